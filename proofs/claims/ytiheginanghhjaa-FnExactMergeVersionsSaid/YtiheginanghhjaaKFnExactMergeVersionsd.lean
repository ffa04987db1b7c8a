/- For all arguments that the law's sizes let in, the program's MergeVersions gives what the reference gives. This text holds the functions' walks and the words for them. -/
import Derived.Laws.CopyRow
import Derived.Lib.SliceRun
import Derived.Lib.Overlaps
import Derived.Deep.RegionLaw
import Derived.Laws.Externs
import Derived.Lib.AppendZerosOnto
import Derived.Lib.Walk
import Derived.Shelf.Small.Bits
import Derived.Shelf.Small.Strs
import Derived.Shelf.Strconv.Itoa0
import Derived.Shelf.Sort.Plain
import Derived.Shelf.Slices.CompactS
import Derived.Shelf.Slices.Cells
import Derived.Shelf.Slices.In.SortNone
import Derived.Test.YtiheginanghhjaaProg
import Derived.Sort.OwnSorted
import Derived.Test.YtiheginanghhjaaKFnExactMergeVersionsa
import Derived.Test.YtiheginanghhjaaKFnExactMergeVersionsc
set_option linter.unusedVariables false
set_option linter.unusedSimpArgs false
namespace Go.Proofs.Ytiheginanghhjaa.Q
open Go.RowKit Go.Proofs.YtiheginanghhjaaW.PrintWords Go.Proofs.YtiheginanghhjaaW.PrintLast Go.Proofs.YtiheginanghhjaaW.PrintMore
attribute [local go_sem] aN_ aL_ bi_ bh_ aA_ az_ aO_ aM_
def bg_.l0 : Nat → List (S71) → List (S78) → Int → Option ((List (S78)))
 | 0, _, _, _ => none
 | k + 1, x0, x3, x4 => if x4 < (x0.length : Int) then (if 0 ≤ x4 then ((cU_.f k ((cA_ x0 x4).f0) ((cA_ x0 x4).f1) ((cA_ x0 x4).f2) ((cA_ x0 x4).f3)).bind fun bt105 => (if x4 < (x3.length : Int) then (bg_.l0 k x0 (x3.set (x4 : Int).toNat (⟨bt105.1, bt105.2.1, bt105.2.2.1, bt105.2.2.2⟩ : S78)) (wrap64 (x4 + 1))) else (none))) else (none)) else (some x3)
def bg_.f (k : Nat) (l0 : List (S71)) : Option ((List (S78))) := if 0 ≤ (l0.length : Int) then (if ((l0.length : Int) : Int).toNat ≤ 5026338869833 then (bg_.l0 k l0 (List.replicate ((l0.length : Int) : Int).toNat z78) 0) else (none)) else (none)
set_option maxHeartbeats 8000000 in
set_option maxRecDepth 100000 in
theorem bg_.calls (k : Nat) (A0 : Option Addr) (c0 : Nat) (l0 : List (S71)) (r : List (S78)) (w : World) (hr0 : Kd.C k71 w A0 l0.length l0) (hc0 : l0.length ≤ c0) (h : bg_.f k l0 = some r) :
  Calls Try.prog 21 #[.slice A0 l0.length c0] w fun e w' => ∃ v0_ : Value, e = .returned (v0_) ∧ Kd.S k78 78 w' w.heap.size (fun _ => True) v0_ r ∧ Below w.heap.size w w' := by
 have hu71 := Try.underlying71
 have hu78 := Try.underlying78
 have HR0 := Aside0.mk hr0
 have HC0 := Aside0.mk hc0
 clear hr0 hc0
 have HB := Aside0.mk (Below.refl w.heap.size w)
 have H : (if 0 ≤ (l0.length : Int) then (if ((l0.length : Int) : Int).toNat ≤ 5026338869833 then (bg_.l0 k l0 (List.replicate ((l0.length : Int) : Int).toNat z78) 0) else (none)) else (none)) = some r := h
 clear h
 by_cases c2 : 0 ≤ (l0.length : Int)
 rotate_left
 ·rw [if_neg c2] at H
  exact absurd H (by simp)
 rw [if_pos c2] at H
 have c2b0 := eq_true c2
 have c2b1 : decide (0 ≤ (l0.length : Int)) = true := decide_eq_true c2
 clear c2
 by_cases c3 : ((l0.length : Int) : Int).toNat ≤ 5026338869833
 rotate_left
 ·rw [if_neg c3] at H
  exact absurd H (by simp)
 rw [if_pos c3] at H
 have c3b0 := eq_true c3
 have c3b1 : decide (((l0.length : Int) : Int).toNat ≤ 5026338869833) = true := decide_eq_true c3
 clear c3
 obtain ⟨y101, hy101⟩ : ∃ y_ : List (S78), y_ = (List.replicate ((l0.length : Int) : Int).toNat z78) := ⟨_, rfl⟩
 replace H : (bg_.l0 k l0 y101 0) = some r := by first | (rw [hy101]; with_reducible exact H) | (have H2_ := (Option.bind_some _ _).symm.trans H; rw [hy101]; with_reducible exact H2_) | (have H2_ := (Option.bind_some _ _).symm.trans H; with_reducible exact H2_) | with_reducible exact H | (rw [hy101]; exact H) | exact H
 have Ny101 := Aside0.mk hy101
 clear hy101
 have H' := Aside0.mk H
 clear H
 go_enter Try.func21, Try.ntmps21
 go_wp2_with (first | ((with_reducible refine au_ (N := 7) rfl ?_); refine Kd.S_make k78 _ 78 rfl (N := 7) rfl 38 _ _ rfl (l0.length : Int) rfl rfl Try.underlying38 (.agg #[(.int .i64 0), (.int .i64 0), (.string ⟨#[]⟩), (.slice none 0 0)]) 56 info78 rfl (by decide) (by omega) z78 (ok := fun _ => True) (okp := fun _ => True) (k78_mkM _ _ _ z78 (Kd.R_nil _ _ _ _ _)) (fun _ hk => hk) trivial (of_decide_eq_true (by assumption)) (Nat.le_trans (Nat.mul_le_mul_right _ (of_decide_eq_true (by assumption) : (l0.length : Int).toNat ≤ 5026338869833)) (by omega)) (Below.refl _ _) (Nat.le_refl _) ?_; intro v102 w4 ho5 hb hg_ hnew_; clear hg_ hnew_; (first | rw [← Ny101.out] at ho5 | (simp only [Int.reduceToNat] at ho5; rw [← Ny101.out] at ho5)); have HO103 := Aside0.mk (Kd.S_lower ho5 (ae_ (bz HB.out))); replace HB := Aside0.mk (ag_ (bz HB.out) hb); clear hb ho5))
 (try simp only [Act.put, lsa_, ls0_, ls1_])
 go_loopg [4] k (fun kq v4 w' => ∃ (x3_1 : List (S78)) (x4_1 : Int), v4 = .int .i64 x4_1 ∧ Aside0 (bg_.l0 kq l0 x3_1 x4_1 = some r) ∧ Aside0 (kq ≤ k) ∧ Aside0 (Kd.S k78 78 w' w.heap.size (fun _ => True) v102 x3_1) ∧ Aside0 (Below w.heap.size w w'))
 case atStart => exact ⟨(y101), (0), (by first | rfl | (simp; done) | (simp [*]; done)), H', ⟨Nat.le_refl _⟩, ⟨sz HO103.out⟩, ⟨bz HB.out⟩⟩
 case round =>
  clear H'
  obtain ⟨x3_1, x4_1, rfl, HA, HK1, HO_3, HB⟩ := hrel
  cases gk with
  | zero => exact absurd HA.out (by simp [bg_.l0])
  | succ k1 =>
   have H := HA.out
   clear HA
   simp only [bg_.l0] at H
   by_cases c6 : x4_1 < (l0.length : Int)
   rotate_left
   ·rw [if_neg c6] at H
    have c6b0 : decide (x4_1 < (l0.length : Int)) = false := decide_eq_false c6
    clear c6
    obtain rfl := Option.some.inj H
    go_wp2
    go_ret
    exact ⟨_, by first | rfl | (simp [*, an_, ao_] <;> rfl), sz HO_3.out, bz HB.out⟩
   rw [if_pos c6] at H
   have c6b0 : decide (x4_1 < (l0.length : Int)) = true := decide_eq_true c6
   clear c6
   by_cases c7 : 0 ≤ x4_1
   rotate_left
   ·rw [if_neg c7] at H
    exact absurd H (by simp)
   rw [if_pos c7] at H
   have c7b0 : decide (0 ≤ x4_1) = true := decide_eq_true c7
   clear c7
   replace H := Option.bind_eq_some_iff.mp H
   obtain ⟨⟨t105, t106, t107, t108⟩, A80, H⟩ := H
   (try dsimp only at H)
   have A8 := Aside0.mk A80
   clear A80
   by_cases c9 : x4_1 < (x3_1.length : Int)
   rotate_left
   ·rw [if_neg c9] at H
    exact absurd H (by simp)
   rw [if_pos c9] at H
   have c9b0 : decide (x4_1 < (x3_1.length : Int)) = true := decide_eq_true c9
   clear c9
   obtain ⟨y111, hy111⟩ : ∃ y_ : List (S78), y_ = (x3_1.set (x4_1 : Int).toNat (⟨t105, t106, t107, t108⟩ : S78)) := ⟨_, rfl⟩
   replace H : (bg_.l0 k1 l0 y111 (wrap64 (x4_1 + 1))) = some r := by first | (rw [hy111]; with_reducible exact H) | (have H2_ := (Option.bind_some _ _).symm.trans H; rw [hy111]; with_reducible exact H2_) | (have H2_ := (Option.bind_some _ _).symm.trans H; with_reducible exact H2_) | with_reducible exact H | (rw [hy111]; exact H) | exact H
   have Ny111 := Aside0.mk hy111
   clear hy111
   have H' := Aside0.mk H
   clear H
   have p104 : 0 ≤ (x4_1 : Int) := of_decide_eq_true (by assumption)
   have q104 : x4_1 < (l0.length : Int) := of_decide_eq_true (by assumption)
   obtain ⟨ad104, A104_3, c104_3, e104, hx104_0, hx104_1, hx104_2, hx104_3, hl104_3, hi104_3⟩ := at_T71 HR0.out x4_1 p104 q104
   cases e104
   replace hx104_0 := (HB.out.cell (bl_ w _ hx104_0)).trans hx104_0
   replace hx104_1 := (HB.out.cell (bl_ w _ hx104_1)).trans hx104_1
   replace hx104_2 := (HB.out.cell (bl_ w _ hx104_2)).trans hx104_2
   replace hx104_3 := (HB.out.cell (bl_ w _ hx104_3)).trans hx104_3
   have HR104_3 := Aside0.mk hi104_3
   have HC104_3 := Aside0.mk hl104_3
   clear hi104_3 hl104_3
   replace p104 := eq_true p104
   replace q104 := eq_true q104
   go_wp2_with (first | ((with_reducible refine am_ (f := 52) rfl ?_); refine aX_ (some 20) rfl rfl Try.func52 (by kernel_rfl) rfl #[.agg #[.int .i64 ((cA_ l0 x4_1).f0), .int .i64 ((cA_ l0 x4_1).f1), .string ((cA_ l0 x4_1).f2), .slice A104_3 ((cA_ l0 x4_1).f3).length c104_3]] rfl (by first | rfl | (simp only [List.map_toArray, List.map_cons, List.map_nil]; first | done | rfl)) ?_; (with_reducible refine (cU_.calls k1 ((cA_ l0 x4_1).f0) ((cA_ l0 x4_1).f1) ((cA_ l0 x4_1).f2) _ _ ((cA_ l0 x4_1).f3) t105 t106 t107 t108 _ ?side1 ?side2 A8.out).mono ?_); (case side1 => exact cz (Kd.bE_ HR104_3.out HB.out)); (case side2 => exact HC104_3.out); rintro e w11 ⟨v109, rfl, ho0, hb⟩; refine ⟨_, rfl, ?_⟩; replace HO_3 := Aside0.mk (Kd.S_elder' (sz HO_3.out) (Kd.bv_ ho0) hb); have HO110 := Aside0.mk (Kd.bI_ ho0 (ae_ (bz HB.out))); replace HB := Aside0.mk (ag_ (bz HB.out) hb); (try clear hb); (try clear ho0); have p10 : 0 ≤ (x4_1 : Int) := of_decide_eq_true (by assumption); have q10 : (x4_1 : Int) < ((x3_1.length : Int) : Int) := of_decide_eq_true (by assumption); obtain ⟨go10, co10, eo10, gb10, gl10, cl10, HG10⟩ := Kd.S_form HO_3.out (by omega); (first | cases eo10 | (injection eo10 with ea_ en_ ec_; (first | subst ea_ | (injection ea_ with ea_; subst ea_)); subst ec_; clear en_)); have GB10 := Aside0.mk gb10; have GG10 := Aside0.mk HG10; clear gb10 gl10 HG10; obtain ⟨_, ce10, hcl10, hM10, hcc10, hfr10, _, _⟩ := Kd.S_elem HO_3.out z78 (x4_1 : Int) p10 q10; obtain ⟨ve10_3, rfl, ge10_3⟩ := k78_openM hM10; have hx10_0 : w11.cell? ⟨go10, (x4_1 : Int).toNat * 4, none⟩ = some (.int .i64 ((ak_ x3_1 x4_1).f0)) := hcc10 0 _ rfl; have hx10_1 : w11.cell? ⟨go10, (x4_1 : Int).toNat * 4 + 1, none⟩ = some (.int .i64 ((ak_ x3_1 x4_1).f1)) := hcc10 1 _ rfl; have hx10_2 : w11.cell? ⟨go10, (x4_1 : Int).toNat * 4 + 2, none⟩ = some (.string ((ak_ x3_1 x4_1).f2)) := hcc10 2 _ rfl; have hx10_3 : w11.cell? ⟨go10, (x4_1 : Int).toNat * 4 + 3, none⟩ = some (ve10_3) := hcc10 3 _ rfl; have hf10_0 : w11.frozen? ⟨go10, (x4_1 : Int).toNat * 4, none⟩ = false := hfr10 0; have hf10_1 : w11.frozen? ⟨go10, (x4_1 : Int).toNat * 4 + 1, none⟩ = false := hfr10 1; have hf10_2 : w11.frozen? ⟨go10, (x4_1 : Int).toNat * 4 + 2, none⟩ = false := hfr10 2; have hf10_3 : w11.frozen? ⟨go10, (x4_1 : Int).toNat * 4 + 3, none⟩ = false := hfr10 3; clear hcl10 hcc10 hfr10 hM10; replace p10 := eq_true p10; replace q10 := eq_true q10; have n_ := Aside0.mk (Kd.bY_ (ok' := (fun k_ => some k_ ≠ (v109 : Value).ownBlock)) HO_3.out (fun k_ hk => hk.2)); clear HO_3; have HO_3 := n_; clear n_; have HX12 := Aside0.mk (show Kd.S k78 78 w11 w.heap.size (fun k_ => ((fun _ => True)) k_ ∧ ¬ ((fun k_ => some k_ = (v109 : Value).ownBlock)) k_) (.slice (some ⟨go10, 0, none⟩) x3_1.length co10) x3_1 from (sz (Kd.bY_ HO_3.out (fun k_ hk => ⟨trivial, fun e_ => hk e_⟩)))); obtain ⟨oki12, ce12, hcl12, hM12, hcc12, hfr12, hoki12, hH12⟩ := Kd.S_elem HX12.out z78 (x4_1 : Int) (of_decide_eq_true (by assumption)) (by have h_ : (x4_1 : Int) < ((x3_1.length : Int) : Int) := of_decide_eq_true (by assumption); first | exact h_ | (have e_ := (Kd.cd_ HO_3.out).1; omega) | simpa using h_); obtain ⟨ve12_3, rfl, ge12_3⟩ := k78_openM hM12; have HP12 := Kd.S_seg hH12 (of_decide_eq_true (by assumption)) (by have h_ : (x4_1 : Int) < ((x3_1.length : Int) : Int) := of_decide_eq_true (by assumption); first | exact h_ | (have e_ := (Kd.cd_ HO_3.out).1; omega) | simpa using h_) (seg := [.int .i64 t105, .int .i64 t106, .string t107, v109]) (j := 0) (show 4 ≤ 4 from by decide) (x' := (⟨t105, t106, t107, t108⟩ : S78)) (k78_mkM _ _ _ (⟨t105, t106, t107, t108⟩ : S78) (Kd.aK_ (Kd.R_tight rfl (Kd.aK_ (ok' := fun k_ => ((fun _ => True)) k_ ∧ k_ ≠ go10) (Kd.dv_ (HO110.out) (Kd.S_typed HO_3.out) (by decide)) (fun k_ hk => ⟨trivial, fun e_ => (hk.2) (by rw [e_]; rfl)⟩))) (fun _ h_ => Or.inr (h_)))) (fun _ hk => hk) (fun k_ hk_ => ((Kd.aK_ (ok' := fun k_ => ((fun _ => True)) k_ ∧ k_ ≠ go10) (Kd.dv_ (HO110.out) (Kd.S_typed HO_3.out) (by decide)) (fun k_ hk => ⟨trivial, fun e_ => (hk.2) (by rw [e_]; rfl)⟩))).1 k_ hk_.symm); have hx12_0 := hcc12 0 _ rfl; (try simp only [show (k78).sz = 4 from rfl, Nat.mul_one, Nat.add_zero] at hx12_0); have hf12_0 := hfr12 0; (try simp only [show (k78).sz = 4 from rfl, Nat.mul_one, Nat.add_zero] at hf12_0); have hx12_1 := hcc12 1 _ rfl; (try simp only [show (k78).sz = 4 from rfl, Nat.mul_one, Nat.add_zero] at hx12_1); have hf12_1 := hfr12 1; (try simp only [show (k78).sz = 4 from rfl, Nat.mul_one, Nat.add_zero] at hf12_1); have hx12_2 := hcc12 2 _ rfl; (try simp only [show (k78).sz = 4 from rfl, Nat.mul_one, Nat.add_zero] at hx12_2); have hf12_2 := hfr12 2; (try simp only [show (k78).sz = 4 from rfl, Nat.mul_one, Nat.add_zero] at hf12_2); have hx12_3 := hcc12 3 _ rfl; (try simp only [show (k78).sz = 4 from rfl, Nat.mul_one, Nat.add_zero] at hx12_3); have hf12_3 := hfr12 3; (try simp only [show (k78).sz = 4 from rfl, Nat.mul_one, Nat.add_zero] at hf12_3); clear hcl12 hcc12 hfr12 hM12 hoki12 hH12) | ((with_reducible refine cK_ (t := 78) (p := 21) rfl ?_); refine cC_ (t := 78) (p := 21) (v := ?vo_w13) (w1 := ((((w11.setCell ⟨go10, (x4_1 : Int).toNat * 4, none⟩ (.int .i64 t105)).setCell ⟨go10, (x4_1 : Int).toNat * 4 + 1, none⟩ (.int .i64 t106)).setCell ⟨go10, (x4_1 : Int).toNat * 4 + 2, none⟩ (.string t107)).setCell ⟨go10, (x4_1 : Int).toNat * 4 + 3, none⟩ (v109))) ?hg ?ho ?hn ?hr ?_; (case ho => rfl); (case hg => rfl); (case hn => rfl); (case hr => first | (go_simp; done) | (go_simp; rfl) | (have one0_ := (Kd.slice 63 k63).K_one ((Kd.slice 63 k63).K_of_M (show (Kd.slice 63 k63).M _ _ _ _ [v109] from ⟨_, rfl, HO110.out⟩)) v109 (List.mem_singleton.mpr rfl); go_simp; repeat (simp only [run_store _ _ _ _ _ one0_]; go_simp); first | done | rfl)); intro w13 hw; have hg : w11.grownBy w13 (some go10) := (by rw [hw]; exact HP12.2); have hp_ : Kd.S k78 78 w13 w.heap.size (fun _ => True) (.slice (some ⟨go10, 0, none⟩) x3_1.length co10) y111 := (by rw [hw, Ny111.out]; exact HP12.1); clear HP12; replace HO_3 := Aside0.mk (hp_); replace HB := Aside0.mk ((by rw [hw]; exact ac_ (ac_ (ac_ (ac_ (HB.out) GB10.out) GB10.out) GB10.out) GB10.out : Below w.heap.size w w13)); clear HO110; clear hg hw hp_))
   go_roundg k1
   case measure => have := HK1.out; omega
   case rel => exact ⟨(y111), (wrap64 (x4_1 + 1)), (by first | rfl | (simp; done) | (simp [*]; done)), H', ⟨by have := HK1.out; omega⟩, ⟨sz HO_3.out⟩, ⟨bz HB.out⟩⟩
mutual
def aV_.j0 : Nat → ByteArray → Bool → Option (Bool)
 | 0, _, _ => none
 | k + 1, x0, x21 => if x21 = true then (some false) else (aV_.l0 k x0 0)
def aV_.l0 : Nat → ByteArray → Int → Option (Bool)
 | 0, _, _ => none
 | k + 1, x0, x3 => if x3 < (x0.size : Int) then (if 0 ≤ x3 then (if (bt x0 x3) < 97 then (if (bt x0 x3) < 48 then (some false) else (if (bt x0 x3) > 57 then (some false) else (aV_.l0 k x0 (wrap64 (x3 + 1))))) else (if (bt x0 x3) > 122 then (if (bt x0 x3) < 48 then (some false) else (if (bt x0 x3) > 57 then (some false) else (aV_.l0 k x0 (wrap64 (x3 + 1))))) else (aV_.l0 k x0 (wrap64 (x3 + 1))))) else (none)) else (some true)
end
def aV_.f (k : Nat) (a0 : ByteArray) : Option (Bool) := if (a0.size : Int) < 1 then (aV_.j0 k a0 true) else (if (a0.size : Int) > 10 then (aV_.j0 k a0 true) else (if 0 < (a0.size : Int) then (if (bt a0 0) < 97 then (aV_.j0 k a0 true) else (aV_.j0 k a0 (decide ((bt a0 0) > 122)))) else (none)))
set_option maxHeartbeats 8000000 in
set_option maxRecDepth 100000 in
theorem aV_.calls (k : Nat) (a0 : ByteArray) (r : Bool) (w : World) (h : aV_.f k a0 = some r) :
  Calls Try.prog 92 #[.string a0] w fun e w' => e = .returned (.bool r) ∧ av_ w w' := by
 have H : (if (a0.size : Int) < 1 then (aV_.j0 k a0 true) else (if (a0.size : Int) > 10 then (aV_.j0 k a0 true) else (if 0 < (a0.size : Int) then (if (bt a0 0) < 97 then (aV_.j0 k a0 true) else (aV_.j0 k a0 (decide ((bt a0 0) > 122)))) else (none)))) = some r := h
 clear h
 have HC2 := Aside0.mk H
 clear H
 go_enter Try.func92, Try.ntmps92
 go_upto_region 1 with (fail)
 go_cut [21] (fun v21 wc => ∃ (kq : Nat) (x21_1 : Bool), v21 = .bool x21_1 ∧ Aside0 (aV_.j0 kq a0 x21_1 = some r) ∧ Aside0 (kq ≤ k) ∧ av_ w wc)
 case first =>
  have H := HC2.out
  clear HC2
  by_cases c3 : (a0.size : Int) < 1
  rotate_left
  ·rw [if_neg c3] at H
   have c3b0 : decide ((a0.size : Int) < 1) = false := decide_eq_false c3
   have c3b1 : decide (a0.size < 1) = false := decide_eq_false (by omega)
   clear c3
   (first | rw [c3b0] | (simp only [i64_w, i32_w]; rw [c3b0]) | (simp only [c3b1, Bool.not_true, Bool.not_false]) | (simp only [c3b0, Bool.not_true, Bool.not_false]) | skip)
   by_cases c4 : (a0.size : Int) > 10
   rotate_left
   ·rw [if_neg c4] at H
    have c4b0 : decide (10 < (a0.size : Int)) = false := decide_eq_false c4
    have c4b1 : decide (10 < a0.size) = false := decide_eq_false (by omega)
    clear c4
    by_cases c5 : 0 < (a0.size : Int)
    rotate_left
    ·rw [if_neg c5] at H
     exact absurd H (by simp)
    rw [if_pos c5] at H
    have c5b0 : decide (0 < (a0.size : Int)) = true := decide_eq_true c5
    have c5b1 : decide (0 < a0.size) = true := decide_eq_true (by omega)
    clear c5
    by_cases c7 : (bt a0 0) < 97
    rotate_left
    ·rw [if_neg c7] at H
     have c7b0 : decide ((bt a0 0) < 97) = false := decide_eq_false c7
     clear c7
     have H' := Aside0.mk H
     clear H
     have p6 : 0 ≤ (0 : Int) := (by omega)
     have q6 : 0 < a0.size := (by have : (0 : Int) < (a0.size : Int) := of_decide_eq_true (by assumption); omega)
     have hx6 : ∀ h : 0 < a0.size, ((a0[0]'h).toNat : Int) = bt a0 0 := bt_at a0 0
     clear p6
     have qi6 : (0 < (a0.size : Int)) = True := eq_true (of_decide_eq_true (by assumption))
     replace q6 := eq_true q6
     have p8 : 0 ≤ (0 : Int) := (by omega)
     have q8 : 0 < a0.size := (by have : (0 : Int) < (a0.size : Int) := of_decide_eq_true (by assumption); omega)
     have hx8 : ∀ h : 0 < a0.size, ((a0[0]'h).toNat : Int) = bt a0 0 := bt_at a0 0
     clear p8
     have qi8 : (0 < (a0.size : Int)) = True := eq_true (of_decide_eq_true (by assumption))
     replace q8 := eq_true q8
     go_wp2
     go_meet
     case rel => exact ⟨_, (decide ((bt a0 0) > 122)), (by first | rfl | (simp; done) | (simp [*]; done)), H', ⟨by first | omega | exact Nat.le_refl _⟩, by repeat (first | exact av_.refl _ | apply av_.step)⟩
    rw [if_pos c7] at H
    have c7b0 : decide ((bt a0 0) < 97) = true := decide_eq_true c7
    clear c7
    have H' := Aside0.mk H
    clear H
    have p6 : 0 ≤ (0 : Int) := (by omega)
    have q6 : 0 < a0.size := (by have : (0 : Int) < (a0.size : Int) := of_decide_eq_true (by assumption); omega)
    have hx6 : ∀ h : 0 < a0.size, ((a0[0]'h).toNat : Int) = bt a0 0 := bt_at a0 0
    clear p6
    have qi6 : (0 < (a0.size : Int)) = True := eq_true (of_decide_eq_true (by assumption))
    replace q6 := eq_true q6
    go_wp2
    go_meet
    case rel => exact ⟨_, (true), (by first | rfl | (simp; done) | (simp [*]; done)), H', ⟨by first | omega | exact Nat.le_refl _⟩, by repeat (first | exact av_.refl _ | apply av_.step)⟩
   rw [if_pos c4] at H
   have c4b0 : decide (10 < (a0.size : Int)) = true := decide_eq_true c4
   have c4b1 : decide (10 < a0.size) = true := decide_eq_true (by omega)
   clear c4
   have H' := Aside0.mk H
   clear H
   go_wp2
   go_meet
   case rel => exact ⟨_, (true), (by first | rfl | (simp; done) | (simp [*]; done)), H', ⟨by first | omega | exact Nat.le_refl _⟩, by repeat (first | exact av_.refl _ | apply av_.step)⟩
  rw [if_pos c3] at H
  have c3b0 : decide ((a0.size : Int) < 1) = true := decide_eq_true c3
  have c3b1 : decide (a0.size < 1) = true := decide_eq_true (by omega)
  clear c3
  (first | rw [c3b0] | (simp only [i64_w, i32_w]; rw [c3b0]) | (simp only [c3b1, Bool.not_true, Bool.not_false]) | (simp only [c3b0, Bool.not_true, Bool.not_false]) | skip)
  have H' := Aside0.mk H
  clear H
  go_wp2
  go_meet
  case rel => exact ⟨_, (true), (by first | rfl | (simp; done) | (simp [*]; done)), H', ⟨by first | omega | exact Nat.le_refl _⟩, by repeat (first | exact av_.refl _ | apply av_.step)⟩
 case rest =>
  clear HC2
  obtain ⟨kq, x21_1, rfl, HA, HJ1, ⟨mc1, rfl⟩⟩ := hcut
  cases kq with
  | zero => exact absurd HA.out (by simp [aV_.j0])
  | succ kj1 =>
   have H := HA.out
   clear HA
   simp only [aV_.j0] at H
   by_cases c9 : x21_1 = true
   rotate_left
   ·replace c9 := Bool.eq_false_iff.mpr c9
    subst c9
    have H1 : (aV_.l0 kj1 a0 0) = some r := by rw [if_neg (show ¬ (false = true) by decide)] at H; exact H
    clear H
    have H := H1
    clear H1
    have H' := Aside0.mk H
    clear H
    go_wp2
    (try simp only [Act.put, lsa_, ls0_, ls1_])
    go_loopg [3] kj1 (fun kq v3 w' => ∃ (x3_2 : Int), v3 = .int .i64 x3_2 ∧ Aside0 (aV_.l0 kq a0 x3_2 = some r) ∧ Aside0 (kq ≤ kj1) ∧ av_ w w')
    case atStart => exact ⟨(0), (by first | rfl | (simp; done) | (simp [*]; done)), H', ⟨Nat.le_refl _⟩, by repeat (first | exact av_.refl _ | apply av_.step)⟩
    case round =>
     clear H'
     obtain ⟨x3_2, rfl, HA, HK2, ⟨m2, rfl⟩⟩ := hrel
     cases gk with
     | zero => exact absurd HA.out (by simp [aV_.l0])
     | succ k2 =>
      have H := HA.out
      clear HA
      simp only [aV_.l0] at H
      by_cases c10 : x3_2 < (a0.size : Int)
      rotate_left
      ·rw [if_neg c10] at H
       have c10b0 : decide (x3_2 < (a0.size : Int)) = false := decide_eq_false c10
       clear c10
       obtain rfl := Option.some.inj H
       go_wp2
       go_ret
       exact ⟨by first | rfl | (simp; done) | (simp [*]; done), by repeat (first | exact av_.refl _ | apply av_.step)⟩
      rw [if_pos c10] at H
      have c10b0 : decide (x3_2 < (a0.size : Int)) = true := decide_eq_true c10
      clear c10
      by_cases c11 : 0 ≤ x3_2
      rotate_left
      ·rw [if_neg c11] at H
       exact absurd H (by simp)
      rw [if_pos c11] at H
      have c11b0 : decide (0 ≤ x3_2) = true := decide_eq_true c11
      clear c11
      by_cases c13 : (bt a0 x3_2) < 97
      rotate_left
      ·rw [if_neg c13] at H
       have c13b0 : decide ((bt a0 x3_2) < 97) = false := decide_eq_false c13
       clear c13
       by_cases c19 : (bt a0 x3_2) > 122
       rotate_left
       ·rw [if_neg c19] at H
        have c19b0 : decide (122 < (bt a0 x3_2)) = false := decide_eq_false c19
        clear c19
        have H' := Aside0.mk H
        clear H
        have p12 : 0 ≤ (x3_2 : Int) := of_decide_eq_true (by assumption)
        have q12 : x3_2 < (a0.size : Int) := of_decide_eq_true (by assumption)
        have hx12 := bt_at a0 x3_2
        replace p12 := eq_true p12
        replace q12 := eq_true q12
        have p18 : 0 ≤ (x3_2 : Int) := of_decide_eq_true (by assumption)
        have q18 : x3_2 < (a0.size : Int) := of_decide_eq_true (by assumption)
        have hx18 := bt_at a0 x3_2
        replace p18 := eq_true p18
        replace q18 := eq_true q18
        go_wp2
        go_roundg k2
        case measure => have := HJ1.out; have := HK2.out; omega
        case rel => exact ⟨(wrap64 (x3_2 + 1)), (by first | rfl | (simp; done) | (simp [*]; done)), H', ⟨by have := HJ1.out; have := HK2.out; omega⟩, by repeat (first | exact av_.refl _ | apply av_.step)⟩
       rw [if_pos c19] at H
       have c19b0 : decide (122 < (bt a0 x3_2)) = true := decide_eq_true c19
       clear c19
       by_cases c21 : (bt a0 x3_2) < 48
       rotate_left
       ·rw [if_neg c21] at H
        have c21b0 : decide ((bt a0 x3_2) < 48) = false := decide_eq_false c21
        clear c21
        by_cases c23 : (bt a0 x3_2) > 57
        rotate_left
        ·rw [if_neg c23] at H
         have c23b0 : decide (57 < (bt a0 x3_2)) = false := decide_eq_false c23
         clear c23
         have H' := Aside0.mk H
         clear H
         have p12 : 0 ≤ (x3_2 : Int) := of_decide_eq_true (by assumption)
         have q12 : x3_2 < (a0.size : Int) := of_decide_eq_true (by assumption)
         have hx12 := bt_at a0 x3_2
         replace p12 := eq_true p12
         replace q12 := eq_true q12
         have p18 : 0 ≤ (x3_2 : Int) := of_decide_eq_true (by assumption)
         have q18 : x3_2 < (a0.size : Int) := of_decide_eq_true (by assumption)
         have hx18 := bt_at a0 x3_2
         replace p18 := eq_true p18
         replace q18 := eq_true q18
         have p20 : 0 ≤ (x3_2 : Int) := of_decide_eq_true (by assumption)
         have q20 : x3_2 < (a0.size : Int) := of_decide_eq_true (by assumption)
         have hx20 := bt_at a0 x3_2
         replace p20 := eq_true p20
         replace q20 := eq_true q20
         have p22 : 0 ≤ (x3_2 : Int) := of_decide_eq_true (by assumption)
         have q22 : x3_2 < (a0.size : Int) := of_decide_eq_true (by assumption)
         have hx22 := bt_at a0 x3_2
         replace p22 := eq_true p22
         replace q22 := eq_true q22
         go_wp2
         go_roundg k2
         case measure => have := HJ1.out; have := HK2.out; omega
         case rel => exact ⟨(wrap64 (x3_2 + 1)), (by first | rfl | (simp; done) | (simp [*]; done)), H', ⟨by have := HJ1.out; have := HK2.out; omega⟩, by repeat (first | exact av_.refl _ | apply av_.step)⟩
        rw [if_pos c23] at H
        have c23b0 : decide (57 < (bt a0 x3_2)) = true := decide_eq_true c23
        clear c23
        obtain rfl := Option.some.inj H
        have p12 : 0 ≤ (x3_2 : Int) := of_decide_eq_true (by assumption)
        have q12 : x3_2 < (a0.size : Int) := of_decide_eq_true (by assumption)
        have hx12 := bt_at a0 x3_2
        replace p12 := eq_true p12
        replace q12 := eq_true q12
        have p18 : 0 ≤ (x3_2 : Int) := of_decide_eq_true (by assumption)
        have q18 : x3_2 < (a0.size : Int) := of_decide_eq_true (by assumption)
        have hx18 := bt_at a0 x3_2
        replace p18 := eq_true p18
        replace q18 := eq_true q18
        have p20 : 0 ≤ (x3_2 : Int) := of_decide_eq_true (by assumption)
        have q20 : x3_2 < (a0.size : Int) := of_decide_eq_true (by assumption)
        have hx20 := bt_at a0 x3_2
        replace p20 := eq_true p20
        replace q20 := eq_true q20
        have p22 : 0 ≤ (x3_2 : Int) := of_decide_eq_true (by assumption)
        have q22 : x3_2 < (a0.size : Int) := of_decide_eq_true (by assumption)
        have hx22 := bt_at a0 x3_2
        replace p22 := eq_true p22
        replace q22 := eq_true q22
        go_wp2
        go_ret
        exact ⟨by first | rfl | (simp; done) | (simp [*]; done), by repeat (first | exact av_.refl _ | apply av_.step)⟩
       rw [if_pos c21] at H
       have c21b0 : decide ((bt a0 x3_2) < 48) = true := decide_eq_true c21
       clear c21
       obtain rfl := Option.some.inj H
       have p12 : 0 ≤ (x3_2 : Int) := of_decide_eq_true (by assumption)
       have q12 : x3_2 < (a0.size : Int) := of_decide_eq_true (by assumption)
       have hx12 := bt_at a0 x3_2
       replace p12 := eq_true p12
       replace q12 := eq_true q12
       have p18 : 0 ≤ (x3_2 : Int) := of_decide_eq_true (by assumption)
       have q18 : x3_2 < (a0.size : Int) := of_decide_eq_true (by assumption)
       have hx18 := bt_at a0 x3_2
       replace p18 := eq_true p18
       replace q18 := eq_true q18
       have p20 : 0 ≤ (x3_2 : Int) := of_decide_eq_true (by assumption)
       have q20 : x3_2 < (a0.size : Int) := of_decide_eq_true (by assumption)
       have hx20 := bt_at a0 x3_2
       replace p20 := eq_true p20
       replace q20 := eq_true q20
       go_wp2
       go_ret
       exact ⟨by first | rfl | (simp; done) | (simp [*]; done), by repeat (first | exact av_.refl _ | apply av_.step)⟩
      rw [if_pos c13] at H
      have c13b0 : decide ((bt a0 x3_2) < 97) = true := decide_eq_true c13
      clear c13
      by_cases c15 : (bt a0 x3_2) < 48
      rotate_left
      ·rw [if_neg c15] at H
       have c15b0 : decide ((bt a0 x3_2) < 48) = false := decide_eq_false c15
       clear c15
       by_cases c17 : (bt a0 x3_2) > 57
       rotate_left
       ·rw [if_neg c17] at H
        have c17b0 : decide (57 < (bt a0 x3_2)) = false := decide_eq_false c17
        clear c17
        have H' := Aside0.mk H
        clear H
        have p12 : 0 ≤ (x3_2 : Int) := of_decide_eq_true (by assumption)
        have q12 : x3_2 < (a0.size : Int) := of_decide_eq_true (by assumption)
        have hx12 := bt_at a0 x3_2
        replace p12 := eq_true p12
        replace q12 := eq_true q12
        have p14 : 0 ≤ (x3_2 : Int) := of_decide_eq_true (by assumption)
        have q14 : x3_2 < (a0.size : Int) := of_decide_eq_true (by assumption)
        have hx14 := bt_at a0 x3_2
        replace p14 := eq_true p14
        replace q14 := eq_true q14
        have p16 : 0 ≤ (x3_2 : Int) := of_decide_eq_true (by assumption)
        have q16 : x3_2 < (a0.size : Int) := of_decide_eq_true (by assumption)
        have hx16 := bt_at a0 x3_2
        replace p16 := eq_true p16
        replace q16 := eq_true q16
        go_wp2
        go_roundg k2
        case measure => have := HJ1.out; have := HK2.out; omega
        case rel => exact ⟨(wrap64 (x3_2 + 1)), (by first | rfl | (simp; done) | (simp [*]; done)), H', ⟨by have := HJ1.out; have := HK2.out; omega⟩, by repeat (first | exact av_.refl _ | apply av_.step)⟩
       rw [if_pos c17] at H
       have c17b0 : decide (57 < (bt a0 x3_2)) = true := decide_eq_true c17
       clear c17
       obtain rfl := Option.some.inj H
       have p12 : 0 ≤ (x3_2 : Int) := of_decide_eq_true (by assumption)
       have q12 : x3_2 < (a0.size : Int) := of_decide_eq_true (by assumption)
       have hx12 := bt_at a0 x3_2
       replace p12 := eq_true p12
       replace q12 := eq_true q12
       have p14 : 0 ≤ (x3_2 : Int) := of_decide_eq_true (by assumption)
       have q14 : x3_2 < (a0.size : Int) := of_decide_eq_true (by assumption)
       have hx14 := bt_at a0 x3_2
       replace p14 := eq_true p14
       replace q14 := eq_true q14
       have p16 : 0 ≤ (x3_2 : Int) := of_decide_eq_true (by assumption)
       have q16 : x3_2 < (a0.size : Int) := of_decide_eq_true (by assumption)
       have hx16 := bt_at a0 x3_2
       replace p16 := eq_true p16
       replace q16 := eq_true q16
       go_wp2
       go_ret
       exact ⟨by first | rfl | (simp; done) | (simp [*]; done), by repeat (first | exact av_.refl _ | apply av_.step)⟩
      rw [if_pos c15] at H
      have c15b0 : decide ((bt a0 x3_2) < 48) = true := decide_eq_true c15
      clear c15
      obtain rfl := Option.some.inj H
      have p12 : 0 ≤ (x3_2 : Int) := of_decide_eq_true (by assumption)
      have q12 : x3_2 < (a0.size : Int) := of_decide_eq_true (by assumption)
      have hx12 := bt_at a0 x3_2
      replace p12 := eq_true p12
      replace q12 := eq_true q12
      have p14 : 0 ≤ (x3_2 : Int) := of_decide_eq_true (by assumption)
      have q14 : x3_2 < (a0.size : Int) := of_decide_eq_true (by assumption)
      have hx14 := bt_at a0 x3_2
      replace p14 := eq_true p14
      replace q14 := eq_true q14
      go_wp2
      go_ret
      exact ⟨by first | rfl | (simp; done) | (simp [*]; done), by repeat (first | exact av_.refl _ | apply av_.step)⟩
   subst c9
   have H1 : (some false) = some r := by rw [if_pos rfl] at H; exact H
   clear H
   have H := H1
   clear H1
   obtain rfl := Option.some.inj H
   go_wp2
   go_ret
   exact ⟨by first | rfl | (simp; done) | (simp [*]; done), by repeat (first | exact av_.refl _ | apply av_.step)⟩
def by_.f (a0 : Int) (a1 : Int) (a2 : Int) : Option (Bool) := if a0 ≥ a1 then (some (decide (a0 ≤ a2))) else (some false)
set_option maxHeartbeats 8000000 in
set_option maxRecDepth 100000 in
theorem by_.calls (a0 : Int) (a1 : Int) (a2 : Int) (r : Bool) (w : World) (h : by_.f a0 a1 a2 = some r) :
  Calls Try.prog 79 #[.int .i64 a0, .int .i64 a1, .int .i64 a2] w fun e w' => e = .returned (.bool r) ∧ av_ w w' := by
 have H : (if a0 ≥ a1 then (some (decide (a0 ≤ a2))) else (some false)) = some r := h
 clear h
 by_cases c4 : a0 ≥ a1
 rotate_left
 ·rw [if_neg c4] at H
  have c4b0 : decide (a1 ≤ a0) = false := decide_eq_false c4
  clear c4
  obtain rfl := Option.some.inj H
  go_enter Try.func79, Try.ntmps79
  go_wp2
  go_ret
  exact ⟨by first | rfl | (simp; done) | (simp [*]; done), by repeat (first | exact av_.refl _ | apply av_.step)⟩
 rw [if_pos c4] at H
 have c4b0 : decide (a1 ≤ a0) = true := decide_eq_true c4
 clear c4
 obtain rfl := Option.some.inj H
 go_enter Try.func79, Try.ntmps79
 go_wp2
 go_ret
 exact ⟨by first | rfl | (simp; done) | (simp [*]; done), by repeat (first | exact av_.refl _ | apply av_.step)⟩
def cG_.f (a0 : ByteArray) : Option (Int × Int × Int × Int) := if a0.toList = ([97, 115, 104] : List UInt8) then (some (20, 40, 310, 0)) else (if a0.toList = ([98, 101, 101, 99, 104] : List UInt8) then (some (35, 45, 410, 0)) else (if a0.toList = ([98, 105, 114, 99, 104] : List UInt8) then (some (15, 33, 280, 0)) else (if a0.toList = ([99, 104, 101, 114, 114, 121] : List UInt8) then (some (50, 36, 240, 0)) else (if a0.toList = ([101, 98, 111, 110, 121] : List UInt8) then (some (95, 85, 270, 0)) else (if a0.toList = ([104, 111, 108, 108, 121] : List UInt8) then (some (5, 35, 370, 0)) else (if a0.toList = ([109, 97, 112, 108, 101] : List UInt8) then (some (10, 42, 290, 0)) else (if a0.toList = ([111, 97, 107] : List UInt8) then (some (40, 40, 330, 0)) else (if a0.toList = ([114, 111, 115, 101, 119, 111, 111, 100] : List UInt8) then (some (80, 60, 220, 0)) else (if a0.toList = ([119, 97, 108, 110, 117, 116] : List UInt8) then (some (70, 38, 260, 0)) else (some (0, 0, 0, 3)))))))))))
set_option maxHeartbeats 8000000 in
set_option maxRecDepth 100000 in
theorem cG_.calls (a0 : ByteArray) (r1 : Int) (r2 : Int) (r3 : Int) (r4 : Int) (w : World) (h : cG_.f a0 = some (r1, r2, r3, r4)) :
  Calls Try.prog 123 #[.string a0] w fun e w' => e = .returned (.tuple #[.int .i64 r1, .int .i64 r2, .int .i64 r3, .int .i64 r4]) ∧ av_ w w' := by
 have H : (if a0.toList = ([97, 115, 104] : List UInt8) then (some (20, 40, 310, 0)) else (if a0.toList = ([98, 101, 101, 99, 104] : List UInt8) then (some (35, 45, 410, 0)) else (if a0.toList = ([98, 105, 114, 99, 104] : List UInt8) then (some (15, 33, 280, 0)) else (if a0.toList = ([99, 104, 101, 114, 114, 121] : List UInt8) then (some (50, 36, 240, 0)) else (if a0.toList = ([101, 98, 111, 110, 121] : List UInt8) then (some (95, 85, 270, 0)) else (if a0.toList = ([104, 111, 108, 108, 121] : List UInt8) then (some (5, 35, 370, 0)) else (if a0.toList = ([109, 97, 112, 108, 101] : List UInt8) then (some (10, 42, 290, 0)) else (if a0.toList = ([111, 97, 107] : List UInt8) then (some (40, 40, 330, 0)) else (if a0.toList = ([114, 111, 115, 101, 119, 111, 111, 100] : List UInt8) then (some (80, 60, 220, 0)) else (if a0.toList = ([119, 97, 108, 110, 117, 116] : List UInt8) then (some (70, 38, 260, 0)) else (some (0, 0, 0, 3)))))))))))) = some (r1, r2, r3, r4) := h
 clear h
 by_cases c2 : a0.toList = ([97, 115, 104] : List UInt8)
 rotate_left
 ·rw [if_neg c2] at H
  have c2b0 : (a0.toList == ([97, 115, 104] : List UInt8)) = false := beq_eq_false_iff_ne.mpr c2
  have c2b1 : (a0.toList != ([97, 115, 104] : List UInt8)) = true := bne_iff_ne.mpr c2
  by_cases c3 : a0.toList = ([98, 101, 101, 99, 104] : List UInt8)
  rotate_left
  ·rw [if_neg c3] at H
   have c3b0 : (a0.toList == ([98, 101, 101, 99, 104] : List UInt8)) = false := beq_eq_false_iff_ne.mpr c3
   have c3b1 : (a0.toList != ([98, 101, 101, 99, 104] : List UInt8)) = true := bne_iff_ne.mpr c3
   by_cases c4 : a0.toList = ([98, 105, 114, 99, 104] : List UInt8)
   rotate_left
   ·rw [if_neg c4] at H
    have c4b0 : (a0.toList == ([98, 105, 114, 99, 104] : List UInt8)) = false := beq_eq_false_iff_ne.mpr c4
    have c4b1 : (a0.toList != ([98, 105, 114, 99, 104] : List UInt8)) = true := bne_iff_ne.mpr c4
    by_cases c5 : a0.toList = ([99, 104, 101, 114, 114, 121] : List UInt8)
    rotate_left
    ·rw [if_neg c5] at H
     have c5b0 : (a0.toList == ([99, 104, 101, 114, 114, 121] : List UInt8)) = false := beq_eq_false_iff_ne.mpr c5
     have c5b1 : (a0.toList != ([99, 104, 101, 114, 114, 121] : List UInt8)) = true := bne_iff_ne.mpr c5
     by_cases c6 : a0.toList = ([101, 98, 111, 110, 121] : List UInt8)
     rotate_left
     ·rw [if_neg c6] at H
      have c6b0 : (a0.toList == ([101, 98, 111, 110, 121] : List UInt8)) = false := beq_eq_false_iff_ne.mpr c6
      have c6b1 : (a0.toList != ([101, 98, 111, 110, 121] : List UInt8)) = true := bne_iff_ne.mpr c6
      by_cases c7 : a0.toList = ([104, 111, 108, 108, 121] : List UInt8)
      rotate_left
      ·rw [if_neg c7] at H
       have c7b0 : (a0.toList == ([104, 111, 108, 108, 121] : List UInt8)) = false := beq_eq_false_iff_ne.mpr c7
       have c7b1 : (a0.toList != ([104, 111, 108, 108, 121] : List UInt8)) = true := bne_iff_ne.mpr c7
       by_cases c8 : a0.toList = ([109, 97, 112, 108, 101] : List UInt8)
       rotate_left
       ·rw [if_neg c8] at H
        have c8b0 : (a0.toList == ([109, 97, 112, 108, 101] : List UInt8)) = false := beq_eq_false_iff_ne.mpr c8
        have c8b1 : (a0.toList != ([109, 97, 112, 108, 101] : List UInt8)) = true := bne_iff_ne.mpr c8
        by_cases c9 : a0.toList = ([111, 97, 107] : List UInt8)
        rotate_left
        ·rw [if_neg c9] at H
         have c9b0 : (a0.toList == ([111, 97, 107] : List UInt8)) = false := beq_eq_false_iff_ne.mpr c9
         have c9b1 : (a0.toList != ([111, 97, 107] : List UInt8)) = true := bne_iff_ne.mpr c9
         by_cases c10 : a0.toList = ([114, 111, 115, 101, 119, 111, 111, 100] : List UInt8)
         rotate_left
         ·rw [if_neg c10] at H
          have c10b0 : (a0.toList == ([114, 111, 115, 101, 119, 111, 111, 100] : List UInt8)) = false := beq_eq_false_iff_ne.mpr c10
          have c10b1 : (a0.toList != ([114, 111, 115, 101, 119, 111, 111, 100] : List UInt8)) = true := bne_iff_ne.mpr c10
          by_cases c11 : a0.toList = ([119, 97, 108, 110, 117, 116] : List UInt8)
          rotate_left
          ·rw [if_neg c11] at H
           have c11b0 : (a0.toList == ([119, 97, 108, 110, 117, 116] : List UInt8)) = false := beq_eq_false_iff_ne.mpr c11
           have c11b1 : (a0.toList != ([119, 97, 108, 110, 117, 116] : List UInt8)) = true := bne_iff_ne.mpr c11
           simp only [Option.some.injEq, Prod.mk.injEq] at H
           obtain ⟨rfl, rfl, rfl, rfl⟩ := H
           go_enter Try.func123, Try.ntmps123
           go_wp2
           refine bodyPost_ret (cz_ (rs := [.tmp 2, .tmp 3, .tmp 4, .tmp 5]) rfl (by simp) (.tmp (.tmp (.tmp (.tmp .nil))))) rfl ?_
           exact ⟨by first | rfl | (simp; done) | (simp [*]; done), by repeat (first | exact av_.refl _ | apply av_.step)⟩
          rw [if_pos c11] at H
          have c11b0 : (a0.toList == ([119, 97, 108, 110, 117, 116] : List UInt8)) = true := beq_iff_eq.mpr c11
          have c11b1 : (a0.toList != ([119, 97, 108, 110, 117, 116] : List UInt8)) = false := bne_eq_false_iff_eq.mpr c11
          clear c11
          simp only [Option.some.injEq, Prod.mk.injEq] at H
          obtain ⟨rfl, rfl, rfl, rfl⟩ := H
          go_enter Try.func123, Try.ntmps123
          go_wp2
          refine bodyPost_ret (cz_ (rs := [.tmp 2, .tmp 3, .tmp 4, .tmp 5]) rfl (by simp) (.tmp (.tmp (.tmp (.tmp .nil))))) rfl ?_
          exact ⟨by first | rfl | (simp; done) | (simp [*]; done), by repeat (first | exact av_.refl _ | apply av_.step)⟩
         rw [if_pos c10] at H
         have c10b0 : (a0.toList == ([114, 111, 115, 101, 119, 111, 111, 100] : List UInt8)) = true := beq_iff_eq.mpr c10
         have c10b1 : (a0.toList != ([114, 111, 115, 101, 119, 111, 111, 100] : List UInt8)) = false := bne_eq_false_iff_eq.mpr c10
         clear c10
         simp only [Option.some.injEq, Prod.mk.injEq] at H
         obtain ⟨rfl, rfl, rfl, rfl⟩ := H
         go_enter Try.func123, Try.ntmps123
         go_wp2
         refine bodyPost_ret (cz_ (rs := [.tmp 2, .tmp 3, .tmp 4, .tmp 5]) rfl (by simp) (.tmp (.tmp (.tmp (.tmp .nil))))) rfl ?_
         exact ⟨by first | rfl | (simp; done) | (simp [*]; done), by repeat (first | exact av_.refl _ | apply av_.step)⟩
        rw [if_pos c9] at H
        have c9b0 : (a0.toList == ([111, 97, 107] : List UInt8)) = true := beq_iff_eq.mpr c9
        have c9b1 : (a0.toList != ([111, 97, 107] : List UInt8)) = false := bne_eq_false_iff_eq.mpr c9
        clear c9
        simp only [Option.some.injEq, Prod.mk.injEq] at H
        obtain ⟨rfl, rfl, rfl, rfl⟩ := H
        go_enter Try.func123, Try.ntmps123
        go_wp2
        refine bodyPost_ret (cz_ (rs := [.tmp 2, .tmp 3, .tmp 4, .tmp 5]) rfl (by simp) (.tmp (.tmp (.tmp (.tmp .nil))))) rfl ?_
        exact ⟨by first | rfl | (simp; done) | (simp [*]; done), by repeat (first | exact av_.refl _ | apply av_.step)⟩
       rw [if_pos c8] at H
       have c8b0 : (a0.toList == ([109, 97, 112, 108, 101] : List UInt8)) = true := beq_iff_eq.mpr c8
       have c8b1 : (a0.toList != ([109, 97, 112, 108, 101] : List UInt8)) = false := bne_eq_false_iff_eq.mpr c8
       clear c8
       simp only [Option.some.injEq, Prod.mk.injEq] at H
       obtain ⟨rfl, rfl, rfl, rfl⟩ := H
       go_enter Try.func123, Try.ntmps123
       go_wp2
       refine bodyPost_ret (cz_ (rs := [.tmp 2, .tmp 3, .tmp 4, .tmp 5]) rfl (by simp) (.tmp (.tmp (.tmp (.tmp .nil))))) rfl ?_
       exact ⟨by first | rfl | (simp; done) | (simp [*]; done), by repeat (first | exact av_.refl _ | apply av_.step)⟩
      rw [if_pos c7] at H
      have c7b0 : (a0.toList == ([104, 111, 108, 108, 121] : List UInt8)) = true := beq_iff_eq.mpr c7
      have c7b1 : (a0.toList != ([104, 111, 108, 108, 121] : List UInt8)) = false := bne_eq_false_iff_eq.mpr c7
      clear c7
      simp only [Option.some.injEq, Prod.mk.injEq] at H
      obtain ⟨rfl, rfl, rfl, rfl⟩ := H
      go_enter Try.func123, Try.ntmps123
      go_wp2
      refine bodyPost_ret (cz_ (rs := [.tmp 2, .tmp 3, .tmp 4, .tmp 5]) rfl (by simp) (.tmp (.tmp (.tmp (.tmp .nil))))) rfl ?_
      exact ⟨by first | rfl | (simp; done) | (simp [*]; done), by repeat (first | exact av_.refl _ | apply av_.step)⟩
     rw [if_pos c6] at H
     have c6b0 : (a0.toList == ([101, 98, 111, 110, 121] : List UInt8)) = true := beq_iff_eq.mpr c6
     have c6b1 : (a0.toList != ([101, 98, 111, 110, 121] : List UInt8)) = false := bne_eq_false_iff_eq.mpr c6
     clear c6
     simp only [Option.some.injEq, Prod.mk.injEq] at H
     obtain ⟨rfl, rfl, rfl, rfl⟩ := H
     go_enter Try.func123, Try.ntmps123
     go_wp2
     refine bodyPost_ret (cz_ (rs := [.tmp 2, .tmp 3, .tmp 4, .tmp 5]) rfl (by simp) (.tmp (.tmp (.tmp (.tmp .nil))))) rfl ?_
     exact ⟨by first | rfl | (simp; done) | (simp [*]; done), by repeat (first | exact av_.refl _ | apply av_.step)⟩
    rw [if_pos c5] at H
    have c5b0 : (a0.toList == ([99, 104, 101, 114, 114, 121] : List UInt8)) = true := beq_iff_eq.mpr c5
    have c5b1 : (a0.toList != ([99, 104, 101, 114, 114, 121] : List UInt8)) = false := bne_eq_false_iff_eq.mpr c5
    clear c5
    simp only [Option.some.injEq, Prod.mk.injEq] at H
    obtain ⟨rfl, rfl, rfl, rfl⟩ := H
    go_enter Try.func123, Try.ntmps123
    go_wp2
    refine bodyPost_ret (cz_ (rs := [.tmp 2, .tmp 3, .tmp 4, .tmp 5]) rfl (by simp) (.tmp (.tmp (.tmp (.tmp .nil))))) rfl ?_
    exact ⟨by first | rfl | (simp; done) | (simp [*]; done), by repeat (first | exact av_.refl _ | apply av_.step)⟩
   rw [if_pos c4] at H
   have c4b0 : (a0.toList == ([98, 105, 114, 99, 104] : List UInt8)) = true := beq_iff_eq.mpr c4
   have c4b1 : (a0.toList != ([98, 105, 114, 99, 104] : List UInt8)) = false := bne_eq_false_iff_eq.mpr c4
   clear c4
   simp only [Option.some.injEq, Prod.mk.injEq] at H
   obtain ⟨rfl, rfl, rfl, rfl⟩ := H
   go_enter Try.func123, Try.ntmps123
   go_wp2
   refine bodyPost_ret (cz_ (rs := [.tmp 2, .tmp 3, .tmp 4, .tmp 5]) rfl (by simp) (.tmp (.tmp (.tmp (.tmp .nil))))) rfl ?_
   exact ⟨by first | rfl | (simp; done) | (simp [*]; done), by repeat (first | exact av_.refl _ | apply av_.step)⟩
  rw [if_pos c3] at H
  have c3b0 : (a0.toList == ([98, 101, 101, 99, 104] : List UInt8)) = true := beq_iff_eq.mpr c3
  have c3b1 : (a0.toList != ([98, 101, 101, 99, 104] : List UInt8)) = false := bne_eq_false_iff_eq.mpr c3
  clear c3
  simp only [Option.some.injEq, Prod.mk.injEq] at H
  obtain ⟨rfl, rfl, rfl, rfl⟩ := H
  go_enter Try.func123, Try.ntmps123
  go_wp2
  refine bodyPost_ret (cz_ (rs := [.tmp 2, .tmp 3, .tmp 4, .tmp 5]) rfl (by simp) (.tmp (.tmp (.tmp (.tmp .nil))))) rfl ?_
  exact ⟨by first | rfl | (simp; done) | (simp [*]; done), by repeat (first | exact av_.refl _ | apply av_.step)⟩
 rw [if_pos c2] at H
 have c2b0 : (a0.toList == ([97, 115, 104] : List UInt8)) = true := beq_iff_eq.mpr c2
 have c2b1 : (a0.toList != ([97, 115, 104] : List UInt8)) = false := bne_eq_false_iff_eq.mpr c2
 clear c2
 simp only [Option.some.injEq, Prod.mk.injEq] at H
 obtain ⟨rfl, rfl, rfl, rfl⟩ := H
 go_enter Try.func123, Try.ntmps123
 go_wp2
 refine bodyPost_ret (cz_ (rs := [.tmp 2, .tmp 3, .tmp 4, .tmp 5]) rfl (by simp) (.tmp (.tmp (.tmp (.tmp .nil))))) rfl ?_
 exact ⟨by first | rfl | (simp; done) | (simp [*]; done), by repeat (first | exact av_.refl _ | apply av_.step)⟩
def cb_.f (a0 : ByteArray) : Option (Int × Bool) := (cG_.f a0).bind fun bt101 => (some (bt101.1, (bt101.2.2.2 == 0)))
set_option maxHeartbeats 8000000 in
set_option maxRecDepth 100000 in
theorem cb_.calls (a0 : ByteArray) (r1 : Int) (r2 : Bool) (w : World) (h : cb_.f a0 = some (r1, r2)) :
  Calls Try.prog 110 #[.string a0] w fun e w' => e = .returned (.tuple #[.int .i64 r1, .bool r2]) ∧ av_ w w' := by
 have H : ((cG_.f a0).bind fun bt101 => (some (bt101.1, (bt101.2.2.2 == 0)))) = some (r1, r2) := h
 clear h
 replace H := Option.bind_eq_some_iff.mp H
 obtain ⟨⟨t101, t102, t103, t104⟩, A20, H⟩ := H
 (try dsimp only at H)
 have A2 := Aside0.mk A20
 clear A20
 simp only [Option.some.injEq, Prod.mk.injEq] at H
 obtain ⟨rfl, rfl⟩ := H
 go_enter Try.func110, Try.ntmps110
 go_wp2_with (first | ((with_reducible refine am_ (f := 123) rfl ?_); refine aX_ (some 10) rfl rfl Try.func123 (by kernel_rfl) rfl #[.string a0] rfl (by first | rfl | (simp only [List.map_toArray, List.map_cons, List.map_nil]; first | done | rfl)) ?_; (with_reducible refine (cG_.calls a0 t101 t102 t103 t104 _ A2.out).mono ?_); rintro e w' ⟨rfl, ⟨nd, rfl⟩⟩; refine ⟨_, rfl, ?_⟩))
 go_ret2
 exact ⟨by first | rfl | (simp; done) | (simp [*]; done), by repeat (first | exact av_.refl _ | apply av_.step)⟩
def cr_.f (a0_0 : ByteArray) (a0_1 : Int) (a0_2 : Int) : Option (Bool) := (cb_.f a0_0).bind fun bt102 => (if bt102.2 = true then ((by_.f a0_1 0 100).bind fun t104 => (if t104 = true then ((by_.f (wrap64 (a0_1 - bt102.1)) (-15) 15).bind fun t105 => (if t105 = true then ((by_.f a0_2 0 179).bind fun t106 => (some t106)) else (some false))) else (some false))) else (some false))
set_option maxHeartbeats 8000000 in
set_option maxRecDepth 100000 in
theorem cr_.calls (a0_0 : ByteArray) (a0_1 : Int) (a0_2 : Int) (r : Bool) (w : World) (h : cr_.f a0_0 a0_1 a0_2 = some r) :
  Calls Try.prog 93 #[.agg #[.string a0_0, .int .i64 a0_1, .int .i64 a0_2]] w fun e w' => e = .returned (.bool r) ∧ Below w.heap.size w w' := by
 have hu61 := Try.underlying61
 have HB := Aside0.mk (Below.refl w.heap.size w)
 have H : ((cb_.f a0_0).bind fun bt102 => (if bt102.2 = true then ((by_.f a0_1 0 100).bind fun t104 => (if t104 = true then ((by_.f (wrap64 (a0_1 - bt102.1)) (-15) 15).bind fun t105 => (if t105 = true then ((by_.f a0_2 0 179).bind fun t106 => (some t106)) else (some false))) else (some false))) else (some false))) = some r := h
 clear h
 replace H := Option.bind_eq_some_iff.mp H
 obtain ⟨⟨t102, t103⟩, A20, H⟩ := H
 (try dsimp only at H)
 have A2 := Aside0.mk A20
 clear A20
 by_cases c3 : t103 = true
 rotate_left
 ·replace c3 := Bool.eq_false_iff.mpr c3
  subst c3
  have H1 : (some false) = some r := by rw [if_neg (show ¬ (false = true) by decide)] at H; exact H
  clear H
  have H := H1
  clear H1
  obtain rfl := Option.some.inj H
  go_enter Try.func93, Try.ntmps93
  go_wp2_with (first | ((with_reducible refine au_ (N := 1) rfl ?_); refine aQ_ ?hg (N := 1) ?hd (cs := #[.string a0_0, .int .i64 a0_1, .int .i64 a0_2]) (t := 61) ?hr ?_; (case hd => rfl); (case hg => rfl); (case hr => (go_simp; try rfl)); intro gb101 hg w15 hbox hb; have BK101 := Aside0.mk (hbox); have GW101 := Aside0.mk ((by rw [hg]; exact (ae_ (bz HB.out)) : w.heap.size ≤ gb101)); have GE101 := Aside0.mk ((by rw [hg]; exact (ae_ (bz HB.out)) : w.heap.size ≤ gb101)); replace HB := Aside0.mk (ag_ (bz HB.out) hb); clear hb hbox hg; have hcz16_0 : w15.cell? ⟨gb101, 0, none⟩ = some (.string a0_0) := (ab_ BK101.out 0).trans rfl; have hcz16_1 : w15.cell? ⟨gb101, 1, none⟩ = some (.int .i64 a0_1) := (ab_ BK101.out 1).trans rfl; have hcz16_2 : w15.cell? ⟨gb101, 2, none⟩ = some (.int .i64 a0_2) := (ab_ BK101.out 2).trans rfl; have hfz16_0 := aa_ BK101.out 0; have hfz16_1 := aa_ BK101.out 1; have hfz16_2 := aa_ BK101.out 2) | ((with_reducible refine am_ (f := 110) rfl ?_); refine aX_ (some 8) rfl rfl Try.func110 (by kernel_rfl) rfl #[.string a0_0] rfl (by first | rfl | (simp only [List.map_toArray, List.map_cons, List.map_nil]; first | done | rfl)) ?_; (with_reducible refine (cb_.calls a0_0 t102 false _ A2.out).mono ?_); rintro e w' ⟨rfl, ⟨nd, rfl⟩⟩; refine ⟨_, rfl, ?_⟩))
  go_ret
  exact ⟨by first | rfl | (simp [*, an_, ao_] <;> rfl), by repeat (first | (with_reducible first | exact HB.out | apply bA_ | apply bN_ | apply bD_ | refine ac_ ?_ GE101.out) | exact HB.out)⟩
 subst c3
 have H1 : ((by_.f a0_1 0 100).bind fun t104 => (if t104 = true then ((by_.f (wrap64 (a0_1 - t102)) (-15) 15).bind fun t105 => (if t105 = true then ((by_.f a0_2 0 179).bind fun t106 => (some t106)) else (some false))) else (some false))) = some r := by rw [if_pos rfl] at H; exact H
 clear H
 have H := H1
 clear H1
 replace H := Option.bind_eq_some_iff.mp H
 obtain ⟨t104, A40, H⟩ := H
 (try dsimp only at H)
 have A4 := Aside0.mk A40
 clear A40
 by_cases c5 : t104 = true
 rotate_left
 ·replace c5 := Bool.eq_false_iff.mpr c5
  subst c5
  have H1 : (some false) = some r := by rw [if_neg (show ¬ (false = true) by decide)] at H; exact H
  clear H
  have H := H1
  clear H1
  obtain rfl := Option.some.inj H
  go_enter Try.func93, Try.ntmps93
  go_wp2_with (first | ((with_reducible refine au_ (N := 1) rfl ?_); refine aQ_ ?hg (N := 1) ?hd (cs := #[.string a0_0, .int .i64 a0_1, .int .i64 a0_2]) (t := 61) ?hr ?_; (case hd => rfl); (case hg => rfl); (case hr => (go_simp; try rfl)); intro gb101 hg w13 hbox hb; have BK101 := Aside0.mk (hbox); have GW101 := Aside0.mk ((by rw [hg]; exact (ae_ (bz HB.out)) : w.heap.size ≤ gb101)); have GE101 := Aside0.mk ((by rw [hg]; exact (ae_ (bz HB.out)) : w.heap.size ≤ gb101)); replace HB := Aside0.mk (ag_ (bz HB.out) hb); clear hb hbox hg; have hcz14_0 : w13.cell? ⟨gb101, 0, none⟩ = some (.string a0_0) := (ab_ BK101.out 0).trans rfl; have hcz14_1 : w13.cell? ⟨gb101, 1, none⟩ = some (.int .i64 a0_1) := (ab_ BK101.out 1).trans rfl; have hcz14_2 : w13.cell? ⟨gb101, 2, none⟩ = some (.int .i64 a0_2) := (ab_ BK101.out 2).trans rfl; have hfz14_0 := aa_ BK101.out 0; have hfz14_1 := aa_ BK101.out 1; have hfz14_2 := aa_ BK101.out 2) | ((with_reducible refine am_ (f := 110) rfl ?_); refine aX_ (some 8) rfl rfl Try.func110 (by kernel_rfl) rfl #[.string a0_0] rfl (by first | rfl | (simp only [List.map_toArray, List.map_cons, List.map_nil]; first | done | rfl)) ?_; (with_reducible refine (cb_.calls a0_0 t102 true _ A2.out).mono ?_); rintro e w' ⟨rfl, ⟨nd, rfl⟩⟩; refine ⟨_, rfl, ?_⟩) | (go_at_call 79; (with_reducible refine (by_.calls a0_1 0 100 false _ A4.out).mono ?_); rintro e w' ⟨rfl, ⟨nd, rfl⟩⟩))
  go_ret
  exact ⟨by first | rfl | (simp [*, an_, ao_] <;> rfl), by repeat (first | (with_reducible first | exact HB.out | apply bA_ | apply bN_ | apply bD_ | refine ac_ ?_ GE101.out) | exact HB.out)⟩
 subst c5
 have H1 : ((by_.f (wrap64 (a0_1 - t102)) (-15) 15).bind fun t105 => (if t105 = true then ((by_.f a0_2 0 179).bind fun t106 => (some t106)) else (some false))) = some r := by rw [if_pos rfl] at H; exact H
 clear H
 have H := H1
 clear H1
 replace H := Option.bind_eq_some_iff.mp H
 obtain ⟨t105, A60, H⟩ := H
 (try dsimp only at H)
 have A6 := Aside0.mk A60
 clear A60
 by_cases c7 : t105 = true
 rotate_left
 ·replace c7 := Bool.eq_false_iff.mpr c7
  subst c7
  have H1 : (some false) = some r := by rw [if_neg (show ¬ (false = true) by decide)] at H; exact H
  clear H
  have H := H1
  clear H1
  obtain rfl := Option.some.inj H
  go_enter Try.func93, Try.ntmps93
  go_wp2_with (first | ((with_reducible refine au_ (N := 1) rfl ?_); refine aQ_ ?hg (N := 1) ?hd (cs := #[.string a0_0, .int .i64 a0_1, .int .i64 a0_2]) (t := 61) ?hr ?_; (case hd => rfl); (case hg => rfl); (case hr => (go_simp; try rfl)); intro gb101 hg w11 hbox hb; have BK101 := Aside0.mk (hbox); have GW101 := Aside0.mk ((by rw [hg]; exact (ae_ (bz HB.out)) : w.heap.size ≤ gb101)); have GE101 := Aside0.mk ((by rw [hg]; exact (ae_ (bz HB.out)) : w.heap.size ≤ gb101)); replace HB := Aside0.mk (ag_ (bz HB.out) hb); clear hb hbox hg; have hcz12_0 : w11.cell? ⟨gb101, 0, none⟩ = some (.string a0_0) := (ab_ BK101.out 0).trans rfl; have hcz12_1 : w11.cell? ⟨gb101, 1, none⟩ = some (.int .i64 a0_1) := (ab_ BK101.out 1).trans rfl; have hcz12_2 : w11.cell? ⟨gb101, 2, none⟩ = some (.int .i64 a0_2) := (ab_ BK101.out 2).trans rfl; have hfz12_0 := aa_ BK101.out 0; have hfz12_1 := aa_ BK101.out 1; have hfz12_2 := aa_ BK101.out 2) | ((with_reducible refine am_ (f := 110) rfl ?_); refine aX_ (some 8) rfl rfl Try.func110 (by kernel_rfl) rfl #[.string a0_0] rfl (by first | rfl | (simp only [List.map_toArray, List.map_cons, List.map_nil]; first | done | rfl)) ?_; (with_reducible refine (cb_.calls a0_0 t102 true _ A2.out).mono ?_); rintro e w' ⟨rfl, ⟨nd, rfl⟩⟩; refine ⟨_, rfl, ?_⟩) | (go_at_call 79; (with_reducible refine (by_.calls a0_1 0 100 true _ A4.out).mono ?_); rintro e w' ⟨rfl, ⟨nd, rfl⟩⟩) | (go_at_call 79; (with_reducible refine (by_.calls (wrap64 (a0_1 - t102)) (-15) 15 false _ A6.out).mono ?_); rintro e w' ⟨rfl, ⟨nd, rfl⟩⟩))
  go_ret
  exact ⟨by first | rfl | (simp [*, an_, ao_] <;> rfl), by repeat (first | (with_reducible first | exact HB.out | apply bA_ | apply bN_ | apply bD_ | refine ac_ ?_ GE101.out) | exact HB.out)⟩
 subst c7
 have H1 : ((by_.f a0_2 0 179).bind fun t106 => (some t106)) = some r := by rw [if_pos rfl] at H; exact H
 clear H
 have H := H1
 clear H1
 replace H := Option.bind_eq_some_iff.mp H
 obtain ⟨t106, A80, H⟩ := H
 (try dsimp only at H)
 have A8 := Aside0.mk A80
 clear A80
 obtain rfl := Option.some.inj H
 go_enter Try.func93, Try.ntmps93
 go_wp2_with (first | ((with_reducible refine au_ (N := 1) rfl ?_); refine aQ_ ?hg (N := 1) ?hd (cs := #[.string a0_0, .int .i64 a0_1, .int .i64 a0_2]) (t := 61) ?hr ?_; (case hd => rfl); (case hg => rfl); (case hr => (go_simp; try rfl)); intro gb101 hg w9 hbox hb; have BK101 := Aside0.mk (hbox); have GW101 := Aside0.mk ((by rw [hg]; exact (ae_ (bz HB.out)) : w.heap.size ≤ gb101)); have GE101 := Aside0.mk ((by rw [hg]; exact (ae_ (bz HB.out)) : w.heap.size ≤ gb101)); replace HB := Aside0.mk (ag_ (bz HB.out) hb); clear hb hbox hg; have hcz10_0 : w9.cell? ⟨gb101, 0, none⟩ = some (.string a0_0) := (ab_ BK101.out 0).trans rfl; have hcz10_1 : w9.cell? ⟨gb101, 1, none⟩ = some (.int .i64 a0_1) := (ab_ BK101.out 1).trans rfl; have hcz10_2 : w9.cell? ⟨gb101, 2, none⟩ = some (.int .i64 a0_2) := (ab_ BK101.out 2).trans rfl; have hfz10_0 := aa_ BK101.out 0; have hfz10_1 := aa_ BK101.out 1; have hfz10_2 := aa_ BK101.out 2) | ((with_reducible refine am_ (f := 110) rfl ?_); refine aX_ (some 8) rfl rfl Try.func110 (by kernel_rfl) rfl #[.string a0_0] rfl (by first | rfl | (simp only [List.map_toArray, List.map_cons, List.map_nil]; first | done | rfl)) ?_; (with_reducible refine (cb_.calls a0_0 t102 true _ A2.out).mono ?_); rintro e w' ⟨rfl, ⟨nd, rfl⟩⟩; refine ⟨_, rfl, ?_⟩) | (go_at_call 79; (with_reducible refine (by_.calls a0_1 0 100 true _ A4.out).mono ?_); rintro e w' ⟨rfl, ⟨nd, rfl⟩⟩) | (go_at_call 79; (with_reducible refine (by_.calls (wrap64 (a0_1 - t102)) (-15) 15 true _ A6.out).mono ?_); rintro e w' ⟨rfl, ⟨nd, rfl⟩⟩) | (go_at_call 79; (with_reducible refine (by_.calls a0_2 0 179 t106 _ A8.out).mono ?_); rintro e w' ⟨rfl, ⟨nd, rfl⟩⟩))
 go_ret
 exact ⟨by first | rfl | (simp [*, an_, ao_] <;> rfl), by repeat (first | (with_reducible first | exact HB.out | apply bA_ | apply bN_ | apply bD_ | refine ac_ ?_ GE101.out) | exact HB.out)⟩
def cq_.f (k : Nat) (a0_0 : ByteArray) (a0_1 : ByteArray) (a0_2 : Int) (a0_3 : Int) : Option (Bool) := (aV_.f k a0_0).bind fun t102 => (if t102 = true then ((cr_.f a0_1 a0_2 a0_3).bind fun t103 => (some t103)) else (some false))
set_option maxHeartbeats 8000000 in
set_option maxRecDepth 100000 in
theorem cq_.calls (k : Nat) (a0_0 : ByteArray) (a0_1 : ByteArray) (a0_2 : Int) (a0_3 : Int) (r : Bool) (w : World) (h : cq_.f k a0_0 a0_1 a0_2 a0_3 = some r) :
  Calls Try.prog 69 #[.agg #[.string a0_0, .string a0_1, .int .i64 a0_2, .int .i64 a0_3]] w fun e w' => e = .returned (.bool r) ∧ Below w.heap.size w w' := by
 have hu63 := Try.underlying63
 have hu61 := Try.underlying61
 have HB := Aside0.mk (Below.refl w.heap.size w)
 have H : ((aV_.f k a0_0).bind fun t102 => (if t102 = true then ((cr_.f a0_1 a0_2 a0_3).bind fun t103 => (some t103)) else (some false))) = some r := h
 clear h
 replace H := Option.bind_eq_some_iff.mp H
 obtain ⟨t102, A20, H⟩ := H
 (try dsimp only at H)
 have A2 := Aside0.mk A20
 clear A20
 by_cases c3 : t102 = true
 rotate_left
 ·replace c3 := Bool.eq_false_iff.mpr c3
  subst c3
  have H1 : (some false) = some r := by rw [if_neg (show ¬ (false = true) by decide)] at H; exact H
  clear H
  have H := H1
  clear H1
  obtain rfl := Option.some.inj H
  go_enter Try.func69, Try.ntmps69
  go_wp2_with (first | ((with_reducible refine au_ (N := 1) rfl ?_); refine aQ_ ?hg (N := 1) ?hd (cs := #[.string a0_0, .string a0_1, .int .i64 a0_2, .int .i64 a0_3]) (t := 63) ?hr ?_; (case hd => rfl); (case hg => rfl); (case hr => (go_simp; try rfl)); intro gb101 hg w8 hbox hb; have BK101 := Aside0.mk (hbox); have GW101 := Aside0.mk ((by rw [hg]; exact (ae_ (bz HB.out)) : w.heap.size ≤ gb101)); have GE101 := Aside0.mk ((by rw [hg]; exact (ae_ (bz HB.out)) : w.heap.size ≤ gb101)); replace HB := Aside0.mk (ag_ (bz HB.out) hb); clear hb hbox hg; have hcz9_0 : w8.cell? ⟨gb101, 0, none⟩ = some (.string a0_0) := (ab_ BK101.out 0).trans rfl; have hcz9_1 : w8.cell? ⟨gb101, 1, none⟩ = some (.string a0_1) := (ab_ BK101.out 1).trans rfl; have hcz9_2 : w8.cell? ⟨gb101, 2, none⟩ = some (.int .i64 a0_2) := (ab_ BK101.out 2).trans rfl; have hcz9_3 : w8.cell? ⟨gb101, 3, none⟩ = some (.int .i64 a0_3) := (ab_ BK101.out 3).trans rfl; have hfz9_0 := aa_ BK101.out 0; have hfz9_1 := aa_ BK101.out 1; have hfz9_2 := aa_ BK101.out 2; have hfz9_3 := aa_ BK101.out 3) | ((with_reducible refine am_ (f := 92) rfl ?_); refine aX_ (some 5) rfl rfl Try.func92 (by kernel_rfl) rfl #[.string a0_0] rfl (by first | rfl | (simp only [List.map_toArray, List.map_cons, List.map_nil]; first | done | rfl)) ?_; (with_reducible refine (aV_.calls k a0_0 false _ A2.out).mono ?_); rintro e w' ⟨rfl, ⟨nd, rfl⟩⟩; refine ⟨_, rfl, ?_⟩))
  go_ret
  exact ⟨by first | rfl | (simp [*, an_, ao_] <;> rfl), by repeat (first | (with_reducible first | exact HB.out | apply bA_ | apply bN_ | apply bD_ | refine ac_ ?_ GE101.out) | exact HB.out)⟩
 subst c3
 have H1 : ((cr_.f a0_1 a0_2 a0_3).bind fun t103 => (some t103)) = some r := by rw [if_pos rfl] at H; exact H
 clear H
 have H := H1
 clear H1
 replace H := Option.bind_eq_some_iff.mp H
 obtain ⟨t103, A40, H⟩ := H
 (try dsimp only at H)
 have A4 := Aside0.mk A40
 clear A40
 obtain rfl := Option.some.inj H
 go_enter Try.func69, Try.ntmps69
 go_wp2_with (first | ((with_reducible refine au_ (N := 1) rfl ?_); refine aQ_ ?hg (N := 1) ?hd (cs := #[.string a0_0, .string a0_1, .int .i64 a0_2, .int .i64 a0_3]) (t := 63) ?hr ?_; (case hd => rfl); (case hg => rfl); (case hr => (go_simp; try rfl)); intro gb101 hg w5 hbox hb; have BK101 := Aside0.mk (hbox); have GW101 := Aside0.mk ((by rw [hg]; exact (ae_ (bz HB.out)) : w.heap.size ≤ gb101)); have GE101 := Aside0.mk ((by rw [hg]; exact (ae_ (bz HB.out)) : w.heap.size ≤ gb101)); replace HB := Aside0.mk (ag_ (bz HB.out) hb); clear hb hbox hg; have hcz6_0 : w5.cell? ⟨gb101, 0, none⟩ = some (.string a0_0) := (ab_ BK101.out 0).trans rfl; have hcz6_1 : w5.cell? ⟨gb101, 1, none⟩ = some (.string a0_1) := (ab_ BK101.out 1).trans rfl; have hcz6_2 : w5.cell? ⟨gb101, 2, none⟩ = some (.int .i64 a0_2) := (ab_ BK101.out 2).trans rfl; have hcz6_3 : w5.cell? ⟨gb101, 3, none⟩ = some (.int .i64 a0_3) := (ab_ BK101.out 3).trans rfl; have hfz6_0 := aa_ BK101.out 0; have hfz6_1 := aa_ BK101.out 1; have hfz6_2 := aa_ BK101.out 2; have hfz6_3 := aa_ BK101.out 3) | ((with_reducible refine am_ (f := 92) rfl ?_); refine aX_ (some 5) rfl rfl Try.func92 (by kernel_rfl) rfl #[.string a0_0] rfl (by first | rfl | (simp only [List.map_toArray, List.map_cons, List.map_nil]; first | done | rfl)) ?_; (with_reducible refine (aV_.calls k a0_0 true _ A2.out).mono ?_); rintro e w' ⟨rfl, ⟨nd, rfl⟩⟩; refine ⟨_, rfl, ?_⟩) | (go_at_call 93; (with_reducible refine (cr_.calls a0_1 a0_2 a0_3 t103 _ A4.out).mono ?_); rintro e w7 ⟨rfl, hb⟩; replace BK101 := Aside0.mk (aG_ (g := gb101) (o := .cells #[.string a0_0, .string a0_1, .int .i64 a0_2, .int .i64 a0_3] 63 (0, 0)) (kz BK101.out) hb); replace HB := Aside0.mk (ag_ (by repeat (first | (with_reducible first | exact HB.out | apply bA_ | apply bN_ | apply bD_ | refine ac_ ?_ GE101.out) | exact HB.out)) hb); (try clear hb)))
 go_ret
 exact ⟨by first | rfl | (simp [*, an_, ao_] <;> rfl), by repeat (first | (with_reducible first | exact HB.out | apply bA_ | apply bN_ | apply bD_ | refine ac_ ?_ GE101.out) | exact HB.out)⟩
def ap_.l0 : Nat → List (S63) → List (S63) → Int → Int → Option (Bool)
 | 0, _, _, _, _ => none
 | k + 1, x0, x5, x6, x7 => if x7 < x6 then (if 0 ≤ x7 then (if x7 < (x5.length : Int) then ((cq_.f k ((af_ x5 x7).f0) ((af_ x5 x7).f1.f0) ((af_ x5 x7).f1.f1) ((af_ x5 x7).f1.f2)).bind fun t103 => (if t103 = true then (if x7 > 0 then (if 0 ≤ (wrap64 (x7 - 1)) then (if (wrap64 (x7 - 1)) < (x0.length : Int) then (if ((Op.bytesLess (((af_ x0 (wrap64 (x7 - 1))).f0).toList) (((af_ x5 x7).f0).toList)) = true) then (ap_.l0 k x0 x5 x6 (wrap64 (x7 + 1))) else (some false)) else (none)) else (none)) else (ap_.l0 k x0 x5 x6 (wrap64 (x7 + 1)))) else (some false))) else (none)) else (none)) else (some (decide ((x0.length : Int) ≤ 24)))
def ap_.f (k : Nat) (l0 : List (S63)) : Option (Bool) := ap_.l0 k l0 l0 (l0.length : Int) 0
def ap_.T4 : Bool × List (List Nat × List Nat) := (true, [([], []), ([0], [0]), ([1], [1]), ([2, 1], [2]), ([3], [3]), ([4, 3], [3, 4]), ([5, 3, 3], [3, 5]), ([6], [6]), ([6], [6]), ([8, 6], [6, 8]), ([7, 9, 6], [6, 7, 9]), ([10, 6], [6, 10]), ([11, 6], [6, 11]), ([6], [6]), ([13, 6], [6, 13]), ([12, 14, 6], [6, 12, 14]), ([6, 15, 3], [3, 6, 15]), ([3, 16], [3, 16])])
def ap_.B4 : List Nat := [0, 1, 3, 7, 15, 31, 63, 127, 127, 383, 1023, 2047, 4095, 127, 8319, 32767, 65535, 131071]
theorem ap_.tab4 : rtab .any (opsOf Try.f39 4) = ap_.T4 := by kernel_rfl
theorem ap_.bits4 : dy_ ap_.T4.2 ap_.B4 = true := by kernel_rfl
set_option maxHeartbeats 8000000 in
set_option maxRecDepth 100000 in
theorem ap_.calls (k : Nat) (A0 : Option Addr) (c0 : Nat) (l0 : List (S63)) (r : Bool) (w : World) (hr0 : Kd.C k63 w A0 l0.length l0) (hc0 : l0.length ≤ c0) (h : ap_.f k l0 = some r) :
  Calls Try.prog 39 #[.slice A0 l0.length c0] w fun e w' => e = .returned (.bool r) ∧ Below w.heap.size w w' := by
 have hu63 := Try.underlying63
 have HR0 := Aside0.mk hr0
 have HC0 := Aside0.mk hc0
 clear hr0 hc0
 have HB := Aside0.mk (Below.refl w.heap.size w)
 have H : (ap_.l0 k l0 l0 (l0.length : Int) 0) = some r := h
 clear h
 have H' := Aside0.mk H
 clear H
 go_enter Try.func39, Try.ntmps39
 go_wp2
 (try simp only [Act.put, lsa_, ls0_, ls1_])
 go_loopg [7] k (fun kq v7 w' => ∃ (x7_1 : Int), v7 = .int .i64 x7_1 ∧ Aside0 (ap_.l0 kq l0 l0 (l0.length : Int) x7_1 = some r) ∧ Aside0 (kq ≤ k) ∧ Aside0 (Below w.heap.size w w'))
 case atStart => exact ⟨(0), (by first | rfl | (simp; done) | (simp [*]; done)), H', ⟨Nat.le_refl _⟩, ⟨bz HB.out⟩⟩
 case round =>
  clear H'
  obtain ⟨x7_1, rfl, HA, HK1, HB⟩ := hrel
  cases gk with
  | zero => exact absurd HA.out (by simp [ap_.l0])
  | succ k1 =>
   have H := HA.out
   clear HA
   simp only [ap_.l0] at H
   by_cases c2 : x7_1 < (l0.length : Int)
   rotate_left
   ·rw [if_neg c2] at H
    have c2b0 : decide (x7_1 < (l0.length : Int)) = false := decide_eq_false c2
    clear c2
    obtain rfl := Option.some.inj H
    go_wp2
    go_ret
    exact ⟨by first | rfl | (simp [*, an_, ao_] <;> rfl), bz HB.out⟩
   rw [if_pos c2] at H
   have c2b0 : decide (x7_1 < (l0.length : Int)) = true := decide_eq_true c2
   clear c2
   by_cases c3 : 0 ≤ x7_1
   rotate_left
   ·rw [if_neg c3] at H
    exact absurd H (by simp)
   rw [if_pos c3] at H
   have c3b0 : decide (0 ≤ x7_1) = true := decide_eq_true c3
   clear c3
   by_cases c4 : x7_1 < (l0.length : Int)
   rotate_left
   ·rw [if_neg c4] at H
    exact absurd H (by simp)
   rw [if_pos c4] at H
   have c4b0 : decide (x7_1 < (l0.length : Int)) = true := decide_eq_true c4
   clear c4
   replace H := Option.bind_eq_some_iff.mp H
   obtain ⟨t103, A50, H⟩ := H
   (try dsimp only at H)
   have A5 := Aside0.mk A50
   clear A50
   by_cases c6 : t103 = true
   rotate_left
   ·replace c6 := Bool.eq_false_iff.mpr c6
    subst c6
    have H1 : (some false) = some r := by rw [if_neg (show ¬ (false = true) by decide)] at H; exact H
    clear H
    have H := H1
    clear H1
    obtain rfl := Option.some.inj H
    have p101 : 0 ≤ (x7_1 : Int) := of_decide_eq_true (by assumption)
    have q101 : x7_1 < (l0.length : Int) := of_decide_eq_true (by assumption)
    obtain ⟨ad101, e101, hx101_0, hx101_1, hx101_2, hx101_3⟩ := cm_ HR0.out x7_1 p101 q101
    cases e101
    replace hx101_0 := (HB.out.cell (bl_ w _ hx101_0)).trans hx101_0
    replace hx101_1 := (HB.out.cell (bl_ w _ hx101_1)).trans hx101_1
    replace hx101_2 := (HB.out.cell (bl_ w _ hx101_2)).trans hx101_2
    replace hx101_3 := (HB.out.cell (bl_ w _ hx101_3)).trans hx101_3
    replace p101 := eq_true p101
    replace q101 := eq_true q101
    try go_wp2_with (first | ((with_reducible refine au_ (N := 4) rfl ?_); refine aQ_ ?hg (N := 4) ?hd (cs := #[.string (⟨#[]⟩ : ByteArray), .string (⟨#[]⟩ : ByteArray), .int .i64 0, .int .i64 0]) (t := 63) ?hr ?_; (case hd => rfl); (case hg => rfl); (case hr => (go_simp; try rfl)); intro gb102 hg w23 hbox hb; have BK102 := Aside0.mk (hbox); have GW102 := Aside0.mk ((by rw [hg]; exact (ae_ (bz HB.out)) : w.heap.size ≤ gb102)); have GE102 := Aside0.mk ((by rw [hg]; exact (ae_ (bz HB.out)) : w.heap.size ≤ gb102)); replace HB := Aside0.mk (ag_ (bz HB.out) hb); clear hb hbox hg; have hcz24_0 : w23.cell? ⟨gb102, 0, none⟩ = some (.string (⟨#[]⟩ : ByteArray)) := (ab_ BK102.out 0).trans rfl; have hcz24_1 : w23.cell? ⟨gb102, 1, none⟩ = some (.string (⟨#[]⟩ : ByteArray)) := (ab_ BK102.out 1).trans rfl; have hcz24_2 : w23.cell? ⟨gb102, 2, none⟩ = some (.int .i64 0) := (ab_ BK102.out 2).trans rfl; have hcz24_3 : w23.cell? ⟨gb102, 3, none⟩ = some (.int .i64 0) := (ab_ BK102.out 3).trans rfl; have hfz24_0 := aa_ BK102.out 0; have hfz24_1 := aa_ BK102.out 1; have hfz24_2 := aa_ BK102.out 2; have hfz24_3 := aa_ BK102.out 3))
    have n0_ : Aside0 (((((w23.setCell ⟨gb102, 0, none⟩ (.string ((af_ l0 x7_1).f0))).setCell ⟨gb102, 1, none⟩ (.string ((af_ l0 x7_1).f1.f0))).setCell ⟨gb102, 2, none⟩ (.int .i64 ((af_ l0 x7_1).f1.f1))).setCell ⟨gb102, 3, none⟩ (.int .i64 ((af_ l0 x7_1).f1.f2))).heap[gb102]? = some (.cells #[.string ((af_ l0 x7_1).f0), .string ((af_ l0 x7_1).f1.f0), .int .i64 ((af_ l0 x7_1).f1.f1), .int .i64 ((af_ l0 x7_1).f1.f2)] 63 (0, 0))) := ⟨by (with_reducible repeat (first | refine ai_ ?_ _ | refine aj_ ?_ | refine ah_ ?_ _)); refine aB_ (cs := #[.string ((af_ l0 x7_1).f0), .string ((af_ l0 x7_1).f1.f0), .int .i64 ((af_ l0 x7_1).f1.f1), .int .i64 0]) ?_ 3 _ rfl; (with_reducible repeat (first | refine ai_ ?_ _ | refine aj_ ?_ | refine ah_ ?_ _)); refine aB_ (cs := #[.string ((af_ l0 x7_1).f0), .string ((af_ l0 x7_1).f1.f0), .int .i64 0, .int .i64 0]) ?_ 2 _ rfl; (with_reducible repeat (first | refine ai_ ?_ _ | refine aj_ ?_ | refine ah_ ?_ _)); refine aB_ (cs := #[.string ((af_ l0 x7_1).f0), .string (⟨#[]⟩ : ByteArray), .int .i64 0, .int .i64 0]) ?_ 1 _ rfl; (with_reducible repeat (first | refine ai_ ?_ _ | refine aj_ ?_ | refine ah_ ?_ _)); refine aB_ (cs := #[.string (⟨#[]⟩ : ByteArray), .string (⟨#[]⟩ : ByteArray), .int .i64 0, .int .i64 0]) ?_ 0 _ rfl; (with_reducible repeat (first | refine ai_ ?_ _ | refine aj_ ?_ | refine ah_ ?_ _)); exact BK102.out⟩
    have n1_ : Aside0 (Below w.heap.size w ((((w23.setCell ⟨gb102, 0, none⟩ (.string ((af_ l0 x7_1).f0))).setCell ⟨gb102, 1, none⟩ (.string ((af_ l0 x7_1).f1.f0))).setCell ⟨gb102, 2, none⟩ (.int .i64 ((af_ l0 x7_1).f1.f1))).setCell ⟨gb102, 3, none⟩ (.int .i64 ((af_ l0 x7_1).f1.f2)))) := ⟨by repeat (first | (with_reducible first | exact HB.out | apply bA_ | apply bN_ | apply bD_ | refine ac_ ?_ GE102.out) | exact HB.out)⟩
    (try clear BK102)
    (try clear HB)
    generalize ((((w23.setCell ⟨gb102, 0, none⟩ (.string ((af_ l0 x7_1).f0))).setCell ⟨gb102, 1, none⟩ (.string ((af_ l0 x7_1).f1.f0))).setCell ⟨gb102, 2, none⟩ (.int .i64 ((af_ l0 x7_1).f1.f1))).setCell ⟨gb102, 3, none⟩ (.int .i64 ((af_ l0 x7_1).f1.f2))) = w25 at n0_ n1_ ⊢
    have BK102 := n0_
    have HB := n1_
    clear n0_ n1_
    have n0_ := Aside0.mk (aj_ BK102.out)
    have n1_ := Aside0.mk (bD_ HB.out)
    clear BK102
    clear HB
    have BK102 := n0_
    have HB := n1_
    clear n0_ n1_
    refine start_ (n := 18) (S := fun w' => w'.cell? ⟨gb102, 0, none⟩ = some (.string ((af_ l0 x7_1).f0)) ∧ w'.cell? ⟨gb102, 1, none⟩ = some (.string ((af_ l0 x7_1).f1.f0)) ∧ w'.cell? ⟨gb102, 2, none⟩ = some (.int .i64 ((af_ l0 x7_1).f1.f1)) ∧ w'.cell? ⟨gb102, 3, none⟩ = some (.int .i64 ((af_ l0 x7_1).f1.f2))) (ds := []) #[f_,f_,f_,f_,f_,f_,f_,f_,f_,f_,f_,f_,f_,f_,f_,f_,f_,f_] (by kernel_rfl) rfl rfl ⟨(ab_ BK102.out 0).trans rfl, (ab_ BK102.out 1).trans rfl, (ab_ BK102.out 2).trans rfl, (ab_ BK102.out 3).trans rfl⟩ (fun hHeld => ?_); refine cS_ ap_.tab4 ap_.bits4 (fun HT_ HW_ => ?_)
    generalize w25.drew = w26 at BK102 HB hHeld ⊢
    refine take_ (i := 0) (N := some 12) (v := ?_) (a' := ?_) #[t_,f_,f_,f_,f_,f_,f_,f_,f_,f_,f_,f_,f_,f_,f_,f_,f_,f_] rfl rfl (cJ_ HT_.out HW_.out (by kernel_rfl)) (fun _ _ _ h => h) (Or.inl ⟨by rfl, ?_⟩) hHeld ?_ ?_
    rotate_left
    ·rintro w' ⟨s0, s1, s2, s3⟩
     go_simp
     with_reducible rfl
    rotate_left
    ·simp only [Act.put, lsa_, ls0_, ls1_, i64_w, i32_w]
     rfl
    refine one_ (i := 1) (N := some 13) #[t_,t_,f_,f_,f_,f_,f_,f_,f_,f_,f_,f_,f_,f_,f_,f_,f_,f_] rfl rfl (dD_ HT_.out (by kernel_rfl)) (by decide) (fun K hK => ?_)
    (first | refine goes_ Try.func69 (by kernel_rfl) rfl #[.agg #[.string ((af_ l0 x7_1).f0), .string ((af_ l0 x7_1).f1.f0), .int .i64 ((af_ l0 x7_1).f1.f1), .int .i64 ((af_ l0 x7_1).f1.f2)]] (by rfl) rfl rfl (by first | rfl | (simp only [List.map_toArray, List.map_cons, List.map_nil]; first | done | rfl)) ?_ | refine RPW.goesV_ Try.func69 (by kernel_rfl) rfl #[.agg #[.string ((af_ l0 x7_1).f0), .string ((af_ l0 x7_1).f1.f0), .int .i64 ((af_ l0 x7_1).f1.f1), .int .i64 ((af_ l0 x7_1).f1.f2)]] (by rfl) rfl rfl rfl (by first | rfl | (simp only [List.map_toArray, List.map_cons, List.map_nil]; first | done | rfl)) ?_ | refine RPW.goesC_ Try.func69 (by kernel_rfl) rfl #[.agg #[.string ((af_ l0 x7_1).f0), .string ((af_ l0 x7_1).f1.f0), .int .i64 ((af_ l0 x7_1).f1.f1), .int .i64 ((af_ l0 x7_1).f1.f2)]] (by rfl) rfl rfl rfl (by first | rfl | (simp only [List.map_toArray, List.map_cons, List.map_nil]; first | done | rfl)) ?_)
    with_reducible refine (cq_.calls k1 ((af_ l0 x7_1).f0) ((af_ l0 x7_1).f1.f0) ((af_ l0 x7_1).f1.f1) ((af_ l0 x7_1).f1.f2) false _ A5.out).mono ?_
    rintro e w27 ⟨rfl, hb⟩
    refine ⟨_, rfl, ?_⟩
    have n0_ := Aside0.mk (aG_ (g := gb102) (o := .cells #[.string ((af_ l0 x7_1).f0), .string ((af_ l0 x7_1).f1.f0), .int .i64 ((af_ l0 x7_1).f1.f1), .int .i64 ((af_ l0 x7_1).f1.f2)] 63 (0, 0)) (kz BK102.out) hb)
    have n1_ := Aside0.mk (ag_ (by repeat (first | (with_reducible first | exact HB.out | apply bA_ | apply bN_ | apply bD_ | refine ac_ ?_ GE102.out) | exact HB.out)) hb)
    clear BK102
    clear HB
    have BK102 := n0_
    have HB := n1_
    clear n0_ n1_
    (try clear hb)
    refine hK.out _ _ ⟨(ab_ BK102.out 0).trans rfl, (ab_ BK102.out 1).trans rfl, (ab_ BK102.out 2).trans rfl, (ab_ BK102.out 3).trans rfl⟩ (fun hHeld => ?_)
    clear hK K
    refine norm_ (a' := ?_) ?_ ?_
    rotate_left
    ·show Act.put _ (some 13) _ = _
     simp only [Act.put, lsa_, ls0_, ls1_, i64_w, i32_w]
     rfl
    refine pure_ (i := 2) (N := some 14) (v := ?_) (a' := ?_) #[t_,t_,t_,f_,f_,f_,f_,f_,f_,f_,f_,f_,f_,f_,f_,f_,f_,f_] rfl rfl (aF_ HT_.out (by kernel_rfl)) (fun _ _ _ h => h) (Or.inl ⟨by rfl, ?_⟩) ?_ ?_
    rotate_left
    ·intro w'
     go_simp
     with_reducible rfl
    rotate_left
    ·simp only [Act.put, lsa_, ls0_, ls1_, i64_w, i32_w]
     rfl
    refine pure_ (i := 3) (N := some 15) (v := ?_) (a' := ?_) #[t_,t_,t_,t_,f_,f_,f_,f_,f_,f_,f_,f_,f_,f_,f_,f_,f_,f_] rfl rfl (aF_ HT_.out (by kernel_rfl)) (fun _ _ _ h => h) (Or.inl ⟨by rfl, ?_⟩) ?_ ?_
    rotate_left
    ·intro w'
     go_simp
     with_reducible rfl
    rotate_left
    ·simp only [Act.put, lsa_, ls0_, ls1_, i64_w, i32_w]
     rfl
    refine pure_ (i := 4) (N := some 16) (v := undef) (a' := ?_) #[t_,t_,t_,t_,t_,f_,f_,f_,f_,f_,f_,f_,f_,f_,f_,f_,f_,f_] rfl rfl (aF_ HT_.out (by kernel_rfl)) (fun _ _ _ h => h) (Or.inr ⟨by rfl, rfl⟩) ?_ ?_
    rotate_left
    ·simp only [Act.put, lsa_, ls0_, ls1_, i64_w, i32_w]
     rfl
    refine pure_ (i := 5) (N := some 17) (v := undef) (a' := ?_) #[t_,t_,t_,t_,t_,t_,f_,f_,f_,f_,f_,f_,f_,f_,f_,f_,f_,f_] rfl rfl (aF_ HT_.out (by kernel_rfl)) (fun _ _ _ h => h) (Or.inr ⟨by rfl, rfl⟩) ?_ ?_
    rotate_left
    ·simp only [Act.put, lsa_, ls0_, ls1_, i64_w, i32_w]
     rfl
    refine pure_ (i := 6) (N := some 18) (v := undef) (a' := ?_) #[t_,t_,t_,t_,t_,t_,t_,f_,f_,f_,f_,f_,f_,f_,f_,f_,f_,f_] rfl rfl (aF_ HT_.out (by kernel_rfl)) (fun _ _ _ h => h) (Or.inr ⟨by rfl, rfl⟩) ?_ ?_
    rotate_left
    ·simp only [Act.put, lsa_, ls0_, ls1_, i64_w, i32_w]
     rfl
    refine pure_ (i := 7) (N := some 19) (v := undef) (a' := ?_) #[t_,t_,t_,t_,t_,t_,t_,t_,f_,f_,f_,f_,f_,f_,f_,f_,f_,f_] rfl rfl (aF_ HT_.out (by kernel_rfl)) (fun _ _ _ h => h) (Or.inr ⟨by rfl, rfl⟩) ?_ ?_
    rotate_left
    ·simp only [Act.put, lsa_, ls0_, ls1_, i64_w, i32_w]
     rfl
    refine pure_ (i := 8) (N := some 20) (v := undef) (a' := ?_) #[t_,t_,t_,t_,t_,t_,t_,t_,t_,f_,f_,f_,f_,f_,f_,f_,f_,f_] rfl rfl (aF_ HT_.out (by kernel_rfl)) (fun _ _ _ h => h) (Or.inr ⟨by rfl, rfl⟩) ?_ ?_
    rotate_left
    ·simp only [Act.put, lsa_, ls0_, ls1_, i64_w, i32_w]
     rfl
    refine pure_ (i := 9) (N := some 21) (v := undef) (a' := ?_) #[t_,t_,t_,t_,t_,t_,t_,t_,t_,t_,f_,f_,f_,f_,f_,f_,f_,f_] rfl rfl (aF_ HT_.out (by kernel_rfl)) (fun _ _ _ h => h) (Or.inr ⟨by rfl, rfl⟩) ?_ ?_
    rotate_left
    ·simp only [Act.put, lsa_, ls0_, ls1_, i64_w, i32_w]
     rfl
    refine pure_ (i := 10) (N := some 22) (v := undef) (a' := ?_) #[t_,t_,t_,t_,t_,t_,t_,t_,t_,t_,t_,f_,f_,f_,f_,f_,f_,f_] rfl rfl (aF_ HT_.out (by kernel_rfl)) (fun _ _ _ h => h) (Or.inr ⟨by rfl, rfl⟩) ?_ ?_
    rotate_left
    ·simp only [Act.put, lsa_, ls0_, ls1_, i64_w, i32_w]
     rfl
    refine pure_ (i := 11) (N := some 23) (v := undef) (a' := ?_) #[t_,t_,t_,t_,t_,t_,t_,t_,t_,t_,t_,t_,f_,f_,f_,f_,f_,f_] rfl rfl (aF_ HT_.out (by kernel_rfl)) (fun _ _ _ h => h) (Or.inr ⟨by rfl, rfl⟩) ?_ ?_
    rotate_left
    ·simp only [Act.put, lsa_, ls0_, ls1_, i64_w, i32_w]
     rfl
    refine pure_ (i := 12) (N := some 24) (v := undef) (a' := ?_) #[t_,t_,t_,t_,t_,t_,t_,t_,t_,t_,t_,t_,t_,f_,f_,f_,f_,f_] rfl rfl (aF_ HT_.out (by kernel_rfl)) (fun _ _ _ h => h) (Or.inr ⟨by rfl, rfl⟩) ?_ ?_
    rotate_left
    ·simp only [Act.put, lsa_, ls0_, ls1_, i64_w, i32_w]
     rfl
    refine pure_ (i := 13) (N := some 25) (v := undef) (a' := ?_) #[t_,t_,t_,t_,t_,t_,t_,t_,t_,t_,t_,t_,t_,t_,f_,f_,f_,f_] rfl rfl (aF_ HT_.out (by kernel_rfl)) (fun _ _ _ h => h) (Or.inr ⟨by rfl, rfl⟩) ?_ ?_
    rotate_left
    ·simp only [Act.put, lsa_, ls0_, ls1_, i64_w, i32_w]
     rfl
    refine pure_ (i := 14) (N := some 26) (v := undef) (a' := ?_) #[t_,t_,t_,t_,t_,t_,t_,t_,t_,t_,t_,t_,t_,t_,t_,f_,f_,f_] rfl rfl (aF_ HT_.out (by kernel_rfl)) (fun _ _ _ h => h) (Or.inr ⟨by rfl, rfl⟩) ?_ ?_
    rotate_left
    ·simp only [Act.put, lsa_, ls0_, ls1_, i64_w, i32_w]
     rfl
    refine pure_ (i := 15) (N := some 27) (v := undef) (a' := ?_) #[t_,t_,t_,t_,t_,t_,t_,t_,t_,t_,t_,t_,t_,t_,t_,t_,f_,f_] rfl rfl (aF_ HT_.out (by kernel_rfl)) (fun _ _ _ h => h) (Or.inr ⟨by rfl, rfl⟩) ?_ ?_
    rotate_left
    ·simp only [Act.put, lsa_, ls0_, ls1_, i64_w, i32_w]
     rfl
    refine pure_ (i := 16) (N := some 28) (v := undef) (a' := ?_) #[t_,t_,t_,t_,t_,t_,t_,t_,t_,t_,t_,t_,t_,t_,t_,t_,t_,f_] rfl rfl (aF_ HT_.out (by kernel_rfl)) (fun _ _ _ h => h) (Or.inr ⟨by rfl, rfl⟩) ?_ ?_
    rotate_left
    ·simp only [Act.put, lsa_, ls0_, ls1_, i64_w, i32_w]
     rfl
    refine pure_ (i := 17) (N := some 29) (v := ?_) (a' := ?_) #[t_,t_,t_,t_,t_,t_,t_,t_,t_,t_,t_,t_,t_,t_,t_,t_,t_,t_] rfl rfl (aF_ HT_.out (by kernel_rfl)) (fun _ _ _ h => h) (Or.inl ⟨by rfl, ?_⟩) ?_ ?_
    rotate_left
    ·intro w'
     go_simp
     with_reducible rfl
    rotate_left
    ·simp only [Act.put, lsa_, ls0_, ls1_, i64_w, i32_w]
     rfl
    refine done_ (dA_ HT_.out (by kernel_rfl)) ?_
    try go_wp2
    go_ret
    exact ⟨by first | rfl | (simp [*, an_, ao_] <;> rfl), by repeat (first | (with_reducible first | exact HB.out | apply bA_ | apply bN_ | apply bD_ | refine ac_ ?_ GE102.out) | exact HB.out)⟩
   subst c6
   have H1 : (if x7_1 > 0 then (if 0 ≤ (wrap64 (x7_1 - 1)) then (if (wrap64 (x7_1 - 1)) < (l0.length : Int) then (if ((Op.bytesLess (((af_ l0 (wrap64 (x7_1 - 1))).f0).toList) (((af_ l0 x7_1).f0).toList)) = true) then (ap_.l0 k1 l0 l0 (l0.length : Int) (wrap64 (x7_1 + 1))) else (some false)) else (none)) else (none)) else (ap_.l0 k1 l0 l0 (l0.length : Int) (wrap64 (x7_1 + 1)))) = some r := by rw [if_pos rfl] at H; exact H
   clear H
   have H := H1
   clear H1
   by_cases c7 : x7_1 > 0
   rotate_left
   ·rw [if_neg c7] at H
    have c7b0 : decide (0 < x7_1) = false := decide_eq_false c7
    clear c7
    have H' := Aside0.mk H
    clear H
    have p101 : 0 ≤ (x7_1 : Int) := of_decide_eq_true (by assumption)
    have q101 : x7_1 < (l0.length : Int) := of_decide_eq_true (by assumption)
    obtain ⟨ad101, e101, hx101_0, hx101_1, hx101_2, hx101_3⟩ := cm_ HR0.out x7_1 p101 q101
    cases e101
    replace hx101_0 := (HB.out.cell (bl_ w _ hx101_0)).trans hx101_0
    replace hx101_1 := (HB.out.cell (bl_ w _ hx101_1)).trans hx101_1
    replace hx101_2 := (HB.out.cell (bl_ w _ hx101_2)).trans hx101_2
    replace hx101_3 := (HB.out.cell (bl_ w _ hx101_3)).trans hx101_3
    replace p101 := eq_true p101
    replace q101 := eq_true q101
    try go_wp2_with (first | ((with_reducible refine au_ (N := 4) rfl ?_); refine aQ_ ?hg (N := 4) ?hd (cs := #[.string (⟨#[]⟩ : ByteArray), .string (⟨#[]⟩ : ByteArray), .int .i64 0, .int .i64 0]) (t := 63) ?hr ?_; (case hd => rfl); (case hg => rfl); (case hr => (go_simp; try rfl)); intro gb102 hg w18 hbox hb; have BK102 := Aside0.mk (hbox); have GW102 := Aside0.mk ((by rw [hg]; exact (ae_ (bz HB.out)) : w.heap.size ≤ gb102)); have GE102 := Aside0.mk ((by rw [hg]; exact (ae_ (bz HB.out)) : w.heap.size ≤ gb102)); replace HB := Aside0.mk (ag_ (bz HB.out) hb); clear hb hbox hg; have hcz19_0 : w18.cell? ⟨gb102, 0, none⟩ = some (.string (⟨#[]⟩ : ByteArray)) := (ab_ BK102.out 0).trans rfl; have hcz19_1 : w18.cell? ⟨gb102, 1, none⟩ = some (.string (⟨#[]⟩ : ByteArray)) := (ab_ BK102.out 1).trans rfl; have hcz19_2 : w18.cell? ⟨gb102, 2, none⟩ = some (.int .i64 0) := (ab_ BK102.out 2).trans rfl; have hcz19_3 : w18.cell? ⟨gb102, 3, none⟩ = some (.int .i64 0) := (ab_ BK102.out 3).trans rfl; have hfz19_0 := aa_ BK102.out 0; have hfz19_1 := aa_ BK102.out 1; have hfz19_2 := aa_ BK102.out 2; have hfz19_3 := aa_ BK102.out 3))
    have n0_ : Aside0 (((((w18.setCell ⟨gb102, 0, none⟩ (.string ((af_ l0 x7_1).f0))).setCell ⟨gb102, 1, none⟩ (.string ((af_ l0 x7_1).f1.f0))).setCell ⟨gb102, 2, none⟩ (.int .i64 ((af_ l0 x7_1).f1.f1))).setCell ⟨gb102, 3, none⟩ (.int .i64 ((af_ l0 x7_1).f1.f2))).heap[gb102]? = some (.cells #[.string ((af_ l0 x7_1).f0), .string ((af_ l0 x7_1).f1.f0), .int .i64 ((af_ l0 x7_1).f1.f1), .int .i64 ((af_ l0 x7_1).f1.f2)] 63 (0, 0))) := ⟨by (with_reducible repeat (first | refine ai_ ?_ _ | refine aj_ ?_ | refine ah_ ?_ _)); refine aB_ (cs := #[.string ((af_ l0 x7_1).f0), .string ((af_ l0 x7_1).f1.f0), .int .i64 ((af_ l0 x7_1).f1.f1), .int .i64 0]) ?_ 3 _ rfl; (with_reducible repeat (first | refine ai_ ?_ _ | refine aj_ ?_ | refine ah_ ?_ _)); refine aB_ (cs := #[.string ((af_ l0 x7_1).f0), .string ((af_ l0 x7_1).f1.f0), .int .i64 0, .int .i64 0]) ?_ 2 _ rfl; (with_reducible repeat (first | refine ai_ ?_ _ | refine aj_ ?_ | refine ah_ ?_ _)); refine aB_ (cs := #[.string ((af_ l0 x7_1).f0), .string (⟨#[]⟩ : ByteArray), .int .i64 0, .int .i64 0]) ?_ 1 _ rfl; (with_reducible repeat (first | refine ai_ ?_ _ | refine aj_ ?_ | refine ah_ ?_ _)); refine aB_ (cs := #[.string (⟨#[]⟩ : ByteArray), .string (⟨#[]⟩ : ByteArray), .int .i64 0, .int .i64 0]) ?_ 0 _ rfl; (with_reducible repeat (first | refine ai_ ?_ _ | refine aj_ ?_ | refine ah_ ?_ _)); exact BK102.out⟩
    have n1_ : Aside0 (Below w.heap.size w ((((w18.setCell ⟨gb102, 0, none⟩ (.string ((af_ l0 x7_1).f0))).setCell ⟨gb102, 1, none⟩ (.string ((af_ l0 x7_1).f1.f0))).setCell ⟨gb102, 2, none⟩ (.int .i64 ((af_ l0 x7_1).f1.f1))).setCell ⟨gb102, 3, none⟩ (.int .i64 ((af_ l0 x7_1).f1.f2)))) := ⟨by repeat (first | (with_reducible first | exact HB.out | apply bA_ | apply bN_ | apply bD_ | refine ac_ ?_ GE102.out) | exact HB.out)⟩
    (try clear BK102)
    (try clear HB)
    generalize ((((w18.setCell ⟨gb102, 0, none⟩ (.string ((af_ l0 x7_1).f0))).setCell ⟨gb102, 1, none⟩ (.string ((af_ l0 x7_1).f1.f0))).setCell ⟨gb102, 2, none⟩ (.int .i64 ((af_ l0 x7_1).f1.f1))).setCell ⟨gb102, 3, none⟩ (.int .i64 ((af_ l0 x7_1).f1.f2))) = w20 at n0_ n1_ ⊢
    have BK102 := n0_
    have HB := n1_
    clear n0_ n1_
    have n0_ := Aside0.mk (aj_ BK102.out)
    have n1_ := Aside0.mk (bD_ HB.out)
    clear BK102
    clear HB
    have BK102 := n0_
    have HB := n1_
    clear n0_ n1_
    refine start_ (n := 18) (S := fun w' => w'.cell? ⟨gb102, 0, none⟩ = some (.string ((af_ l0 x7_1).f0)) ∧ w'.cell? ⟨gb102, 1, none⟩ = some (.string ((af_ l0 x7_1).f1.f0)) ∧ w'.cell? ⟨gb102, 2, none⟩ = some (.int .i64 ((af_ l0 x7_1).f1.f1)) ∧ w'.cell? ⟨gb102, 3, none⟩ = some (.int .i64 ((af_ l0 x7_1).f1.f2))) (ds := []) #[f_,f_,f_,f_,f_,f_,f_,f_,f_,f_,f_,f_,f_,f_,f_,f_,f_,f_] (by kernel_rfl) rfl rfl ⟨(ab_ BK102.out 0).trans rfl, (ab_ BK102.out 1).trans rfl, (ab_ BK102.out 2).trans rfl, (ab_ BK102.out 3).trans rfl⟩ (fun hHeld => ?_); refine cS_ ap_.tab4 ap_.bits4 (fun HT_ HW_ => ?_)
    generalize w20.drew = w21 at BK102 HB hHeld ⊢
    refine take_ (i := 0) (N := some 12) (v := ?_) (a' := ?_) #[t_,f_,f_,f_,f_,f_,f_,f_,f_,f_,f_,f_,f_,f_,f_,f_,f_,f_] rfl rfl (cJ_ HT_.out HW_.out (by kernel_rfl)) (fun _ _ _ h => h) (Or.inl ⟨by rfl, ?_⟩) hHeld ?_ ?_
    rotate_left
    ·rintro w' ⟨s0, s1, s2, s3⟩
     go_simp
     with_reducible rfl
    rotate_left
    ·simp only [Act.put, lsa_, ls0_, ls1_, i64_w, i32_w]
     rfl
    refine one_ (i := 1) (N := some 13) #[t_,t_,f_,f_,f_,f_,f_,f_,f_,f_,f_,f_,f_,f_,f_,f_,f_,f_] rfl rfl (dD_ HT_.out (by kernel_rfl)) (by decide) (fun K hK => ?_)
    (first | refine goes_ Try.func69 (by kernel_rfl) rfl #[.agg #[.string ((af_ l0 x7_1).f0), .string ((af_ l0 x7_1).f1.f0), .int .i64 ((af_ l0 x7_1).f1.f1), .int .i64 ((af_ l0 x7_1).f1.f2)]] (by rfl) rfl rfl (by first | rfl | (simp only [List.map_toArray, List.map_cons, List.map_nil]; first | done | rfl)) ?_ | refine RPW.goesV_ Try.func69 (by kernel_rfl) rfl #[.agg #[.string ((af_ l0 x7_1).f0), .string ((af_ l0 x7_1).f1.f0), .int .i64 ((af_ l0 x7_1).f1.f1), .int .i64 ((af_ l0 x7_1).f1.f2)]] (by rfl) rfl rfl rfl (by first | rfl | (simp only [List.map_toArray, List.map_cons, List.map_nil]; first | done | rfl)) ?_ | refine RPW.goesC_ Try.func69 (by kernel_rfl) rfl #[.agg #[.string ((af_ l0 x7_1).f0), .string ((af_ l0 x7_1).f1.f0), .int .i64 ((af_ l0 x7_1).f1.f1), .int .i64 ((af_ l0 x7_1).f1.f2)]] (by rfl) rfl rfl rfl (by first | rfl | (simp only [List.map_toArray, List.map_cons, List.map_nil]; first | done | rfl)) ?_)
    with_reducible refine (cq_.calls k1 ((af_ l0 x7_1).f0) ((af_ l0 x7_1).f1.f0) ((af_ l0 x7_1).f1.f1) ((af_ l0 x7_1).f1.f2) true _ A5.out).mono ?_
    rintro e w22 ⟨rfl, hb⟩
    refine ⟨_, rfl, ?_⟩
    have n0_ := Aside0.mk (aG_ (g := gb102) (o := .cells #[.string ((af_ l0 x7_1).f0), .string ((af_ l0 x7_1).f1.f0), .int .i64 ((af_ l0 x7_1).f1.f1), .int .i64 ((af_ l0 x7_1).f1.f2)] 63 (0, 0)) (kz BK102.out) hb)
    have n1_ := Aside0.mk (ag_ (by repeat (first | (with_reducible first | exact HB.out | apply bA_ | apply bN_ | apply bD_ | refine ac_ ?_ GE102.out) | exact HB.out)) hb)
    clear BK102
    clear HB
    have BK102 := n0_
    have HB := n1_
    clear n0_ n1_
    (try clear hb)
    refine hK.out _ _ ⟨(ab_ BK102.out 0).trans rfl, (ab_ BK102.out 1).trans rfl, (ab_ BK102.out 2).trans rfl, (ab_ BK102.out 3).trans rfl⟩ (fun hHeld => ?_)
    clear hK K
    refine norm_ (a' := ?_) ?_ ?_
    rotate_left
    ·show Act.put _ (some 13) _ = _
     simp only [Act.put, lsa_, ls0_, ls1_, i64_w, i32_w]
     rfl
    refine pure_ (i := 2) (N := some 14) (v := ?_) (a' := ?_) #[t_,t_,t_,f_,f_,f_,f_,f_,f_,f_,f_,f_,f_,f_,f_,f_,f_,f_] rfl rfl (aF_ HT_.out (by kernel_rfl)) (fun _ _ _ h => h) (Or.inl ⟨by rfl, ?_⟩) ?_ ?_
    rotate_left
    ·intro w'
     go_simp
     with_reducible rfl
    rotate_left
    ·simp only [Act.put, lsa_, ls0_, ls1_, i64_w, i32_w]
     rfl
    refine pure_ (i := 3) (N := some 15) (v := ?_) (a' := ?_) #[t_,t_,t_,t_,f_,f_,f_,f_,f_,f_,f_,f_,f_,f_,f_,f_,f_,f_] rfl rfl (aF_ HT_.out (by kernel_rfl)) (fun _ _ _ h => h) (Or.inl ⟨by rfl, ?_⟩) ?_ ?_
    rotate_left
    ·intro w'
     go_simp
     with_reducible rfl
    rotate_left
    ·simp only [Act.put, lsa_, ls0_, ls1_, i64_w, i32_w]
     rfl
    refine pure_ (i := 4) (N := some 16) (v := ?_) (a' := ?_) #[t_,t_,t_,t_,t_,f_,f_,f_,f_,f_,f_,f_,f_,f_,f_,f_,f_,f_] rfl rfl (aF_ HT_.out (by kernel_rfl)) (fun _ _ _ h => h) (Or.inl ⟨by rfl, ?_⟩) ?_ ?_
    rotate_left
    ·intro w'
     go_simp
     with_reducible rfl
    rotate_left
    ·simp only [Act.put, lsa_, ls0_, ls1_, i64_w, i32_w]
     rfl
    refine pure_ (i := 5) (N := some 17) (v := ?_) (a' := ?_) #[t_,t_,t_,t_,t_,t_,f_,f_,f_,f_,f_,f_,f_,f_,f_,f_,f_,f_] rfl rfl (aF_ HT_.out (by kernel_rfl)) (fun _ _ _ h => h) (Or.inl ⟨by rfl, ?_⟩) ?_ ?_
    rotate_left
    ·intro w'
     go_simp
     with_reducible rfl
    rotate_left
    ·simp only [Act.put, lsa_, ls0_, ls1_, i64_w, i32_w]
     rfl
    refine pure_ (i := 6) (N := some 18) (v := ?_) (a' := ?_) #[t_,t_,t_,t_,t_,t_,t_,f_,f_,f_,f_,f_,f_,f_,f_,f_,f_,f_] rfl rfl (aF_ HT_.out (by kernel_rfl)) (fun _ _ _ h => h) (Or.inl ⟨by rfl, ?_⟩) ?_ ?_
    rotate_left
    ·intro w'
     go_simp
     with_reducible rfl
    rotate_left
    ·simp only [Act.put, lsa_, ls0_, ls1_, i64_w, i32_w]
     rfl
    refine pure_ (i := 7) (N := some 19) (v := undef) (a' := ?_) #[t_,t_,t_,t_,t_,t_,t_,t_,f_,f_,f_,f_,f_,f_,f_,f_,f_,f_] rfl rfl (aF_ HT_.out (by kernel_rfl)) (fun _ _ _ h => h) (Or.inr ⟨by rfl, rfl⟩) ?_ ?_
    rotate_left
    ·simp only [Act.put, lsa_, ls0_, ls1_, i64_w, i32_w]
     rfl
    refine pure_ (i := 8) (N := some 20) (v := undef) (a' := ?_) #[t_,t_,t_,t_,t_,t_,t_,t_,t_,f_,f_,f_,f_,f_,f_,f_,f_,f_] rfl rfl (aF_ HT_.out (by kernel_rfl)) (fun _ _ _ h => h) (Or.inr ⟨by rfl, rfl⟩) ?_ ?_
    rotate_left
    ·simp only [Act.put, lsa_, ls0_, ls1_, i64_w, i32_w]
     rfl
    refine pure_ (i := 9) (N := some 21) (v := undef) (a' := ?_) #[t_,t_,t_,t_,t_,t_,t_,t_,t_,t_,f_,f_,f_,f_,f_,f_,f_,f_] rfl rfl (aF_ HT_.out (by kernel_rfl)) (fun _ _ _ h => h) (Or.inr ⟨by rfl, rfl⟩) ?_ ?_
    rotate_left
    ·simp only [Act.put, lsa_, ls0_, ls1_, i64_w, i32_w]
     rfl
    refine pure_ (i := 10) (N := some 22) (v := undef) (a' := ?_) #[t_,t_,t_,t_,t_,t_,t_,t_,t_,t_,t_,f_,f_,f_,f_,f_,f_,f_] rfl rfl (aF_ HT_.out (by kernel_rfl)) (fun _ _ _ h => h) (Or.inr ⟨by rfl, rfl⟩) ?_ ?_
    rotate_left
    ·simp only [Act.put, lsa_, ls0_, ls1_, i64_w, i32_w]
     rfl
    refine pure_ (i := 11) (N := some 23) (v := undef) (a' := ?_) #[t_,t_,t_,t_,t_,t_,t_,t_,t_,t_,t_,t_,f_,f_,f_,f_,f_,f_] rfl rfl (aF_ HT_.out (by kernel_rfl)) (fun _ _ _ h => h) (Or.inr ⟨by rfl, rfl⟩) ?_ ?_
    rotate_left
    ·simp only [Act.put, lsa_, ls0_, ls1_, i64_w, i32_w]
     rfl
    refine pure_ (i := 12) (N := some 24) (v := undef) (a' := ?_) #[t_,t_,t_,t_,t_,t_,t_,t_,t_,t_,t_,t_,t_,f_,f_,f_,f_,f_] rfl rfl (aF_ HT_.out (by kernel_rfl)) (fun _ _ _ h => h) (Or.inr ⟨by rfl, rfl⟩) ?_ ?_
    rotate_left
    ·simp only [Act.put, lsa_, ls0_, ls1_, i64_w, i32_w]
     rfl
    refine pure_ (i := 13) (N := some 25) (v := undef) (a' := ?_) #[t_,t_,t_,t_,t_,t_,t_,t_,t_,t_,t_,t_,t_,t_,f_,f_,f_,f_] rfl rfl (aF_ HT_.out (by kernel_rfl)) (fun _ _ _ h => h) (Or.inr ⟨by rfl, rfl⟩) ?_ ?_
    rotate_left
    ·simp only [Act.put, lsa_, ls0_, ls1_, i64_w, i32_w]
     rfl
    refine pure_ (i := 14) (N := some 26) (v := undef) (a' := ?_) #[t_,t_,t_,t_,t_,t_,t_,t_,t_,t_,t_,t_,t_,t_,t_,f_,f_,f_] rfl rfl (aF_ HT_.out (by kernel_rfl)) (fun _ _ _ h => h) (Or.inr ⟨by rfl, rfl⟩) ?_ ?_
    rotate_left
    ·simp only [Act.put, lsa_, ls0_, ls1_, i64_w, i32_w]
     rfl
    refine pure_ (i := 15) (N := some 27) (v := undef) (a' := ?_) #[t_,t_,t_,t_,t_,t_,t_,t_,t_,t_,t_,t_,t_,t_,t_,t_,f_,f_] rfl rfl (aF_ HT_.out (by kernel_rfl)) (fun _ _ _ h => h) (Or.inr ⟨by rfl, rfl⟩) ?_ ?_
    rotate_left
    ·simp only [Act.put, lsa_, ls0_, ls1_, i64_w, i32_w]
     rfl
    refine pure_ (i := 16) (N := some 28) (v := ?_) (a' := ?_) #[t_,t_,t_,t_,t_,t_,t_,t_,t_,t_,t_,t_,t_,t_,t_,t_,t_,f_] rfl rfl (aF_ HT_.out (by kernel_rfl)) (fun _ _ _ h => h) (Or.inl ⟨by rfl, ?_⟩) ?_ ?_
    rotate_left
    ·intro w'
     go_simp
     with_reducible rfl
    rotate_left
    ·simp only [Act.put, lsa_, ls0_, ls1_, i64_w, i32_w]
     rfl
    refine pure_ (i := 17) (N := some 29) (v := ?_) (a' := ?_) #[t_,t_,t_,t_,t_,t_,t_,t_,t_,t_,t_,t_,t_,t_,t_,t_,t_,t_] rfl rfl (aF_ HT_.out (by kernel_rfl)) (fun _ _ _ h => h) (Or.inl ⟨by rfl, ?_⟩) ?_ ?_
    rotate_left
    ·intro w'
     go_simp
     with_reducible rfl
    rotate_left
    ·simp only [Act.put, lsa_, ls0_, ls1_, i64_w, i32_w]
     rfl
    refine done_ (dA_ HT_.out (by kernel_rfl)) ?_
    try go_wp2
    go_roundg k1
    case measure => have := HK1.out; omega
    case rel => exact ⟨(wrap64 (x7_1 + 1)), (by first | rfl | (simp; done) | (simp [*]; done)), H', ⟨by have := HK1.out; omega⟩, ⟨by repeat (first | (with_reducible first | exact HB.out | apply bA_ | apply bN_ | apply bD_ | refine ac_ ?_ GE102.out) | exact HB.out)⟩⟩
   rw [if_pos c7] at H
   have c7b0 : decide (0 < x7_1) = true := decide_eq_true c7
   clear c7
   obtain ⟨ji8, hji8⟩ : ∃ j_ : Int, (wrap64 (x7_1 - 1)) = j_ := ⟨_, rfl⟩
   replace H : (if 0 ≤ (ji8) then (if (ji8) < (l0.length : Int) then (if ((Op.bytesLess (((af_ l0 (ji8)).f0).toList) (((af_ l0 x7_1).f0).toList)) = true) then (ap_.l0 k1 l0 l0 (l0.length : Int) (wrap64 (x7_1 + 1))) else (some false)) else (none)) else (none)) = some r := by first | (rw [hji8] at H; exact H) | (simp only [hji8] at H ⊢; exact H)
   (try rw [hji8] at A5)
   have hji8w : (IntKind.i64.wrap (x7_1 - 1)) = ji8 := (i64_w _).trans hji8
   by_cases c9 : 0 ≤ (ji8)
   rotate_left
   ·rw [if_neg c9] at H
    exact absurd H (by simp)
   rw [if_pos c9] at H
   have c9b0 : decide (0 ≤ (ji8)) = true := decide_eq_true c9
   clear c9
   by_cases c10 : (ji8) < (l0.length : Int)
   rotate_left
   ·rw [if_neg c10] at H
    exact absurd H (by simp)
   rw [if_pos c10] at H
   have c10b0 : decide ((ji8) < (l0.length : Int)) = true := decide_eq_true c10
   clear c10
   have HC11 := Aside0.mk H
   clear H
   have p101 : 0 ≤ (x7_1 : Int) := of_decide_eq_true (by assumption)
   have q101 : x7_1 < (l0.length : Int) := of_decide_eq_true (by assumption)
   obtain ⟨ad101, e101, hx101_0, hx101_1, hx101_2, hx101_3⟩ := cm_ HR0.out x7_1 p101 q101
   cases e101
   replace hx101_0 := (HB.out.cell (bl_ w _ hx101_0)).trans hx101_0
   replace hx101_1 := (HB.out.cell (bl_ w _ hx101_1)).trans hx101_1
   replace hx101_2 := (HB.out.cell (bl_ w _ hx101_2)).trans hx101_2
   replace hx101_3 := (HB.out.cell (bl_ w _ hx101_3)).trans hx101_3
   replace p101 := eq_true p101
   replace q101 := eq_true q101
   try go_wp2_with (first | ((with_reducible refine au_ (N := 4) rfl ?_); refine aQ_ ?hg (N := 4) ?hd (cs := #[.string (⟨#[]⟩ : ByteArray), .string (⟨#[]⟩ : ByteArray), .int .i64 0, .int .i64 0]) (t := 63) ?hr ?_; (case hd => rfl); (case hg => rfl); (case hr => (go_simp; try rfl)); intro gb102 hg w12 hbox hb; have BK102 := Aside0.mk (hbox); have GW102 := Aside0.mk ((by rw [hg]; exact (ae_ (bz HB.out)) : w.heap.size ≤ gb102)); have GE102 := Aside0.mk ((by rw [hg]; exact (ae_ (bz HB.out)) : w.heap.size ≤ gb102)); replace HB := Aside0.mk (ag_ (bz HB.out) hb); clear hb hbox hg; have hcz13_0 : w12.cell? ⟨gb102, 0, none⟩ = some (.string (⟨#[]⟩ : ByteArray)) := (ab_ BK102.out 0).trans rfl; have hcz13_1 : w12.cell? ⟨gb102, 1, none⟩ = some (.string (⟨#[]⟩ : ByteArray)) := (ab_ BK102.out 1).trans rfl; have hcz13_2 : w12.cell? ⟨gb102, 2, none⟩ = some (.int .i64 0) := (ab_ BK102.out 2).trans rfl; have hcz13_3 : w12.cell? ⟨gb102, 3, none⟩ = some (.int .i64 0) := (ab_ BK102.out 3).trans rfl; have hfz13_0 := aa_ BK102.out 0; have hfz13_1 := aa_ BK102.out 1; have hfz13_2 := aa_ BK102.out 2; have hfz13_3 := aa_ BK102.out 3))
   have n0_ : Aside0 (((((w12.setCell ⟨gb102, 0, none⟩ (.string ((af_ l0 x7_1).f0))).setCell ⟨gb102, 1, none⟩ (.string ((af_ l0 x7_1).f1.f0))).setCell ⟨gb102, 2, none⟩ (.int .i64 ((af_ l0 x7_1).f1.f1))).setCell ⟨gb102, 3, none⟩ (.int .i64 ((af_ l0 x7_1).f1.f2))).heap[gb102]? = some (.cells #[.string ((af_ l0 x7_1).f0), .string ((af_ l0 x7_1).f1.f0), .int .i64 ((af_ l0 x7_1).f1.f1), .int .i64 ((af_ l0 x7_1).f1.f2)] 63 (0, 0))) := ⟨by (with_reducible repeat (first | refine ai_ ?_ _ | refine aj_ ?_ | refine ah_ ?_ _)); refine aB_ (cs := #[.string ((af_ l0 x7_1).f0), .string ((af_ l0 x7_1).f1.f0), .int .i64 ((af_ l0 x7_1).f1.f1), .int .i64 0]) ?_ 3 _ rfl; (with_reducible repeat (first | refine ai_ ?_ _ | refine aj_ ?_ | refine ah_ ?_ _)); refine aB_ (cs := #[.string ((af_ l0 x7_1).f0), .string ((af_ l0 x7_1).f1.f0), .int .i64 0, .int .i64 0]) ?_ 2 _ rfl; (with_reducible repeat (first | refine ai_ ?_ _ | refine aj_ ?_ | refine ah_ ?_ _)); refine aB_ (cs := #[.string ((af_ l0 x7_1).f0), .string (⟨#[]⟩ : ByteArray), .int .i64 0, .int .i64 0]) ?_ 1 _ rfl; (with_reducible repeat (first | refine ai_ ?_ _ | refine aj_ ?_ | refine ah_ ?_ _)); refine aB_ (cs := #[.string (⟨#[]⟩ : ByteArray), .string (⟨#[]⟩ : ByteArray), .int .i64 0, .int .i64 0]) ?_ 0 _ rfl; (with_reducible repeat (first | refine ai_ ?_ _ | refine aj_ ?_ | refine ah_ ?_ _)); exact BK102.out⟩
   have n1_ : Aside0 (Below w.heap.size w ((((w12.setCell ⟨gb102, 0, none⟩ (.string ((af_ l0 x7_1).f0))).setCell ⟨gb102, 1, none⟩ (.string ((af_ l0 x7_1).f1.f0))).setCell ⟨gb102, 2, none⟩ (.int .i64 ((af_ l0 x7_1).f1.f1))).setCell ⟨gb102, 3, none⟩ (.int .i64 ((af_ l0 x7_1).f1.f2)))) := ⟨by repeat (first | (with_reducible first | exact HB.out | apply bA_ | apply bN_ | apply bD_ | refine ac_ ?_ GE102.out) | exact HB.out)⟩
   (try clear BK102)
   (try clear HB)
   generalize ((((w12.setCell ⟨gb102, 0, none⟩ (.string ((af_ l0 x7_1).f0))).setCell ⟨gb102, 1, none⟩ (.string ((af_ l0 x7_1).f1.f0))).setCell ⟨gb102, 2, none⟩ (.int .i64 ((af_ l0 x7_1).f1.f1))).setCell ⟨gb102, 3, none⟩ (.int .i64 ((af_ l0 x7_1).f1.f2))) = w14 at n0_ n1_ ⊢
   have BK102 := n0_
   have HB := n1_
   clear n0_ n1_
   have n0_ := Aside0.mk (aj_ BK102.out)
   have n1_ := Aside0.mk (bD_ HB.out)
   clear BK102
   clear HB
   have BK102 := n0_
   have HB := n1_
   clear n0_ n1_
   have p104 : 0 ≤ ((ji8) : Int) := of_decide_eq_true (by assumption)
   have q104 : (ji8) < (l0.length : Int) := of_decide_eq_true (by assumption)
   obtain ⟨ad104, e104, hx104_0, hx104_1, hx104_2, hx104_3⟩ := cm_ HR0.out (ji8) p104 q104
   have hw104_3 := hx104_3
   have hw104_2 := hx104_2
   have hw104_1 := hx104_1
   have hw104_0 := hx104_0
   obtain rfl : ad101 = ad104 := (by injection e104)
   replace hx104_0 := (HB.out.cell (bl_ w _ hx104_0)).trans hx104_0
   replace hx104_1 := (HB.out.cell (bl_ w _ hx104_1)).trans hx104_1
   replace hx104_2 := (HB.out.cell (bl_ w _ hx104_2)).trans hx104_2
   replace hx104_3 := (HB.out.cell (bl_ w _ hx104_3)).trans hx104_3
   replace p104 := eq_true p104
   replace q104 := eq_true q104
   refine start_ (n := 18) (S := fun w' => w'.cell? ⟨gb102, 0, none⟩ = some (.string ((af_ l0 x7_1).f0)) ∧ w'.cell? ⟨gb102, 1, none⟩ = some (.string ((af_ l0 x7_1).f1.f0)) ∧ w'.cell? ⟨gb102, 2, none⟩ = some (.int .i64 ((af_ l0 x7_1).f1.f1)) ∧ w'.cell? ⟨gb102, 3, none⟩ = some (.int .i64 ((af_ l0 x7_1).f1.f2)) ∧ w'.cell? (ad101.add (((ji8)).toNat * 4)) = some (.string ((af_ l0 (ji8)).f0)) ∧ w'.cell? ⟨(ad101.add (((ji8)).toNat * 4)).block, (ad101.add (((ji8)).toNat * 4)).off + 1, none⟩ = some (.string ((af_ l0 (ji8)).f1.f0)) ∧ w'.cell? ⟨(ad101.add (((ji8)).toNat * 4)).block, (ad101.add (((ji8)).toNat * 4)).off + 2, none⟩ = some (.int .i64 ((af_ l0 (ji8)).f1.f1)) ∧ w'.cell? ⟨(ad101.add (((ji8)).toNat * 4)).block, (ad101.add (((ji8)).toNat * 4)).off + 3, none⟩ = some (.int .i64 ((af_ l0 (ji8)).f1.f2))) (ds := []) #[f_,f_,f_,f_,f_,f_,f_,f_,f_,f_,f_,f_,f_,f_,f_,f_,f_,f_] (by kernel_rfl) rfl rfl ⟨(ab_ BK102.out 0).trans rfl, (ab_ BK102.out 1).trans rfl, (ab_ BK102.out 2).trans rfl, (ab_ BK102.out 3).trans rfl, ((HB.out.cell (bl_ w _ hw104_0)).trans hw104_0), ((HB.out.cell (bl_ w _ hw104_1)).trans hw104_1), ((HB.out.cell (bl_ w _ hw104_2)).trans hw104_2), ((HB.out.cell (bl_ w _ hw104_3)).trans hw104_3)⟩ (fun hHeld => ?_); refine cS_ ap_.tab4 ap_.bits4 (fun HT_ HW_ => ?_)
   generalize w14.drew = w15 at BK102 HB hx104_0 hx104_1 hx104_2 hx104_3 hHeld ⊢
   refine take_ (i := 0) (N := some 12) (v := ?_) (a' := ?_) #[t_,f_,f_,f_,f_,f_,f_,f_,f_,f_,f_,f_,f_,f_,f_,f_,f_,f_] rfl rfl (cJ_ HT_.out HW_.out (by kernel_rfl)) (fun _ _ _ h => h) (Or.inl ⟨by rfl, ?_⟩) hHeld ?_ ?_
   rotate_left
   ·rintro w' ⟨s0, s1, s2, s3, s4, s5, s6, s7⟩
    go_simp
    with_reducible rfl
   rotate_left
   ·simp only [Act.put, lsa_, ls0_, ls1_, i64_w, i32_w]
    rfl
   refine one_ (i := 1) (N := some 13) #[t_,t_,f_,f_,f_,f_,f_,f_,f_,f_,f_,f_,f_,f_,f_,f_,f_,f_] rfl rfl (dD_ HT_.out (by kernel_rfl)) (by decide) (fun K hK => ?_)
   (first | refine goes_ Try.func69 (by kernel_rfl) rfl #[.agg #[.string ((af_ l0 x7_1).f0), .string ((af_ l0 x7_1).f1.f0), .int .i64 ((af_ l0 x7_1).f1.f1), .int .i64 ((af_ l0 x7_1).f1.f2)]] (by rfl) rfl rfl (by first | rfl | (simp only [List.map_toArray, List.map_cons, List.map_nil]; first | done | rfl)) ?_ | refine RPW.goesV_ Try.func69 (by kernel_rfl) rfl #[.agg #[.string ((af_ l0 x7_1).f0), .string ((af_ l0 x7_1).f1.f0), .int .i64 ((af_ l0 x7_1).f1.f1), .int .i64 ((af_ l0 x7_1).f1.f2)]] (by rfl) rfl rfl rfl (by first | rfl | (simp only [List.map_toArray, List.map_cons, List.map_nil]; first | done | rfl)) ?_ | refine RPW.goesC_ Try.func69 (by kernel_rfl) rfl #[.agg #[.string ((af_ l0 x7_1).f0), .string ((af_ l0 x7_1).f1.f0), .int .i64 ((af_ l0 x7_1).f1.f1), .int .i64 ((af_ l0 x7_1).f1.f2)]] (by rfl) rfl rfl rfl (by first | rfl | (simp only [List.map_toArray, List.map_cons, List.map_nil]; first | done | rfl)) ?_)
   with_reducible refine (cq_.calls k1 ((af_ l0 x7_1).f0) ((af_ l0 x7_1).f1.f0) ((af_ l0 x7_1).f1.f1) ((af_ l0 x7_1).f1.f2) true _ A5.out).mono ?_
   rintro e w16 ⟨rfl, hb⟩
   refine ⟨_, rfl, ?_⟩
   have n0_ := Aside0.mk (aG_ (g := gb102) (o := .cells #[.string ((af_ l0 x7_1).f0), .string ((af_ l0 x7_1).f1.f0), .int .i64 ((af_ l0 x7_1).f1.f1), .int .i64 ((af_ l0 x7_1).f1.f2)] 63 (0, 0)) (kz BK102.out) hb)
   have n1_ := Aside0.mk (ag_ (by repeat (first | (with_reducible first | exact HB.out | apply bA_ | apply bN_ | apply bD_ | refine ac_ ?_ GE102.out) | exact HB.out)) hb)
   clear BK102
   clear HB
   have BK102 := n0_
   have HB := n1_
   clear n0_ n1_
   (try clear hb)
   refine hK.out _ _ ⟨(ab_ BK102.out 0).trans rfl, (ab_ BK102.out 1).trans rfl, (ab_ BK102.out 2).trans rfl, (ab_ BK102.out 3).trans rfl, ((HB.out.cell (bl_ w _ hw104_0)).trans hw104_0), ((HB.out.cell (bl_ w _ hw104_1)).trans hw104_1), ((HB.out.cell (bl_ w _ hw104_2)).trans hw104_2), ((HB.out.cell (bl_ w _ hw104_3)).trans hw104_3)⟩ (fun hHeld => ?_)
   clear hK K
   refine norm_ (a' := ?_) ?_ ?_
   rotate_left
   ·show Act.put _ (some 13) _ = _
    simp only [Act.put, lsa_, ls0_, ls1_, i64_w, i32_w]
    rfl
   refine pure_ (i := 2) (N := some 14) (v := ?_) (a' := ?_) #[t_,t_,t_,f_,f_,f_,f_,f_,f_,f_,f_,f_,f_,f_,f_,f_,f_,f_] rfl rfl (aF_ HT_.out (by kernel_rfl)) (fun _ _ _ h => h) (Or.inl ⟨by rfl, ?_⟩) ?_ ?_
   rotate_left
   ·intro w'
    go_simp
    with_reducible rfl
   rotate_left
   ·simp only [Act.put, lsa_, ls0_, ls1_, i64_w, i32_w]
    rfl
   refine pure_ (i := 3) (N := some 15) (v := ?_) (a' := ?_) #[t_,t_,t_,t_,f_,f_,f_,f_,f_,f_,f_,f_,f_,f_,f_,f_,f_,f_] rfl rfl (aF_ HT_.out (by kernel_rfl)) (fun _ _ _ h => h) (Or.inl ⟨by rfl, ?_⟩) ?_ ?_
   rotate_left
   ·intro w'
    go_simp
    with_reducible rfl
   rotate_left
   ·simp only [Act.put, lsa_, ls0_, ls1_, i64_w, i32_w]
    rfl
   refine pure_ (i := 4) (N := some 16) (v := ?_) (a' := ?_) #[t_,t_,t_,t_,t_,f_,f_,f_,f_,f_,f_,f_,f_,f_,f_,f_,f_,f_] rfl rfl (aF_ HT_.out (by kernel_rfl)) (fun _ _ _ h => h) (Or.inl ⟨by rfl, ?_⟩) ?_ ?_
   rotate_left
   ·intro w'
    go_simp
    with_reducible rfl
   rotate_left
   ·simp only [Act.put, lsa_, ls0_, ls1_, i64_w, i32_w]
    rfl
   refine pure_ (i := 5) (N := some 17) (v := ?_) (a' := ?_) #[t_,t_,t_,t_,t_,t_,f_,f_,f_,f_,f_,f_,f_,f_,f_,f_,f_,f_] rfl rfl (aF_ HT_.out (by kernel_rfl)) (fun _ _ _ h => h) (Or.inl ⟨by rfl, ?_⟩) ?_ ?_
   rotate_left
   ·intro w'
    go_simp
    with_reducible rfl
   rotate_left
   ·simp only [Act.put, lsa_, ls0_, ls1_, i64_w, i32_w]
    rfl
   refine pure_ (i := 6) (N := some 18) (v := ?_) (a' := ?_) #[t_,t_,t_,t_,t_,t_,t_,f_,f_,f_,f_,f_,f_,f_,f_,f_,f_,f_] rfl rfl (aF_ HT_.out (by kernel_rfl)) (fun _ _ _ h => h) (Or.inl ⟨by rfl, ?_⟩) ?_ ?_
   rotate_left
   ·intro w'
    go_simp
    with_reducible rfl
   rotate_left
   ·simp only [Act.put, lsa_, ls0_, ls1_, i64_w, i32_w]
    rfl
   refine pure_ (i := 7) (N := some 19) (v := ?_) (a' := ?_) #[t_,t_,t_,t_,t_,t_,t_,t_,f_,f_,f_,f_,f_,f_,f_,f_,f_,f_] rfl rfl (aF_ HT_.out (by kernel_rfl)) (fun _ _ _ h => h) (Or.inl ⟨by rfl, ?_⟩) ?_ ?_
   rotate_left
   ·intro w'
    go_simp
    with_reducible rfl
   rotate_left
   ·simp only [Act.put, lsa_, ls0_, ls1_, i64_w, i32_w]
    rfl
   refine pure_ (i := 8) (N := some 20) (v := ?_) (a' := ?_) #[t_,t_,t_,t_,t_,t_,t_,t_,t_,f_,f_,f_,f_,f_,f_,f_,f_,f_] rfl rfl (aF_ HT_.out (by kernel_rfl)) (fun _ _ _ h => h) (Or.inl ⟨by rfl, ?_⟩) ?_ ?_
   rotate_left
   ·intro w'
    go_simp
    with_reducible rfl
   rotate_left
   ·simp only [Act.put, lsa_, ls0_, ls1_, i64_w, i32_w]
    rfl
   refine pure_ (i := 9) (N := some 21) (v := ?_) (a' := ?_) #[t_,t_,t_,t_,t_,t_,t_,t_,t_,t_,f_,f_,f_,f_,f_,f_,f_,f_] rfl rfl (aF_ HT_.out (by kernel_rfl)) (fun _ _ _ h => h) (Or.inl ⟨by rfl, ?_⟩) ?_ ?_
   rotate_left
   ·intro w'
    go_simp
    with_reducible rfl
   rotate_left
   ·simp only [Act.put, lsa_, ls0_, ls1_, i64_w, i32_w]
    rfl
   refine pure_ (i := 10) (N := some 22) (v := ?_) (a' := ?_) #[t_,t_,t_,t_,t_,t_,t_,t_,t_,t_,t_,f_,f_,f_,f_,f_,f_,f_] rfl rfl (aF_ HT_.out (by kernel_rfl)) (fun _ _ _ h => h) (Or.inl ⟨by rfl, ?_⟩) ?_ ?_
   rotate_left
   ·intro w'
    go_simp
    with_reducible rfl
   rotate_left
   ·simp only [Act.put, lsa_, ls0_, ls1_, i64_w, i32_w]
    rfl
   refine pure_ (i := 11) (N := some 23) (v := ?_) (a' := ?_) #[t_,t_,t_,t_,t_,t_,t_,t_,t_,t_,t_,t_,f_,f_,f_,f_,f_,f_] rfl rfl (aF_ HT_.out (by kernel_rfl)) (fun _ _ _ h => h) (Or.inl ⟨by rfl, ?_⟩) ?_ ?_
   rotate_left
   ·intro w'
    go_simp
    with_reducible rfl
   rotate_left
   ·simp only [Act.put, lsa_, ls0_, ls1_, i64_w, i32_w]
    rfl
   refine pure_ (i := 13) (N := some 25) (v := ?_) (a' := ?_) #[t_,t_,t_,t_,t_,t_,t_,t_,t_,t_,t_,t_,f_,t_,f_,f_,f_,f_] rfl rfl (aF_ HT_.out (by kernel_rfl)) (fun _ _ _ h => h) (Or.inl ⟨by rfl, ?_⟩) ?_ ?_
   rotate_left
   ·intro w'
    go_simp
    with_reducible rfl
   rotate_left
   ·simp only [Act.put, lsa_, ls0_, ls1_, i64_w, i32_w]
    rfl
   refine take_ (i := 12) (N := some 24) (v := ?_) (a' := ?_) #[t_,t_,t_,t_,t_,t_,t_,t_,t_,t_,t_,t_,t_,t_,f_,f_,f_,f_] rfl rfl (cJ_ HT_.out HW_.out (by kernel_rfl)) (fun _ _ _ h => h) (Or.inl ⟨by rfl, ?_⟩) hHeld ?_ ?_
   rotate_left
   ·rintro w' ⟨s0, s1, s2, s3, s4, s5, s6, s7⟩
    go_simp
    with_reducible rfl
   rotate_left
   ·simp only [Act.put, lsa_, ls0_, ls1_, i64_w, i32_w]
    rfl
   refine take_ (i := 14) (N := some 26) (v := ?_) (a' := ?_) #[t_,t_,t_,t_,t_,t_,t_,t_,t_,t_,t_,t_,t_,t_,t_,f_,f_,f_] rfl rfl (cJ_ HT_.out HW_.out (by kernel_rfl)) (fun _ _ _ h => h) (Or.inl ⟨by rfl, ?_⟩) hHeld ?_ ?_
   rotate_left
   ·rintro w' ⟨s0, s1, s2, s3, s4, s5, s6, s7⟩
    go_simp
    with_reducible rfl
   rotate_left
   ·simp only [Act.put, lsa_, ls0_, ls1_, i64_w, i32_w]
    rfl
   refine pure_ (i := 15) (N := some 27) (v := ?_) (a' := ?_) #[t_,t_,t_,t_,t_,t_,t_,t_,t_,t_,t_,t_,t_,t_,t_,t_,f_,f_] rfl rfl (aF_ HT_.out (by kernel_rfl)) (fun _ _ _ h => h) (Or.inl ⟨by rfl, ?_⟩) ?_ ?_
   rotate_left
   ·intro w'
    go_simp
    with_reducible rfl
   rotate_left
   ·simp only [Act.put, lsa_, ls0_, ls1_, i64_w, i32_w]
    rfl
   refine pure_ (i := 16) (N := some 28) (v := ?_) (a' := ?_) #[t_,t_,t_,t_,t_,t_,t_,t_,t_,t_,t_,t_,t_,t_,t_,t_,t_,f_] rfl rfl (aF_ HT_.out (by kernel_rfl)) (fun _ _ _ h => h) (Or.inl ⟨by rfl, ?_⟩) ?_ ?_
   rotate_left
   ·intro w'
    go_simp
    with_reducible rfl
   rotate_left
   ·simp only [Act.put, lsa_, ls0_, ls1_, i64_w, i32_w]
    rfl
   refine pure_ (i := 17) (N := some 29) (v := ?_) (a' := ?_) #[t_,t_,t_,t_,t_,t_,t_,t_,t_,t_,t_,t_,t_,t_,t_,t_,t_,t_] rfl rfl (aF_ HT_.out (by kernel_rfl)) (fun _ _ _ h => h) (Or.inl ⟨by rfl, ?_⟩) ?_ ?_
   rotate_left
   ·intro w'
    go_simp
    with_reducible rfl
   rotate_left
   ·simp only [Act.put, lsa_, ls0_, ls1_, i64_w, i32_w]
    rfl
   refine done_ (dA_ HT_.out (by kernel_rfl)) ?_
   go_upto_if 29 with (fail)
   have H := HC11.out
   clear HC11
   by_cases c17 : ((Op.bytesLess (((af_ l0 (ji8)).f0).toList) (((af_ l0 x7_1).f0).toList)) = true)
   rotate_left
   ·rw [if_neg c17] at H
    have c17b0 : (Op.bytesLess (((af_ l0 (ji8)).f0).toList) (((af_ l0 x7_1).f0).toList)) = false := by simpa using c17
    clear c17
    (first | rw [c17b0] | (simp only [i64_w, i32_w]; rw [c17b0]) | (simp only [c17b1, Bool.not_true, Bool.not_false]) | (simp only [c17b0, Bool.not_true, Bool.not_false]) | skip)
    obtain rfl := Option.some.inj H
    go_wp2
    go_ret
    exact ⟨by first | rfl | (simp [an_, ao_] <;> rfl) | (simp only [← hji8]; first | rfl | (simp [an_, ao_] <;> rfl)) | (simp [*, an_, ao_] <;> rfl), by repeat (first | (with_reducible first | exact HB.out | apply bA_ | apply bN_ | apply bD_ | refine ac_ ?_ GE102.out) | exact HB.out)⟩
   rw [if_pos c17] at H
   have c17b0 : (Op.bytesLess (((af_ l0 (ji8)).f0).toList) (((af_ l0 x7_1).f0).toList)) = true := c17
   clear c17
   (first | rw [c17b0] | (simp only [i64_w, i32_w]; rw [c17b0]) | (simp only [c17b1, Bool.not_true, Bool.not_false]) | (simp only [c17b0, Bool.not_true, Bool.not_false]) | skip)
   have H' := Aside0.mk H
   clear H
   go_wp2
   go_roundg k1
   case measure => have := HK1.out; omega
   case rel => exact ⟨(wrap64 (x7_1 + 1)), (by first | rfl | (simp; done) | (simp [*]; done)), H', ⟨by have := HK1.out; omega⟩, ⟨by repeat (first | (with_reducible first | exact HB.out | apply bA_ | apply bN_ | apply bD_ | refine ac_ ?_ GE102.out) | exact HB.out)⟩⟩
end Go.Proofs.Ytiheginanghhjaa.Q
namespace Go.Proofs.Ytiheginanghhjaa.SLX
open Go.RowKit Go.Proofs.YtiheginanghhjaaW.PrintWords Go.Proofs.YtiheginanghhjaaW.PrintLast Go.Proofs.YtiheginanghhjaaW.PrintMore
section
variable {P : Program} {α : Type}
theorem R_open {d : Kd α} {e : Nat} {W : World} {base : Nat} {ok : Nat → Prop} {v : Value} {xs : List α} (h : d.R e W base ok v xs) :
  (v = .slice none 0 0 ∧ xs = []) ∨ ∃ g c cur okk, v = .slice (some ⟨g, 0, none⟩) xs.length c ∧ ok g ∧ base ≤ g ∧ W.heap[g]? = some (.cells cur e (0, 0)) ∧ xs.length ≤ c ∧ c ≤ maxLen ∧ cur.size = c * d.sz ∧ Reps (d.M W base okk) d.sz xs (cur.toList.take (xs.length * d.sz)) := by
 obtain ⟨hok, inner, hown, hr⟩ := h
 rcases hown.2 with ⟨hv, h0⟩ | ⟨g, cap, cur, rfl, hb, hh, h1, h2, h3, h4⟩
 ·exact .inl ⟨hv, List.eq_nil_of_length_eq_zero h0⟩
 ·exact .inr ⟨g, cap, cur, _, rfl, hok g (by simp [Value.ownBlock]), hb, hh, h1, h2, h3, by rw [h4]; exact hr⟩
theorem R_shut {d : Kd α} {e : Nat} {W : World} {base g c n : Nat} {ok : Nat → Prop} {xs : List α} {cur : Array Value} (hok : ok g) (hb : base ≤ g) (hh : W.heap[g]? = some (.cells cur e (0, 0))) (hn : n = xs.length) (h1 : n ≤ c) (h2 : c ≤ maxLen) (h3 : cur.size = c * d.sz)
  (hr : Reps (d.M W base (fun k => ok k ∧ some k ≠ (Value.slice (some ⟨g, 0, none⟩) n c).ownBlock)) d.sz xs (cur.toList.take (n * d.sz))) : d.R e W base ok (.slice (some ⟨g, 0, none⟩) n c) xs := by
 subst hn
 refine ⟨fun k hk => ?_, cur.toList.take (xs.length * d.sz), ⟨hr.1, .inr ⟨g, c, cur, rfl, hb, hh, h1, h2, h3, rfl⟩⟩, hr⟩
 have : g = k := by simpa [Value.ownBlock] using hk
 subst this
 exact hok
theorem kept_of_grown {w w' : World} {g : Nat} {S : Nat → Prop} (h : w.grownBy w' (some g)) (hg : S g) : Kept w w' S :=
 ⟨h.size, fun i hi hn => h.block i hi (fun he => hn (by injection he with he; rw [he]; exact hg))⟩
end
end Go.Proofs.Ytiheginanghhjaa.SLX
namespace Go.Proofs
open Go.Shelf
def Try.lays106_ren : Go.Shelf.Ren := ⟨fun | 106 => 98 | 213 => 122 | 265 => 130 | n => n, fun | 9 => 9 | 3 => 3 | n => n, fun | n => n⟩
theorem Try.lays106 : Go.Proofs.Lays.n106 Try.prog Try.lays106_ren := {
 mixed := by kernel_rfl
 f106 := Try.func98.trans (congrArg some (by kernel_rfl))
 f213 := Try.func122.trans (congrArg some (by kernel_rfl))
 f265 := Try.func130.trans (congrArg some (by kernel_rfl))
 t3 := Try.underlying3
 a3 := Try.isAgg3
 z3 := Try.sizeOf3
 v3 := Try.zeroValue3
 t9 := Try.underlying9
 a9 := Try.isAgg9
 z9 := Try.sizeOf9
 v9 := Try.zeroValue9 }
open Go.RowKit in
theorem Try.strings_Compare (a b : ByteArray) (w : World) :
  Calls Try.prog 98 #[.string a, .string b] w fun e w' => e = .returned (.int .i64 (Lib.compareBytes a.data.toList b.data.toList)) ∧ w' = w := Any.strings_Compare Try.lays106 a b w
def Try.lays190_ren : Go.Shelf.Ren := ⟨fun | 190 => 70 | 125 => 95 | 258 => 94 | 128 => 120 | 129 => 121 | 302 => 111 | 303 => 112 | 304 => 113 | 305 => 114 | 306 => 115 | 307 => 116 | 308 => 117 | 309 => 118 | 310 => 119 | 333 => 124 | 329 => 125 | 330 => 126 | 334 => 127 | 335 => 128 | 336 => 129 | 344 => 131 | n => n, fun | 31 => 24 | 9 => 9 | 3 => 3 | 46 => 119 | 0 => 0 | 51 => 143 | 53 => 105 | 4 => 4 | 183 => 136 | 182 => 135 | 131 => 96 | 5 => 5 | 218 => 147 | 222 => 151 | 228 => 153 | 229 => 154 | n => n, fun | n => n⟩
theorem Try.lays190 : Go.Proofs.Lays.n190 Try.prog Try.lays190_ren := {
 mixed := by kernel_rfl
 f125 := Try.func95.trans (congrArg some (by kernel_rfl))
 f128 := Try.func120.trans (congrArg some (by kernel_rfl))
 f129 := Try.func121.trans (congrArg some (by kernel_rfl))
 f190 := Try.func70.trans (congrArg some (by kernel_rfl))
 f258 := Try.func94.trans (congrArg some (by kernel_rfl))
 f302 := Try.func111.trans (congrArg some (by kernel_rfl))
 f303 := Try.func112.trans (congrArg some (by kernel_rfl))
 f304 := Try.func113.trans (congrArg some (by kernel_rfl))
 f305 := Try.func114.trans (congrArg some (by kernel_rfl))
 f306 := Try.func115.trans (congrArg some (by kernel_rfl))
 f307 := Try.func116.trans (congrArg some (by kernel_rfl))
 f308 := Try.func117.trans (congrArg some (by kernel_rfl))
 f309 := Try.func118.trans (congrArg some (by kernel_rfl))
 f310 := Try.func119.trans (congrArg some (by kernel_rfl))
 f329 := Try.func125.trans (congrArg some (by kernel_rfl))
 f330 := Try.func126.trans (congrArg some (by kernel_rfl))
 f333 := Try.func124.trans (congrArg some (by kernel_rfl))
 f334 := Try.func127.trans (congrArg some (by kernel_rfl))
 f335 := Try.func128.trans (congrArg some (by kernel_rfl))
 f336 := Try.func129.trans (congrArg some (by kernel_rfl))
 f344 := Try.func131.trans (congrArg some (by kernel_rfl))
 t0 := Try.underlying0
 a0 := Try.isAgg0
 z0 := Try.sizeOf0
 v0 := Try.zeroValue0
 t3 := Try.underlying3
 a3 := Try.isAgg3
 z3 := Try.sizeOf3
 v3 := Try.zeroValue3
 t4 := Try.underlying4
 a4 := Try.isAgg4
 z4 := Try.sizeOf4
 v4 := Try.zeroValue4
 t5 := Try.underlying5
 a5 := Try.isAgg5
 z5 := Try.sizeOf5
 v5 := Try.zeroValue5
 t9 := Try.underlying9
 a9 := Try.isAgg9
 z9 := Try.sizeOf9
 v9 := Try.zeroValue9
 t31 := Try.underlying24
 a31 := Try.isAgg24
 z31 := Try.sizeOf24
 v31 := Try.zeroValue24
 t46 := Try.underlying119
 a46 := Try.isAgg119
 z46 := Try.sizeOf119
 v46 := Try.zeroValue119
 t51 := Try.underlying143
 a51 := Try.isAgg143
 z51 := Try.sizeOf143
 v51 := Try.zeroValue143
 t53 := Try.underlying105
 a53 := Try.isAgg105
 z53 := Try.sizeOf105
 v53 := Try.zeroValue105
 t131 := Try.underlying96
 a131 := Try.isAgg96
 z131 := Try.sizeOf96
 v131 := Try.zeroValue96
 t182 := Try.underlying135
 a182 := Try.isAgg135
 z182 := Try.sizeOf135
 v182 := Try.zeroValue135
 t183 := Try.underlying136
 a183 := Try.isAgg136
 z183 := Try.sizeOf136
 v183 := Try.zeroValue136
 t218 := Try.underlying147
 a218 := Try.isAgg147
 z218 := Try.sizeOf147
 v218 := Try.zeroValue147
 t222 := Try.underlying151
 a222 := Try.isAgg151
 z222 := Try.sizeOf151
 v222 := Try.zeroValue151
 t228 := Try.underlying153
 a228 := Try.isAgg153
 z228 := Try.sizeOf153
 v228 := Try.zeroValue153
 t229 := Try.underlying154
 a229 := Try.isAgg154
 z229 := Try.sizeOf154
 v229 := Try.zeroValue154 }
open Go.Sort Go.RowKit in
theorem Try.slices_Sort_string (blk off cap : Nat) (ss : List (List UInt8)) (w : World) (hH : Holds encStr w blk off ss.toArray) (hblk : blk < w.heap.size) (hsz : ss.length < 4611686018427387904) :
  Calls Try.prog 70 #[.slice (some ⟨blk, off, none⟩) ss.length cap] w fun e w' =>
   e = .returned (.tuple #[]) ∧ ∃ n os, w' = grow (putRow encStr (Sort.ahead w n) blk off (ss.mergeSort fun x y => decide (x ≤ y)).toArray) os := Any.slices_Sort_string Try.lays190 blk off cap ss w hH hblk hsz
def Try.lays194_ren : Go.Shelf.Ren := ⟨fun | 194 => 71 | n => n, fun | 31 => 24 | 9 => 9 | 3 => 3 | 4 => 4 | 0 => 0 | n => n, fun | n => n⟩
theorem Try.lays194 : Go.Proofs.Lays.n194 Try.prog Try.lays194_ren := {
 mixed := by kernel_rfl
 f194 := Try.func71.trans (congrArg some (by kernel_rfl))
 t0 := Try.underlying0
 a0 := Try.isAgg0
 z0 := Try.sizeOf0
 v0 := Try.zeroValue0
 t3 := Try.underlying3
 a3 := Try.isAgg3
 z3 := Try.sizeOf3
 v3 := Try.zeroValue3
 t4 := Try.underlying4
 a4 := Try.isAgg4
 z4 := Try.sizeOf4
 v4 := Try.zeroValue4
 t9 := Try.underlying9
 a9 := Try.isAgg9
 z9 := Try.sizeOf9
 v9 := Try.zeroValue9
 t31 := Try.underlying24
 a31 := Try.isAgg24
 z31 := Try.sizeOf24
 v31 := Try.zeroValue24 }
open Go.RowKit Go.Lib Go.Sort in
theorem Try.slices_Compact_string (blk off cap : Nat) (zs : List (List UInt8)) (w : World) (hH : Holds encStr w blk off zs.toArray) (hsz : zs.length ≤ 9223372036854775807) (hcap : zs.length ≤ cap) :
  Calls Try.prog 71 #[.slice (some ⟨blk, off, none⟩) zs.length cap] w fun e w' => e = .returned (.slice (some ⟨blk, off, none⟩) (Lib.compact zs).length cap) ∧ ∃ q, w' = putRow encStr (Sort.ahead w q) blk off (Lib.compact zs ++ List.replicate (zs.length - (Lib.compact zs).length) []).toArray := Any.slices_Compact_string Try.lays194 blk off cap zs w hH hsz hcap
open Go.RowKit Go.Lib Go.Sort in
theorem Try.slices_Compact_string_empty (a : Option Addr) (cap : Nat) (w : World) :
  Calls Try.prog 71 #[.slice a 0 cap] w fun e w' => e = .returned (.slice a 0 cap) ∧ w' = w := Any.slices_Compact_string_empty Try.lays194 a cap w
open Go.RowKit Go.Sort in
theorem Try.slices_Sort_string_none (p : Option Addr) (cap : Nat) (w : World) :
  Calls Try.prog 70 #[.slice p 0 cap] w fun e w' => e = .returned (.tuple #[]) ∧ w' = w := Any.slices_Sort_string_none Try.lays190 p cap w
end Go.Proofs
namespace Go.Proofs.Ytiheginanghhjaa.Q
open Go.RowKit Go.Proofs.YtiheginanghhjaaW.PrintWords Go.Proofs.YtiheginanghhjaaW.PrintLast Go.Proofs.YtiheginanghhjaaW.PrintMore
attribute [local go_sem] aN_ aL_ bi_ bh_ aA_ az_ aO_ aM_
def as_.srt (l : List ByteArray) : List ByteArray := ((l.map (·.data.toList)).mergeSort fun x y => decide (x ≤ y)).map fun b => ⟨b.toArray⟩
def as_.f (l0 : List ByteArray) : Option (List ByteArray) := if l0.length < 4611686018427387904 then some (as_.srt l0) else none
theorem as_.row {W : World} {base : Nat} {ok : Nat → Prop} {xs : List ByteArray} {cs : List Value} (h : Reps (Kd.M Kd.string W base ok) 1 xs cs) : cs = xs.map Value.string := by
 have hl : cs.length = xs.length := by have := h.1; omega
 apply List.ext_getElem?
 intro j
 by_cases hj : j < xs.length
 rotate_left
 ·rw [List.getElem?_eq_none (by omega), List.getElem?_eq_none (by simp; omega)]
 have h2 : (cs.drop (j * 1)).take 1 = [.string xs[j]] := h.2 j _ (List.getElem?_eq_getElem hj)
 have h3 := congrArg (fun l => l[0]?) h2
 simp only [List.getElem?_take, List.getElem?_drop] at h3
 simpa [hj] using h3
theorem as_.rep {W : World} {base : Nat} {ok : Nat → Prop} (xs : List ByteArray) : Reps (Kd.M Kd.string W base ok) 1 xs (xs.map Value.string) := by
 refine ⟨by simp, fun j x hj => ?_⟩
 have hl := (List.getElem?_eq_some_iff.1 hj).1
 show ((xs.map Value.string).drop (j * 1)).take 1 = [.string x]
 rw [Nat.mul_one, List.drop_eq_getElem_cons (by simpa using hl)]
 simp only [List.take_succ_cons, List.take_zero, List.getElem_map]
 rw [(List.getElem?_eq_some_iff.1 hj).2]
theorem as_.enc (l : List ByteArray) : (l.map (·.data.toList)).map encStr = l.map Value.string := by
 rw [List.map_map]
 apply List.map_congr_left
 intro x _
 simp [encStr]
set_option maxHeartbeats 1000000 in
theorem as_.calls (P0_ : Nat → Prop) (u9000_ : Value) (l0 : List ByteArray) (r : List ByteArray) (w0 w : World) (hB : Below w0.heap.size w0 w) (ho0 : Kd.R Kd.string 9 w w0.heap.size P0_ u9000_ l0) (h : as_.f l0 = some r) :
  Calls Try.prog 70 #[u9000_] w fun e w' => e = .returned (.tuple #[]) ∧ Kd.R Kd.string 9 w' w0.heap.size P0_ u9000_ r ∧ Below w0.heap.size w0 w' ∧ Kept w w' (fun k_ => P0_ k_) := by
 unfold as_.f at h
 split at h
 case isFalse => cases h
 rename_i hn
 obtain rfl := Option.some.inj h
 rcases SLX.R_open ho0 with ⟨rfl, rfl⟩ | ⟨g, c, cur, okk, rfl, hok, hbg, hh, hnc, hcm, hcs, hrep⟩
 ·refine (Go.Proofs.Try.slices_Sort_string_none none 0 w).mono ?_
  rintro e w' ⟨rfl, rfl⟩
  exact ⟨rfl, by simpa [as_.srt] using ho0, hB, Kept.refl _ _⟩
 ·have hcs1 : cur.size = c * 1 := hcs
  have ht : cur.toList.take (l0.map (·.data.toList)).length = (l0.map (·.data.toList)).map encStr := by
   rw [as_.enc, List.length_map]
   have := as_.row (show Reps (Kd.M Kd.string w w0.heap.size okk) 1 l0 (cur.toList.take (l0.length * 1)) from hrep)
   rwa [Nat.mul_one] at this
  have hgl : g < w.heap.size := (Array.getElem?_eq_some_iff.1 hh).1
  have hc := Go.Proofs.Try.slices_Sort_string g 0 c (l0.map (·.data.toList)) w (holds_of_block hh ht) hgl (by simpa using hn)
  rw [List.length_map] at hc
  refine hc.mono ?_
  rintro e w' ⟨rfl, n, os, rfl⟩
  have hsl : ((l0.map (·.data.toList)).mergeSort fun x y => decide (x ≤ y)).length = l0.length := by simp
  generalize hT : ((l0.map (·.data.toList)).mergeSort fun x y => decide (x ≤ y)) = T at hsl
  have HG := grownBy_sorted (w := w) (g := g) (n := n) (os := os) T.toArray
  refine ⟨rfl, ?_, hB.grown HG hB.size (fun k hk => by injection hk with hk; subst hk; exact hbg), SLX.kept_of_grown (S := fun k_ => P0_ k_) HG hok⟩
  have e1 : as_.srt l0 = T.map fun b => ⟨b.toArray⟩ := by unfold as_.srt; rw [hT]
  rw [e1]
  refine SLX.R_shut (d := Kd.string) (e := 9) (g := g) (c := c) (n := l0.length) (cur := Sort.putCells encStr 0 T.toArray cur) hok hbg (heap_sorted T.toArray hh) (by simp [hsl]) hnc hcm (by show _ = c * 1; simp [Sort.putCells, hcs1]) ?_
  have e2 := take_putCells cur T (by omega)
  show Reps _ 1 _ (List.take (l0.length * 1) _)
  rw [Nat.mul_one, ← hsl, e2]
  have e3 : T.map encStr = (T.map fun b => (⟨b.toArray⟩ : ByteArray)).map Value.string := by rw [List.map_map]; rfl
  rw [e3]
  exact as_.rep _
def aD_.cmp (l : List ByteArray) : List ByteArray := (Lib.compact (l.map (·.data.toList))).map fun b => ⟨b.toArray⟩
def aD_.f (l0 : List ByteArray) : Option (List ByteArray) := if l0.length < 4611686018427387904 then some (aD_.cmp l0) else none
theorem aD_.row {W : World} {base : Nat} {ok : Nat → Prop} {xs : List ByteArray} {cs : List Value} (h : Reps (Kd.M Kd.string W base ok) 1 xs cs) : cs = xs.map Value.string := by
 have hl : cs.length = xs.length := by have := h.1; omega
 apply List.ext_getElem?
 intro j
 by_cases hj : j < xs.length
 rotate_left
 ·rw [List.getElem?_eq_none (by omega), List.getElem?_eq_none (by simp; omega)]
 have h2 : (cs.drop (j * 1)).take 1 = [.string xs[j]] := h.2 j _ (List.getElem?_eq_getElem hj)
 have h3 := congrArg (fun l => l[0]?) h2
 simp only [List.getElem?_take, List.getElem?_drop] at h3
 simpa [hj] using h3
theorem aD_.rep {W : World} {base : Nat} {ok : Nat → Prop} (xs : List ByteArray) : Reps (Kd.M Kd.string W base ok) 1 xs (xs.map Value.string) := by
 refine ⟨by simp, fun j x hj => ?_⟩
 have hl := (List.getElem?_eq_some_iff.1 hj).1
 show ((xs.map Value.string).drop (j * 1)).take 1 = [.string x]
 rw [Nat.mul_one, List.drop_eq_getElem_cons (by simpa using hl)]
 simp only [List.take_succ_cons, List.take_zero, List.getElem_map]
 rw [(List.getElem?_eq_some_iff.1 hj).2]
theorem aD_.enc (l : List ByteArray) : (l.map (·.data.toList)).map encStr = l.map Value.string := by
 rw [List.map_map]
 apply List.map_congr_left
 intro x _
 simp [encStr]
theorem aD_.len (l : List (List UInt8)) : (Lib.compact l).length ≤ l.length := by
 unfold Lib.compact Lib.compactUpTo
 rw [List.length_map]
 exact Nat.le_trans (List.length_filter_le _ _) (by simp)
set_option maxHeartbeats 1000000 in
theorem aD_.calls (P0_ : Nat → Prop) (u9000_ : Value) (l0 : List ByteArray) (r : List ByteArray) (w0 w : World) (hB : Below w0.heap.size w0 w) (ho0 : Kd.R Kd.string 9 w w0.heap.size P0_ u9000_ l0) (h : aD_.f l0 = some r) :
  Calls Try.prog 71 #[u9000_] w fun e w' => ∃ v0_ : Value, e = .returned (v0_) ∧ Kd.R Kd.string 9 w' w0.heap.size (fun k_ => (P0_ k_ ∨ w.heap.size ≤ k_)) v0_ r ∧ Below w0.heap.size w0 w' ∧ Kept w w' (fun k_ => P0_ k_) := by
 unfold aD_.f at h
 split at h
 case isFalse => cases h
 rename_i hn
 obtain rfl := Option.some.inj h
 rcases SLX.R_open ho0 with ⟨rfl, rfl⟩ | ⟨g, c, cur, okk, rfl, hok, hbg, hh, hnc, hcm, hcs, hrep⟩
 ·refine (Go.Proofs.Try.slices_Compact_string_empty none 0 w).mono ?_
  rintro e w' ⟨rfl, rfl⟩
  exact ⟨_, rfl, Kd.aK_ ho0 (fun _ hk => .inl hk), hB, Kept.refl _ _⟩
 ·have hcs1 : cur.size = c * 1 := hcs
  have ht : cur.toList.take (l0.map (·.data.toList)).length = (l0.map (·.data.toList)).map encStr := by
   rw [aD_.enc, List.length_map]
   have := aD_.row (show Reps (Kd.M Kd.string w w0.heap.size okk) 1 l0 (cur.toList.take (l0.length * 1)) from hrep)
   rwa [Nat.mul_one] at this
  have hgl : g < w.heap.size := (Array.getElem?_eq_some_iff.1 hh).1
  have hc := Go.Proofs.Try.slices_Compact_string g 0 c (l0.map (·.data.toList)) w (holds_of_block hh ht) (by rw [List.length_map]; omega) (by rw [List.length_map]; omega)
  rw [List.length_map] at hc
  refine hc.mono ?_
  rintro e w' ⟨rfl, q, rfl⟩
  have hsl := aD_.len (l0.map (·.data.toList))
  rw [List.length_map] at hsl
  unfold aD_.cmp
  generalize hT : Lib.compact (l0.map (·.data.toList)) = T at hsl
  obtain ⟨U, hU⟩ : ∃ U, U = T ++ List.replicate (l0.length - T.length) [] := ⟨_, rfl⟩
  rw [← hU]
  have hUl : U.length = l0.length := by rw [hU]; simp; omega
  have HG := grownBy_sorted (w := w) (g := g) (n := q) (os := #[]) U.toArray
  have HH := heap_sorted (w := w) (g := g) (n := q) (os := #[]) U.toArray hh
  rw [Sort.grow_empty] at HG HH
  refine ⟨_, rfl, ?_, hB.grown HG hB.size (fun k hk => by injection hk with hk; subst hk; exact hbg), SLX.kept_of_grown (S := fun k_ => P0_ k_) HG hok⟩
  refine SLX.R_shut (d := Kd.string) (e := 9) (g := g) (c := c) (n := T.length) (cur := Sort.putCells encStr 0 U.toArray cur) (.inl hok) hbg HH (by simp) (by omega) hcm (by show _ = c * 1; simp [Sort.putCells, hcs1]) ?_
  have e2 := take_putCells cur U (by omega)
  show Reps _ 1 _ (List.take (T.length * 1) _)
  have e4 : (Sort.putCells encStr 0 U.toArray cur).toList.take T.length = T.map encStr := by
   have : (Sort.putCells encStr 0 U.toArray cur).toList.take T.length = ((Sort.putCells encStr 0 U.toArray cur).toList.take U.length).take T.length := by rw [List.take_take, Nat.min_eq_left (by omega)]
   rw [this, e2, hU, List.map_append, List.take_left' (by simp)]
  rw [Nat.mul_one, e4]
  have e3 : T.map encStr = (T.map fun b => (⟨b.toArray⟩ : ByteArray)).map Value.string := by rw [List.map_map]; rfl
  rw [e3]
  exact aD_.rep _
mutual
def bj_.l0 : Nat → List ByteArray → List (List (S63)) → Int → Int → Option (List ByteArray)
 | 0, _, _, _, _ => none
 | k + 1, x3, x9, x10, x11 => if x11 < x10 then (if 0 ≤ x11 then (if x11 < (x9.length : Int) then (bj_.l1 k x3 x9 x10 x11 (rd_L7 x9 x11) ((rd_L7 x9 x11).length : Int) 0) else (none)) else (none)) else ((as_.f x3).bind fun t104 => ((aD_.f t104).bind fun t105 => (some t105)))
def bj_.l1 : Nat → List ByteArray → List (List (S63)) → Int → Int → List (S63) → Int → Int → Option (List ByteArray)
 | 0, _, _, _, _, _, _, _ => none
 | k + 1, x3, x9, x10, x11, x15, x16, x17 => if x17 < x16 then (if 0 ≤ x17 then (if x17 < (x15.length : Int) then (if x3.length < 8796093022208 then (bj_.l1 k (x3 ++ [(af_ x15 x17).f0]) x9 x10 x11 x15 x16 (wrap64 (x17 + 1))) else (none)) else (none)) else (none)) else (bj_.l0 k x3 x9 x10 (wrap64 (x11 + 1)))
end
def bj_.f (k : Nat) (l0 : List (List (S63))) : Option (List ByteArray) := bj_.l0 k (([] : List ByteArray)) l0 (l0.length : Int) 0
set_option maxHeartbeats 8000000 in
set_option maxRecDepth 100000 in
theorem bj_.calls (k : Nat) (A0 : Option Addr) (c0 : Nat) (l0 : List (List (S63))) (r : List ByteArray) (w : World) (hr0 : Kd.C (Kd.slice 63 k63) w A0 l0.length l0) (hc0 : l0.length ≤ c0) (h : bj_.f k l0 = some r) :
  Calls Try.prog 40 #[.slice A0 l0.length c0] w fun e w' => ∃ v0_ : Value, e = .returned (v0_) ∧ Kd.R Kd.string 9 w' w.heap.size (fun _ => True) v0_ r ∧ Below w.heap.size w w' := by
 have hu63 := Try.underlying63
 have HR0 := Aside0.mk hr0
 have HC0 := Aside0.mk hc0
 clear hr0 hc0
 have HB := Aside0.mk (Below.refl w.heap.size w)
 have H : (bj_.l0 k (([] : List ByteArray)) l0 (l0.length : Int) 0) = some r := h
 clear h
 obtain ⟨y101, hy101⟩ : ∃ y_ : List ByteArray, y_ = (([] : List ByteArray)) := ⟨_, rfl⟩
 replace H : (bj_.l0 k y101 l0 (l0.length : Int) 0) = some r := by first | (rw [hy101]; with_reducible exact H) | (have H2_ := (Option.bind_some _ _).symm.trans H; rw [hy101]; with_reducible exact H2_) | (have H2_ := (Option.bind_some _ _).symm.trans H; with_reducible exact H2_) | with_reducible exact H | (rw [hy101]; exact H) | exact H
 have Ny101 := Aside0.mk hy101
 clear hy101
 have H' := Aside0.mk H
 clear H
 go_enter Try.func40, Try.ntmps40
 go_wp2_with (first | ((with_reducible refine au_ (N := 8) rfl ?_); refine Kd.R_lit Kd.string _ 9 ?hg (N := 8) ?hd (xs := ([] : List ByteArray)) (inner := []) (ok := fun _ => True) (okp := fun _ => True) ?hr ?hp (fun _ hk => hk) trivial (Below.refl _ _) (Nat.le_refl _) (by simp) ?_; (case hd => rfl); (case hg => rfl); (case hr => (go_simp; try rfl)); (case hp => exact (Reps.none _ _)); intro v102 w2 ho3 hb hg_ hnew_; clear hg_ hnew_; (first | rw [← Ny101.out] at ho3 | (simp only [Int.reduceToNat] at ho3; rw [← Ny101.out] at ho3)); have HO103 := Aside0.mk (Kd.bI_ ho3 (ae_ (bz HB.out))); replace HB := Aside0.mk (ag_ (bz HB.out) hb); clear hb ho3))
 (try simp only [Act.put, lsa_, ls0_, ls1_])
 go_loopg [3, 11] k (fun kq v3 v11 w' => ∃ (x3_1 : List ByteArray) (x11_1 : Int), v11 = .int .i64 x11_1 ∧ Aside0 (bj_.l0 kq x3_1 l0 (l0.length : Int) x11_1 = some r) ∧ Aside0 (kq ≤ k) ∧ Aside0 (Kd.R Kd.string 9 w' w.heap.size (fun _ => True) v3 x3_1) ∧ Aside0 (Below w.heap.size w w'))
 case atStart => exact ⟨(y101), (0), (by first | rfl | (simp; done) | (simp [*]; done)), H', ⟨Nat.le_refl _⟩, ⟨rz HO103.out⟩, ⟨bz HB.out⟩⟩
 case round =>
  clear H'
  obtain ⟨x3_1, x11_1, rfl, HA, HK1, HO_3, HB⟩ := hrel
  cases gk with
  | zero => exact absurd HA.out (by simp [bj_.l0])
  | succ k1 =>
   have H := HA.out
   clear HA
   simp only [bj_.l0] at H
   by_cases c4 : x11_1 < (l0.length : Int)
   rotate_left
   ·rw [if_neg c4] at H
    have c4b0 : decide (x11_1 < (l0.length : Int)) = false := decide_eq_false c4
    clear c4
    replace H := Option.bind_eq_some_iff.mp H
    obtain ⟨t104, A140, H⟩ := H
    (try dsimp only at H)
    have A14 := Aside0.mk A140
    clear A140
    replace H := Option.bind_eq_some_iff.mp H
    obtain ⟨t105, A150, H⟩ := H
    (try dsimp only at H)
    have A15 := Aside0.mk A150
    clear A150
    obtain rfl := Option.some.inj H
    obtain ⟨Ao16, co16, eo16⟩ := Kd.bF_ HO_3.out
    subst eo16
    go_wp2_with (first | ((with_reducible refine am_ (f := 70) rfl ?_); refine aX_ (some 29) rfl rfl Try.func70 (by kernel_rfl) rfl #[.slice Ao16 x3_1.length co16] rfl (by first | rfl | (simp only [List.map_toArray, List.map_cons, List.map_nil]; first | done | rfl)) ?_; (with_reducible refine (as_.calls (fun k_ => some k_ = (.slice Ao16 x3_1.length co16 : Value).ownBlock) (.slice Ao16 x3_1.length co16) x3_1 t104 w _ ?side1 ?side2 A14.out).mono ?_); (case side1 => exact bz HB.out); (case side2 => exact Kd.R_tight rfl HO_3.out); rintro e w17 ⟨rfl, hy0, hb, hkp⟩; refine ⟨_, rfl, ?_⟩; replace HO_3 := Aside0.mk (Kd.R_reok rfl hy0 (fun k_ e_ => HO_3.out.1 k_ e_)); replace HB := Aside0.mk (hb); (try clear hb); (try clear hkp); (try clear hy0)) | ((with_reducible refine am_ (f := 71) rfl ?_); refine aX_ (some 31) rfl rfl Try.func71 (by kernel_rfl) rfl #[.slice Ao16 x3_1.length co16] rfl (by first | rfl | (simp only [List.map_toArray, List.map_cons, List.map_nil]; first | done | rfl)) ?_; (with_reducible refine (aD_.calls (fun k_ => some k_ = (.slice Ao16 x3_1.length co16 : Value).ownBlock) (.slice Ao16 x3_1.length co16) t104 t105 w _ ?side1 ?side2 A15.out).mono ?_); (case side1 => exact bz HB.out); (case side2 => exact Kd.R_tight rfl HO_3.out); rintro e w18 ⟨v106, rfl, ho0, hb, hkp⟩; refine ⟨_, rfl, ?_⟩; have HO107 := Aside0.mk (Kd.aK_ (ok' := fun k_ => True) ho0 (fun k_ hk_ => trivial)); replace HB := Aside0.mk (hb); clear HO_3; (try clear hb); (try clear hkp); (try clear ho0)))
    go_ret
    exact ⟨_, by first | rfl | (simp [*, an_, ao_] <;> rfl), rz HO107.out, bz HB.out⟩
   rw [if_pos c4] at H
   have c4b0 : decide (x11_1 < (l0.length : Int)) = true := decide_eq_true c4
   clear c4
   by_cases c5 : 0 ≤ x11_1
   rotate_left
   ·rw [if_neg c5] at H
    exact absurd H (by simp)
   rw [if_pos c5] at H
   have c5b0 : decide (0 ≤ x11_1) = true := decide_eq_true c5
   clear c5
   by_cases c6 : x11_1 < (l0.length : Int)
   rotate_left
   ·rw [if_neg c6] at H
    exact absurd H (by simp)
   rw [if_pos c6] at H
   have c6b0 : decide (x11_1 < (l0.length : Int)) = true := decide_eq_true c6
   clear c6
   have H' := Aside0.mk H
   clear H
   have p108 : 0 ≤ (x11_1 : Int) := of_decide_eq_true (by assumption)
   have q108 : x11_1 < (l0.length : Int) := of_decide_eq_true (by assumption)
   obtain ⟨ad108, A108_0, c108_0, e108, hx108_0, hl108_0, hi108_0⟩ := at_L7 HR0.out x11_1 p108 q108
   cases e108
   replace hx108_0 := (HB.out.cell (bl_ w _ hx108_0)).trans hx108_0
   have HR108_0 := Aside0.mk hi108_0
   have HC108_0 := Aside0.mk hl108_0
   clear hi108_0 hl108_0
   replace p108 := eq_true p108
   replace q108 := eq_true q108
   go_wp2
   (try simp only [Act.put, lsa_, ls0_, ls1_])
   go_loopg [3, 17] k1 (fun kq v3 v17 w' => ∃ (x3_2 : List ByteArray) (x17_2 : Int), v17 = .int .i64 x17_2 ∧ Aside0 (bj_.l1 kq x3_2 l0 (l0.length : Int) x11_1 (rd_L7 l0 x11_1) ((rd_L7 l0 x11_1).length : Int) x17_2 = some r) ∧ Aside0 (kq ≤ k1) ∧ Aside0 (Kd.R Kd.string 9 w' w.heap.size (fun _ => True) v3 x3_2) ∧ Aside0 (Below w.heap.size w w'))
   case atStart => exact ⟨(x3_1), (0), (by first | rfl | (simp; done) | (simp [*]; done)), H', ⟨Nat.le_refl _⟩, ⟨rz HO_3.out⟩, ⟨bz HB.out⟩⟩
   case round =>
    clear H'
    obtain ⟨x3_2, x17_2, rfl, HA, HK2, HO_3, HB⟩ := hrel
    cases gk with
    | zero => exact absurd HA.out (by simp [bj_.l1])
    | succ k2 =>
     have H := HA.out
     clear HA
     simp only [bj_.l1] at H
     by_cases c7 : x17_2 < ((rd_L7 l0 x11_1).length : Int)
     rotate_left
     ·rw [if_neg c7] at H
      have c7b0 : decide (x17_2 < ((rd_L7 l0 x11_1).length : Int)) = false := decide_eq_false c7
      clear c7
      have H' := Aside0.mk H
      clear H
      go_wp2
      go_roundg k2
      case measure => have := HK1.out; have := HK2.out; omega
      case rel => exact ⟨(x3_2), (wrap64 (x11_1 + 1)), (by first | rfl | (simp; done) | (simp [*]; done)), H', ⟨by have := HK1.out; have := HK2.out; omega⟩, ⟨rz HO_3.out⟩, ⟨bz HB.out⟩⟩
     rw [if_pos c7] at H
     have c7b0 : decide (x17_2 < ((rd_L7 l0 x11_1).length : Int)) = true := decide_eq_true c7
     clear c7
     by_cases c8 : 0 ≤ x17_2
     rotate_left
     ·rw [if_neg c8] at H
      exact absurd H (by simp)
     rw [if_pos c8] at H
     have c8b0 : decide (0 ≤ x17_2) = true := decide_eq_true c8
     clear c8
     by_cases c9 : x17_2 < ((rd_L7 l0 x11_1).length : Int)
     rotate_left
     ·rw [if_neg c9] at H
      exact absurd H (by simp)
     rw [if_pos c9] at H
     have c9b0 : decide (x17_2 < ((rd_L7 l0 x11_1).length : Int)) = true := decide_eq_true c9
     clear c9
     by_cases c10 : x3_2.length < 8796093022208
     rotate_left
     ·rw [if_neg c10] at H
      exact absurd H (by simp)
     rw [if_pos c10] at H
     have LMc10 := Aside0.mk c10
     clear c10
     obtain ⟨y111, hy111⟩ : ∃ y_ : List ByteArray, y_ = (x3_2 ++ [(af_ (rd_L7 l0 x11_1) x17_2).f0]) := ⟨_, rfl⟩
     replace H : (bj_.l1 k2 y111 l0 (l0.length : Int) x11_1 (rd_L7 l0 x11_1) ((rd_L7 l0 x11_1).length : Int) (wrap64 (x17_2 + 1))) = some r := by first | (rw [hy111]; with_reducible exact H) | (have H2_ := (Option.bind_some _ _).symm.trans H; rw [hy111]; with_reducible exact H2_) | (have H2_ := (Option.bind_some _ _).symm.trans H; with_reducible exact H2_) | with_reducible exact H | (rw [hy111]; exact H) | exact H
     have Ny111 := Aside0.mk hy111
     clear hy111
     have H' := Aside0.mk H
     clear H
     have p109 : 0 ≤ (x17_2 : Int) := of_decide_eq_true (by assumption)
     have q109 : x17_2 < ((rd_L7 l0 x11_1).length : Int) := of_decide_eq_true (by assumption)
     obtain ⟨ad109, e109, hx109_0, hx109_1, hx109_2, hx109_3⟩ := cm_ HR108_0.out x17_2 p109 q109
     cases e109
     replace hx109_0 := (HB.out.cell (bl_ w _ hx109_0)).trans hx109_0
     replace hx109_1 := (HB.out.cell (bl_ w _ hx109_1)).trans hx109_1
     replace hx109_2 := (HB.out.cell (bl_ w _ hx109_2)).trans hx109_2
     replace hx109_3 := (HB.out.cell (bl_ w _ hx109_3)).trans hx109_3
     replace p109 := eq_true p109
     replace q109 := eq_true q109
     go_wp2_with (first | ((with_reducible refine au_ (N := 7) rfl ?_); refine aQ_ ?hg (N := 7) ?hd (cs := #[.string (⟨#[]⟩ : ByteArray), .string (⟨#[]⟩ : ByteArray), .int .i64 0, .int .i64 0]) (t := 63) ?hr ?_; (case hd => rfl); (case hg => rfl); (case hr => (go_simp; try rfl)); intro gb110 hg w11 hbox hb; replace HO_3 := Aside0.mk (Kd.aH_ (rz HO_3.out) hb); have BK110 := Aside0.mk (hbox); have GW110 := Aside0.mk ((by rw [hg]; exact (ae_ (bz HB.out)) : w.heap.size ≤ gb110)); have GE110 := Aside0.mk ((by rw [hg]; exact (ae_ (bz HB.out)) : w.heap.size ≤ gb110)); replace HB := Aside0.mk (ag_ (bz HB.out) hb); clear hb hbox hg; have hcz12_0 : w11.cell? ⟨gb110, 0, none⟩ = some (.string (⟨#[]⟩ : ByteArray)) := (ab_ BK110.out 0).trans rfl; have hcz12_1 : w11.cell? ⟨gb110, 1, none⟩ = some (.string (⟨#[]⟩ : ByteArray)) := (ab_ BK110.out 1).trans rfl; have hcz12_2 : w11.cell? ⟨gb110, 2, none⟩ = some (.int .i64 0) := (ab_ BK110.out 2).trans rfl; have hcz12_3 : w11.cell? ⟨gb110, 3, none⟩ = some (.int .i64 0) := (ab_ BK110.out 3).trans rfl; have hfz12_0 := aa_ BK110.out 0; have hfz12_1 := aa_ BK110.out 1; have hfz12_2 := aa_ BK110.out 2; have hfz12_3 := aa_ BK110.out 3) | ((with_reducible refine bn_ (b := .append) (xs := #[.tmp 21, .tmp 24]) rfl ?_); at_builtin; refine Kd.ck_ Kd.string (w0 := w) w.heap.size rfl (.tmp 21) (.tmp 24) 24 9 (.string ⟨#[]⟩) 16 rfl Try.underlying24 info9 rfl (by decide) (by omega) u3 x3_2 ((af_ (rd_L7 l0 x11_1) x17_2).f0) [.string ((af_ (rd_L7 l0 x11_1) x17_2).f0)] (fun _ => True) (fun _ => False) rfl (by first | (go_simp; done) | (go_simp; rfl)) ?aP (fun _ hk => hk.elim) ?aF ?aO ?aB ?aS ?aL ?_; (case aP => exact rfl); (case aB => exact (by repeat (first | (with_reducible first | exact HB.out | apply bA_ | apply bN_ | apply bD_ | refine ac_ ?_ GE110.out) | exact HB.out))); (case aF => exact (fun _ _ => trivial)); (case aO => exact (rz (Kd.aK_ (Kd.R_far (p := ⟨gb110, 3, none⟩) (Kd.R_far (p := ⟨gb110, 2, none⟩) (Kd.R_far (p := ⟨gb110, 1, none⟩) (Kd.R_far (p := ⟨gb110, 0, none⟩) (Kd.bp_ HO_3.out BK110.out (by decide)) (fun _ hk => hk.2) (.string ((af_ (rd_L7 l0 x11_1) x17_2).f0))) (fun _ hk => hk.2) (.string ((af_ (rd_L7 l0 x11_1) x17_2).f1.f0))) (fun _ hk => hk.2) (.int .i64 ((af_ (rd_L7 l0 x11_1) x17_2).f1.f1))) (fun _ hk => hk.2) (.int .i64 ((af_ (rd_L7 l0 x11_1) x17_2).f1.f2))) (fun _ hk => trivial)))); (case aS => exact (ae_ (by repeat (first | (with_reducible first | exact HB.out | apply bA_ | apply bN_ | apply bD_ | refine ac_ ?_ GE110.out) | exact HB.out)))); (case aL => have := LMc10.out; omega); intro v112 w13 ho hb hg hat; rw [← Ny111.out] at ho; replace BK110 := Aside0.mk (bW_ (g := gb110) (o := .cells #[.string ((af_ (rd_L7 l0 x11_1) x17_2).f0), .string ((af_ (rd_L7 l0 x11_1) x17_2).f1.f0), .int .i64 ((af_ (rd_L7 l0 x11_1) x17_2).f1.f1), .int .i64 ((af_ (rd_L7 l0 x11_1) x17_2).f1.f2)] 63 (0, 0)) (by (with_reducible repeat (first | refine ai_ ?_ _ | refine aj_ ?_ | refine ah_ ?_ _)); refine aB_ (cs := #[.string ((af_ (rd_L7 l0 x11_1) x17_2).f0), .string ((af_ (rd_L7 l0 x11_1) x17_2).f1.f0), .int .i64 ((af_ (rd_L7 l0 x11_1) x17_2).f1.f1), .int .i64 0]) ?_ 3 _ rfl; (with_reducible repeat (first | refine ai_ ?_ _ | refine aj_ ?_ | refine ah_ ?_ _)); refine aB_ (cs := #[.string ((af_ (rd_L7 l0 x11_1) x17_2).f0), .string ((af_ (rd_L7 l0 x11_1) x17_2).f1.f0), .int .i64 0, .int .i64 0]) ?_ 2 _ rfl; (with_reducible repeat (first | refine ai_ ?_ _ | refine aj_ ?_ | refine ah_ ?_ _)); refine aB_ (cs := #[.string ((af_ (rd_L7 l0 x11_1) x17_2).f0), .string (⟨#[]⟩ : ByteArray), .int .i64 0, .int .i64 0]) ?_ 1 _ rfl; (with_reducible repeat (first | refine ai_ ?_ _ | refine aj_ ?_ | refine ah_ ?_ _)); refine aB_ (cs := #[.string (⟨#[]⟩ : ByteArray), .string (⟨#[]⟩ : ByteArray), .int .i64 0, .int .i64 0]) ?_ 0 _ rfl; (with_reducible repeat (first | refine ai_ ?_ _ | refine aj_ ?_ | refine ah_ ?_ _)); exact BK110.out) hg (Kd.R_ne HO_3.out BK110.out (by decide))); replace HB := Aside0.mk (hb); have HO113 := Aside0.mk (ho); clear HO_3; clear ho hb hg hat))
     go_roundg k2
     case measure => have := HK1.out; have := HK2.out; omega
     case rel => exact ⟨(y111), (wrap64 (x17_2 + 1)), (by first | rfl | (simp; done) | (simp [*]; done)), H', ⟨by have := HK1.out; have := HK2.out; omega⟩, ⟨rz HO113.out⟩, ⟨by repeat (first | (with_reducible first | exact HB.out | apply bA_ | apply bN_ | apply bD_ | refine ac_ ?_ GE110.out) | exact HB.out)⟩⟩
def strings_Compare.f (a0 : ByteArray) (a1 : ByteArray) : Option (Int) := some (Go.Lib.compareBytes a0.data.toList a1.data.toList)
theorem strings_Compare.calls (a0 : ByteArray) (a1 : ByteArray) (r : Int) (w : World) (h : strings_Compare.f a0 a1 = some r) :
  Calls Try.prog 98 #[.string a0, .string a1] w fun e w' => e = .returned (.int .i64 r) ∧ av_ w w' := by
 obtain rfl := Option.some.inj h
 refine (Go.Proofs.Try.strings_Compare a0 a1 w).mono ?_
 rintro e w' ⟨rfl, rfl⟩
 exact ⟨rfl, av_.refl _⟩
def ch_.f (a0_0 : ByteArray) (a0_1 : ByteArray) (a0_2 : Int) (a0_3 : Int) (a1 : ByteArray) : Option (Int) := (strings_Compare.f a0_0 a1).bind fun t102 => (some t102)
set_option maxHeartbeats 8000000 in
set_option maxRecDepth 100000 in
theorem ch_.calls (a0_0 : ByteArray) (a0_1 : ByteArray) (a0_2 : Int) (a0_3 : Int) (a1 : ByteArray) (r : Int) (w : World) (h : ch_.f a0_0 a0_1 a0_2 a0_3 a1 = some r) :
  Calls Try.prog 97 #[.agg #[.string a0_0, .string a0_1, .int .i64 a0_2, .int .i64 a0_3], .string a1] w fun e w' => e = .returned (.int .i64 r) ∧ Below w.heap.size w w' := by
 have hu63 := Try.underlying63
 have HB := Aside0.mk (Below.refl w.heap.size w)
 have H : ((strings_Compare.f a0_0 a1).bind fun t102 => (some t102)) = some r := h
 clear h
 replace H := Option.bind_eq_some_iff.mp H
 obtain ⟨t102, A30, H⟩ := H
 (try dsimp only at H)
 have A3 := Aside0.mk A30
 clear A30
 obtain rfl := Option.some.inj H
 go_enter Try.func97, Try.ntmps97
 go_wp2_with (first | ((with_reducible refine au_ (N := 2) rfl ?_); refine aQ_ ?hg (N := 2) ?hd (cs := #[.string a0_0, .string a0_1, .int .i64 a0_2, .int .i64 a0_3]) (t := 63) ?hr ?_; (case hd => rfl); (case hg => rfl); (case hr => (go_simp; try rfl)); intro gb101 hg w4 hbox hb; have BK101 := Aside0.mk (hbox); have GW101 := Aside0.mk ((by rw [hg]; exact (ae_ (bz HB.out)) : w.heap.size ≤ gb101)); have GE101 := Aside0.mk ((by rw [hg]; exact (ae_ (bz HB.out)) : w.heap.size ≤ gb101)); replace HB := Aside0.mk (ag_ (bz HB.out) hb); clear hb hbox hg; have hcz5_0 : w4.cell? ⟨gb101, 0, none⟩ = some (.string a0_0) := (ab_ BK101.out 0).trans rfl; have hcz5_1 : w4.cell? ⟨gb101, 1, none⟩ = some (.string a0_1) := (ab_ BK101.out 1).trans rfl; have hcz5_2 : w4.cell? ⟨gb101, 2, none⟩ = some (.int .i64 a0_2) := (ab_ BK101.out 2).trans rfl; have hcz5_3 : w4.cell? ⟨gb101, 3, none⟩ = some (.int .i64 a0_3) := (ab_ BK101.out 3).trans rfl; have hfz5_0 := aa_ BK101.out 0; have hfz5_1 := aa_ BK101.out 1; have hfz5_2 := aa_ BK101.out 2; have hfz5_3 := aa_ BK101.out 3) | ((with_reducible refine am_ (f := 98) rfl ?_); refine aX_ (some 8) rfl rfl Try.func98 (by kernel_rfl) rfl #[.string a0_0, .string a1] rfl (by first | rfl | (simp only [List.map_toArray, List.map_cons, List.map_nil]; first | done | rfl)) ?_; (with_reducible refine (strings_Compare.calls a0_0 a1 t102 _ A3.out).mono ?_); rintro e w' ⟨rfl, ⟨nd, rfl⟩⟩; refine ⟨_, rfl, ?_⟩))
 go_ret
 exact ⟨by first | rfl | (simp [*, an_, ao_] <;> rfl), by repeat (first | (with_reducible first | exact HB.out | apply bA_ | apply bN_ | apply bD_ | refine ac_ ?_ GE101.out) | exact HB.out)⟩
def bs_.l0 : Nat → List (S63) → ByteArray → Int → Int → Int → Option (Int × Bool)
 | 0, _, _, _, _, _ => none
 | k + 1, x0, x1, x8, x9, x10 => if x9 < x10 then (if 0 ≤ (wrap64 ((IntKind.u64.wrap (wrap64 (x9 + x10))) / 2)) then (if (wrap64 ((IntKind.u64.wrap (wrap64 (x9 + x10))) / 2)) < (x0.length : Int) then ((ch_.f ((af_ x0 (wrap64 ((IntKind.u64.wrap (wrap64 (x9 + x10))) / 2))).f0) ((af_ x0 (wrap64 ((IntKind.u64.wrap (wrap64 (x9 + x10))) / 2))).f1.f0) ((af_ x0 (wrap64 ((IntKind.u64.wrap (wrap64 (x9 + x10))) / 2))).f1.f1) ((af_ x0 (wrap64 ((IntKind.u64.wrap (wrap64 (x9 + x10))) / 2))).f1.f2) x1).bind fun t102 => (if t102 < 0 then (bs_.l0 k x0 x1 x8 (wrap64 ((wrap64 ((IntKind.u64.wrap (wrap64 (x9 + x10))) / 2)) + 1)) x10) else (bs_.l0 k x0 x1 x8 x9 (wrap64 ((IntKind.u64.wrap (wrap64 (x9 + x10))) / 2))))) else (none)) else (none)) else (if x9 < x8 then (if 0 ≤ x9 then (if x9 < (x0.length : Int) then ((ch_.f ((af_ x0 x9).f0) ((af_ x0 x9).f1.f0) ((af_ x0 x9).f1.f1) ((af_ x0 x9).f1.f2) x1).bind fun t104 => (some (x9, (t104 == 0)))) else (none)) else (none)) else (some (x9, false)))
def bs_.f (k : Nat) (l0 : List (S63)) (a1 : ByteArray)  : Option (Int × Bool) := bs_.l0 k l0 a1 (l0.length : Int) 0 (l0.length : Int)
set_option maxHeartbeats 8000000 in
set_option maxRecDepth 100000 in
theorem bs_.calls (k : Nat) (A0 : Option Addr) (c0 : Nat) (l0 : List (S63)) (a1 : ByteArray)  (r1 : Int) (r2 : Bool) (w : World) (hr0 : Kd.C k63 w A0 l0.length l0) (hc0 : l0.length ≤ c0) (h : bs_.f k l0 a1 = some (r1, r2)) :
  Calls Try.prog 96 #[.slice A0 l0.length c0, .string a1, .func (.func 97) #[] #[]] w fun e w' => e = .returned (.tuple #[.int .i64 r1, .bool r2]) ∧ Below w.heap.size w w' := by
 have hu63 := Try.underlying63
 have HR0 := Aside0.mk hr0
 have HC0 := Aside0.mk hc0
 clear hr0 hc0
 have HB := Aside0.mk (Below.refl w.heap.size w)
 have H : (bs_.l0 k l0 a1 (l0.length : Int) 0 (l0.length : Int)) = some (r1, r2) := h
 clear h
 have H' := Aside0.mk H
 clear H
 go_enter Try.func96, Try.ntmps96
 go_wp2
 (try simp only [Act.put, lsa_, ls0_, ls1_])
 go_loopg [9, 10] k (fun kq v9 v10 w' => ∃ (x9_1 : Int) (x10_1 : Int), v9 = .int .i64 x9_1 ∧ v10 = .int .i64 x10_1 ∧ Aside0 (bs_.l0 kq l0 a1 (l0.length : Int) x9_1 x10_1 = some (r1, r2)) ∧ Aside0 (kq ≤ k) ∧ Aside0 (Below w.heap.size w w'))
 case atStart => exact ⟨(0), ((l0.length : Int)), (by first | rfl | (simp; done) | (simp [*]; done)), (by first | rfl | (simp; done) | (simp [*]; done)), H', ⟨Nat.le_refl _⟩, ⟨bz HB.out⟩⟩
 case round =>
  clear H'
  obtain ⟨x9_1, x10_1, rfl, rfl, HA, HK1, HB⟩ := hrel
  cases gk with
  | zero => exact absurd HA.out (by simp [bs_.l0])
  | succ k1 =>
   have H := HA.out
   clear HA
   simp only [bs_.l0] at H
   by_cases c4 : x9_1 < x10_1
   rotate_left
   ·rw [if_neg c4] at H
    have c4b0 : decide (x9_1 < x10_1) = false := decide_eq_false c4
    clear c4
    by_cases c12 : x9_1 < (l0.length : Int)
    rotate_left
    ·rw [if_neg c12] at H
     have c12b0 : decide (x9_1 < (l0.length : Int)) = false := decide_eq_false c12
     clear c12
     simp only [Option.some.injEq, Prod.mk.injEq] at H
     obtain ⟨rfl, rfl⟩ := H
     go_wp2
     go_ret2
     exact ⟨by first | rfl | (simp [*, an_, ao_] <;> rfl), bz HB.out⟩
    rw [if_pos c12] at H
    have c12b0 : decide (x9_1 < (l0.length : Int)) = true := decide_eq_true c12
    clear c12
    by_cases c13 : 0 ≤ x9_1
    rotate_left
    ·rw [if_neg c13] at H
     exact absurd H (by simp)
    rw [if_pos c13] at H
    have c13b0 : decide (0 ≤ x9_1) = true := decide_eq_true c13
    clear c13
    by_cases c14 : x9_1 < (l0.length : Int)
    rotate_left
    ·rw [if_neg c14] at H
     exact absurd H (by simp)
    rw [if_pos c14] at H
    have c14b0 : decide (x9_1 < (l0.length : Int)) = true := decide_eq_true c14
    clear c14
    replace H := Option.bind_eq_some_iff.mp H
    obtain ⟨t104, A150, H⟩ := H
    (try dsimp only at H)
    have A15 := Aside0.mk A150
    clear A150
    simp only [Option.some.injEq, Prod.mk.injEq] at H
    obtain ⟨rfl, rfl⟩ := H
    have p103 : 0 ≤ (x9_1 : Int) := of_decide_eq_true (by assumption)
    have q103 : x9_1 < (l0.length : Int) := of_decide_eq_true (by assumption)
    obtain ⟨ad103, e103, hx103_0, hx103_1, hx103_2, hx103_3⟩ := cm_ HR0.out x9_1 p103 q103
    cases e103
    replace hx103_0 := (HB.out.cell (bl_ w _ hx103_0)).trans hx103_0
    replace hx103_1 := (HB.out.cell (bl_ w _ hx103_1)).trans hx103_1
    replace hx103_2 := (HB.out.cell (bl_ w _ hx103_2)).trans hx103_2
    replace hx103_3 := (HB.out.cell (bl_ w _ hx103_3)).trans hx103_3
    replace p103 := eq_true p103
    replace q103 := eq_true q103
    go_wp2_with (first | (go_at_call 97; (with_reducible refine (ch_.calls ((af_ l0 x9_1).f0) ((af_ l0 x9_1).f1.f0) ((af_ l0 x9_1).f1.f1) ((af_ l0 x9_1).f1.f2) a1 t104 _ A15.out).mono ?_); rintro e w16 ⟨rfl, hb⟩; replace HB := Aside0.mk (ag_ (bz HB.out) hb); (try clear hb)))
    go_ret2
    exact ⟨by first | rfl | (simp [*, an_, ao_] <;> rfl), bz HB.out⟩
   rw [if_pos c4] at H
   have c4b0 : decide (x9_1 < x10_1) = true := decide_eq_true c4
   clear c4
   obtain ⟨ji5, hji5⟩ : ∃ j_ : Int, (wrap64 ((IntKind.u64.wrap (wrap64 (x9_1 + x10_1))) / 2)) = j_ := ⟨_, rfl⟩
   replace H : (if 0 ≤ (ji5) then (if (ji5) < (l0.length : Int) then ((ch_.f ((af_ l0 (ji5)).f0) ((af_ l0 (ji5)).f1.f0) ((af_ l0 (ji5)).f1.f1) ((af_ l0 (ji5)).f1.f2) a1).bind fun t102 => (if t102 < 0 then (bs_.l0 k1 l0 a1 (l0.length : Int) (wrap64 ((ji5) + 1)) x10_1) else (bs_.l0 k1 l0 a1 (l0.length : Int) x9_1 ji5))) else (none)) else (none)) = some (r1, r2) := by first | (rw [hji5] at H; exact H) | (simp only [hji5] at H ⊢; exact H)
   have hji5w : (IntKind.i64.wrap ((IntKind.u64.wrap (wrap64 (x9_1 + x10_1))) / 2)) = ji5 := (i64_w _).trans hji5
   by_cases c6 : 0 ≤ (ji5)
   rotate_left
   ·rw [if_neg c6] at H
    exact absurd H (by simp)
   rw [if_pos c6] at H
   have c6b0 : decide (0 ≤ (ji5)) = true := decide_eq_true c6
   clear c6
   by_cases c7 : (ji5) < (l0.length : Int)
   rotate_left
   ·rw [if_neg c7] at H
    exact absurd H (by simp)
   rw [if_pos c7] at H
   have c7b0 : decide ((ji5) < (l0.length : Int)) = true := decide_eq_true c7
   clear c7
   replace H := Option.bind_eq_some_iff.mp H
   obtain ⟨t102, A80, H⟩ := H
   (try dsimp only at H)
   have A8 := Aside0.mk A80
   clear A80
   have HC9 := Aside0.mk H
   clear H
   have p101 : 0 ≤ ((ji5) : Int) := of_decide_eq_true (by assumption)
   have q101 : (ji5) < (l0.length : Int) := of_decide_eq_true (by assumption)
   obtain ⟨ad101, e101, hx101_0, hx101_1, hx101_2, hx101_3⟩ := cm_ HR0.out (ji5) p101 q101
   cases e101
   replace hx101_0 := (HB.out.cell (bl_ w _ hx101_0)).trans hx101_0
   replace hx101_1 := (HB.out.cell (bl_ w _ hx101_1)).trans hx101_1
   replace hx101_2 := (HB.out.cell (bl_ w _ hx101_2)).trans hx101_2
   replace hx101_3 := (HB.out.cell (bl_ w _ hx101_3)).trans hx101_3
   replace p101 := eq_true p101
   replace q101 := eq_true q101
   go_upto_if 31 with (first | (go_at_call 97; (with_reducible refine (ch_.calls ((af_ l0 (ji5)).f0) ((af_ l0 (ji5)).f1.f0) ((af_ l0 (ji5)).f1.f1) ((af_ l0 (ji5)).f1.f2) a1 t102 _ A8.out).mono ?_); rintro e w10 ⟨rfl, hb⟩; replace HB := Aside0.mk (ag_ (bz HB.out) hb); (try clear hb)))
   (try simp only [Act.put, lsa_, ls0_, ls1_])
   have H := HC9.out
   clear HC9
   by_cases c11 : t102 < 0
   rotate_left
   ·rw [if_neg c11] at H
    have c11b0 : decide (t102 < 0) = false := decide_eq_false c11
    clear c11
    (first | rw [c11b0] | (simp only [i64_w, i32_w]; rw [c11b0]) | (simp only [c11b1, Bool.not_true, Bool.not_false]) | (simp only [c11b0, Bool.not_true, Bool.not_false]) | skip)
    have H' := Aside0.mk H
    clear H
    go_wp2
    go_roundg k1
    case measure => have := HK1.out; omega
    case rel => exact ⟨(x9_1), (ji5), (by first | rfl | (simp; done) | (simp [*]; done)), (by first | rfl | (simp; done) | (simp only [← hji5] <;> (first | rfl | simp)) | (simp [*]; done)), H', ⟨by have := HK1.out; omega⟩, ⟨bz HB.out⟩⟩
   rw [if_pos c11] at H
   have c11b0 : decide (t102 < 0) = true := decide_eq_true c11
   clear c11
   (first | rw [c11b0] | (simp only [i64_w, i32_w]; rw [c11b0]) | (simp only [c11b1, Bool.not_true, Bool.not_false]) | (simp only [c11b0, Bool.not_true, Bool.not_false]) | skip)
   have H' := Aside0.mk H
   clear H
   go_wp2
   go_roundg k1
   case measure => have := HK1.out; omega
   case rel => exact ⟨(wrap64 ((ji5) + 1)), (x10_1), (by first | rfl | (simp; done) | (simp only [← hji5] <;> (first | rfl | simp)) | (simp [*]; done)), (by first | rfl | (simp; done) | (simp [*]; done)), H', ⟨by have := HK1.out; omega⟩, ⟨bz HB.out⟩⟩
def cB_.f (k : Nat) (l0 : List (S63)) (a1 : ByteArray) : Option (Int × Bool) := (bs_.f k l0 a1).bind fun bt101 => (some (bt101.1, bt101.2))
set_option maxHeartbeats 8000000 in
set_option maxRecDepth 100000 in
theorem cB_.calls (k : Nat) (A0 : Option Addr) (c0 : Nat) (l0 : List (S63)) (a1 : ByteArray) (r1 : Int) (r2 : Bool) (w : World) (hr0 : Kd.C k63 w A0 l0.length l0) (hc0 : l0.length ≤ c0) (h : cB_.f k l0 a1 = some (r1, r2)) :
  Calls Try.prog 72 #[.slice A0 l0.length c0, .string a1] w fun e w' => e = .returned (.tuple #[.int .i64 r1, .bool r2]) ∧ Below w.heap.size w w' := by
 have HR0 := Aside0.mk hr0
 have HC0 := Aside0.mk hc0
 clear hr0 hc0
 have HB := Aside0.mk (Below.refl w.heap.size w)
 have H : ((bs_.f k l0 a1).bind fun bt101 => (some (bt101.1, bt101.2))) = some (r1, r2) := h
 clear h
 replace H := Option.bind_eq_some_iff.mp H
 obtain ⟨⟨t101, t102⟩, A30, H⟩ := H
 (try dsimp only at H)
 have A3 := Aside0.mk A30
 clear A30
 simp only [Option.some.injEq, Prod.mk.injEq] at H
 obtain ⟨rfl, rfl⟩ := H
 go_enter Try.func72, Try.ntmps72
 go_wp2_with (first | ((with_reducible refine am_ (f := 96) rfl ?_); refine aX_ (some 8) rfl rfl Try.func96 (by kernel_rfl) rfl #[.slice A0 l0.length c0, .string a1, .func (.func 97) #[] #[]] rfl (by first | rfl | (simp only [List.map_toArray, List.map_cons, List.map_nil]; first | done | rfl)) ?_; (with_reducible refine (bs_.calls k _ _ l0 a1  t101 t102 _ ?side1 ?side2 A3.out).mono ?_); (case side1 => exact cz HR0.out); (case side2 => exact HC0.out); rintro e w4 ⟨rfl, hb⟩; refine ⟨_, rfl, ?_⟩; replace HB := Aside0.mk (ag_ (bz HB.out) hb); (try clear hb)))
 go_ret2
 exact ⟨by first | rfl | (simp [*, an_, ao_] <;> rfl), bz HB.out⟩
def bC_.f (k : Nat) (l0 : List (S63)) (a1 : ByteArray) : Option (ByteArray × Int × Int) := (cB_.f k l0 a1).bind fun bt102 => (if bt102.2 = true then (if 0 ≤ bt102.1 then (if bt102.1 < (l0.length : Int) then (some ((af_ l0 bt102.1).f1.f0, (af_ l0 bt102.1).f1.f1, (af_ l0 bt102.1).f1.f2)) else (none)) else (none)) else (some ((⟨#[]⟩ : ByteArray), 0, 0)))
set_option maxHeartbeats 8000000 in
set_option maxRecDepth 100000 in
theorem bC_.calls (k : Nat) (A0 : Option Addr) (c0 : Nat) (l0 : List (S63)) (a1 : ByteArray) (r1 : ByteArray) (r2 : Int) (r3 : Int) (w : World) (hr0 : Kd.C k63 w A0 l0.length l0) (hc0 : l0.length ≤ c0) (h : bC_.f k l0 a1 = some (r1, r2, r3)) :
  Calls Try.prog 41 #[.slice A0 l0.length c0, .string a1] w fun e w' => e = .returned (.agg #[.string r1, .int .i64 r2, .int .i64 r3]) ∧ Below w.heap.size w w' := by
 have hu61 := Try.underlying61
 have HR0 := Aside0.mk hr0
 have HC0 := Aside0.mk hc0
 clear hr0 hc0
 have HB := Aside0.mk (Below.refl w.heap.size w)
 have H : ((cB_.f k l0 a1).bind fun bt102 => (if bt102.2 = true then (if 0 ≤ bt102.1 then (if bt102.1 < (l0.length : Int) then (some ((af_ l0 bt102.1).f1.f0, (af_ l0 bt102.1).f1.f1, (af_ l0 bt102.1).f1.f2)) else (none)) else (none)) else (some ((⟨#[]⟩ : ByteArray), 0, 0)))) = some (r1, r2, r3) := h
 clear h
 replace H := Option.bind_eq_some_iff.mp H
 obtain ⟨⟨t102, t103⟩, A30, H⟩ := H
 (try dsimp only at H)
 have A3 := Aside0.mk A30
 clear A30
 have HC4 := Aside0.mk H
 clear H
 go_enter Try.func41, Try.ntmps41
 go_upto_if 13 with (first | ((with_reducible refine au_ (N := 4) rfl ?_); refine aQ_ ?hg (N := 4) ?hd (cs := #[.string (⟨#[]⟩ : ByteArray), .int .i64 0, .int .i64 0]) (t := 61) ?hr ?_; (case hd => rfl); (case hg => rfl); (case hr => (go_simp; try rfl)); intro gb101 hg w5 hbox hb; have BK101 := Aside0.mk (hbox); have GW101 := Aside0.mk ((by rw [hg]; exact (ae_ (bz HB.out)) : w.heap.size ≤ gb101)); have GE101 := Aside0.mk ((by rw [hg]; exact (ae_ (bz HB.out)) : w.heap.size ≤ gb101)); replace HB := Aside0.mk (ag_ (bz HB.out) hb); clear hb hbox hg) | ((with_reducible refine am_ (f := 72) rfl ?_); refine aX_ (some 10) rfl rfl Try.func72 (by kernel_rfl) rfl #[.slice A0 l0.length c0, .string a1] rfl (by first | rfl | (simp only [List.map_toArray, List.map_cons, List.map_nil]; first | done | rfl)) ?_; (with_reducible refine (cB_.calls k _ _ l0 a1 t102 t103 _ ?side1 ?side2 A3.out).mono ?_); (case side1 => exact cz (Kd.bE_ HR0.out HB.out)); (case side2 => exact HC0.out); rintro e w6 ⟨rfl, hb⟩; refine ⟨_, rfl, ?_⟩; replace BK101 := Aside0.mk (aG_ (g := gb101) (o := .cells #[.string (⟨#[]⟩ : ByteArray), .int .i64 0, .int .i64 0] 61 (0, 0)) (kz BK101.out) hb); replace HB := Aside0.mk (ag_ (by repeat (first | (with_reducible first | exact HB.out | apply bA_ | apply bN_ | apply bD_ | refine ac_ ?_ GE101.out) | exact HB.out)) hb); (try clear hb)))
 (try simp only [Act.put, lsa_, ls0_, ls1_])
 have H := HC4.out
 clear HC4
 by_cases c7 : t103 = true
 rotate_left
 ·replace c7 := Bool.eq_false_iff.mpr c7
  subst c7
  have H1 : (some ((⟨#[]⟩ : ByteArray), 0, 0)) = some (r1, r2, r3) := by rw [if_neg (show ¬ (false = true) by decide)] at H; exact H
  clear H
  have H := H1
  clear H1
  simp only [Option.some.injEq, Prod.mk.injEq] at H
  obtain ⟨rfl, rfl, rfl⟩ := H
  have hcz11_0 : w6.cell? ⟨gb101, 0, none⟩ = some (.string (⟨#[]⟩ : ByteArray)) := (ab_ BK101.out 0).trans rfl
  have hcz11_1 : w6.cell? ⟨gb101, 1, none⟩ = some (.int .i64 0) := (ab_ BK101.out 1).trans rfl
  have hcz11_2 : w6.cell? ⟨gb101, 2, none⟩ = some (.int .i64 0) := (ab_ BK101.out 2).trans rfl
  have hfz11_0 := aa_ BK101.out 0
  have hfz11_1 := aa_ BK101.out 1
  have hfz11_2 := aa_ BK101.out 2
  go_wp2
  refine bodyPost_ret (results_cell_row rfl _ _ gb101 61 #[.string (⟨#[]⟩ : ByteArray), .int .i64 0, .int .i64 0] (0, 0) _ rfl (by (with_reducible repeat (first | refine ai_ ?_ _ | refine aj_ ?_ | refine ah_ ?_ _)); refine aB_ (cs := #[.string (⟨#[]⟩ : ByteArray), .int .i64 0, .int .i64 0]) ?_ 2 _ rfl; (with_reducible repeat (first | refine ai_ ?_ _ | refine aj_ ?_ | refine ah_ ?_ _)); refine aB_ (cs := #[.string (⟨#[]⟩ : ByteArray), .int .i64 0, .int .i64 0]) ?_ 1 _ rfl; (with_reducible repeat (first | refine ai_ ?_ _ | refine aj_ ?_ | refine ah_ ?_ _)); refine aB_ (cs := #[.string (⟨#[]⟩ : ByteArray), .int .i64 0, .int .i64 0]) ?_ 0 _ rfl; (with_reducible repeat (first | refine ai_ ?_ _ | refine aj_ ?_ | refine ah_ ?_ _)); exact BK101.out) Try.underlying61 rfl (by kernel_rfl)) rfl ?_
  exact ⟨by first | rfl | (simp [*, an_, ao_] <;> rfl), by repeat (first | (with_reducible first | exact HB.out | apply bA_ | apply bN_ | apply bD_ | refine ac_ ?_ GE101.out) | exact HB.out)⟩
 subst c7
 have H1 : (if 0 ≤ t102 then (if t102 < (l0.length : Int) then (some ((af_ l0 t102).f1.f0, (af_ l0 t102).f1.f1, (af_ l0 t102).f1.f2)) else (none)) else (none)) = some (r1, r2, r3) := by rw [if_pos rfl] at H; exact H
 clear H
 have H := H1
 clear H1
 by_cases c8 : 0 ≤ t102
 rotate_left
 ·rw [if_neg c8] at H
  exact absurd H (by simp)
 rw [if_pos c8] at H
 have c8b0 : decide (0 ≤ t102) = true := decide_eq_true c8
 clear c8
 (first | rw [c8b0] | (simp only [i64_w, i32_w]; rw [c8b0]) | (simp only [c8b1, Bool.not_true, Bool.not_false]) | (simp only [c8b0, Bool.not_true, Bool.not_false]) | skip)
 by_cases c9 : t102 < (l0.length : Int)
 rotate_left
 ·rw [if_neg c9] at H
  exact absurd H (by simp)
 rw [if_pos c9] at H
 have c9b0 : decide (t102 < (l0.length : Int)) = true := decide_eq_true c9
 clear c9
 simp only [Option.some.injEq, Prod.mk.injEq] at H
 obtain ⟨rfl, rfl, rfl⟩ := H
 have p104 : 0 ≤ (t102 : Int) := of_decide_eq_true (by assumption)
 have q104 : t102 < (l0.length : Int) := of_decide_eq_true (by assumption)
 obtain ⟨ad104, e104, hx104_0, hx104_1, hx104_2, hx104_3⟩ := cm_ HR0.out t102 p104 q104
 cases e104
 replace hx104_0 := (HB.out.cell (bl_ w _ hx104_0)).trans hx104_0
 replace hx104_1 := (HB.out.cell (bl_ w _ hx104_1)).trans hx104_1
 replace hx104_2 := (HB.out.cell (bl_ w _ hx104_2)).trans hx104_2
 replace hx104_3 := (HB.out.cell (bl_ w _ hx104_3)).trans hx104_3
 replace p104 := eq_true p104
 replace q104 := eq_true q104
 have hcz10_0 : w6.cell? ⟨gb101, 0, none⟩ = some (.string (⟨#[]⟩ : ByteArray)) := (ab_ BK101.out 0).trans rfl
 have hcz10_1 : w6.cell? ⟨gb101, 1, none⟩ = some (.int .i64 0) := (ab_ BK101.out 1).trans rfl
 have hcz10_2 : w6.cell? ⟨gb101, 2, none⟩ = some (.int .i64 0) := (ab_ BK101.out 2).trans rfl
 have hfz10_0 := aa_ BK101.out 0
 have hfz10_1 := aa_ BK101.out 1
 have hfz10_2 := aa_ BK101.out 2
 go_wp2
 refine bodyPost_ret (results_cell_row rfl _ _ gb101 61 #[.string ((af_ l0 t102).f1.f0), .int .i64 ((af_ l0 t102).f1.f1), .int .i64 ((af_ l0 t102).f1.f2)] (0, 0) _ rfl (by (with_reducible repeat (first | refine ai_ ?_ _ | refine aj_ ?_ | refine ah_ ?_ _)); refine aB_ (cs := #[.string ((af_ l0 t102).f1.f0), .int .i64 ((af_ l0 t102).f1.f1), .int .i64 0]) ?_ 2 _ rfl; (with_reducible repeat (first | refine ai_ ?_ _ | refine aj_ ?_ | refine ah_ ?_ _)); refine aB_ (cs := #[.string ((af_ l0 t102).f1.f0), .int .i64 0, .int .i64 0]) ?_ 1 _ rfl; (with_reducible repeat (first | refine ai_ ?_ _ | refine aj_ ?_ | refine ah_ ?_ _)); refine aB_ (cs := #[.string (⟨#[]⟩ : ByteArray), .int .i64 0, .int .i64 0]) ?_ 0 _ rfl; (with_reducible repeat (first | refine ai_ ?_ _ | refine aj_ ?_ | refine ah_ ?_ _)); exact BK101.out) Try.underlying61 rfl (by kernel_rfl)) rfl ?_
 exact ⟨by first | rfl | (simp [*, an_, ao_] <;> rfl), by repeat (first | (with_reducible first | exact HB.out | apply bA_ | apply bN_ | apply bD_ | refine ac_ ?_ GE101.out) | exact HB.out)⟩
end Go.Proofs.Ytiheginanghhjaa.Q
namespace Go.Proofs.Ytiheginanghhjaa.Q
open Go.RowKit Go.Proofs.YtiheginanghhjaaW.PrintWords Go.Proofs.YtiheginanghhjaaW.PrintLast Go.Proofs.YtiheginanghhjaaW.PrintMore
attribute [local go_sem] aN_ aL_ bi_ bh_ aA_ az_ aO_ aM_
attribute [local go_sem high] eqA61
mutual
def aE_.j0 : Nat → List (S63) → List (S63) → List (S63) → Bool → Option (List ByteArray × Int)
 | 0, _, _, _, _ => none
 | k + 1, x0, x1, x2, x26 => if x26 = true then (some (([] : List ByteArray), 1)) else ((bj_.f k (([x0, x1, x2] : List (List (S63))))).bind fun t110 => (aE_.l0 k x0 x1 x2 (([] : List ByteArray)) t110 (t110.length : Int) 0))
def aE_.l0 : Nat → List (S63) → List (S63) → List (S63) → List ByteArray → List ByteArray → Int → Int → Option (List ByteArray × Int)
 | 0, _, _, _, _, _, _, _ => none
 | k + 1, x0, x1, x2, x8, x32, x33, x34 => if x34 < x33 then (if 0 ≤ x34 then (if x34 < (x32.length : Int) then ((bC_.f k x0 (rdOf ByteArray.empty x32 x34)).bind fun bt114 => ((bC_.f k x1 (rdOf ByteArray.empty x32 x34)).bind fun bt117 => ((bC_.f k x2 (rdOf ByteArray.empty x32 x34)).bind fun bt120 => (if (!(bt117.1.toList == bt120.1.toList) || (!(bt117.2.1 == bt120.2.1) || (!(bt117.2.2 == bt120.2.2)))) = true then (if (!(bt117.1.toList == bt114.1.toList) || (!(bt117.2.1 == bt114.2.1) || (!(bt117.2.2 == bt114.2.2)))) = true then (if (!(bt120.1.toList == bt114.1.toList) || (!(bt120.2.1 == bt114.2.1) || (!(bt120.2.2 == bt114.2.2)))) = true then (if x8.length < 8796093022208 then (aE_.l0 k x0 x1 x2 (x8 ++ [rdOf ByteArray.empty x32 x34]) x32 x33 (wrap64 (x34 + 1))) else (none)) else (aE_.l0 k x0 x1 x2 x8 x32 x33 (wrap64 (x34 + 1)))) else (aE_.l0 k x0 x1 x2 x8 x32 x33 (wrap64 (x34 + 1)))) else (aE_.l0 k x0 x1 x2 x8 x32 x33 (wrap64 (x34 + 1))))))) else (none)) else (none)) else (some (x8, 0))
end
def aE_.f (k : Nat) (l0 : List (S63)) (l1 : List (S63)) (l2 : List (S63)) : Option (List ByteArray × Int) := (ap_.f k l0).bind fun t101 => (if t101 = true then ((ap_.f k l1).bind fun t102 => (if t102 = true then ((ap_.f k l2).bind fun t103 => (aE_.j0 k l0 l1 l2 (!t103))) else (aE_.j0 k l0 l1 l2 true))) else (aE_.j0 k l0 l1 l2 true))
set_option maxHeartbeats 8000000 in
set_option maxRecDepth 100000 in
theorem aE_.calls (k : Nat) (P0_ : Nat → Prop) (A0 : Option Addr) (c0 : Nat) (l0 : List (S63)) (P1_ : Nat → Prop) (A1 : Option Addr) (c1 : Nat) (l1 : List (S63)) (P2_ : Nat → Prop) (A2 : Option Addr) (c2 : Nat) (l2 : List (S63)) (r1 : List ByteArray) (r2 : Int) (w : World) (hs0 : Kd.V k63 63 w w.heap.size (fun k_ => P0_ k_) (.slice A0 l0.length c0) l0) (hs1 : Kd.V k63 63 w w.heap.size (fun k_ => P1_ k_) (.slice A1 l1.length c1) l1) (hs2 : Kd.V k63 63 w w.heap.size (fun k_ => P2_ k_) (.slice A2 l2.length c2) l2) (h : aE_.f k l0 l1 l2 = some (r1, r2)) :
  Calls Try.prog 10 #[.slice A0 l0.length c0, .slice A1 l1.length c1, .slice A2 l2.length c2] w fun e w' => ∃ v0_ : Value, e = .returned (.tuple #[v0_, .int .i64 r2]) ∧ Kd.R Kd.string 9 w' w.heap.size (fun k_ => (w.heap.size ≤ k_)) v0_ r1 ∧ Below w.heap.size w w' := by
 have hu61 := Try.underlying61
 have HO0 := Aside0.mk (show Kd.V k63 63 w w.heap.size (fun k_ => ((P0_ k_ ∨ P1_ k_ ∨ P2_ k_) ∨ w.heap.size ≤ k_)) (.slice A0 l0.length c0) l0 from Kd.aW_ hs0 (fun k_ hk => .inl (.inl hk)))
 have HO1 := Aside0.mk (show Kd.V k63 63 w w.heap.size (fun k_ => ((P0_ k_ ∨ P1_ k_ ∨ P2_ k_) ∨ w.heap.size ≤ k_)) (.slice A1 l1.length c1) l1 from Kd.aW_ hs1 (fun k_ hk => .inl (.inr (.inl hk))))
 have HO2 := Aside0.mk (show Kd.V k63 63 w w.heap.size (fun k_ => ((P0_ k_ ∨ P1_ k_ ∨ P2_ k_) ∨ w.heap.size ≤ k_)) (.slice A2 l2.length c2) l2 from Kd.aW_ hs2 (fun k_ hk => .inl (.inr (.inr hk))))
 have HB := Aside0.mk (Below.refl w.heap.size w)
 have H : ((ap_.f k l0).bind fun t101 => (if t101 = true then ((ap_.f k l1).bind fun t102 => (if t102 = true then ((ap_.f k l2).bind fun t103 => (aE_.j0 k l0 l1 l2 (!t103))) else (aE_.j0 k l0 l1 l2 true))) else (aE_.j0 k l0 l1 l2 true))) = some (r1, r2) := h
 clear h
 have HC4 := Aside0.mk H
 clear H
 go_enter Try.func10, Try.ntmps10
 go_upto_region 1 with (fail)
 go_cut [26] (fun v26 wc => ∃ (kq : Nat) (x26_3 : Bool), v26 = .bool x26_3 ∧ Aside0 (aE_.j0 kq l0 l1 l2 x26_3 = some (r1, r2)) ∧ Aside0 (kq ≤ k) ∧ Aside0 (Kd.V k63 63 wc w.heap.size (fun k_ => ((P0_ k_ ∨ P1_ k_ ∨ P2_ k_) ∨ w.heap.size ≤ k_)) (.slice A0 l0.length c0) l0) ∧ Aside0 (Kd.V k63 63 wc w.heap.size (fun k_ => ((P0_ k_ ∨ P1_ k_ ∨ P2_ k_) ∨ w.heap.size ≤ k_)) (.slice A1 l1.length c1) l1) ∧ Aside0 (Kd.V k63 63 wc w.heap.size (fun k_ => ((P0_ k_ ∨ P1_ k_ ∨ P2_ k_) ∨ w.heap.size ≤ k_)) (.slice A2 l2.length c2) l2) ∧ Aside0 (Below w.heap.size w wc))
 case first =>
  have H := HC4.out
  clear HC4
  replace H := Option.bind_eq_some_iff.mp H
  obtain ⟨t101, A50, H⟩ := H
  (try dsimp only at H)
  have A5 := Aside0.mk A50
  clear A50
  by_cases c6 : t101 = true
  rotate_left
  ·replace c6 := Bool.eq_false_iff.mpr c6
   subst c6
   have H1 : (aE_.j0 k l0 l1 l2 true) = some (r1, r2) := by rw [if_neg (show ¬ (false = true) by decide)] at H; exact H
   clear H
   have H := H1
   clear H1
   have H' := Aside0.mk H
   clear H
   go_wp2_with (first | ((with_reducible refine am_ (f := 39) rfl ?_); refine aX_ (some 15) rfl rfl Try.func39 (by kernel_rfl) rfl #[.slice A0 l0.length c0] rfl (by first | rfl | (simp only [List.map_toArray, List.map_cons, List.map_nil]; first | done | rfl)) ?_; (with_reducible refine (ap_.calls k _ _ l0 false _ ?side1 ?side2 A5.out).mono ?_); (case side1 => exact cz (Kd.bb_ HO0.out).2.2); (case side2 => exact (Kd.bb_ HO0.out).2.1); rintro e w15 ⟨rfl, hb⟩; refine ⟨_, rfl, ?_⟩; replace HO0 := Aside0.mk (Kd.aS_ (vz HO0.out) hb); replace HO1 := Aside0.mk (Kd.aS_ (vz HO1.out) hb); replace HO2 := Aside0.mk (Kd.aS_ (vz HO2.out) hb); replace HB := Aside0.mk (ag_ (bz HB.out) hb); (try clear hb)))
   go_meet
   case rel => exact ⟨_, (true), (by first | rfl | (simp; done) | (simp [*]; done)), H', ⟨by first | omega | exact Nat.le_refl _⟩, ⟨vz HO0.out⟩, ⟨vz HO1.out⟩, ⟨vz HO2.out⟩, ⟨bz HB.out⟩⟩
  subst c6
  have H1 : ((ap_.f k l1).bind fun t102 => (if t102 = true then ((ap_.f k l2).bind fun t103 => (aE_.j0 k l0 l1 l2 (!t103))) else (aE_.j0 k l0 l1 l2 true))) = some (r1, r2) := by rw [if_pos rfl] at H; exact H
  clear H
  have H := H1
  clear H1
  replace H := Option.bind_eq_some_iff.mp H
  obtain ⟨t102, A70, H⟩ := H
  (try dsimp only at H)
  have A7 := Aside0.mk A70
  clear A70
  by_cases c8 : t102 = true
  rotate_left
  ·replace c8 := Bool.eq_false_iff.mpr c8
   subst c8
   have H1 : (aE_.j0 k l0 l1 l2 true) = some (r1, r2) := by rw [if_neg (show ¬ (false = true) by decide)] at H; exact H
   clear H
   have H := H1
   clear H1
   have H' := Aside0.mk H
   clear H
   go_wp2_with (first | ((with_reducible refine am_ (f := 39) rfl ?_); refine aX_ (some 15) rfl rfl Try.func39 (by kernel_rfl) rfl #[.slice A0 l0.length c0] rfl (by first | rfl | (simp only [List.map_toArray, List.map_cons, List.map_nil]; first | done | rfl)) ?_; (with_reducible refine (ap_.calls k _ _ l0 true _ ?side1 ?side2 A5.out).mono ?_); (case side1 => exact cz (Kd.bb_ HO0.out).2.2); (case side2 => exact (Kd.bb_ HO0.out).2.1); rintro e w13 ⟨rfl, hb⟩; refine ⟨_, rfl, ?_⟩; replace HO0 := Aside0.mk (Kd.aS_ (vz HO0.out) hb); replace HO1 := Aside0.mk (Kd.aS_ (vz HO1.out) hb); replace HO2 := Aside0.mk (Kd.aS_ (vz HO2.out) hb); replace HB := Aside0.mk (ag_ (bz HB.out) hb); (try clear hb)) | (go_at_call 39; (with_reducible refine (ap_.calls k _ _ l1 false _ ?side1 ?side2 A7.out).mono ?_); (case side1 => exact cz (Kd.bb_ HO1.out).2.2); (case side2 => exact (Kd.bb_ HO1.out).2.1); rintro e w14 ⟨rfl, hb⟩; replace HO0 := Aside0.mk (Kd.aS_ (vz HO0.out) hb); replace HO1 := Aside0.mk (Kd.aS_ (vz HO1.out) hb); replace HO2 := Aside0.mk (Kd.aS_ (vz HO2.out) hb); replace HB := Aside0.mk (ag_ (bz HB.out) hb); (try clear hb)))
   go_meet
   case rel => exact ⟨_, (true), (by first | rfl | (simp; done) | (simp [*]; done)), H', ⟨by first | omega | exact Nat.le_refl _⟩, ⟨vz HO0.out⟩, ⟨vz HO1.out⟩, ⟨vz HO2.out⟩, ⟨bz HB.out⟩⟩
  subst c8
  have H1 : ((ap_.f k l2).bind fun t103 => (aE_.j0 k l0 l1 l2 (!t103))) = some (r1, r2) := by rw [if_pos rfl] at H; exact H
  clear H
  have H := H1
  clear H1
  replace H := Option.bind_eq_some_iff.mp H
  obtain ⟨t103, A90, H⟩ := H
  (try dsimp only at H)
  have A9 := Aside0.mk A90
  clear A90
  have H' := Aside0.mk H
  clear H
  go_wp2_with (first | ((with_reducible refine am_ (f := 39) rfl ?_); refine aX_ (some 15) rfl rfl Try.func39 (by kernel_rfl) rfl #[.slice A0 l0.length c0] rfl (by first | rfl | (simp only [List.map_toArray, List.map_cons, List.map_nil]; first | done | rfl)) ?_; (with_reducible refine (ap_.calls k _ _ l0 true _ ?side1 ?side2 A5.out).mono ?_); (case side1 => exact cz (Kd.bb_ HO0.out).2.2); (case side2 => exact (Kd.bb_ HO0.out).2.1); rintro e w10 ⟨rfl, hb⟩; refine ⟨_, rfl, ?_⟩; replace HO0 := Aside0.mk (Kd.aS_ (vz HO0.out) hb); replace HO1 := Aside0.mk (Kd.aS_ (vz HO1.out) hb); replace HO2 := Aside0.mk (Kd.aS_ (vz HO2.out) hb); replace HB := Aside0.mk (ag_ (bz HB.out) hb); (try clear hb)) | (go_at_call 39; (with_reducible refine (ap_.calls k _ _ l1 true _ ?side1 ?side2 A7.out).mono ?_); (case side1 => exact cz (Kd.bb_ HO1.out).2.2); (case side2 => exact (Kd.bb_ HO1.out).2.1); rintro e w11 ⟨rfl, hb⟩; replace HO0 := Aside0.mk (Kd.aS_ (vz HO0.out) hb); replace HO1 := Aside0.mk (Kd.aS_ (vz HO1.out) hb); replace HO2 := Aside0.mk (Kd.aS_ (vz HO2.out) hb); replace HB := Aside0.mk (ag_ (bz HB.out) hb); (try clear hb)) | (go_at_call 39; (with_reducible refine (ap_.calls k _ _ l2 t103 _ ?side1 ?side2 A9.out).mono ?_); (case side1 => exact cz (Kd.bb_ HO2.out).2.2); (case side2 => exact (Kd.bb_ HO2.out).2.1); rintro e w12 ⟨rfl, hb⟩; replace HO0 := Aside0.mk (Kd.aS_ (vz HO0.out) hb); replace HO1 := Aside0.mk (Kd.aS_ (vz HO1.out) hb); replace HO2 := Aside0.mk (Kd.aS_ (vz HO2.out) hb); replace HB := Aside0.mk (ag_ (bz HB.out) hb); (try clear hb)))
  go_meet
  case rel => exact ⟨_, (!t103), (by first | rfl | (simp; done) | (simp [*]; done)), H', ⟨by first | omega | exact Nat.le_refl _⟩, ⟨vz HO0.out⟩, ⟨vz HO1.out⟩, ⟨vz HO2.out⟩, ⟨bz HB.out⟩⟩
 case rest =>
  clear HC4
  obtain ⟨kq, x26_3, rfl, HA, HJ3, HO_0, HO_1, HO_2, HB⟩ := hcut
  cases kq with
  | zero => exact absurd HA.out (by simp [aE_.j0])
  | succ kj3 =>
   have H := HA.out
   clear HA
   simp only [aE_.j0] at H
   by_cases c16 : x26_3 = true
   rotate_left
   ·replace c16 := Bool.eq_false_iff.mpr c16
    subst c16
    have H1 : ((bj_.f kj3 (([l0, l1, l2] : List (List (S63))))).bind fun t110 => (aE_.l0 kj3 l0 l1 l2 (([] : List ByteArray)) t110 (t110.length : Int) 0)) = some (r1, r2) := by rw [if_neg (show ¬ (false = true) by decide)] at H; exact H
    clear H
    have H := H1
    clear H1
    obtain ⟨y104, hy104⟩ : ∃ y_ : List ByteArray, y_ = (([] : List ByteArray)) := ⟨_, rfl⟩
    replace H : ((bj_.f kj3 (([l0, l1, l2] : List (List (S63))))).bind fun t110 => (aE_.l0 kj3 l0 l1 l2 y104 t110 (t110.length : Int) 0)) = some (r1, r2) := by first | (rw [hy104]; with_reducible exact H) | (have H2_ := (Option.bind_some _ _).symm.trans H; rw [hy104]; with_reducible exact H2_) | (have H2_ := (Option.bind_some _ _).symm.trans H; with_reducible exact H2_) | with_reducible exact H | (rw [hy104]; exact H) | exact H
    have Ny104 := Aside0.mk hy104
    clear hy104
    obtain ⟨y107, hy107⟩ : ∃ y_ : List (List (S63)), y_ = (([l0, l1, l2] : List (List (S63)))) := ⟨_, rfl⟩
    replace H : ((bj_.f kj3 y107).bind fun t110 => (aE_.l0 kj3 l0 l1 l2 y104 t110 (t110.length : Int) 0)) = some (r1, r2) := by first | (rw [hy107]; with_reducible exact H) | (have H2_ := (Option.bind_some _ _).symm.trans H; rw [hy107]; with_reducible exact H2_) | (have H2_ := (Option.bind_some _ _).symm.trans H; with_reducible exact H2_) | with_reducible exact H | (rw [hy107]; exact H) | exact H
    have Ny107 := Aside0.mk hy107
    clear hy107
    replace H := Option.bind_eq_some_iff.mp H
    obtain ⟨t110, A170, H⟩ := H
    (try dsimp only at H)
    have A17 := Aside0.mk A170
    clear A170
    have H' := Aside0.mk H
    clear H
    go_wp2_with (first | ((with_reducible refine au_ (N := 27) rfl ?_); refine Kd.R_lit Kd.string _ 9 ?hg (N := 27) ?hd (xs := ([] : List ByteArray)) (inner := []) (ok := fun _ => True) (okp := fun _ => True) ?hr ?hp (fun _ hk => hk) trivial (Below.refl _ _) (Nat.le_refl _) (by simp) ?_; (case hd => rfl); (case hg => rfl); (case hr => (go_simp; try rfl)); (case hp => exact (Reps.none _ _)); intro v105 w18 ho19 hb hg_ hnew_; clear hg_ hnew_; (first | rw [← Ny104.out] at ho19 | (simp only [Int.reduceToNat] at ho19; rw [← Ny104.out] at ho19)); replace HO_0 := Aside0.mk (Kd.bP_ (vz HO_0.out) (Kd.bv_ ho19) hb); replace HO_1 := Aside0.mk (Kd.bP_ (vz HO_1.out) (Kd.bv_ ho19) hb); replace HO_2 := Aside0.mk (Kd.bP_ (vz HO_2.out) (Kd.bv_ ho19) hb); have HO106 := Aside0.mk (Kd.bI_ (Kd.dn_ (M := fun k_ => (w.heap.size ≤ k_)) ho19 (ae_ (bz HB.out)) (fun k_ h_ => h_)) (ae_ (bz HB.out))); replace HB := Aside0.mk (ag_ (bz HB.out) hb); clear hb ho19) | ((with_reducible refine au_ (N := 31) rfl ?_); refine Kd.N_lit (Kd.slice 63 k63) _ 27 ?hg (N' := 31) ?hd (xs := ([l0, l1, l2] : List (List (S63)))) (inner := [.slice A0 l0.length c0, .slice A1 l1.length c1, .slice A2 l2.length c2]) (ok := (fun k_ => ((P0_ k_ ∨ P1_ k_ ∨ P2_ k_) ∨ w.heap.size ≤ k_) ∧ some k_ ≠ (v105 : Value).ownBlock)) (okp := (fun k_ => ((P0_ k_ ∨ P1_ k_ ∨ P2_ k_) ∨ w.heap.size ≤ k_) ∧ some k_ ≠ (v105 : Value).ownBlock)) ?hr ?hp (fun _ hk => hk) ((show ∀ k_, w18.heap.size ≤ k_ → (fun k_ => ((P0_ k_ ∨ P1_ k_ ∨ P2_ k_) ∨ w.heap.size ≤ k_) ∧ some k_ ≠ (v105 : Value).ownBlock) k_ from fun k_ hk => ⟨(.inr (Nat.le_trans (ae_ (bz HB.out)) hk)), Kd.fresh' (Kd.R_lt (rz HO106.out)) k_ hk⟩) _ (Nat.le_refl _)) (Below.refl _ _) (Nat.le_refl _) (by simp) ?_; (case hd => rfl); (case hg => rfl); (case hr => (go_simp; try rfl)); (case hp => exact (Reps.one (show Kd.FK (Kd.slice 63 k63) _ _ l0 [.slice A0 l0.length c0] from (Kd.cl_ (Kd.bb_ (Kd.aW_ (ok' := (fun k_ => ((P0_ k_ ∨ P1_ k_ ∨ P2_ k_) ∨ w.heap.size ≤ k_) ∧ some k_ ≠ (v105 : Value).ownBlock)) (HO_0.out) (fun k_ hk => ⟨hk.1, hk.2⟩))).2.1 (Kd.V_F (Kd.aW_ (ok' := (fun k_ => ((P0_ k_ ∨ P1_ k_ ∨ P2_ k_) ∨ w.heap.size ≤ k_) ∧ some k_ ≠ (v105 : Value).ownBlock)) (HO_0.out) (fun k_ hk => ⟨hk.1, hk.2⟩))))) (Reps.one (show Kd.FK (Kd.slice 63 k63) _ _ l1 [.slice A1 l1.length c1] from (Kd.cl_ (Kd.bb_ (Kd.aW_ (ok' := (fun k_ => ((P0_ k_ ∨ P1_ k_ ∨ P2_ k_) ∨ w.heap.size ≤ k_) ∧ some k_ ≠ (v105 : Value).ownBlock)) (HO_1.out) (fun k_ hk => ⟨hk.1, hk.2⟩))).2.1 (Kd.V_F (Kd.aW_ (ok' := (fun k_ => ((P0_ k_ ∨ P1_ k_ ∨ P2_ k_) ∨ w.heap.size ≤ k_) ∧ some k_ ≠ (v105 : Value).ownBlock)) (HO_1.out) (fun k_ hk => ⟨hk.1, hk.2⟩))))) (Reps.one (show Kd.FK (Kd.slice 63 k63) _ _ l2 [.slice A2 l2.length c2] from (Kd.cl_ (Kd.bb_ (Kd.aW_ (ok' := (fun k_ => ((P0_ k_ ∨ P1_ k_ ∨ P2_ k_) ∨ w.heap.size ≤ k_) ∧ some k_ ≠ (v105 : Value).ownBlock)) (HO_2.out) (fun k_ hk => ⟨hk.1, hk.2⟩))).2.1 (Kd.V_F (Kd.aW_ (ok' := (fun k_ => ((P0_ k_ ∨ P1_ k_ ∨ P2_ k_) ∨ w.heap.size ≤ k_) ∧ some k_ ≠ (v105 : Value).ownBlock)) (HO_2.out) (fun k_ hk => ⟨hk.1, hk.2⟩))))) (Reps.none _ _))))); intro v108 w20 ho21 hb hg_ hnew_; clear hg_ hnew_; (first | rw [← Ny107.out] at ho21 | (simp only [Int.reduceToNat] at ho21; rw [← Ny107.out] at ho21)); replace HO_0 := Aside0.mk (Kd.bP_ (vz HO_0.out) (Kd.N_base ho21) hb); replace HO_1 := Aside0.mk (Kd.bP_ (vz HO_1.out) (Kd.N_base ho21) hb); replace HO_2 := Aside0.mk (Kd.bP_ (vz HO_2.out) (Kd.N_base ho21) hb); replace HO106 := Aside0.mk (Kd.aH_ (rz HO106.out) hb); have HO109 := Aside0.mk (Kd.dt_ ho21 (ae_ (bz HB.out))); replace HB := Aside0.mk (ag_ (bz HB.out) hb); clear hb ho21; obtain ⟨Ao22, co22, eo22⟩ := Kd.dz_ HO109.out; subst eo22) | ((with_reducible refine am_ (f := 40) rfl ?_); refine aX_ (some 32) rfl rfl Try.func40 (by kernel_rfl) rfl #[.slice Ao22 y107.length co22] rfl (by first | rfl | (simp only [List.map_toArray, List.map_cons, List.map_nil]; first | done | rfl)) ?_; (with_reducible refine (bj_.calls kj3 _ _ y107 t110 _ ?side1 ?side2 A17.out).mono ?_); (case side1 => exact cz (Kd.cp_ HO109.out).2.2); (case side2 => exact (Kd.cp_ HO109.out).2.1); rintro e w23 ⟨v111, rfl, ho0, hb⟩; refine ⟨_, rfl, ?_⟩; replace HO_0 := Aside0.mk (Kd.bP_ (vz HO_0.out) (Kd.bv_ ho0) hb); replace HO_1 := Aside0.mk (Kd.bP_ (vz HO_1.out) (Kd.bv_ ho0) hb); replace HO_2 := Aside0.mk (Kd.bP_ (vz HO_2.out) (Kd.bv_ ho0) hb); replace HO109 := Aside0.mk (Kd.N_elder' (nz HO109.out) (Kd.bv_ ho0) hb); have HO112 := Aside0.mk (Kd.bI_ (Kd.bU_ (Kd.dn_ (M := fun k_ => (w.heap.size ≤ k_)) ho0 (ae_ (bz HB.out)) (fun k_ h_ => h_)) (Kd.R_lt (rz HO106.out))) (ae_ (bz HB.out))); replace HO106 := Aside0.mk (Kd.bo_ (rz HO106.out) (Kd.bv_ ho0) hb); replace HB := Aside0.mk (ag_ (bz HB.out) hb); (try clear hb); (try clear ho0); obtain ⟨Ao24, co24, eo24⟩ := Kd.bF_ HO112.out; subst eo24))
    (try simp only [Act.put, lsa_, ls0_, ls1_])
    go_loopg [8, 34] kj3 (fun kq v8 v34 w' => ∃ (x8_2 : List ByteArray) (x34_2 : Int), v34 = .int .i64 x34_2 ∧ Aside0 (aE_.l0 kq l0 l1 l2 x8_2 t110 (t110.length : Int) x34_2 = some (r1, r2)) ∧ Aside0 (kq ≤ kj3) ∧ Aside0 (Kd.V k63 63 w' w.heap.size (fun k_ => ((P0_ k_ ∨ P1_ k_ ∨ P2_ k_) ∨ w.heap.size ≤ k_) ∧ some k_ ≠ (v8 : Value).ownBlock ∧ some k_ ≠ ((.slice Ao24 t110.length co24) : Value).ownBlock) (.slice A0 l0.length c0) l0) ∧ Aside0 (Kd.V k63 63 w' w.heap.size (fun k_ => ((P0_ k_ ∨ P1_ k_ ∨ P2_ k_) ∨ w.heap.size ≤ k_) ∧ some k_ ≠ (v8 : Value).ownBlock ∧ some k_ ≠ ((.slice Ao24 t110.length co24) : Value).ownBlock) (.slice A1 l1.length c1) l1) ∧ Aside0 (Kd.V k63 63 w' w.heap.size (fun k_ => ((P0_ k_ ∨ P1_ k_ ∨ P2_ k_) ∨ w.heap.size ≤ k_) ∧ some k_ ≠ (v8 : Value).ownBlock ∧ some k_ ≠ ((.slice Ao24 t110.length co24) : Value).ownBlock) (.slice A2 l2.length c2) l2) ∧ Aside0 (Kd.R Kd.string 9 w' w.heap.size (fun k_ => (w.heap.size ≤ k_) ∧ some k_ ≠ ((.slice Ao24 t110.length co24) : Value).ownBlock) v8 x8_2) ∧ Aside0 (Kd.R Kd.string 9 w' w.heap.size (fun k_ => (w.heap.size ≤ k_) ∧ some k_ ≠ (v8 : Value).ownBlock) (.slice Ao24 t110.length co24) t110) ∧ Aside0 (Below w.heap.size w w'))
    case atStart => exact ⟨(y104), (0), (by first | rfl | (simp; done) | (simp [*]; done)), H', ⟨Nat.le_refl _⟩, ⟨vz (Kd.aW_ HO_0.out (fun _ hk => ⟨hk.1.1.1, ⟨hk.1.1.2, hk.2⟩⟩))⟩, ⟨vz (Kd.aW_ HO_1.out (fun _ hk => ⟨hk.1.1.1, ⟨hk.1.1.2, hk.2⟩⟩))⟩, ⟨vz (Kd.aW_ HO_2.out (fun _ hk => ⟨hk.1.1.1, ⟨hk.1.1.2, hk.2⟩⟩))⟩, ⟨rz (Kd.aK_ HO106.out (fun _ hk => ⟨hk.1.1, hk.2⟩))⟩, ⟨rz (Kd.aK_ HO112.out (fun _ hk => ⟨hk.1.1, hk.2⟩))⟩, ⟨bz HB.out⟩⟩
    case round =>
     clear H'
     obtain ⟨x8_2, x34_2, rfl, HA, HK2, HO_0, HO_1, HO_2, HO_8, HO_32, HB⟩ := hrel
     cases gk with
     | zero => exact absurd HA.out (by simp [aE_.l0])
     | succ k2 =>
      have H := HA.out
      clear HA
      simp only [aE_.l0] at H
      by_cases c25 : x34_2 < (t110.length : Int)
      rotate_left
      ·rw [if_neg c25] at H
       have c25b0 : decide (x34_2 < (t110.length : Int)) = false := decide_eq_false c25
       clear c25
       simp only [Option.some.injEq, Prod.mk.injEq] at H
       obtain ⟨rfl, rfl⟩ := H
       go_wp2
       go_ret2
       exact ⟨_, by first | rfl | (simp [*, an_, ao_] <;> rfl), rz (Kd.aK_ HO_8.out (fun _ hk => hk.1)), bz HB.out⟩
      rw [if_pos c25] at H
      have c25b0 : decide (x34_2 < (t110.length : Int)) = true := decide_eq_true c25
      clear c25
      by_cases c26 : 0 ≤ x34_2
      rotate_left
      ·rw [if_neg c26] at H
       exact absurd H (by simp)
      rw [if_pos c26] at H
      have c26b0 : decide (0 ≤ x34_2) = true := decide_eq_true c26
      clear c26
      by_cases c27 : x34_2 < (t110.length : Int)
      rotate_left
      ·rw [if_neg c27] at H
       exact absurd H (by simp)
      rw [if_pos c27] at H
      have c27b0 : decide (x34_2 < (t110.length : Int)) = true := decide_eq_true c27
      clear c27
      replace H := Option.bind_eq_some_iff.mp H
      obtain ⟨⟨t114, t115, t116⟩, A280, H⟩ := H
      (try dsimp only at H)
      have A28 := Aside0.mk A280
      clear A280
      replace H := Option.bind_eq_some_iff.mp H
      obtain ⟨⟨t117, t118, t119⟩, A290, H⟩ := H
      (try dsimp only at H)
      have A29 := Aside0.mk A290
      clear A290
      replace H := Option.bind_eq_some_iff.mp H
      obtain ⟨⟨t120, t121, t122⟩, A300, H⟩ := H
      (try dsimp only at H)
      have A30 := Aside0.mk A300
      clear A300
      by_cases c31 : (!(t117.toList == t120.toList) || (!(t118 == t121) || (!(t119 == t122)))) = true
      rotate_left
      ·rw [if_neg c31] at H
       have c31b0 : (!(t117.toList == t120.toList) || (!(t118 == t121) || (!(t119 == t122)))) = false := by simpa using c31
       clear c31
       have H' := Aside0.mk H
       clear H
       have p113 : 0 ≤ (x34_2 : Int) := of_decide_eq_true (by assumption)
       have q113 : x34_2 < (t110.length : Int) := of_decide_eq_true (by assumption)
       obtain ⟨ad113, e113, hx113_0⟩ := Kd.co_ (Kd.bf_ HO_32.out).2.2 x34_2 p113 q113
       cases e113
       replace p113 := eq_true p113
       replace q113 := eq_true q113
       go_wp2_with (first | ((with_reducible refine am_ (f := 41) rfl ?_); refine aX_ (some 40) rfl rfl Try.func41 (by kernel_rfl) rfl #[.slice A0 l0.length c0, .string (rdOf ByteArray.empty t110 x34_2)] rfl (by first | rfl | (simp only [List.map_toArray, List.map_cons, List.map_nil]; first | done | rfl)) ?_; (with_reducible refine (bC_.calls k2 _ _ l0 (rdOf ByteArray.empty t110 x34_2) t114 t115 t116 _ ?side1 ?side2 A28.out).mono ?_); (case side1 => exact cz (Kd.bb_ HO_0.out).2.2); (case side2 => exact (Kd.bb_ HO_0.out).2.1); rintro e w61 ⟨rfl, hb⟩; refine ⟨_, rfl, ?_⟩; replace HO_0 := Aside0.mk (Kd.aS_ (vz HO_0.out) hb); replace HO_1 := Aside0.mk (Kd.aS_ (vz HO_1.out) hb); replace HO_2 := Aside0.mk (Kd.aS_ (vz HO_2.out) hb); replace HO_8 := Aside0.mk (Kd.aH_ (rz HO_8.out) hb); replace HO_32 := Aside0.mk (Kd.aH_ (rz HO_32.out) hb); replace HB := Aside0.mk (ag_ (bz HB.out) hb); (try clear hb)) | ((with_reducible refine am_ (f := 41) rfl ?_); refine aX_ (some 43) rfl rfl Try.func41 (by kernel_rfl) rfl #[.slice A1 l1.length c1, .string (rdOf ByteArray.empty t110 x34_2)] rfl (by first | rfl | (simp only [List.map_toArray, List.map_cons, List.map_nil]; first | done | rfl)) ?_; (with_reducible refine (bC_.calls k2 _ _ l1 (rdOf ByteArray.empty t110 x34_2) t117 t118 t119 _ ?side1 ?side2 A29.out).mono ?_); (case side1 => exact cz (Kd.bb_ HO_1.out).2.2); (case side2 => exact (Kd.bb_ HO_1.out).2.1); rintro e w62 ⟨rfl, hb⟩; refine ⟨_, rfl, ?_⟩; replace HO_0 := Aside0.mk (Kd.aS_ (vz HO_0.out) hb); replace HO_1 := Aside0.mk (Kd.aS_ (vz HO_1.out) hb); replace HO_2 := Aside0.mk (Kd.aS_ (vz HO_2.out) hb); replace HO_8 := Aside0.mk (Kd.aH_ (rz HO_8.out) hb); replace HO_32 := Aside0.mk (Kd.aH_ (rz HO_32.out) hb); replace HB := Aside0.mk (ag_ (bz HB.out) hb); (try clear hb)) | ((with_reducible refine am_ (f := 41) rfl ?_); refine aX_ (some 46) rfl rfl Try.func41 (by kernel_rfl) rfl #[.slice A2 l2.length c2, .string (rdOf ByteArray.empty t110 x34_2)] rfl (by first | rfl | (simp only [List.map_toArray, List.map_cons, List.map_nil]; first | done | rfl)) ?_; (with_reducible refine (bC_.calls k2 _ _ l2 (rdOf ByteArray.empty t110 x34_2) t120 t121 t122 _ ?side1 ?side2 A30.out).mono ?_); (case side1 => exact cz (Kd.bb_ HO_2.out).2.2); (case side2 => exact (Kd.bb_ HO_2.out).2.1); rintro e w63 ⟨rfl, hb⟩; refine ⟨_, rfl, ?_⟩; replace HO_0 := Aside0.mk (Kd.aS_ (vz HO_0.out) hb); replace HO_1 := Aside0.mk (Kd.aS_ (vz HO_1.out) hb); replace HO_2 := Aside0.mk (Kd.aS_ (vz HO_2.out) hb); replace HO_8 := Aside0.mk (Kd.aH_ (rz HO_8.out) hb); replace HO_32 := Aside0.mk (Kd.aH_ (rz HO_32.out) hb); replace HB := Aside0.mk (ag_ (bz HB.out) hb); (try clear hb)) | ((with_reducible refine au_ (N := 11) rfl ?_); refine aQ_ ?hg (N := 11) ?hd (cs := #[.string (⟨#[]⟩ : ByteArray), .int .i64 0, .int .i64 0]) (t := 61) ?hr ?_; (case hd => rfl); (case hg => rfl); (case hr => (go_simp; try rfl)); intro gb123 hg w64 hbox hb; replace HO_0 := Aside0.mk (Kd.aS_ (Kd.ca_ (vz HO_0.out) gb123 (Nat.le_of_eq hg.symm)) hb); replace HO_1 := Aside0.mk (Kd.aS_ (Kd.ca_ (vz HO_1.out) gb123 (Nat.le_of_eq hg.symm)) hb); replace HO_2 := Aside0.mk (Kd.aS_ (Kd.ca_ (vz HO_2.out) gb123 (Nat.le_of_eq hg.symm)) hb); replace HO_8 := Aside0.mk (Kd.aH_ (rz HO_8.out) hb); replace HO_32 := Aside0.mk (Kd.aH_ (rz HO_32.out) hb); have BK123 := Aside0.mk (hbox); have GW123 := Aside0.mk ((by rw [hg]; exact (ae_ (bz HB.out)) : w.heap.size ≤ gb123)); have GE123 := Aside0.mk ((by rw [hg]; exact (ae_ (bz HB.out)) : w.heap.size ≤ gb123)); replace HB := Aside0.mk (ag_ (bz HB.out) hb); clear hb hbox hg) | ((with_reducible refine au_ (N := 12) rfl ?_); refine aQ_ ?hg (N := 12) ?hd (cs := #[.string (⟨#[]⟩ : ByteArray), .int .i64 0, .int .i64 0]) (t := 61) ?hr ?_; (case hd => rfl); (case hg => rfl); (case hr => (go_simp; try rfl)); intro gb124 hg w65 hbox hb; replace HO_0 := Aside0.mk (Kd.aS_ (Kd.ca_ (vz HO_0.out) gb124 (Nat.le_of_eq hg.symm)) hb); replace HO_1 := Aside0.mk (Kd.aS_ (Kd.ca_ (vz HO_1.out) gb124 (Nat.le_of_eq hg.symm)) hb); replace HO_2 := Aside0.mk (Kd.aS_ (Kd.ca_ (vz HO_2.out) gb124 (Nat.le_of_eq hg.symm)) hb); replace HO_8 := Aside0.mk (Kd.aH_ (rz HO_8.out) hb); replace HO_32 := Aside0.mk (Kd.aH_ (rz HO_32.out) hb); have BK124 := Aside0.mk (hbox); have GW124 := Aside0.mk ((by rw [hg]; exact (ae_ (by repeat (first | (with_reducible first | exact HB.out | apply bA_ | apply bN_ | apply bD_ | refine ac_ ?_ GE123.out) | exact HB.out))) : w.heap.size ≤ gb124)); have GE124 := Aside0.mk ((by rw [hg]; exact (ae_ (by repeat (first | (with_reducible first | exact HB.out | apply bA_ | apply bN_ | apply bD_ | refine ac_ ?_ GE123.out) | exact HB.out))) : w.heap.size ≤ gb124)); replace HB := Aside0.mk (ag_ (by repeat (first | (with_reducible first | exact HB.out | apply bA_ | apply bN_ | apply bD_ | refine ac_ ?_ GE123.out) | exact HB.out)) hb); have NB123_124 := Aside0.mk ((by rw [hg]; exact Nat.ne_of_lt (bM_ (g := gb123) (o := .cells #[.string (⟨#[]⟩ : ByteArray), .int .i64 0, .int .i64 0] 61 (0, 0)) (kz BK123.out)) : gb123 ≠ gb124)); have NB124_123 := Aside0.mk ((by rw [hg]; exact Nat.ne_of_gt (bM_ (g := gb123) (o := .cells #[.string (⟨#[]⟩ : ByteArray), .int .i64 0, .int .i64 0] 61 (0, 0)) (kz BK123.out)) : gb124 ≠ gb123)); replace BK123 := Aside0.mk (aG_ (g := gb123) (o := .cells #[.string (⟨#[]⟩ : ByteArray), .int .i64 0, .int .i64 0] 61 (0, 0)) (kz BK123.out) hb); clear hb hbox hg) | ((with_reducible refine au_ (N := 13) rfl ?_); refine aQ_ ?hg (N := 13) ?hd (cs := #[.string (⟨#[]⟩ : ByteArray), .int .i64 0, .int .i64 0]) (t := 61) ?hr ?_; (case hd => rfl); (case hg => rfl); (case hr => (go_simp; try rfl)); intro gb125 hg w66 hbox hb; replace HO_0 := Aside0.mk (Kd.aS_ (Kd.ca_ (vz HO_0.out) gb125 (Nat.le_of_eq hg.symm)) hb); replace HO_1 := Aside0.mk (Kd.aS_ (Kd.ca_ (vz HO_1.out) gb125 (Nat.le_of_eq hg.symm)) hb); replace HO_2 := Aside0.mk (Kd.aS_ (Kd.ca_ (vz HO_2.out) gb125 (Nat.le_of_eq hg.symm)) hb); replace HO_8 := Aside0.mk (Kd.aH_ (rz HO_8.out) hb); replace HO_32 := Aside0.mk (Kd.aH_ (rz HO_32.out) hb); have BK125 := Aside0.mk (hbox); have GW125 := Aside0.mk ((by rw [hg]; exact (ae_ (by repeat (first | (with_reducible first | exact HB.out | apply bA_ | apply bN_ | apply bD_ | refine ac_ ?_ GE123.out | refine ac_ ?_ GE124.out) | exact HB.out))) : w.heap.size ≤ gb125)); have GE125 := Aside0.mk ((by rw [hg]; exact (ae_ (by repeat (first | (with_reducible first | exact HB.out | apply bA_ | apply bN_ | apply bD_ | refine ac_ ?_ GE123.out | refine ac_ ?_ GE124.out) | exact HB.out))) : w.heap.size ≤ gb125)); replace HB := Aside0.mk (ag_ (by repeat (first | (with_reducible first | exact HB.out | apply bA_ | apply bN_ | apply bD_ | refine ac_ ?_ GE123.out | refine ac_ ?_ GE124.out) | exact HB.out)) hb); have NB123_125 := Aside0.mk ((by rw [hg]; exact Nat.ne_of_lt (bM_ (g := gb123) (o := .cells #[.string (⟨#[]⟩ : ByteArray), .int .i64 0, .int .i64 0] 61 (0, 0)) (kz BK123.out)) : gb123 ≠ gb125)); have NB125_123 := Aside0.mk ((by rw [hg]; exact Nat.ne_of_gt (bM_ (g := gb123) (o := .cells #[.string (⟨#[]⟩ : ByteArray), .int .i64 0, .int .i64 0] 61 (0, 0)) (kz BK123.out)) : gb125 ≠ gb123)); replace BK123 := Aside0.mk (aG_ (g := gb123) (o := .cells #[.string (⟨#[]⟩ : ByteArray), .int .i64 0, .int .i64 0] 61 (0, 0)) (kz BK123.out) hb); have NB124_125 := Aside0.mk ((by rw [hg]; exact Nat.ne_of_lt (bM_ (g := gb124) (o := .cells #[.string (⟨#[]⟩ : ByteArray), .int .i64 0, .int .i64 0] 61 (0, 0)) (kz BK124.out)) : gb124 ≠ gb125)); have NB125_124 := Aside0.mk ((by rw [hg]; exact Nat.ne_of_gt (bM_ (g := gb124) (o := .cells #[.string (⟨#[]⟩ : ByteArray), .int .i64 0, .int .i64 0] 61 (0, 0)) (kz BK124.out)) : gb125 ≠ gb124)); replace BK124 := Aside0.mk (aG_ (g := gb124) (o := .cells #[.string (⟨#[]⟩ : ByteArray), .int .i64 0, .int .i64 0] 61 (0, 0)) (kz BK124.out) hb); clear hb hbox hg; have hnb67 := NB123_124.out; have hnc67 := NB124_123.out; have hnb68 := NB123_125.out; have hnc68 := NB125_123.out; have hcz69_0 : w66.cell? ⟨gb123, 0, none⟩ = some (.string (⟨#[]⟩ : ByteArray)) := (ab_ BK123.out 0).trans rfl; have hcz69_1 : w66.cell? ⟨gb123, 1, none⟩ = some (.int .i64 0) := (ab_ BK123.out 1).trans rfl; have hcz69_2 : w66.cell? ⟨gb123, 2, none⟩ = some (.int .i64 0) := (ab_ BK123.out 2).trans rfl; have hfz69_0 := aa_ BK123.out 0; have hfz69_1 := aa_ BK123.out 1; have hfz69_2 := aa_ BK123.out 2; have hnb70 := NB124_125.out; have hnc70 := NB125_124.out; have hcz71_0 : w66.cell? ⟨gb124, 0, none⟩ = some (.string (⟨#[]⟩ : ByteArray)) := (ab_ BK124.out 0).trans rfl; have hcz71_1 : w66.cell? ⟨gb124, 1, none⟩ = some (.int .i64 0) := (ab_ BK124.out 1).trans rfl; have hcz71_2 : w66.cell? ⟨gb124, 2, none⟩ = some (.int .i64 0) := (ab_ BK124.out 2).trans rfl; have hfz71_0 := aa_ BK124.out 0; have hfz71_1 := aa_ BK124.out 1; have hfz71_2 := aa_ BK124.out 2; have hcz72_0 : w66.cell? ⟨gb125, 0, none⟩ = some (.string (⟨#[]⟩ : ByteArray)) := (ab_ BK125.out 0).trans rfl; have hcz72_1 : w66.cell? ⟨gb125, 1, none⟩ = some (.int .i64 0) := (ab_ BK125.out 1).trans rfl; have hcz72_2 : w66.cell? ⟨gb125, 2, none⟩ = some (.int .i64 0) := (ab_ BK125.out 2).trans rfl; have hfz72_0 := aa_ BK125.out 0; have hfz72_1 := aa_ BK125.out 1; have hfz72_2 := aa_ BK125.out 2))
       go_roundg k2
       case measure => have := HJ3.out; have := HK2.out; omega
       case rel => exact ⟨(x8_2), (wrap64 (x34_2 + 1)), (by first | rfl | (simp; done) | (simp [*]; done)), H', ⟨by have := HJ3.out; have := HK2.out; omega⟩, ⟨vz (Kd.aW_ (Kd.V_far (p := ⟨gb125, 2, none⟩) (Kd.V_far (p := ⟨gb125, 1, none⟩) (Kd.V_far (p := ⟨gb125, 0, none⟩) (Kd.V_far (p := ⟨gb124, 2, none⟩) (Kd.V_far (p := ⟨gb124, 1, none⟩) (Kd.V_far (p := ⟨gb124, 0, none⟩) (Kd.V_far (p := ⟨gb123, 2, none⟩) (Kd.V_far (p := ⟨gb123, 1, none⟩) (Kd.V_far (p := ⟨gb123, 0, none⟩) (Kd.aW_ (Kd.aW_ (Kd.aW_ HO_0.out (fun k_ hk => (⟨hk, hk.1.1.2⟩ : _ ∧ k_ ≠ gb123))) (fun k_ hk => (⟨hk, hk.1.1.2⟩ : _ ∧ k_ ≠ gb124))) (fun k_ hk => (⟨hk, hk.1.1.2⟩ : _ ∧ k_ ≠ gb125))) (fun _ hk => hk.1.1.2) (.string t114)) (fun _ hk => hk.1.1.2) (.int .i64 t115)) (fun _ hk => hk.1.1.2) (.int .i64 t116)) (fun _ hk => hk.1.2) (.string t117)) (fun _ hk => hk.1.2) (.int .i64 t118)) (fun _ hk => hk.1.2) (.int .i64 t119)) (fun _ hk => hk.2) (.string t120)) (fun _ hk => hk.2) (.int .i64 t121)) (fun _ hk => hk.2) (.int .i64 t122)) (fun _ hk => ⟨hk.1.1.1.1.1.1.1, ⟨hk.1.1.1.1.1.1.2.1, hk.1.1.1.1.1.1.2.2⟩⟩))⟩, ⟨vz (Kd.aW_ (Kd.V_far (p := ⟨gb125, 2, none⟩) (Kd.V_far (p := ⟨gb125, 1, none⟩) (Kd.V_far (p := ⟨gb125, 0, none⟩) (Kd.V_far (p := ⟨gb124, 2, none⟩) (Kd.V_far (p := ⟨gb124, 1, none⟩) (Kd.V_far (p := ⟨gb124, 0, none⟩) (Kd.V_far (p := ⟨gb123, 2, none⟩) (Kd.V_far (p := ⟨gb123, 1, none⟩) (Kd.V_far (p := ⟨gb123, 0, none⟩) (Kd.aW_ (Kd.aW_ (Kd.aW_ HO_1.out (fun k_ hk => (⟨hk, hk.1.1.2⟩ : _ ∧ k_ ≠ gb123))) (fun k_ hk => (⟨hk, hk.1.1.2⟩ : _ ∧ k_ ≠ gb124))) (fun k_ hk => (⟨hk, hk.1.1.2⟩ : _ ∧ k_ ≠ gb125))) (fun _ hk => hk.1.1.2) (.string t114)) (fun _ hk => hk.1.1.2) (.int .i64 t115)) (fun _ hk => hk.1.1.2) (.int .i64 t116)) (fun _ hk => hk.1.2) (.string t117)) (fun _ hk => hk.1.2) (.int .i64 t118)) (fun _ hk => hk.1.2) (.int .i64 t119)) (fun _ hk => hk.2) (.string t120)) (fun _ hk => hk.2) (.int .i64 t121)) (fun _ hk => hk.2) (.int .i64 t122)) (fun _ hk => ⟨hk.1.1.1.1.1.1.1, ⟨hk.1.1.1.1.1.1.2.1, hk.1.1.1.1.1.1.2.2⟩⟩))⟩, ⟨vz (Kd.aW_ (Kd.V_far (p := ⟨gb125, 2, none⟩) (Kd.V_far (p := ⟨gb125, 1, none⟩) (Kd.V_far (p := ⟨gb125, 0, none⟩) (Kd.V_far (p := ⟨gb124, 2, none⟩) (Kd.V_far (p := ⟨gb124, 1, none⟩) (Kd.V_far (p := ⟨gb124, 0, none⟩) (Kd.V_far (p := ⟨gb123, 2, none⟩) (Kd.V_far (p := ⟨gb123, 1, none⟩) (Kd.V_far (p := ⟨gb123, 0, none⟩) (Kd.aW_ (Kd.aW_ (Kd.aW_ HO_2.out (fun k_ hk => (⟨hk, hk.1.1.2⟩ : _ ∧ k_ ≠ gb123))) (fun k_ hk => (⟨hk, hk.1.1.2⟩ : _ ∧ k_ ≠ gb124))) (fun k_ hk => (⟨hk, hk.1.1.2⟩ : _ ∧ k_ ≠ gb125))) (fun _ hk => hk.1.1.2) (.string t114)) (fun _ hk => hk.1.1.2) (.int .i64 t115)) (fun _ hk => hk.1.1.2) (.int .i64 t116)) (fun _ hk => hk.1.2) (.string t117)) (fun _ hk => hk.1.2) (.int .i64 t118)) (fun _ hk => hk.1.2) (.int .i64 t119)) (fun _ hk => hk.2) (.string t120)) (fun _ hk => hk.2) (.int .i64 t121)) (fun _ hk => hk.2) (.int .i64 t122)) (fun _ hk => ⟨hk.1.1.1.1.1.1.1, ⟨hk.1.1.1.1.1.1.2.1, hk.1.1.1.1.1.1.2.2⟩⟩))⟩, ⟨rz (Kd.aK_ (Kd.R_far (p := ⟨gb125, 2, none⟩) (Kd.R_far (p := ⟨gb125, 1, none⟩) (Kd.R_far (p := ⟨gb125, 0, none⟩) (Kd.R_far (p := ⟨gb124, 2, none⟩) (Kd.R_far (p := ⟨gb124, 1, none⟩) (Kd.R_far (p := ⟨gb124, 0, none⟩) (Kd.R_far (p := ⟨gb123, 2, none⟩) (Kd.R_far (p := ⟨gb123, 1, none⟩) (Kd.R_far (p := ⟨gb123, 0, none⟩) (Kd.bp_ (Kd.bp_ (Kd.bp_ HO_8.out BK123.out (by decide)) BK124.out (by decide)) BK125.out (by decide)) (fun _ hk => hk.1.1.2) (.string t114)) (fun _ hk => hk.1.1.2) (.int .i64 t115)) (fun _ hk => hk.1.1.2) (.int .i64 t116)) (fun _ hk => hk.1.2) (.string t117)) (fun _ hk => hk.1.2) (.int .i64 t118)) (fun _ hk => hk.1.2) (.int .i64 t119)) (fun _ hk => hk.2) (.string t120)) (fun _ hk => hk.2) (.int .i64 t121)) (fun _ hk => hk.2) (.int .i64 t122)) (fun _ hk => ⟨hk.1.1.1.1, hk.1.1.1.2⟩))⟩, ⟨rz (Kd.aK_ (Kd.R_far (p := ⟨gb125, 2, none⟩) (Kd.R_far (p := ⟨gb125, 1, none⟩) (Kd.R_far (p := ⟨gb125, 0, none⟩) (Kd.R_far (p := ⟨gb124, 2, none⟩) (Kd.R_far (p := ⟨gb124, 1, none⟩) (Kd.R_far (p := ⟨gb124, 0, none⟩) (Kd.R_far (p := ⟨gb123, 2, none⟩) (Kd.R_far (p := ⟨gb123, 1, none⟩) (Kd.R_far (p := ⟨gb123, 0, none⟩) (Kd.bp_ (Kd.bp_ (Kd.bp_ HO_32.out BK123.out (by decide)) BK124.out (by decide)) BK125.out (by decide)) (fun _ hk => hk.1.1.2) (.string t114)) (fun _ hk => hk.1.1.2) (.int .i64 t115)) (fun _ hk => hk.1.1.2) (.int .i64 t116)) (fun _ hk => hk.1.2) (.string t117)) (fun _ hk => hk.1.2) (.int .i64 t118)) (fun _ hk => hk.1.2) (.int .i64 t119)) (fun _ hk => hk.2) (.string t120)) (fun _ hk => hk.2) (.int .i64 t121)) (fun _ hk => hk.2) (.int .i64 t122)) (fun _ hk => ⟨hk.1.1.1.1, hk.1.1.1.2⟩))⟩, ⟨by repeat (first | (with_reducible first | exact HB.out | apply bA_ | apply bN_ | apply bD_ | refine ac_ ?_ GE123.out | refine ac_ ?_ GE124.out | refine ac_ ?_ GE125.out) | exact HB.out)⟩⟩
      rw [if_pos c31] at H
      have c31b0 : (!(t117.toList == t120.toList) || (!(t118 == t121) || (!(t119 == t122)))) = true := c31
      clear c31
      by_cases c32 : (!(t117.toList == t114.toList) || (!(t118 == t115) || (!(t119 == t116)))) = true
      rotate_left
      ·rw [if_neg c32] at H
       have c32b0 : (!(t117.toList == t114.toList) || (!(t118 == t115) || (!(t119 == t116)))) = false := by simpa using c32
       clear c32
       have H' := Aside0.mk H
       clear H
       have p113 : 0 ≤ (x34_2 : Int) := of_decide_eq_true (by assumption)
       have q113 : x34_2 < (t110.length : Int) := of_decide_eq_true (by assumption)
       obtain ⟨ad113, e113, hx113_0⟩ := Kd.co_ (Kd.bf_ HO_32.out).2.2 x34_2 p113 q113
       cases e113
       replace p113 := eq_true p113
       replace q113 := eq_true q113
       go_wp2_with (first | ((with_reducible refine am_ (f := 41) rfl ?_); refine aX_ (some 40) rfl rfl Try.func41 (by kernel_rfl) rfl #[.slice A0 l0.length c0, .string (rdOf ByteArray.empty t110 x34_2)] rfl (by first | rfl | (simp only [List.map_toArray, List.map_cons, List.map_nil]; first | done | rfl)) ?_; (with_reducible refine (bC_.calls k2 _ _ l0 (rdOf ByteArray.empty t110 x34_2) t114 t115 t116 _ ?side1 ?side2 A28.out).mono ?_); (case side1 => exact cz (Kd.bb_ HO_0.out).2.2); (case side2 => exact (Kd.bb_ HO_0.out).2.1); rintro e w49 ⟨rfl, hb⟩; refine ⟨_, rfl, ?_⟩; replace HO_0 := Aside0.mk (Kd.aS_ (vz HO_0.out) hb); replace HO_1 := Aside0.mk (Kd.aS_ (vz HO_1.out) hb); replace HO_2 := Aside0.mk (Kd.aS_ (vz HO_2.out) hb); replace HO_8 := Aside0.mk (Kd.aH_ (rz HO_8.out) hb); replace HO_32 := Aside0.mk (Kd.aH_ (rz HO_32.out) hb); replace HB := Aside0.mk (ag_ (bz HB.out) hb); (try clear hb)) | ((with_reducible refine am_ (f := 41) rfl ?_); refine aX_ (some 43) rfl rfl Try.func41 (by kernel_rfl) rfl #[.slice A1 l1.length c1, .string (rdOf ByteArray.empty t110 x34_2)] rfl (by first | rfl | (simp only [List.map_toArray, List.map_cons, List.map_nil]; first | done | rfl)) ?_; (with_reducible refine (bC_.calls k2 _ _ l1 (rdOf ByteArray.empty t110 x34_2) t117 t118 t119 _ ?side1 ?side2 A29.out).mono ?_); (case side1 => exact cz (Kd.bb_ HO_1.out).2.2); (case side2 => exact (Kd.bb_ HO_1.out).2.1); rintro e w50 ⟨rfl, hb⟩; refine ⟨_, rfl, ?_⟩; replace HO_0 := Aside0.mk (Kd.aS_ (vz HO_0.out) hb); replace HO_1 := Aside0.mk (Kd.aS_ (vz HO_1.out) hb); replace HO_2 := Aside0.mk (Kd.aS_ (vz HO_2.out) hb); replace HO_8 := Aside0.mk (Kd.aH_ (rz HO_8.out) hb); replace HO_32 := Aside0.mk (Kd.aH_ (rz HO_32.out) hb); replace HB := Aside0.mk (ag_ (bz HB.out) hb); (try clear hb)) | ((with_reducible refine am_ (f := 41) rfl ?_); refine aX_ (some 46) rfl rfl Try.func41 (by kernel_rfl) rfl #[.slice A2 l2.length c2, .string (rdOf ByteArray.empty t110 x34_2)] rfl (by first | rfl | (simp only [List.map_toArray, List.map_cons, List.map_nil]; first | done | rfl)) ?_; (with_reducible refine (bC_.calls k2 _ _ l2 (rdOf ByteArray.empty t110 x34_2) t120 t121 t122 _ ?side1 ?side2 A30.out).mono ?_); (case side1 => exact cz (Kd.bb_ HO_2.out).2.2); (case side2 => exact (Kd.bb_ HO_2.out).2.1); rintro e w51 ⟨rfl, hb⟩; refine ⟨_, rfl, ?_⟩; replace HO_0 := Aside0.mk (Kd.aS_ (vz HO_0.out) hb); replace HO_1 := Aside0.mk (Kd.aS_ (vz HO_1.out) hb); replace HO_2 := Aside0.mk (Kd.aS_ (vz HO_2.out) hb); replace HO_8 := Aside0.mk (Kd.aH_ (rz HO_8.out) hb); replace HO_32 := Aside0.mk (Kd.aH_ (rz HO_32.out) hb); replace HB := Aside0.mk (ag_ (bz HB.out) hb); (try clear hb)) | ((with_reducible refine au_ (N := 11) rfl ?_); refine aQ_ ?hg (N := 11) ?hd (cs := #[.string (⟨#[]⟩ : ByteArray), .int .i64 0, .int .i64 0]) (t := 61) ?hr ?_; (case hd => rfl); (case hg => rfl); (case hr => (go_simp; try rfl)); intro gb123 hg w52 hbox hb; replace HO_0 := Aside0.mk (Kd.aS_ (Kd.ca_ (vz HO_0.out) gb123 (Nat.le_of_eq hg.symm)) hb); replace HO_1 := Aside0.mk (Kd.aS_ (Kd.ca_ (vz HO_1.out) gb123 (Nat.le_of_eq hg.symm)) hb); replace HO_2 := Aside0.mk (Kd.aS_ (Kd.ca_ (vz HO_2.out) gb123 (Nat.le_of_eq hg.symm)) hb); replace HO_8 := Aside0.mk (Kd.aH_ (rz HO_8.out) hb); replace HO_32 := Aside0.mk (Kd.aH_ (rz HO_32.out) hb); have BK123 := Aside0.mk (hbox); have GW123 := Aside0.mk ((by rw [hg]; exact (ae_ (bz HB.out)) : w.heap.size ≤ gb123)); have GE123 := Aside0.mk ((by rw [hg]; exact (ae_ (bz HB.out)) : w.heap.size ≤ gb123)); replace HB := Aside0.mk (ag_ (bz HB.out) hb); clear hb hbox hg) | ((with_reducible refine au_ (N := 12) rfl ?_); refine aQ_ ?hg (N := 12) ?hd (cs := #[.string (⟨#[]⟩ : ByteArray), .int .i64 0, .int .i64 0]) (t := 61) ?hr ?_; (case hd => rfl); (case hg => rfl); (case hr => (go_simp; try rfl)); intro gb124 hg w53 hbox hb; replace HO_0 := Aside0.mk (Kd.aS_ (Kd.ca_ (vz HO_0.out) gb124 (Nat.le_of_eq hg.symm)) hb); replace HO_1 := Aside0.mk (Kd.aS_ (Kd.ca_ (vz HO_1.out) gb124 (Nat.le_of_eq hg.symm)) hb); replace HO_2 := Aside0.mk (Kd.aS_ (Kd.ca_ (vz HO_2.out) gb124 (Nat.le_of_eq hg.symm)) hb); replace HO_8 := Aside0.mk (Kd.aH_ (rz HO_8.out) hb); replace HO_32 := Aside0.mk (Kd.aH_ (rz HO_32.out) hb); have BK124 := Aside0.mk (hbox); have GW124 := Aside0.mk ((by rw [hg]; exact (ae_ (by repeat (first | (with_reducible first | exact HB.out | apply bA_ | apply bN_ | apply bD_ | refine ac_ ?_ GE123.out) | exact HB.out))) : w.heap.size ≤ gb124)); have GE124 := Aside0.mk ((by rw [hg]; exact (ae_ (by repeat (first | (with_reducible first | exact HB.out | apply bA_ | apply bN_ | apply bD_ | refine ac_ ?_ GE123.out) | exact HB.out))) : w.heap.size ≤ gb124)); replace HB := Aside0.mk (ag_ (by repeat (first | (with_reducible first | exact HB.out | apply bA_ | apply bN_ | apply bD_ | refine ac_ ?_ GE123.out) | exact HB.out)) hb); have NB123_124 := Aside0.mk ((by rw [hg]; exact Nat.ne_of_lt (bM_ (g := gb123) (o := .cells #[.string (⟨#[]⟩ : ByteArray), .int .i64 0, .int .i64 0] 61 (0, 0)) (kz BK123.out)) : gb123 ≠ gb124)); have NB124_123 := Aside0.mk ((by rw [hg]; exact Nat.ne_of_gt (bM_ (g := gb123) (o := .cells #[.string (⟨#[]⟩ : ByteArray), .int .i64 0, .int .i64 0] 61 (0, 0)) (kz BK123.out)) : gb124 ≠ gb123)); replace BK123 := Aside0.mk (aG_ (g := gb123) (o := .cells #[.string (⟨#[]⟩ : ByteArray), .int .i64 0, .int .i64 0] 61 (0, 0)) (kz BK123.out) hb); clear hb hbox hg) | ((with_reducible refine au_ (N := 13) rfl ?_); refine aQ_ ?hg (N := 13) ?hd (cs := #[.string (⟨#[]⟩ : ByteArray), .int .i64 0, .int .i64 0]) (t := 61) ?hr ?_; (case hd => rfl); (case hg => rfl); (case hr => (go_simp; try rfl)); intro gb125 hg w54 hbox hb; replace HO_0 := Aside0.mk (Kd.aS_ (Kd.ca_ (vz HO_0.out) gb125 (Nat.le_of_eq hg.symm)) hb); replace HO_1 := Aside0.mk (Kd.aS_ (Kd.ca_ (vz HO_1.out) gb125 (Nat.le_of_eq hg.symm)) hb); replace HO_2 := Aside0.mk (Kd.aS_ (Kd.ca_ (vz HO_2.out) gb125 (Nat.le_of_eq hg.symm)) hb); replace HO_8 := Aside0.mk (Kd.aH_ (rz HO_8.out) hb); replace HO_32 := Aside0.mk (Kd.aH_ (rz HO_32.out) hb); have BK125 := Aside0.mk (hbox); have GW125 := Aside0.mk ((by rw [hg]; exact (ae_ (by repeat (first | (with_reducible first | exact HB.out | apply bA_ | apply bN_ | apply bD_ | refine ac_ ?_ GE123.out | refine ac_ ?_ GE124.out) | exact HB.out))) : w.heap.size ≤ gb125)); have GE125 := Aside0.mk ((by rw [hg]; exact (ae_ (by repeat (first | (with_reducible first | exact HB.out | apply bA_ | apply bN_ | apply bD_ | refine ac_ ?_ GE123.out | refine ac_ ?_ GE124.out) | exact HB.out))) : w.heap.size ≤ gb125)); replace HB := Aside0.mk (ag_ (by repeat (first | (with_reducible first | exact HB.out | apply bA_ | apply bN_ | apply bD_ | refine ac_ ?_ GE123.out | refine ac_ ?_ GE124.out) | exact HB.out)) hb); have NB123_125 := Aside0.mk ((by rw [hg]; exact Nat.ne_of_lt (bM_ (g := gb123) (o := .cells #[.string (⟨#[]⟩ : ByteArray), .int .i64 0, .int .i64 0] 61 (0, 0)) (kz BK123.out)) : gb123 ≠ gb125)); have NB125_123 := Aside0.mk ((by rw [hg]; exact Nat.ne_of_gt (bM_ (g := gb123) (o := .cells #[.string (⟨#[]⟩ : ByteArray), .int .i64 0, .int .i64 0] 61 (0, 0)) (kz BK123.out)) : gb125 ≠ gb123)); replace BK123 := Aside0.mk (aG_ (g := gb123) (o := .cells #[.string (⟨#[]⟩ : ByteArray), .int .i64 0, .int .i64 0] 61 (0, 0)) (kz BK123.out) hb); have NB124_125 := Aside0.mk ((by rw [hg]; exact Nat.ne_of_lt (bM_ (g := gb124) (o := .cells #[.string (⟨#[]⟩ : ByteArray), .int .i64 0, .int .i64 0] 61 (0, 0)) (kz BK124.out)) : gb124 ≠ gb125)); have NB125_124 := Aside0.mk ((by rw [hg]; exact Nat.ne_of_gt (bM_ (g := gb124) (o := .cells #[.string (⟨#[]⟩ : ByteArray), .int .i64 0, .int .i64 0] 61 (0, 0)) (kz BK124.out)) : gb125 ≠ gb124)); replace BK124 := Aside0.mk (aG_ (g := gb124) (o := .cells #[.string (⟨#[]⟩ : ByteArray), .int .i64 0, .int .i64 0] 61 (0, 0)) (kz BK124.out) hb); clear hb hbox hg; have hnb55 := NB123_124.out; have hnc55 := NB124_123.out; have hnb56 := NB123_125.out; have hnc56 := NB125_123.out; have hcz57_0 : w54.cell? ⟨gb123, 0, none⟩ = some (.string (⟨#[]⟩ : ByteArray)) := (ab_ BK123.out 0).trans rfl; have hcz57_1 : w54.cell? ⟨gb123, 1, none⟩ = some (.int .i64 0) := (ab_ BK123.out 1).trans rfl; have hcz57_2 : w54.cell? ⟨gb123, 2, none⟩ = some (.int .i64 0) := (ab_ BK123.out 2).trans rfl; have hfz57_0 := aa_ BK123.out 0; have hfz57_1 := aa_ BK123.out 1; have hfz57_2 := aa_ BK123.out 2; have hnb58 := NB124_125.out; have hnc58 := NB125_124.out; have hcz59_0 : w54.cell? ⟨gb124, 0, none⟩ = some (.string (⟨#[]⟩ : ByteArray)) := (ab_ BK124.out 0).trans rfl; have hcz59_1 : w54.cell? ⟨gb124, 1, none⟩ = some (.int .i64 0) := (ab_ BK124.out 1).trans rfl; have hcz59_2 : w54.cell? ⟨gb124, 2, none⟩ = some (.int .i64 0) := (ab_ BK124.out 2).trans rfl; have hfz59_0 := aa_ BK124.out 0; have hfz59_1 := aa_ BK124.out 1; have hfz59_2 := aa_ BK124.out 2; have hcz60_0 : w54.cell? ⟨gb125, 0, none⟩ = some (.string (⟨#[]⟩ : ByteArray)) := (ab_ BK125.out 0).trans rfl; have hcz60_1 : w54.cell? ⟨gb125, 1, none⟩ = some (.int .i64 0) := (ab_ BK125.out 1).trans rfl; have hcz60_2 : w54.cell? ⟨gb125, 2, none⟩ = some (.int .i64 0) := (ab_ BK125.out 2).trans rfl; have hfz60_0 := aa_ BK125.out 0; have hfz60_1 := aa_ BK125.out 1; have hfz60_2 := aa_ BK125.out 2))
       go_roundg k2
       case measure => have := HJ3.out; have := HK2.out; omega
       case rel => exact ⟨(x8_2), (wrap64 (x34_2 + 1)), (by first | rfl | (simp; done) | (simp [*]; done)), H', ⟨by have := HJ3.out; have := HK2.out; omega⟩, ⟨vz (Kd.aW_ (Kd.V_far (p := ⟨gb125, 2, none⟩) (Kd.V_far (p := ⟨gb125, 1, none⟩) (Kd.V_far (p := ⟨gb125, 0, none⟩) (Kd.V_far (p := ⟨gb124, 2, none⟩) (Kd.V_far (p := ⟨gb124, 1, none⟩) (Kd.V_far (p := ⟨gb124, 0, none⟩) (Kd.V_far (p := ⟨gb123, 2, none⟩) (Kd.V_far (p := ⟨gb123, 1, none⟩) (Kd.V_far (p := ⟨gb123, 0, none⟩) (Kd.aW_ (Kd.aW_ (Kd.aW_ HO_0.out (fun k_ hk => (⟨hk, hk.1.1.2⟩ : _ ∧ k_ ≠ gb123))) (fun k_ hk => (⟨hk, hk.1.1.2⟩ : _ ∧ k_ ≠ gb124))) (fun k_ hk => (⟨hk, hk.1.1.2⟩ : _ ∧ k_ ≠ gb125))) (fun _ hk => hk.1.1.2) (.string t114)) (fun _ hk => hk.1.1.2) (.int .i64 t115)) (fun _ hk => hk.1.1.2) (.int .i64 t116)) (fun _ hk => hk.1.2) (.string t117)) (fun _ hk => hk.1.2) (.int .i64 t118)) (fun _ hk => hk.1.2) (.int .i64 t119)) (fun _ hk => hk.2) (.string t120)) (fun _ hk => hk.2) (.int .i64 t121)) (fun _ hk => hk.2) (.int .i64 t122)) (fun _ hk => ⟨hk.1.1.1.1.1.1.1, ⟨hk.1.1.1.1.1.1.2.1, hk.1.1.1.1.1.1.2.2⟩⟩))⟩, ⟨vz (Kd.aW_ (Kd.V_far (p := ⟨gb125, 2, none⟩) (Kd.V_far (p := ⟨gb125, 1, none⟩) (Kd.V_far (p := ⟨gb125, 0, none⟩) (Kd.V_far (p := ⟨gb124, 2, none⟩) (Kd.V_far (p := ⟨gb124, 1, none⟩) (Kd.V_far (p := ⟨gb124, 0, none⟩) (Kd.V_far (p := ⟨gb123, 2, none⟩) (Kd.V_far (p := ⟨gb123, 1, none⟩) (Kd.V_far (p := ⟨gb123, 0, none⟩) (Kd.aW_ (Kd.aW_ (Kd.aW_ HO_1.out (fun k_ hk => (⟨hk, hk.1.1.2⟩ : _ ∧ k_ ≠ gb123))) (fun k_ hk => (⟨hk, hk.1.1.2⟩ : _ ∧ k_ ≠ gb124))) (fun k_ hk => (⟨hk, hk.1.1.2⟩ : _ ∧ k_ ≠ gb125))) (fun _ hk => hk.1.1.2) (.string t114)) (fun _ hk => hk.1.1.2) (.int .i64 t115)) (fun _ hk => hk.1.1.2) (.int .i64 t116)) (fun _ hk => hk.1.2) (.string t117)) (fun _ hk => hk.1.2) (.int .i64 t118)) (fun _ hk => hk.1.2) (.int .i64 t119)) (fun _ hk => hk.2) (.string t120)) (fun _ hk => hk.2) (.int .i64 t121)) (fun _ hk => hk.2) (.int .i64 t122)) (fun _ hk => ⟨hk.1.1.1.1.1.1.1, ⟨hk.1.1.1.1.1.1.2.1, hk.1.1.1.1.1.1.2.2⟩⟩))⟩, ⟨vz (Kd.aW_ (Kd.V_far (p := ⟨gb125, 2, none⟩) (Kd.V_far (p := ⟨gb125, 1, none⟩) (Kd.V_far (p := ⟨gb125, 0, none⟩) (Kd.V_far (p := ⟨gb124, 2, none⟩) (Kd.V_far (p := ⟨gb124, 1, none⟩) (Kd.V_far (p := ⟨gb124, 0, none⟩) (Kd.V_far (p := ⟨gb123, 2, none⟩) (Kd.V_far (p := ⟨gb123, 1, none⟩) (Kd.V_far (p := ⟨gb123, 0, none⟩) (Kd.aW_ (Kd.aW_ (Kd.aW_ HO_2.out (fun k_ hk => (⟨hk, hk.1.1.2⟩ : _ ∧ k_ ≠ gb123))) (fun k_ hk => (⟨hk, hk.1.1.2⟩ : _ ∧ k_ ≠ gb124))) (fun k_ hk => (⟨hk, hk.1.1.2⟩ : _ ∧ k_ ≠ gb125))) (fun _ hk => hk.1.1.2) (.string t114)) (fun _ hk => hk.1.1.2) (.int .i64 t115)) (fun _ hk => hk.1.1.2) (.int .i64 t116)) (fun _ hk => hk.1.2) (.string t117)) (fun _ hk => hk.1.2) (.int .i64 t118)) (fun _ hk => hk.1.2) (.int .i64 t119)) (fun _ hk => hk.2) (.string t120)) (fun _ hk => hk.2) (.int .i64 t121)) (fun _ hk => hk.2) (.int .i64 t122)) (fun _ hk => ⟨hk.1.1.1.1.1.1.1, ⟨hk.1.1.1.1.1.1.2.1, hk.1.1.1.1.1.1.2.2⟩⟩))⟩, ⟨rz (Kd.aK_ (Kd.R_far (p := ⟨gb125, 2, none⟩) (Kd.R_far (p := ⟨gb125, 1, none⟩) (Kd.R_far (p := ⟨gb125, 0, none⟩) (Kd.R_far (p := ⟨gb124, 2, none⟩) (Kd.R_far (p := ⟨gb124, 1, none⟩) (Kd.R_far (p := ⟨gb124, 0, none⟩) (Kd.R_far (p := ⟨gb123, 2, none⟩) (Kd.R_far (p := ⟨gb123, 1, none⟩) (Kd.R_far (p := ⟨gb123, 0, none⟩) (Kd.bp_ (Kd.bp_ (Kd.bp_ HO_8.out BK123.out (by decide)) BK124.out (by decide)) BK125.out (by decide)) (fun _ hk => hk.1.1.2) (.string t114)) (fun _ hk => hk.1.1.2) (.int .i64 t115)) (fun _ hk => hk.1.1.2) (.int .i64 t116)) (fun _ hk => hk.1.2) (.string t117)) (fun _ hk => hk.1.2) (.int .i64 t118)) (fun _ hk => hk.1.2) (.int .i64 t119)) (fun _ hk => hk.2) (.string t120)) (fun _ hk => hk.2) (.int .i64 t121)) (fun _ hk => hk.2) (.int .i64 t122)) (fun _ hk => ⟨hk.1.1.1.1, hk.1.1.1.2⟩))⟩, ⟨rz (Kd.aK_ (Kd.R_far (p := ⟨gb125, 2, none⟩) (Kd.R_far (p := ⟨gb125, 1, none⟩) (Kd.R_far (p := ⟨gb125, 0, none⟩) (Kd.R_far (p := ⟨gb124, 2, none⟩) (Kd.R_far (p := ⟨gb124, 1, none⟩) (Kd.R_far (p := ⟨gb124, 0, none⟩) (Kd.R_far (p := ⟨gb123, 2, none⟩) (Kd.R_far (p := ⟨gb123, 1, none⟩) (Kd.R_far (p := ⟨gb123, 0, none⟩) (Kd.bp_ (Kd.bp_ (Kd.bp_ HO_32.out BK123.out (by decide)) BK124.out (by decide)) BK125.out (by decide)) (fun _ hk => hk.1.1.2) (.string t114)) (fun _ hk => hk.1.1.2) (.int .i64 t115)) (fun _ hk => hk.1.1.2) (.int .i64 t116)) (fun _ hk => hk.1.2) (.string t117)) (fun _ hk => hk.1.2) (.int .i64 t118)) (fun _ hk => hk.1.2) (.int .i64 t119)) (fun _ hk => hk.2) (.string t120)) (fun _ hk => hk.2) (.int .i64 t121)) (fun _ hk => hk.2) (.int .i64 t122)) (fun _ hk => ⟨hk.1.1.1.1, hk.1.1.1.2⟩))⟩, ⟨by repeat (first | (with_reducible first | exact HB.out | apply bA_ | apply bN_ | apply bD_ | refine ac_ ?_ GE123.out | refine ac_ ?_ GE124.out | refine ac_ ?_ GE125.out) | exact HB.out)⟩⟩
      rw [if_pos c32] at H
      have c32b0 : (!(t117.toList == t114.toList) || (!(t118 == t115) || (!(t119 == t116)))) = true := c32
      clear c32
      have HC33 := Aside0.mk H
      clear H
      have p113 : 0 ≤ (x34_2 : Int) := of_decide_eq_true (by assumption)
      have q113 : x34_2 < (t110.length : Int) := of_decide_eq_true (by assumption)
      obtain ⟨ad113, e113, hx113_0⟩ := Kd.co_ (Kd.bf_ HO_32.out).2.2 x34_2 p113 q113
      cases e113
      replace p113 := eq_true p113
      replace q113 := eq_true q113
      go_upto_if 59 with (first | ((with_reducible refine am_ (f := 41) rfl ?_); refine aX_ (some 40) rfl rfl Try.func41 (by kernel_rfl) rfl #[.slice A0 l0.length c0, .string (rdOf ByteArray.empty t110 x34_2)] rfl (by first | rfl | (simp only [List.map_toArray, List.map_cons, List.map_nil]; first | done | rfl)) ?_; (with_reducible refine (bC_.calls k2 _ _ l0 (rdOf ByteArray.empty t110 x34_2) t114 t115 t116 _ ?side1 ?side2 A28.out).mono ?_); (case side1 => exact cz (Kd.bb_ HO_0.out).2.2); (case side2 => exact (Kd.bb_ HO_0.out).2.1); rintro e w34 ⟨rfl, hb⟩; refine ⟨_, rfl, ?_⟩; replace HO_0 := Aside0.mk (Kd.aS_ (vz HO_0.out) hb); replace HO_1 := Aside0.mk (Kd.aS_ (vz HO_1.out) hb); replace HO_2 := Aside0.mk (Kd.aS_ (vz HO_2.out) hb); replace HO_8 := Aside0.mk (Kd.aH_ (rz HO_8.out) hb); replace HO_32 := Aside0.mk (Kd.aH_ (rz HO_32.out) hb); replace HB := Aside0.mk (ag_ (bz HB.out) hb); (try clear hb)) | ((with_reducible refine am_ (f := 41) rfl ?_); refine aX_ (some 43) rfl rfl Try.func41 (by kernel_rfl) rfl #[.slice A1 l1.length c1, .string (rdOf ByteArray.empty t110 x34_2)] rfl (by first | rfl | (simp only [List.map_toArray, List.map_cons, List.map_nil]; first | done | rfl)) ?_; (with_reducible refine (bC_.calls k2 _ _ l1 (rdOf ByteArray.empty t110 x34_2) t117 t118 t119 _ ?side1 ?side2 A29.out).mono ?_); (case side1 => exact cz (Kd.bb_ HO_1.out).2.2); (case side2 => exact (Kd.bb_ HO_1.out).2.1); rintro e w35 ⟨rfl, hb⟩; refine ⟨_, rfl, ?_⟩; replace HO_0 := Aside0.mk (Kd.aS_ (vz HO_0.out) hb); replace HO_1 := Aside0.mk (Kd.aS_ (vz HO_1.out) hb); replace HO_2 := Aside0.mk (Kd.aS_ (vz HO_2.out) hb); replace HO_8 := Aside0.mk (Kd.aH_ (rz HO_8.out) hb); replace HO_32 := Aside0.mk (Kd.aH_ (rz HO_32.out) hb); replace HB := Aside0.mk (ag_ (bz HB.out) hb); (try clear hb)) | ((with_reducible refine am_ (f := 41) rfl ?_); refine aX_ (some 46) rfl rfl Try.func41 (by kernel_rfl) rfl #[.slice A2 l2.length c2, .string (rdOf ByteArray.empty t110 x34_2)] rfl (by first | rfl | (simp only [List.map_toArray, List.map_cons, List.map_nil]; first | done | rfl)) ?_; (with_reducible refine (bC_.calls k2 _ _ l2 (rdOf ByteArray.empty t110 x34_2) t120 t121 t122 _ ?side1 ?side2 A30.out).mono ?_); (case side1 => exact cz (Kd.bb_ HO_2.out).2.2); (case side2 => exact (Kd.bb_ HO_2.out).2.1); rintro e w36 ⟨rfl, hb⟩; refine ⟨_, rfl, ?_⟩; replace HO_0 := Aside0.mk (Kd.aS_ (vz HO_0.out) hb); replace HO_1 := Aside0.mk (Kd.aS_ (vz HO_1.out) hb); replace HO_2 := Aside0.mk (Kd.aS_ (vz HO_2.out) hb); replace HO_8 := Aside0.mk (Kd.aH_ (rz HO_8.out) hb); replace HO_32 := Aside0.mk (Kd.aH_ (rz HO_32.out) hb); replace HB := Aside0.mk (ag_ (bz HB.out) hb); (try clear hb)) | ((with_reducible refine au_ (N := 11) rfl ?_); refine aQ_ ?hg (N := 11) ?hd (cs := #[.string (⟨#[]⟩ : ByteArray), .int .i64 0, .int .i64 0]) (t := 61) ?hr ?_; (case hd => rfl); (case hg => rfl); (case hr => (go_simp; try rfl)); intro gb123 hg w37 hbox hb; replace HO_0 := Aside0.mk (Kd.aS_ (Kd.ca_ (vz HO_0.out) gb123 (Nat.le_of_eq hg.symm)) hb); replace HO_1 := Aside0.mk (Kd.aS_ (Kd.ca_ (vz HO_1.out) gb123 (Nat.le_of_eq hg.symm)) hb); replace HO_2 := Aside0.mk (Kd.aS_ (Kd.ca_ (vz HO_2.out) gb123 (Nat.le_of_eq hg.symm)) hb); replace HO_8 := Aside0.mk (Kd.aH_ (rz HO_8.out) hb); replace HO_32 := Aside0.mk (Kd.aH_ (rz HO_32.out) hb); have BK123 := Aside0.mk (hbox); have GW123 := Aside0.mk ((by rw [hg]; exact (ae_ (bz HB.out)) : w.heap.size ≤ gb123)); have GE123 := Aside0.mk ((by rw [hg]; exact (ae_ (bz HB.out)) : w.heap.size ≤ gb123)); replace HB := Aside0.mk (ag_ (bz HB.out) hb); clear hb hbox hg) | ((with_reducible refine au_ (N := 12) rfl ?_); refine aQ_ ?hg (N := 12) ?hd (cs := #[.string (⟨#[]⟩ : ByteArray), .int .i64 0, .int .i64 0]) (t := 61) ?hr ?_; (case hd => rfl); (case hg => rfl); (case hr => (go_simp; try rfl)); intro gb124 hg w38 hbox hb; replace HO_0 := Aside0.mk (Kd.aS_ (Kd.ca_ (vz HO_0.out) gb124 (Nat.le_of_eq hg.symm)) hb); replace HO_1 := Aside0.mk (Kd.aS_ (Kd.ca_ (vz HO_1.out) gb124 (Nat.le_of_eq hg.symm)) hb); replace HO_2 := Aside0.mk (Kd.aS_ (Kd.ca_ (vz HO_2.out) gb124 (Nat.le_of_eq hg.symm)) hb); replace HO_8 := Aside0.mk (Kd.aH_ (rz HO_8.out) hb); replace HO_32 := Aside0.mk (Kd.aH_ (rz HO_32.out) hb); have BK124 := Aside0.mk (hbox); have GW124 := Aside0.mk ((by rw [hg]; exact (ae_ (by repeat (first | (with_reducible first | exact HB.out | apply bA_ | apply bN_ | apply bD_ | refine ac_ ?_ GE123.out) | exact HB.out))) : w.heap.size ≤ gb124)); have GE124 := Aside0.mk ((by rw [hg]; exact (ae_ (by repeat (first | (with_reducible first | exact HB.out | apply bA_ | apply bN_ | apply bD_ | refine ac_ ?_ GE123.out) | exact HB.out))) : w.heap.size ≤ gb124)); replace HB := Aside0.mk (ag_ (by repeat (first | (with_reducible first | exact HB.out | apply bA_ | apply bN_ | apply bD_ | refine ac_ ?_ GE123.out) | exact HB.out)) hb); have NB123_124 := Aside0.mk ((by rw [hg]; exact Nat.ne_of_lt (bM_ (g := gb123) (o := .cells #[.string (⟨#[]⟩ : ByteArray), .int .i64 0, .int .i64 0] 61 (0, 0)) (kz BK123.out)) : gb123 ≠ gb124)); have NB124_123 := Aside0.mk ((by rw [hg]; exact Nat.ne_of_gt (bM_ (g := gb123) (o := .cells #[.string (⟨#[]⟩ : ByteArray), .int .i64 0, .int .i64 0] 61 (0, 0)) (kz BK123.out)) : gb124 ≠ gb123)); replace BK123 := Aside0.mk (aG_ (g := gb123) (o := .cells #[.string (⟨#[]⟩ : ByteArray), .int .i64 0, .int .i64 0] 61 (0, 0)) (kz BK123.out) hb); clear hb hbox hg) | ((with_reducible refine au_ (N := 13) rfl ?_); refine aQ_ ?hg (N := 13) ?hd (cs := #[.string (⟨#[]⟩ : ByteArray), .int .i64 0, .int .i64 0]) (t := 61) ?hr ?_; (case hd => rfl); (case hg => rfl); (case hr => (go_simp; try rfl)); intro gb125 hg w39 hbox hb; replace HO_0 := Aside0.mk (Kd.aS_ (Kd.ca_ (vz HO_0.out) gb125 (Nat.le_of_eq hg.symm)) hb); replace HO_1 := Aside0.mk (Kd.aS_ (Kd.ca_ (vz HO_1.out) gb125 (Nat.le_of_eq hg.symm)) hb); replace HO_2 := Aside0.mk (Kd.aS_ (Kd.ca_ (vz HO_2.out) gb125 (Nat.le_of_eq hg.symm)) hb); replace HO_8 := Aside0.mk (Kd.aH_ (rz HO_8.out) hb); replace HO_32 := Aside0.mk (Kd.aH_ (rz HO_32.out) hb); have BK125 := Aside0.mk (hbox); have GW125 := Aside0.mk ((by rw [hg]; exact (ae_ (by repeat (first | (with_reducible first | exact HB.out | apply bA_ | apply bN_ | apply bD_ | refine ac_ ?_ GE123.out | refine ac_ ?_ GE124.out) | exact HB.out))) : w.heap.size ≤ gb125)); have GE125 := Aside0.mk ((by rw [hg]; exact (ae_ (by repeat (first | (with_reducible first | exact HB.out | apply bA_ | apply bN_ | apply bD_ | refine ac_ ?_ GE123.out | refine ac_ ?_ GE124.out) | exact HB.out))) : w.heap.size ≤ gb125)); replace HB := Aside0.mk (ag_ (by repeat (first | (with_reducible first | exact HB.out | apply bA_ | apply bN_ | apply bD_ | refine ac_ ?_ GE123.out | refine ac_ ?_ GE124.out) | exact HB.out)) hb); have NB123_125 := Aside0.mk ((by rw [hg]; exact Nat.ne_of_lt (bM_ (g := gb123) (o := .cells #[.string (⟨#[]⟩ : ByteArray), .int .i64 0, .int .i64 0] 61 (0, 0)) (kz BK123.out)) : gb123 ≠ gb125)); have NB125_123 := Aside0.mk ((by rw [hg]; exact Nat.ne_of_gt (bM_ (g := gb123) (o := .cells #[.string (⟨#[]⟩ : ByteArray), .int .i64 0, .int .i64 0] 61 (0, 0)) (kz BK123.out)) : gb125 ≠ gb123)); replace BK123 := Aside0.mk (aG_ (g := gb123) (o := .cells #[.string (⟨#[]⟩ : ByteArray), .int .i64 0, .int .i64 0] 61 (0, 0)) (kz BK123.out) hb); have NB124_125 := Aside0.mk ((by rw [hg]; exact Nat.ne_of_lt (bM_ (g := gb124) (o := .cells #[.string (⟨#[]⟩ : ByteArray), .int .i64 0, .int .i64 0] 61 (0, 0)) (kz BK124.out)) : gb124 ≠ gb125)); have NB125_124 := Aside0.mk ((by rw [hg]; exact Nat.ne_of_gt (bM_ (g := gb124) (o := .cells #[.string (⟨#[]⟩ : ByteArray), .int .i64 0, .int .i64 0] 61 (0, 0)) (kz BK124.out)) : gb125 ≠ gb124)); replace BK124 := Aside0.mk (aG_ (g := gb124) (o := .cells #[.string (⟨#[]⟩ : ByteArray), .int .i64 0, .int .i64 0] 61 (0, 0)) (kz BK124.out) hb); clear hb hbox hg; have hnb40 := NB123_124.out; have hnc40 := NB124_123.out; have hnb41 := NB123_125.out; have hnc41 := NB125_123.out; have hcz42_0 : w39.cell? ⟨gb123, 0, none⟩ = some (.string (⟨#[]⟩ : ByteArray)) := (ab_ BK123.out 0).trans rfl; have hcz42_1 : w39.cell? ⟨gb123, 1, none⟩ = some (.int .i64 0) := (ab_ BK123.out 1).trans rfl; have hcz42_2 : w39.cell? ⟨gb123, 2, none⟩ = some (.int .i64 0) := (ab_ BK123.out 2).trans rfl; have hfz42_0 := aa_ BK123.out 0; have hfz42_1 := aa_ BK123.out 1; have hfz42_2 := aa_ BK123.out 2; have hnb43 := NB124_125.out; have hnc43 := NB125_124.out; have hcz44_0 : w39.cell? ⟨gb124, 0, none⟩ = some (.string (⟨#[]⟩ : ByteArray)) := (ab_ BK124.out 0).trans rfl; have hcz44_1 : w39.cell? ⟨gb124, 1, none⟩ = some (.int .i64 0) := (ab_ BK124.out 1).trans rfl; have hcz44_2 : w39.cell? ⟨gb124, 2, none⟩ = some (.int .i64 0) := (ab_ BK124.out 2).trans rfl; have hfz44_0 := aa_ BK124.out 0; have hfz44_1 := aa_ BK124.out 1; have hfz44_2 := aa_ BK124.out 2; have hcz45_0 : w39.cell? ⟨gb125, 0, none⟩ = some (.string (⟨#[]⟩ : ByteArray)) := (ab_ BK125.out 0).trans rfl; have hcz45_1 : w39.cell? ⟨gb125, 1, none⟩ = some (.int .i64 0) := (ab_ BK125.out 1).trans rfl; have hcz45_2 : w39.cell? ⟨gb125, 2, none⟩ = some (.int .i64 0) := (ab_ BK125.out 2).trans rfl; have hfz45_0 := aa_ BK125.out 0; have hfz45_1 := aa_ BK125.out 1; have hfz45_2 := aa_ BK125.out 2))
      (try simp only [Act.put, lsa_, ls0_, ls1_])
      have H := HC33.out
      clear HC33
      by_cases c46 : (!(t120.toList == t114.toList) || (!(t121 == t115) || (!(t122 == t116)))) = true
      rotate_left
      ·rw [if_neg c46] at H
       have c46b0 : (!(t120.toList == t114.toList) || (!(t121 == t115) || (!(t122 == t116)))) = false := by simpa using c46
       clear c46
       (first | rw [c46b0] | (simp only [i64_w, i32_w]; rw [c46b0]) | (simp only [c46b1, Bool.not_true, Bool.not_false]) | (simp only [c46b0, Bool.not_true, Bool.not_false]) | skip)
       have H' := Aside0.mk H
       clear H
       go_wp2
       go_roundg k2
       case measure => have := HJ3.out; have := HK2.out; omega
       case rel => exact ⟨(x8_2), (wrap64 (x34_2 + 1)), (by first | rfl | (simp; done) | (simp [*]; done)), H', ⟨by have := HJ3.out; have := HK2.out; omega⟩, ⟨vz (Kd.aW_ (Kd.V_far (p := ⟨gb125, 2, none⟩) (Kd.V_far (p := ⟨gb125, 1, none⟩) (Kd.V_far (p := ⟨gb125, 0, none⟩) (Kd.V_far (p := ⟨gb124, 2, none⟩) (Kd.V_far (p := ⟨gb124, 1, none⟩) (Kd.V_far (p := ⟨gb124, 0, none⟩) (Kd.V_far (p := ⟨gb123, 2, none⟩) (Kd.V_far (p := ⟨gb123, 1, none⟩) (Kd.V_far (p := ⟨gb123, 0, none⟩) (Kd.aW_ (Kd.aW_ (Kd.aW_ HO_0.out (fun k_ hk => (⟨hk, hk.1.1.2⟩ : _ ∧ k_ ≠ gb123))) (fun k_ hk => (⟨hk, hk.1.1.2⟩ : _ ∧ k_ ≠ gb124))) (fun k_ hk => (⟨hk, hk.1.1.2⟩ : _ ∧ k_ ≠ gb125))) (fun _ hk => hk.1.1.2) (.string t114)) (fun _ hk => hk.1.1.2) (.int .i64 t115)) (fun _ hk => hk.1.1.2) (.int .i64 t116)) (fun _ hk => hk.1.2) (.string t117)) (fun _ hk => hk.1.2) (.int .i64 t118)) (fun _ hk => hk.1.2) (.int .i64 t119)) (fun _ hk => hk.2) (.string t120)) (fun _ hk => hk.2) (.int .i64 t121)) (fun _ hk => hk.2) (.int .i64 t122)) (fun _ hk => ⟨hk.1.1.1.1.1.1.1, ⟨hk.1.1.1.1.1.1.2.1, hk.1.1.1.1.1.1.2.2⟩⟩))⟩, ⟨vz (Kd.aW_ (Kd.V_far (p := ⟨gb125, 2, none⟩) (Kd.V_far (p := ⟨gb125, 1, none⟩) (Kd.V_far (p := ⟨gb125, 0, none⟩) (Kd.V_far (p := ⟨gb124, 2, none⟩) (Kd.V_far (p := ⟨gb124, 1, none⟩) (Kd.V_far (p := ⟨gb124, 0, none⟩) (Kd.V_far (p := ⟨gb123, 2, none⟩) (Kd.V_far (p := ⟨gb123, 1, none⟩) (Kd.V_far (p := ⟨gb123, 0, none⟩) (Kd.aW_ (Kd.aW_ (Kd.aW_ HO_1.out (fun k_ hk => (⟨hk, hk.1.1.2⟩ : _ ∧ k_ ≠ gb123))) (fun k_ hk => (⟨hk, hk.1.1.2⟩ : _ ∧ k_ ≠ gb124))) (fun k_ hk => (⟨hk, hk.1.1.2⟩ : _ ∧ k_ ≠ gb125))) (fun _ hk => hk.1.1.2) (.string t114)) (fun _ hk => hk.1.1.2) (.int .i64 t115)) (fun _ hk => hk.1.1.2) (.int .i64 t116)) (fun _ hk => hk.1.2) (.string t117)) (fun _ hk => hk.1.2) (.int .i64 t118)) (fun _ hk => hk.1.2) (.int .i64 t119)) (fun _ hk => hk.2) (.string t120)) (fun _ hk => hk.2) (.int .i64 t121)) (fun _ hk => hk.2) (.int .i64 t122)) (fun _ hk => ⟨hk.1.1.1.1.1.1.1, ⟨hk.1.1.1.1.1.1.2.1, hk.1.1.1.1.1.1.2.2⟩⟩))⟩, ⟨vz (Kd.aW_ (Kd.V_far (p := ⟨gb125, 2, none⟩) (Kd.V_far (p := ⟨gb125, 1, none⟩) (Kd.V_far (p := ⟨gb125, 0, none⟩) (Kd.V_far (p := ⟨gb124, 2, none⟩) (Kd.V_far (p := ⟨gb124, 1, none⟩) (Kd.V_far (p := ⟨gb124, 0, none⟩) (Kd.V_far (p := ⟨gb123, 2, none⟩) (Kd.V_far (p := ⟨gb123, 1, none⟩) (Kd.V_far (p := ⟨gb123, 0, none⟩) (Kd.aW_ (Kd.aW_ (Kd.aW_ HO_2.out (fun k_ hk => (⟨hk, hk.1.1.2⟩ : _ ∧ k_ ≠ gb123))) (fun k_ hk => (⟨hk, hk.1.1.2⟩ : _ ∧ k_ ≠ gb124))) (fun k_ hk => (⟨hk, hk.1.1.2⟩ : _ ∧ k_ ≠ gb125))) (fun _ hk => hk.1.1.2) (.string t114)) (fun _ hk => hk.1.1.2) (.int .i64 t115)) (fun _ hk => hk.1.1.2) (.int .i64 t116)) (fun _ hk => hk.1.2) (.string t117)) (fun _ hk => hk.1.2) (.int .i64 t118)) (fun _ hk => hk.1.2) (.int .i64 t119)) (fun _ hk => hk.2) (.string t120)) (fun _ hk => hk.2) (.int .i64 t121)) (fun _ hk => hk.2) (.int .i64 t122)) (fun _ hk => ⟨hk.1.1.1.1.1.1.1, ⟨hk.1.1.1.1.1.1.2.1, hk.1.1.1.1.1.1.2.2⟩⟩))⟩, ⟨rz (Kd.aK_ (Kd.R_far (p := ⟨gb125, 2, none⟩) (Kd.R_far (p := ⟨gb125, 1, none⟩) (Kd.R_far (p := ⟨gb125, 0, none⟩) (Kd.R_far (p := ⟨gb124, 2, none⟩) (Kd.R_far (p := ⟨gb124, 1, none⟩) (Kd.R_far (p := ⟨gb124, 0, none⟩) (Kd.R_far (p := ⟨gb123, 2, none⟩) (Kd.R_far (p := ⟨gb123, 1, none⟩) (Kd.R_far (p := ⟨gb123, 0, none⟩) (Kd.bp_ (Kd.bp_ (Kd.bp_ HO_8.out BK123.out (by decide)) BK124.out (by decide)) BK125.out (by decide)) (fun _ hk => hk.1.1.2) (.string t114)) (fun _ hk => hk.1.1.2) (.int .i64 t115)) (fun _ hk => hk.1.1.2) (.int .i64 t116)) (fun _ hk => hk.1.2) (.string t117)) (fun _ hk => hk.1.2) (.int .i64 t118)) (fun _ hk => hk.1.2) (.int .i64 t119)) (fun _ hk => hk.2) (.string t120)) (fun _ hk => hk.2) (.int .i64 t121)) (fun _ hk => hk.2) (.int .i64 t122)) (fun _ hk => ⟨hk.1.1.1.1, hk.1.1.1.2⟩))⟩, ⟨rz (Kd.aK_ (Kd.R_far (p := ⟨gb125, 2, none⟩) (Kd.R_far (p := ⟨gb125, 1, none⟩) (Kd.R_far (p := ⟨gb125, 0, none⟩) (Kd.R_far (p := ⟨gb124, 2, none⟩) (Kd.R_far (p := ⟨gb124, 1, none⟩) (Kd.R_far (p := ⟨gb124, 0, none⟩) (Kd.R_far (p := ⟨gb123, 2, none⟩) (Kd.R_far (p := ⟨gb123, 1, none⟩) (Kd.R_far (p := ⟨gb123, 0, none⟩) (Kd.bp_ (Kd.bp_ (Kd.bp_ HO_32.out BK123.out (by decide)) BK124.out (by decide)) BK125.out (by decide)) (fun _ hk => hk.1.1.2) (.string t114)) (fun _ hk => hk.1.1.2) (.int .i64 t115)) (fun _ hk => hk.1.1.2) (.int .i64 t116)) (fun _ hk => hk.1.2) (.string t117)) (fun _ hk => hk.1.2) (.int .i64 t118)) (fun _ hk => hk.1.2) (.int .i64 t119)) (fun _ hk => hk.2) (.string t120)) (fun _ hk => hk.2) (.int .i64 t121)) (fun _ hk => hk.2) (.int .i64 t122)) (fun _ hk => ⟨hk.1.1.1.1, hk.1.1.1.2⟩))⟩, ⟨by repeat (first | (with_reducible first | exact HB.out | apply bA_ | apply bN_ | apply bD_ | refine ac_ ?_ GE123.out | refine ac_ ?_ GE124.out | refine ac_ ?_ GE125.out) | exact HB.out)⟩⟩
      rw [if_pos c46] at H
      have c46b0 : (!(t120.toList == t114.toList) || (!(t121 == t115) || (!(t122 == t116)))) = true := c46
      clear c46
      (first | rw [c46b0] | (simp only [i64_w, i32_w]; rw [c46b0]) | (simp only [c46b1, Bool.not_true, Bool.not_false]) | (simp only [c46b0, Bool.not_true, Bool.not_false]) | skip)
      by_cases c47 : x8_2.length < 8796093022208
      rotate_left
      ·rw [if_neg c47] at H
       exact absurd H (by simp)
      rw [if_pos c47] at H
      have LMc47 := Aside0.mk c47
      clear c47
      obtain ⟨y126, hy126⟩ : ∃ y_ : List ByteArray, y_ = (x8_2 ++ [rdOf ByteArray.empty t110 x34_2]) := ⟨_, rfl⟩
      replace H : (aE_.l0 k2 l0 l1 l2 y126 t110 (t110.length : Int) (wrap64 (x34_2 + 1))) = some (r1, r2) := by first | (rw [hy126]; with_reducible exact H) | (have H2_ := (Option.bind_some _ _).symm.trans H; rw [hy126]; with_reducible exact H2_) | (have H2_ := (Option.bind_some _ _).symm.trans H; with_reducible exact H2_) | with_reducible exact H | (rw [hy126]; exact H) | exact H
      have Ny126 := Aside0.mk hy126
      clear hy126
      have H' := Aside0.mk H
      clear H
      go_wp2_with (first | ((with_reducible refine bn_ (b := .append) (xs := #[.tmp 60, .tmp 62]) rfl ?_); at_builtin; refine Kd.ck_ Kd.string (w0 := w) w.heap.size rfl (.tmp 60) (.tmp 62) 24 9 (.string ⟨#[]⟩) 16 rfl Try.underlying24 info9 rfl (by decide) (by omega) u8 x8_2 (rdOf ByteArray.empty t110 x34_2) [.string (rdOf ByteArray.empty t110 x34_2)] (fun k_ => (w.heap.size ≤ k_) ∧ some k_ ≠ (.slice (some ad113) t110.length co24 : Value).ownBlock) (fun _ => False) rfl (by first | (go_simp; done) | (go_simp; rfl)) ?aP (fun _ hk => hk.elim) ?aF ?aO ?aB ?aS ?aL ?_; (case aP => exact rfl); (case aB => exact (by repeat (first | (with_reducible first | exact HB.out | apply bA_ | apply bN_ | apply bD_ | refine ac_ ?_ GE123.out | refine ac_ ?_ GE124.out | refine ac_ ?_ GE125.out) | exact HB.out))); (case aF => exact (fun k_ hk => ⟨(Nat.le_trans (ae_ (by repeat (first | (with_reducible first | exact HB.out | apply bA_ | apply bN_ | apply bD_ | refine ac_ ?_ GE123.out | refine ac_ ?_ GE124.out | refine ac_ ?_ GE125.out) | exact HB.out))) hk), Kd.fresh' (Kd.R_lt (rz (Kd.aK_ (Kd.aK_ (Kd.aK_ (Kd.R_far (p := ⟨gb125, 2, none⟩) (Kd.R_far (p := ⟨gb125, 1, none⟩) (Kd.R_far (p := ⟨gb125, 0, none⟩) (Kd.R_far (p := ⟨gb124, 2, none⟩) (Kd.R_far (p := ⟨gb124, 1, none⟩) (Kd.R_far (p := ⟨gb124, 0, none⟩) (Kd.R_far (p := ⟨gb123, 2, none⟩) (Kd.R_far (p := ⟨gb123, 1, none⟩) (Kd.R_far (p := ⟨gb123, 0, none⟩) (Kd.bp_ (Kd.bp_ (Kd.bp_ HO_32.out BK123.out (by decide)) BK124.out (by decide)) BK125.out (by decide)) (fun _ hk => hk.1.1.2) (.string t114)) (fun _ hk => hk.1.1.2) (.int .i64 t115)) (fun _ hk => hk.1.1.2) (.int .i64 t116)) (fun _ hk => hk.1.2) (.string t117)) (fun _ hk => hk.1.2) (.int .i64 t118)) (fun _ hk => hk.1.2) (.int .i64 t119)) (fun _ hk => hk.2) (.string t120)) (fun _ hk => hk.2) (.int .i64 t121)) (fun _ hk => hk.2) (.int .i64 t122)) (fun _ h_ => h_.1)) (fun _ h_ => h_.1)) (fun _ h_ => h_.1)))) k_ hk⟩)); (case aO => exact (rz (Kd.aK_ (Kd.R_far (p := ⟨gb125, 2, none⟩) (Kd.R_far (p := ⟨gb125, 1, none⟩) (Kd.R_far (p := ⟨gb125, 0, none⟩) (Kd.R_far (p := ⟨gb124, 2, none⟩) (Kd.R_far (p := ⟨gb124, 1, none⟩) (Kd.R_far (p := ⟨gb124, 0, none⟩) (Kd.R_far (p := ⟨gb123, 2, none⟩) (Kd.R_far (p := ⟨gb123, 1, none⟩) (Kd.R_far (p := ⟨gb123, 0, none⟩) (Kd.bp_ (Kd.bp_ (Kd.bp_ HO_8.out BK123.out (by decide)) BK124.out (by decide)) BK125.out (by decide)) (fun _ hk => hk.1.1.2) (.string t114)) (fun _ hk => hk.1.1.2) (.int .i64 t115)) (fun _ hk => hk.1.1.2) (.int .i64 t116)) (fun _ hk => hk.1.2) (.string t117)) (fun _ hk => hk.1.2) (.int .i64 t118)) (fun _ hk => hk.1.2) (.int .i64 t119)) (fun _ hk => hk.2) (.string t120)) (fun _ hk => hk.2) (.int .i64 t121)) (fun _ hk => hk.2) (.int .i64 t122)) (fun _ hk => ⟨hk.1.1.1.1, hk.1.1.1.2⟩)))); (case aS => exact (ae_ (by repeat (first | (with_reducible first | exact HB.out | apply bA_ | apply bN_ | apply bD_ | refine ac_ ?_ GE123.out | refine ac_ ?_ GE124.out | refine ac_ ?_ GE125.out) | exact HB.out)))); (case aL => have := LMc47.out; omega); intro v127 w48 ho hb hg hat; rw [← Ny126.out] at ho; replace HO_0 := Aside0.mk (Kd.dp_ (ok := (fun k_ => ((P0_ k_ ∨ P1_ k_ ∨ P2_ k_) ∨ w.heap.size ≤ k_) ∧ some k_ ≠ (.slice (some ad113) t110.length co24 : Value).ownBlock ∧ k_ ≠ gb123 ∧ k_ ≠ gb124 ∧ k_ ≠ gb125)) (vz (Kd.aW_ (Kd.V_far (p := ⟨gb125, 2, none⟩) (Kd.V_far (p := ⟨gb125, 1, none⟩) (Kd.V_far (p := ⟨gb125, 0, none⟩) (Kd.V_far (p := ⟨gb124, 2, none⟩) (Kd.V_far (p := ⟨gb124, 1, none⟩) (Kd.V_far (p := ⟨gb124, 0, none⟩) (Kd.V_far (p := ⟨gb123, 2, none⟩) (Kd.V_far (p := ⟨gb123, 1, none⟩) (Kd.V_far (p := ⟨gb123, 0, none⟩) (Kd.aW_ (Kd.aW_ (Kd.aW_ HO_0.out (fun k_ hk => (⟨hk, hk.1.1.2⟩ : _ ∧ k_ ≠ gb123))) (fun k_ hk => (⟨hk, hk.1.1.2⟩ : _ ∧ k_ ≠ gb124))) (fun k_ hk => (⟨hk, hk.1.1.2⟩ : _ ∧ k_ ≠ gb125))) (fun _ hk => hk.1.1.2) (.string t114)) (fun _ hk => hk.1.1.2) (.int .i64 t115)) (fun _ hk => hk.1.1.2) (.int .i64 t116)) (fun _ hk => hk.1.2) (.string t117)) (fun _ hk => hk.1.2) (.int .i64 t118)) (fun _ hk => hk.1.2) (.int .i64 t119)) (fun _ hk => hk.2) (.string t120)) (fun _ hk => hk.2) (.int .i64 t121)) (fun _ hk => hk.2) (.int .i64 t122)) (fun _ hk => ⟨⟨hk.1.1.1.1.1.1.1, ⟨hk.1.1.1.1.1.1.2.2, ⟨hk.1.1.1.1.1.2, ⟨hk.1.1.1.1.2, hk.1.1.1.2⟩⟩⟩⟩, hk.1.1.1.1.1.1.2.1⟩))) hg hat); replace HO_1 := Aside0.mk (Kd.dp_ (ok := (fun k_ => ((P0_ k_ ∨ P1_ k_ ∨ P2_ k_) ∨ w.heap.size ≤ k_) ∧ some k_ ≠ (.slice (some ad113) t110.length co24 : Value).ownBlock ∧ k_ ≠ gb123 ∧ k_ ≠ gb124 ∧ k_ ≠ gb125)) (vz (Kd.aW_ (Kd.V_far (p := ⟨gb125, 2, none⟩) (Kd.V_far (p := ⟨gb125, 1, none⟩) (Kd.V_far (p := ⟨gb125, 0, none⟩) (Kd.V_far (p := ⟨gb124, 2, none⟩) (Kd.V_far (p := ⟨gb124, 1, none⟩) (Kd.V_far (p := ⟨gb124, 0, none⟩) (Kd.V_far (p := ⟨gb123, 2, none⟩) (Kd.V_far (p := ⟨gb123, 1, none⟩) (Kd.V_far (p := ⟨gb123, 0, none⟩) (Kd.aW_ (Kd.aW_ (Kd.aW_ HO_1.out (fun k_ hk => (⟨hk, hk.1.1.2⟩ : _ ∧ k_ ≠ gb123))) (fun k_ hk => (⟨hk, hk.1.1.2⟩ : _ ∧ k_ ≠ gb124))) (fun k_ hk => (⟨hk, hk.1.1.2⟩ : _ ∧ k_ ≠ gb125))) (fun _ hk => hk.1.1.2) (.string t114)) (fun _ hk => hk.1.1.2) (.int .i64 t115)) (fun _ hk => hk.1.1.2) (.int .i64 t116)) (fun _ hk => hk.1.2) (.string t117)) (fun _ hk => hk.1.2) (.int .i64 t118)) (fun _ hk => hk.1.2) (.int .i64 t119)) (fun _ hk => hk.2) (.string t120)) (fun _ hk => hk.2) (.int .i64 t121)) (fun _ hk => hk.2) (.int .i64 t122)) (fun _ hk => ⟨⟨hk.1.1.1.1.1.1.1, ⟨hk.1.1.1.1.1.1.2.2, ⟨hk.1.1.1.1.1.2, ⟨hk.1.1.1.1.2, hk.1.1.1.2⟩⟩⟩⟩, hk.1.1.1.1.1.1.2.1⟩))) hg hat); replace HO_2 := Aside0.mk (Kd.dp_ (ok := (fun k_ => ((P0_ k_ ∨ P1_ k_ ∨ P2_ k_) ∨ w.heap.size ≤ k_) ∧ some k_ ≠ (.slice (some ad113) t110.length co24 : Value).ownBlock ∧ k_ ≠ gb123 ∧ k_ ≠ gb124 ∧ k_ ≠ gb125)) (vz (Kd.aW_ (Kd.V_far (p := ⟨gb125, 2, none⟩) (Kd.V_far (p := ⟨gb125, 1, none⟩) (Kd.V_far (p := ⟨gb125, 0, none⟩) (Kd.V_far (p := ⟨gb124, 2, none⟩) (Kd.V_far (p := ⟨gb124, 1, none⟩) (Kd.V_far (p := ⟨gb124, 0, none⟩) (Kd.V_far (p := ⟨gb123, 2, none⟩) (Kd.V_far (p := ⟨gb123, 1, none⟩) (Kd.V_far (p := ⟨gb123, 0, none⟩) (Kd.aW_ (Kd.aW_ (Kd.aW_ HO_2.out (fun k_ hk => (⟨hk, hk.1.1.2⟩ : _ ∧ k_ ≠ gb123))) (fun k_ hk => (⟨hk, hk.1.1.2⟩ : _ ∧ k_ ≠ gb124))) (fun k_ hk => (⟨hk, hk.1.1.2⟩ : _ ∧ k_ ≠ gb125))) (fun _ hk => hk.1.1.2) (.string t114)) (fun _ hk => hk.1.1.2) (.int .i64 t115)) (fun _ hk => hk.1.1.2) (.int .i64 t116)) (fun _ hk => hk.1.2) (.string t117)) (fun _ hk => hk.1.2) (.int .i64 t118)) (fun _ hk => hk.1.2) (.int .i64 t119)) (fun _ hk => hk.2) (.string t120)) (fun _ hk => hk.2) (.int .i64 t121)) (fun _ hk => hk.2) (.int .i64 t122)) (fun _ hk => ⟨⟨hk.1.1.1.1.1.1.1, ⟨hk.1.1.1.1.1.1.2.2, ⟨hk.1.1.1.1.1.2, ⟨hk.1.1.1.1.2, hk.1.1.1.2⟩⟩⟩⟩, hk.1.1.1.1.1.1.2.1⟩))) hg hat); replace HO_32 := Aside0.mk (Kd.R_after (ok := (fun k_ => (w.heap.size ≤ k_))) (rz (Kd.aK_ (Kd.R_far (p := ⟨gb125, 2, none⟩) (Kd.R_far (p := ⟨gb125, 1, none⟩) (Kd.R_far (p := ⟨gb125, 0, none⟩) (Kd.R_far (p := ⟨gb124, 2, none⟩) (Kd.R_far (p := ⟨gb124, 1, none⟩) (Kd.R_far (p := ⟨gb124, 0, none⟩) (Kd.R_far (p := ⟨gb123, 2, none⟩) (Kd.R_far (p := ⟨gb123, 1, none⟩) (Kd.R_far (p := ⟨gb123, 0, none⟩) (Kd.bp_ (Kd.bp_ (Kd.bp_ HO_32.out BK123.out (by decide)) BK124.out (by decide)) BK125.out (by decide)) (fun _ hk => hk.1.1.2) (.string t114)) (fun _ hk => hk.1.1.2) (.int .i64 t115)) (fun _ hk => hk.1.1.2) (.int .i64 t116)) (fun _ hk => hk.1.2) (.string t117)) (fun _ hk => hk.1.2) (.int .i64 t118)) (fun _ hk => hk.1.2) (.int .i64 t119)) (fun _ hk => hk.2) (.string t120)) (fun _ hk => hk.2) (.int .i64 t121)) (fun _ hk => hk.2) (.int .i64 t122)) (fun _ hk => ⟨hk.1.1.1.1, hk.1.1.1.2⟩))) hg hat); replace BK123 := Aside0.mk (bW_ (g := gb123) (o := .cells #[.string t114, .int .i64 t115, .int .i64 t116] 61 (0, 0)) (by (with_reducible repeat (first | refine ai_ ?_ _ | refine aj_ ?_ | refine ah_ ?_ _)); refine bG_ ?_ NB123_125.out _; (with_reducible repeat (first | refine ai_ ?_ _ | refine aj_ ?_ | refine ah_ ?_ _)); refine bG_ ?_ NB123_125.out _; (with_reducible repeat (first | refine ai_ ?_ _ | refine aj_ ?_ | refine ah_ ?_ _)); refine bG_ ?_ NB123_125.out _; (with_reducible repeat (first | refine ai_ ?_ _ | refine aj_ ?_ | refine ah_ ?_ _)); refine bG_ ?_ NB123_124.out _; (with_reducible repeat (first | refine ai_ ?_ _ | refine aj_ ?_ | refine ah_ ?_ _)); refine bG_ ?_ NB123_124.out _; (with_reducible repeat (first | refine ai_ ?_ _ | refine aj_ ?_ | refine ah_ ?_ _)); refine bG_ ?_ NB123_124.out _; (with_reducible repeat (first | refine ai_ ?_ _ | refine aj_ ?_ | refine ah_ ?_ _)); refine aB_ (cs := #[.string t114, .int .i64 t115, .int .i64 0]) ?_ 2 _ rfl; (with_reducible repeat (first | refine ai_ ?_ _ | refine aj_ ?_ | refine ah_ ?_ _)); refine aB_ (cs := #[.string t114, .int .i64 0, .int .i64 0]) ?_ 1 _ rfl; (with_reducible repeat (first | refine ai_ ?_ _ | refine aj_ ?_ | refine ah_ ?_ _)); refine aB_ (cs := #[.string (⟨#[]⟩ : ByteArray), .int .i64 0, .int .i64 0]) ?_ 0 _ rfl; (with_reducible repeat (first | refine ai_ ?_ _ | refine aj_ ?_ | refine ah_ ?_ _)); exact BK123.out) hg (Kd.R_ne HO_8.out BK123.out (by decide))); replace BK124 := Aside0.mk (bW_ (g := gb124) (o := .cells #[.string t117, .int .i64 t118, .int .i64 t119] 61 (0, 0)) (by (with_reducible repeat (first | refine ai_ ?_ _ | refine aj_ ?_ | refine ah_ ?_ _)); refine bG_ ?_ NB124_125.out _; (with_reducible repeat (first | refine ai_ ?_ _ | refine aj_ ?_ | refine ah_ ?_ _)); refine bG_ ?_ NB124_125.out _; (with_reducible repeat (first | refine ai_ ?_ _ | refine aj_ ?_ | refine ah_ ?_ _)); refine bG_ ?_ NB124_125.out _; (with_reducible repeat (first | refine ai_ ?_ _ | refine aj_ ?_ | refine ah_ ?_ _)); refine aB_ (cs := #[.string t117, .int .i64 t118, .int .i64 0]) ?_ 2 _ rfl; (with_reducible repeat (first | refine ai_ ?_ _ | refine aj_ ?_ | refine ah_ ?_ _)); refine aB_ (cs := #[.string t117, .int .i64 0, .int .i64 0]) ?_ 1 _ rfl; (with_reducible repeat (first | refine ai_ ?_ _ | refine aj_ ?_ | refine ah_ ?_ _)); refine aB_ (cs := #[.string (⟨#[]⟩ : ByteArray), .int .i64 0, .int .i64 0]) ?_ 0 _ rfl; (with_reducible repeat (first | refine ai_ ?_ _ | refine aj_ ?_ | refine ah_ ?_ _)); refine bG_ ?_ NB124_123.out _; (with_reducible repeat (first | refine ai_ ?_ _ | refine aj_ ?_ | refine ah_ ?_ _)); refine bG_ ?_ NB124_123.out _; (with_reducible repeat (first | refine ai_ ?_ _ | refine aj_ ?_ | refine ah_ ?_ _)); refine bG_ ?_ NB124_123.out _; (with_reducible repeat (first | refine ai_ ?_ _ | refine aj_ ?_ | refine ah_ ?_ _)); exact BK124.out) hg (Kd.R_ne HO_8.out BK124.out (by decide))); replace BK125 := Aside0.mk (bW_ (g := gb125) (o := .cells #[.string t120, .int .i64 t121, .int .i64 t122] 61 (0, 0)) (by (with_reducible repeat (first | refine ai_ ?_ _ | refine aj_ ?_ | refine ah_ ?_ _)); refine aB_ (cs := #[.string t120, .int .i64 t121, .int .i64 0]) ?_ 2 _ rfl; (with_reducible repeat (first | refine ai_ ?_ _ | refine aj_ ?_ | refine ah_ ?_ _)); refine aB_ (cs := #[.string t120, .int .i64 0, .int .i64 0]) ?_ 1 _ rfl; (with_reducible repeat (first | refine ai_ ?_ _ | refine aj_ ?_ | refine ah_ ?_ _)); refine aB_ (cs := #[.string (⟨#[]⟩ : ByteArray), .int .i64 0, .int .i64 0]) ?_ 0 _ rfl; (with_reducible repeat (first | refine ai_ ?_ _ | refine aj_ ?_ | refine ah_ ?_ _)); refine bG_ ?_ NB125_124.out _; (with_reducible repeat (first | refine ai_ ?_ _ | refine aj_ ?_ | refine ah_ ?_ _)); refine bG_ ?_ NB125_124.out _; (with_reducible repeat (first | refine ai_ ?_ _ | refine aj_ ?_ | refine ah_ ?_ _)); refine bG_ ?_ NB125_124.out _; (with_reducible repeat (first | refine ai_ ?_ _ | refine aj_ ?_ | refine ah_ ?_ _)); refine bG_ ?_ NB125_123.out _; (with_reducible repeat (first | refine ai_ ?_ _ | refine aj_ ?_ | refine ah_ ?_ _)); refine bG_ ?_ NB125_123.out _; (with_reducible repeat (first | refine ai_ ?_ _ | refine aj_ ?_ | refine ah_ ?_ _)); refine bG_ ?_ NB125_123.out _; (with_reducible repeat (first | refine ai_ ?_ _ | refine aj_ ?_ | refine ah_ ?_ _)); exact BK125.out) hg (Kd.R_ne HO_8.out BK125.out (by decide))); replace HB := Aside0.mk (hb); have HO128 := Aside0.mk (ho); clear HO_8; clear ho hb hg hat))
      go_roundg k2
      case measure => have := HJ3.out; have := HK2.out; omega
      case rel => exact ⟨(y126), (wrap64 (x34_2 + 1)), (by first | rfl | (simp; done) | (simp [*]; done)), H', ⟨by have := HJ3.out; have := HK2.out; omega⟩, ⟨vz (Kd.aW_ HO_0.out (fun _ hk => ⟨hk.1.1, ⟨hk.2, hk.1.2.1⟩⟩))⟩, ⟨vz (Kd.aW_ HO_1.out (fun _ hk => ⟨hk.1.1, ⟨hk.2, hk.1.2.1⟩⟩))⟩, ⟨vz (Kd.aW_ HO_2.out (fun _ hk => ⟨hk.1.1, ⟨hk.2, hk.1.2.1⟩⟩))⟩, ⟨rz HO128.out⟩, ⟨rz HO_32.out⟩, ⟨by repeat (first | (with_reducible first | exact HB.out | apply bA_ | apply bN_ | apply bD_ | refine ac_ ?_ GE123.out | refine ac_ ?_ GE124.out | refine ac_ ?_ GE125.out) | exact HB.out)⟩⟩
   subst c16
   have H1 : (some (([] : List ByteArray), 1)) = some (r1, r2) := by rw [if_pos rfl] at H; exact H
   clear H
   have H := H1
   clear H1
   simp only [Option.some.injEq, Prod.mk.injEq] at H
   obtain ⟨rfl, rfl⟩ := H
   go_wp2
   go_ret2
   exact ⟨_, by first | rfl | (simp [*, an_, ao_] <;> rfl), by first | exact Kd.R_nil _ _ _ _ _ | exact Kd.N_nil _ _ _ _ _ | exact Kd.V_nil _ _ _ _ _ | exact Kd.Q_nil _ _ _ _ _ | exact Kd.S_nil _ _ _ _ _, bz HB.out⟩
end Go.Proofs.Ytiheginanghhjaa.Q
