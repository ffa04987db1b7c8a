/- For all arguments that the law's sizes let in, the program's MergeVersions gives what the reference gives. This text holds the last walks, the plain law and the row. -/
import Derived.Lib.Bytealg
import Derived.Lib.SlicesCompact
import Derived.Test.YtiheginanghhjaaRows
import Derived.WalkKit
import Derived.ProofKit
import Derived.OpenShut
import Derived.ShutString
import Derived.ChangeOld
import Derived.Below
import Derived.SizedLaws
import Derived.Carry
import Derived.Test.YtiheginanghhjaaKFnExactMergeVersionsa
import Derived.Test.YtiheginanghhjaaKFnExactMergeVersionse
import Derived.Test.YtiheginanghhjaaKFnExactMergeVersionsc
import Derived.Test.YtiheginanghhjaaKFnExactMergeVersionsd
import Derived.Test.YtiheginanghhjaaKFnExactMergeVersionsb
set_option linter.unusedVariables false
set_option linter.unusedSimpArgs false
namespace Go.Proofs.Ytiheginanghhjaa.Q
open Go.RowKit Go.Proofs.YtiheginanghhjaaW.PrintWords Go.Proofs.YtiheginanghhjaaW.PrintLast Go.Proofs.YtiheginanghhjaaW.PrintMore
attribute [local go_sem] aN_ aL_ bi_ bh_ aA_ az_ aO_ aM_
theorem aw_.cells {W : World} {base g n cap : Nat} {ok : Nat → Prop} {xs : List S78} (h : Kd.S k78 78 W base ok (.slice (some ⟨g, 0, none⟩) n cap) xs) (i : Int) (h0 : 0 ≤ i) (h1 : i < n) :
  ∃ vI A c, vI = Value.slice A (ak_ xs i).f3.length c ∧ W.cell? ⟨g, i.toNat * 4, none⟩ = some (.int .i64 ((ak_ xs i).f0)) ∧ W.cell? ⟨g, i.toNat * 4 + 1, none⟩ = some (.int .i64 ((ak_ xs i).f1)) ∧ W.cell? ⟨g, i.toNat * 4 + 2, none⟩ = some (.string ((ak_ xs i).f2)) ∧ W.cell? ⟨g, i.toNat * 4 + 3, none⟩ = some vI ∧ W.frozen? ⟨g, i.toNat * 4, none⟩ = false ∧ W.frozen? ⟨g, i.toNat * 4 + 1, none⟩ = false ∧ W.frozen? ⟨g, i.toNat * 4 + 2, none⟩ = false ∧
   (∃ oki : Nat → Prop, (∀ k, oki k → ok k) ∧ Kd.R k63 63 W base oki vI (ak_ xs i).f3 ∧ ∀ (W2 : World) (ys : List S63), Kept W W2 oki → Kd.R k63 63 W2 base oki vI ys → Kd.S k78 78 W2 base ok (.slice (some ⟨g, 0, none⟩) n cap) (xs.set i.toNat ⟨(ak_ xs i).f0, (ak_ xs i).f1, (ak_ xs i).f2, ys⟩)) := by
 obtain ⟨oki, c, hcl, hM, hcc, hfr, hoki, hH⟩ := Kd.S_elem h z78 i h0 h1
 obtain ⟨vI, rfl, hv⟩ := k78_openM hM
 obtain ⟨A, cc, rfl⟩ := Kd.bF_ hv
 refine ⟨_, A, cc, rfl, hcc 0 _ rfl, hcc 1 _ rfl, hcc 2 _ rfl, hcc 3 _ rfl, hfr 0, hfr 1, hfr 2, oki, fun k hk => (hoki k hk).1, hv, fun W2 ys hK hR => ?_⟩
 have hH2 := Kd.H_step hH (w1 := W2) (fun k _ hn hlt => hK.2 k hlt hn)
 exact Kd.H_back hH2 (x' := ⟨(ak_ xs i).f0, (ak_ xs i).f1, (ak_ xs i).f2, ys⟩) (k78_mkM _ _ _ (⟨(ak_ xs i).f0, (ak_ xs i).f1, (ak_ xs i).f2, ys⟩ : S78) hR) (fun _ hk => hk)
theorem aw_.put {W : World} {base g n cap : Nat} {ok : Nat → Prop} {xs : List S78} (h : Kd.S k78 78 W base ok (.slice (some ⟨g, 0, none⟩) n cap) xs) (i : Int) (h0 : 0 ≤ i) (h1 : i < n) :
  (∀ x : Int, Kd.S k78 78 (W.setCell ⟨g, i.toNat * 4, none⟩ (.int .i64 (x))) base ok (.slice (some ⟨g, 0, none⟩) n cap) (xs.set i.toNat ⟨x, (ak_ xs i).f1, (ak_ xs i).f2, (ak_ xs i).f3⟩) ∧ W.grownBy (W.setCell ⟨g, i.toNat * 4, none⟩ (.int .i64 (x))) (some g)) ∧ (∀ x : Int, Kd.S k78 78 (W.setCell ⟨g, i.toNat * 4 + 1, none⟩ (.int .i64 (x))) base ok (.slice (some ⟨g, 0, none⟩) n cap) (xs.set i.toNat ⟨(ak_ xs i).f0, x, (ak_ xs i).f2, (ak_ xs i).f3⟩) ∧ W.grownBy (W.setCell ⟨g, i.toNat * 4 + 1, none⟩ (.int .i64 (x))) (some g)) ∧ (∀ x : ByteArray, Kd.S k78 78 (W.setCell ⟨g, i.toNat * 4 + 2, none⟩ (.string x)) base ok (.slice (some ⟨g, 0, none⟩) n cap) (xs.set i.toNat ⟨(ak_ xs i).f0, (ak_ xs i).f1, x, (ak_ xs i).f3⟩) ∧ W.grownBy (W.setCell ⟨g, i.toNat * 4 + 2, none⟩ (.string x)) (some g)) ∧ True := by
 obtain ⟨oki, c, hcl, hM, hcc, hfr, hoki, hH⟩ := Kd.S_elem h z78 i h0 h1
 obtain ⟨vI, rfl, hv⟩ := k78_openM hM
 refine ⟨fun x => ?_, fun x => ?_, fun x => ?_, True.intro⟩
 ·exact Kd.S_seg0 hH h0 h1 (seg := [.int .i64 (x)]) (j := 0) (show 1 ≤ 4 by decide) (x' := ⟨x, (ak_ xs i).f1, (ak_ xs i).f2, (ak_ xs i).f3⟩) (k78_mkM _ _ _ (⟨x, (ak_ xs i).f1, (ak_ xs i).f2, (ak_ xs i).f3⟩ : S78) hv) (fun _ hk => hk)
 ·exact Kd.S_seg0 hH h0 h1 (seg := [.int .i64 (x)]) (j := 1) (show 2 ≤ 4 by decide) (x' := ⟨(ak_ xs i).f0, x, (ak_ xs i).f2, (ak_ xs i).f3⟩) (k78_mkM _ _ _ (⟨(ak_ xs i).f0, x, (ak_ xs i).f2, (ak_ xs i).f3⟩ : S78) hv) (fun _ hk => hk)
 ·exact Kd.S_seg0 hH h0 h1 (seg := [.string x]) (j := 2) (show 3 ≤ 4 by decide) (x' := ⟨(ak_ xs i).f0, (ak_ xs i).f1, x, (ak_ xs i).f3⟩) (k78_mkM _ _ _ (⟨(ak_ xs i).f0, (ak_ xs i).f1, x, (ak_ xs i).f3⟩ : S78) hv) (fun _ hk => hk)
theorem aw_.rd_set (xs : List S78) (i : Int) (x : S78) (h : i.toNat < xs.length) : ak_ (xs.set i.toNat x) i = x := by
 unfold ak_
 rw [List.getD_eq_getElem?_getD, List.getElem?_set_self h]
 rfl
def aw_.l0 : Nat → List S78 → Int → Int → Option (Int × List S78)
 | 0, _, _, _ => none
 | k + 1, x0, x1, x5 => if x5 < (x0.length : Int) then (((bk_.f k (wrap64 (wrap64 (x1 + 1) + 1))).bind fun t2 => ((bw_.f k (ak_ x0 x5).f3 (wrap64 (wrap64 (wrap64 (x1 + 1) + 1) + 1))).bind fun p => (if 0 ≤ x5 then (aw_.l0 k (x0.set x5.toNat ⟨x1, wrap64 (x1 + 1), t2, p.2⟩) p.1 (wrap64 (x5 + 1))) else (none))))) else (some (x1, x0))
def aw_.f (k : Nat) (l0 : List S78) (a1 : Int) : Option (Int × List S78) := aw_.l0 k l0 a1 0
set_option maxHeartbeats 8000000 in
set_option maxRecDepth 100000 in
theorem aw_.calls (k : Nat) (P0_ : Nat → Prop) (u9000_ : Value) (l0 : List (S78)) (a1 : Int) (r1 : Int) (r2 : List (S78)) (w0 w : World) (hB : Below w0.heap.size w0 w) (ho0 : Kd.S k78 78 w w0.heap.size P0_ u9000_ l0) (h : aw_.f k l0 a1 = some (r1, r2)) :
  Calls Try.prog 24 #[u9000_, .int .i64 a1] w fun e w' => e = .returned (.int .i64 r1) ∧ Kd.S k78 78 w' w0.heap.size P0_ u9000_ r2 ∧ Below w0.heap.size w0 w' ∧ Kept w w' (fun k_ => P0_ k_) := by
 have HO0 := Aside0.mk ho0
 have HK := Aside0.mk (Kept.refl w (fun k_ => P0_ k_))
 have HB := Aside0.mk hB
 clear hB ho0
 have H : (aw_.l0 k l0 a1 0) = some (r1, r2) := h
 clear h
 have H' := Aside0.mk H
 clear H
 go_enter Try.func24, Try.ntmps24
 go_wp2
 go_loopg [1, 5] k (fun kq v1 v5 w' => ∃ (x0_1 : List (S78)) (x1_1 : Int) (x5_1 : Int), v1 = .int .i64 x1_1 ∧ v5 = .int .i64 x5_1 ∧ Aside0 (aw_.l0 kq x0_1 x1_1 x5_1 = some (r1, r2)) ∧ Aside0 (kq ≤ k) ∧ Aside0 (Kd.S k78 78 w' w0.heap.size P0_ u9000_ x0_1) ∧ Aside0 (Kept w w' (fun k_ => P0_ k_)) ∧ Aside0 (Below w0.heap.size w0 w'))
 case atStart => exact ⟨(l0), (a1), (0), (by first | rfl | (simp; done) | (simp [*]; done)), (by first | rfl | (simp; done) | (simp [*]; done)), H', ⟨Nat.le_refl _⟩, ⟨sz HO0.out⟩, ⟨hz HK.out⟩, ⟨bz HB.out⟩⟩
 case round =>
  clear H'
  obtain ⟨x0_1, x1_1, x5_1, rfl, rfl, HA, HK1, HO_0, HK, HB⟩ := hrel
  cases gk with
  | zero => exact absurd HA.out (by simp [aw_.l0])
  | succ k1 =>
   have H := HA.out
   clear HA
   simp only [aw_.l0] at H
   by_cases c3 : x5_1 < (x0_1.length : Int)
   rotate_left
   ·rw [if_neg c3] at H
    have c3b0 : decide (x5_1 < (x0_1.length : Int)) = false := decide_eq_false c3
    clear c3
    simp only [Option.some.injEq, Prod.mk.injEq] at H
    obtain ⟨rfl, rfl⟩ := H
    obtain ⟨Ao22, co22, eo22⟩ := Kd.dB_ HO_0.out
    subst eo22
    go_wp2
    go_ret
    exact ⟨by first | rfl | (simp; done), sz HO_0.out, bz HB.out, hz HK.out⟩
   rw [if_pos c3] at H
   have c3b0 : decide (x5_1 < (x0_1.length : Int)) = true := decide_eq_true c3
   replace H := Option.bind_eq_some_iff.mp H
   obtain ⟨t2, A4_20, H⟩ := H
   have A4_2 := Aside0.mk A4_20
   clear A4_20
   replace H := Option.bind_eq_some_iff.mp H
   obtain ⟨⟨m1, ys⟩, A50, H⟩ := H
   have A5 := Aside0.mk A50
   clear A50
   by_cases c5 : 0 ≤ x5_1
   rotate_left
   ·rw [if_neg c5] at H
    exact absurd H (by simp)
   rw [if_pos c5] at H
   obtain ⟨x2, hx2⟩ : ∃ x2, x2 = x0_1.set x5_1.toNat ⟨x1_1, wrap64 (x1_1 + 1), t2, ys⟩ := ⟨_, rfl⟩
   have N2 := Aside0.mk hx2
   replace H : aw_.l0 k1 x2 m1 (wrap64 (x5_1 + 1)) = some (r1, r2) := by rw [hx2]; exact H
   clear hx2
   have H' := Aside0.mk H
   clear H
   obtain ⟨go6, co6, eo6, gb6, _, _⟩ := Kd.S_form HO_0.out (by omega)
   subst eo6
   have GB6 := Aside0.mk gb6
   have GP6 := Aside0.mk (show P0_ go6 from (Kd.S_R HO_0.out).1 _ rfl)
   clear gb6
   have c5b := decide_eq_true c5
   obtain ⟨vI, A3, c3_, ev3, hx0, hx1, hx2, hx3, hf0, hf1, hf2, hlend⟩ := aw_.cells HO_0.out x5_1 c5 c3
   subst ev3
   go_wp2_with (first | ((with_reducible refine cK_ (t := 2) (p := 16) rfl ?_); refine cC_ (t := 2) (p := 16) (v := ?vo_1) (w1 := (wr.setCell ⟨go6, (x5_1 : Int).toNat * 4, none⟩ (.int .i64 (x1_1)))) ?hg ?ho ?hn ?hr ?_; (case ho => rfl); (case hg => rfl); (case hn => rfl); (case hr => (go_simp; try rfl)); intro ws0 hw; have hp_ := (aw_.put HO_0.out x5_1 c5 c3).1 x1_1; rw [← hw] at hp_; clear hx0 hx1 hx2 hx3 hf0 hf1 hf2 hlend; have hB2 : Below w0.heap.size w0 ws0 := (by rw [hw]; exact ac_ HB.out GB6.out); have hK2 : Kept w ws0 (fun k_ => P0_ k_) := Kept.of_grown (S := (fun k_ => P0_ k_)) hp_.2 HK.out (fun k_ e_ => by injection e_ with e_; subst e_; exact .inl GP6.out); have hS2 := hp_.1; have hR := aw_.rd_set x0_1 x5_1 (⟨x1_1, (ak_ x0_1 x5_1).f1, (ak_ x0_1 x5_1).f2, (ak_ x0_1 x5_1).f3⟩ : S78) (by omega); clear hp_ hw HO_0 HB HK; have HO_0 := Aside0.mk hS2; have HB := Aside0.mk hB2; have HK := Aside0.mk hK2; clear hS2 hB2 hK2; obtain ⟨vI, A3, c3_, ev3, hx0, hx1, hx2, hx3, hf0, hf1, hf2, hlend⟩ := aw_.cells HO_0.out x5_1 c5 c3; subst ev3) | ((with_reducible refine cK_ (t := 2) (p := 23) rfl ?_); refine cC_ (t := 2) (p := 23) (v := ?vo_2) (w1 := (ws0.setCell ⟨go6, (x5_1 : Int).toNat * 4 + 1, none⟩ (.int .i64 (wrap64 (x1_1 + 1))))) ?hg ?ho ?hn ?hr ?_; (case ho => rfl); (case hg => rfl); (case hn => rfl); (case hr => (go_simp; try rfl)); intro ws1 hw; have hp_ := (aw_.put HO_0.out x5_1 c5 c3).2.1 (wrap64 (x1_1 + 1)); rw [← hw] at hp_; clear hx0 hx1 hx2 hx3 hf0 hf1 hf2 hlend; have hB2 : Below w0.heap.size w0 ws1 := (by rw [hw]; exact ac_ HB.out GB6.out); have hK2 : Kept w ws1 (fun k_ => P0_ k_) := Kept.of_grown (S := (fun k_ => P0_ k_)) hp_.2 HK.out (fun k_ e_ => by injection e_ with e_; subst e_; exact .inl GP6.out); have hS2 := hp_.1; rw [hR, List.set_set] at hS2; clear hR; have hR := aw_.rd_set x0_1 x5_1 (⟨x1_1, wrap64 (x1_1 + 1), (ak_ x0_1 x5_1).f2, (ak_ x0_1 x5_1).f3⟩ : S78) (by omega); clear hp_ hw HO_0 HB HK; have HO_0 := Aside0.mk hS2; have HB := Aside0.mk hB2; have HK := Aside0.mk hK2; clear hS2 hB2 hK2; obtain ⟨vI, A3, c3_, ev3, hx0, hx1, hx2, hx3, hf0, hf1, hf2, hlend⟩ := aw_.cells HO_0.out x5_1 c5 c3; subst ev3) | ((with_reducible refine am_ (f := 43) rfl ?_); refine aX_ (some 29) rfl rfl Try.func43 (by kernel_rfl) rfl #[.int .i64 (wrap64 (wrap64 (x1_1 + 1) + 1))] rfl (by first | rfl | (simp only [List.map_toArray, List.map_cons, List.map_nil]; first | done | rfl)) ?_; (with_reducible refine (bk_.calls k1 (wrap64 (wrap64 (x1_1 + 1) + 1)) t2 _ A4_2.out).mono ?_); rintro e wt2 ⟨rfl, hb⟩; refine ⟨_, rfl, ?_⟩; clear hx0 hx1 hx2 hx3 hf0 hf1 hf2 hlend; replace HO_0 := Aside0.mk (Kd.ct_ (sz HO_0.out) hb); replace HK := Aside0.mk (Kept.below (S := (fun k_ => P0_ k_)) (hz HK.out) hb); replace HB := Aside0.mk (ag_ (bz HB.out) hb); (try clear hb); obtain ⟨vI, A3, c3_, ev3, hx0, hx1, hx2, hx3, hf0, hf1, hf2, hlend⟩ := aw_.cells HO_0.out x5_1 c5 c3; subst ev3) | ((with_reducible refine cK_ (t := 9) (p := 31) rfl ?_); refine cC_ (t := 9) (p := 31) (v := ?vo_3) (w1 := (wt2.setCell ⟨go6, (x5_1 : Int).toNat * 4 + 2, none⟩ (.string t2))) ?hg ?ho ?hn ?hr ?_; (case ho => rfl); (case hg => rfl); (case hn => rfl); (case hr => (go_simp; try rfl)); intro ws2 hw; have hp_ := (aw_.put HO_0.out x5_1 c5 c3).2.2.1 t2; rw [← hw] at hp_; clear hx0 hx1 hx2 hx3 hf0 hf1 hf2 hlend; have hB2 : Below w0.heap.size w0 ws2 := (by rw [hw]; exact ac_ HB.out GB6.out); have hK2 : Kept w ws2 (fun k_ => P0_ k_) := Kept.of_grown (S := (fun k_ => P0_ k_)) hp_.2 HK.out (fun k_ e_ => by injection e_ with e_; subst e_; exact .inl GP6.out); have hS2 := hp_.1; rw [hR, List.set_set] at hS2; clear hR; have hR := aw_.rd_set x0_1 x5_1 (⟨x1_1, wrap64 (x1_1 + 1), t2, (ak_ x0_1 x5_1).f3⟩ : S78) (by omega); clear hp_ hw HO_0 HB HK; have HO_0 := Aside0.mk hS2; have HB := Aside0.mk hB2; have HK := Aside0.mk hK2; clear hS2 hB2 hK2; obtain ⟨vI, A3, c3_, ev3, hx0, hx1, hx2, hx3, hf0, hf1, hf2, hlend⟩ := aw_.cells HO_0.out x5_1 c5 c3; rw [hR] at hlend ev3; subst ev3) | ((with_reducible refine am_ (f := 13) rfl ?_); refine aX_ (some 40) rfl rfl Try.func13 (by kernel_rfl) rfl #[.slice A3 (ak_ x0_1 x5_1).f3.length c3_, .int .i64 (wrap64 (wrap64 (wrap64 (x1_1 + 1) + 1) + 1))] rfl (by first | rfl | (simp only [List.map_toArray, List.map_cons, List.map_nil]; first | done | rfl)) ?_; obtain ⟨oki, hoki, hv, hback⟩ := hlend; (with_reducible refine (bw_.calls k1 (fun k_ => some k_ = (.slice A3 (ak_ x0_1 x5_1).f3.length c3_ : Value).ownBlock) (.slice A3 (ak_ x0_1 x5_1).f3.length c3_) (ak_ x0_1 x5_1).f3 (wrap64 (wrap64 (wrap64 (x1_1 + 1) + 1) + 1)) m1 ys w0 _ ?zide1 ?zide2 A5.out).mono ?_); (case zide1 => exact bz HB.out); (case zide2 => exact Kd.R_tight rfl hv); rintro e we ⟨rfl, hy0, hb, hkp⟩; refine ⟨_, rfl, ?_⟩; have hk2 := hkp.mono (S' := oki) (fun k hk => hv.1 k hk.symm); have hS2 := hback we ys hk2 (Kd.R_reok rfl hy0 (fun k hk => hv.1 k hk)); rw [List.set_set, ← N2.out] at hS2; have hK2 : Kept w we (fun k_ => P0_ k_) := Kept.then_ HK.out hk2 (fun k hk => .inl (hoki k hk)); clear HO_0 HK HB hback hkp hy0 hk2 hv hoki; have HO_0 := Aside0.mk hS2; have HK := Aside0.mk hK2; have HB := Aside0.mk hb; clear hS2 hK2 hb))
   go_roundg k1
   case measure => have := HK1.out; omega
   case rel => exact ⟨x2, m1, (wrap64 (x5_1 + 1)), (by first | rfl | (simp; done) | (simp [*]; done)), (by first | rfl | (simp; done) | (simp [*]; done)), H', ⟨by have := HK1.out; omega⟩, ⟨sz HO_0.out⟩, ⟨hz HK.out⟩, ⟨bz HB.out⟩⟩
def aJ_.l0 : Nat → List (S63) → Int → Int → Option (Int)
 | 0, _, _, _ => none
 | k + 1, x0, x1, x5 => if x5 < (x0.length : Int) then (if 0 ≤ x5 then ((bk_.f k x1).bind fun t102 => (if ((af_ x0 x5).f0).toList = t102.toList then ((bk_.f k (wrap64 (x1 + 1))).bind fun t104 => (if ((af_ x0 x5).f1.f0).toList = t104.toList then (if ((af_ x0 x5).f1.f1) = (wrap64 ((wrap64 (x1 + 1)) + 1)) then (if ((af_ x0 x5).f1.f2) = (wrap64 ((wrap64 ((wrap64 (x1 + 1)) + 1)) + 1)) then (aJ_.l0 k x0 (wrap64 ((wrap64 ((wrap64 ((wrap64 (x1 + 1)) + 1)) + 1)) + 1)) (wrap64 (x5 + 1))) else (some (-1))) else (some (-1))) else (some (-1)))) else (some (-1)))) else (none)) else (some x1)
def aJ_.f (k : Nat) (l0 : List (S63)) (a1 : Int) : Option (Int) := aJ_.l0 k l0 a1 0
def aJ_.T4 : Bool × List (List Nat × List Nat) := (true, [([], []), ([], []), ([0, 1], [0, 1]), ([2], [2]), ([3], [3]), ([], []), ([5], [5]), ([4, 6], [4, 6])])
def aJ_.B4 : List Nat := [0, 0, 3, 7, 15, 0, 32, 127]
theorem aJ_.tab4 : rtab .any (opsOf Try.f18 4) = aJ_.T4 := by kernel_rfl
theorem aJ_.bits4 : dy_ aJ_.T4.2 aJ_.B4 = true := by kernel_rfl
def aJ_.T7 : Bool × List (List Nat × List Nat) := (true, [([], []), ([], []), ([0, 1], [0, 1]), ([2], [2]), ([3], [3]), ([4], [4]), ([], []), ([6], [6]), ([5, 7], [5, 7])])
def aJ_.B7 : List Nat := [0, 0, 3, 7, 15, 31, 0, 64, 255]
theorem aJ_.tab7 : rtab .any (opsOf Try.f18 7) = aJ_.T7 := by kernel_rfl
theorem aJ_.bits7 : dy_ aJ_.T7.2 aJ_.B7 = true := by kernel_rfl
set_option maxHeartbeats 8000000 in
set_option maxRecDepth 100000 in
theorem aJ_.calls (k : Nat) (A0 : Option Addr) (c0 : Nat) (l0 : List (S63)) (a1 : Int) (r : Int) (w : World) (hr0 : Kd.C k63 w A0 l0.length l0) (hc0 : l0.length ≤ c0) (h : aJ_.f k l0 a1 = some r) :
  Calls Try.prog 18 #[.slice A0 l0.length c0, .int .i64 a1] w fun e w' => e = .returned (.int .i64 r) ∧ Below w.heap.size w w' := by
 have HR0 := Aside0.mk hr0
 have HC0 := Aside0.mk hc0
 clear hr0 hc0
 have HB := Aside0.mk (Below.refl w.heap.size w)
 have H : (aJ_.l0 k l0 a1 0) = some r := h
 clear h
 have H' := Aside0.mk H
 clear H
 go_enter Try.func18, Try.ntmps18
 go_wp2
 (try simp only [Act.put, lsa_, ls0_, ls1_])
 go_loopg [1, 5] k (fun kq v1 v5 w' => ∃ (x1_1 : Int) (x5_1 : Int), v1 = .int .i64 x1_1 ∧ v5 = .int .i64 x5_1 ∧ Aside0 (aJ_.l0 kq l0 x1_1 x5_1 = some r) ∧ Aside0 (kq ≤ k) ∧ Aside0 (Below w.heap.size w w'))
 case atStart => exact ⟨(a1), (0), (by first | rfl | (simp; done) | (simp [*]; done)), (by first | rfl | (simp; done) | (simp [*]; done)), H', ⟨Nat.le_refl _⟩, ⟨bz HB.out⟩⟩
 case round =>
  clear H'
  obtain ⟨x1_1, x5_1, rfl, rfl, HA, HK1, HB⟩ := hrel
  cases gk with
  | zero => exact absurd HA.out (by simp [aJ_.l0])
  | succ k1 =>
   have H := HA.out
   clear HA
   simp only [aJ_.l0] at H
   by_cases c3 : x5_1 < (l0.length : Int)
   rotate_left
   ·rw [if_neg c3] at H
    have c3b0 : decide (x5_1 < (l0.length : Int)) = false := decide_eq_false c3
    clear c3
    obtain rfl := Option.some.inj H
    go_wp2
    go_ret
    exact ⟨by first | rfl | (simp [*, an_, ao_] <;> rfl), bz HB.out⟩
   rw [if_pos c3] at H
   have c3b0 : decide (x5_1 < (l0.length : Int)) = true := decide_eq_true c3
   clear c3
   by_cases c4 : 0 ≤ x5_1
   rotate_left
   ·rw [if_neg c4] at H
    exact absurd H (by simp)
   rw [if_pos c4] at H
   have c4b0 : decide (0 ≤ x5_1) = true := decide_eq_true c4
   clear c4
   replace H := Option.bind_eq_some_iff.mp H
   obtain ⟨t102, A50, H⟩ := H
   (try dsimp only at H)
   have A5 := Aside0.mk A50
   clear A50
   have HC6 := Aside0.mk H
   clear H
   try go_wp2
   have n0_ := Aside0.mk (bD_ HB.out)
   clear HB
   have HB := n0_
   clear n0_
   have p101 : 0 ≤ (x5_1 : Int) := of_decide_eq_true (by assumption)
   have q101 : x5_1 < (l0.length : Int) := of_decide_eq_true (by assumption)
   obtain ⟨ad101, e101, hx101_0, hx101_1, hx101_2, hx101_3⟩ := cm_ HR0.out x5_1 p101 q101
   have hw101_3 := hx101_3
   have hw101_2 := hx101_2
   have hw101_1 := hx101_1
   have hw101_0 := hx101_0
   cases e101
   replace hx101_0 := (HB.out.cell (bl_ w _ hx101_0)).trans hx101_0
   replace hx101_1 := (HB.out.cell (bl_ w _ hx101_1)).trans hx101_1
   replace hx101_2 := (HB.out.cell (bl_ w _ hx101_2)).trans hx101_2
   replace hx101_3 := (HB.out.cell (bl_ w _ hx101_3)).trans hx101_3
   replace p101 := eq_true p101
   replace q101 := eq_true q101
   refine start_ (n := 8) (S := fun w' => w'.cell? (ad101.add ((x5_1).toNat * 4)) = some (.string ((af_ l0 x5_1).f0)) ∧ w'.cell? ⟨(ad101.add ((x5_1).toNat * 4)).block, (ad101.add ((x5_1).toNat * 4)).off + 1, none⟩ = some (.string ((af_ l0 x5_1).f1.f0)) ∧ w'.cell? ⟨(ad101.add ((x5_1).toNat * 4)).block, (ad101.add ((x5_1).toNat * 4)).off + 2, none⟩ = some (.int .i64 ((af_ l0 x5_1).f1.f1)) ∧ w'.cell? ⟨(ad101.add ((x5_1).toNat * 4)).block, (ad101.add ((x5_1).toNat * 4)).off + 3, none⟩ = some (.int .i64 ((af_ l0 x5_1).f1.f2))) (ds := []) #[f_,f_,f_,f_,f_,f_,f_,f_] (by kernel_rfl) rfl rfl ⟨((HB.out.cell (bl_ w _ hw101_0)).trans hw101_0), ((HB.out.cell (bl_ w _ hw101_1)).trans hw101_1), ((HB.out.cell (bl_ w _ hw101_2)).trans hw101_2), ((HB.out.cell (bl_ w _ hw101_3)).trans hw101_3)⟩ (fun hHeld => ?_); refine cS_ aJ_.tab4 aJ_.bits4 (fun HT_ HW_ => ?_)
   generalize wr.drew = w7 at HB hx101_0 hx101_1 hx101_2 hx101_3 hHeld ⊢
   refine pure_ (i := 0) (N := some 12) (v := ?_) (a' := ?_) #[t_,f_,f_,f_,f_,f_,f_,f_] rfl rfl (aF_ HT_.out (by kernel_rfl)) (fun _ _ _ h => h) (Or.inl ⟨by rfl, ?_⟩) ?_ ?_
   rotate_left
   ·intro w'
    go_simp
    with_reducible rfl
   rotate_left
   ·simp only [Act.put, lsa_, ls0_, ls1_, i64_w, i32_w]
    rfl
   refine pure_ (i := 1) (N := some 13) (v := ?_) (a' := ?_) #[t_,t_,f_,f_,f_,f_,f_,f_] rfl rfl (aF_ HT_.out (by kernel_rfl)) (fun _ _ _ h => h) (Or.inl ⟨by rfl, ?_⟩) ?_ ?_
   rotate_left
   ·intro w'
    go_simp
    with_reducible rfl
   rotate_left
   ·simp only [Act.put, lsa_, ls0_, ls1_, i64_w, i32_w]
    rfl
   refine pure_ (i := 2) (N := some 14) (v := ?_) (a' := ?_) #[t_,t_,t_,f_,f_,f_,f_,f_] rfl rfl (aF_ HT_.out (by kernel_rfl)) (fun _ _ _ h => h) (Or.inl ⟨by rfl, ?_⟩) ?_ ?_
   rotate_left
   ·intro w'
    go_simp
    with_reducible rfl
   rotate_left
   ·simp only [Act.put, lsa_, ls0_, ls1_, i64_w, i32_w]
    rfl
   refine pure_ (i := 3) (N := some 15) (v := ?_) (a' := ?_) #[t_,t_,t_,t_,f_,f_,f_,f_] rfl rfl (aF_ HT_.out (by kernel_rfl)) (fun _ _ _ h => h) (Or.inl ⟨by rfl, ?_⟩) ?_ ?_
   rotate_left
   ·intro w'
    go_simp
    with_reducible rfl
   rotate_left
   ·simp only [Act.put, lsa_, ls0_, ls1_, i64_w, i32_w]
    rfl
   refine pure_ (i := 5) (N := some 17) (v := ?_) (a' := ?_) #[t_,t_,t_,t_,f_,t_,f_,f_] rfl rfl (aF_ HT_.out (by kernel_rfl)) (fun _ _ _ h => h) (Or.inl ⟨by rfl, ?_⟩) ?_ ?_
   rotate_left
   ·intro w'
    go_simp
    with_reducible rfl
   rotate_left
   ·simp only [Act.put, lsa_, ls0_, ls1_, i64_w, i32_w]
    rfl
   refine take_ (i := 4) (N := some 16) (v := ?_) (a' := ?_) #[t_,t_,t_,t_,t_,t_,f_,f_] rfl rfl (cJ_ HT_.out HW_.out (by kernel_rfl)) (fun _ _ _ h => h) (Or.inl ⟨by rfl, ?_⟩) hHeld ?_ ?_
   rotate_left
   ·rintro w' ⟨s0, s1, s2, s3⟩
    go_simp
    with_reducible rfl
   rotate_left
   ·simp only [Act.put, lsa_, ls0_, ls1_, i64_w, i32_w]
    rfl
   refine one_ (i := 6) (N := some 18) #[t_,t_,t_,t_,t_,t_,t_,f_] rfl rfl (dD_ HT_.out (by kernel_rfl)) (by decide) (fun K hK => ?_)
   (first | refine goes_ Try.func43 (by kernel_rfl) rfl #[.int .i64 x1_1] (by rfl) rfl rfl (by first | rfl | (simp only [List.map_toArray, List.map_cons, List.map_nil]; first | done | rfl)) ?_ | refine RPW.goesV_ Try.func43 (by kernel_rfl) rfl #[.int .i64 x1_1] (by rfl) rfl rfl rfl (by first | rfl | (simp only [List.map_toArray, List.map_cons, List.map_nil]; first | done | rfl)) ?_ | refine RPW.goesC_ Try.func43 (by kernel_rfl) rfl #[.int .i64 x1_1] (by rfl) rfl rfl rfl (by first | rfl | (simp only [List.map_toArray, List.map_cons, List.map_nil]; first | done | rfl)) ?_)
   with_reducible refine (bk_.calls k1 x1_1 t102 _ A5.out).mono ?_
   rintro e w8 ⟨rfl, hb⟩
   refine ⟨_, rfl, ?_⟩
   have n0_ := Aside0.mk (ag_ (bz HB.out) hb)
   clear HB
   have HB := n0_
   clear n0_
   (try clear hb)
   refine hK.out _ _ ⟨((HB.out.cell (bl_ w _ hw101_0)).trans hw101_0), ((HB.out.cell (bl_ w _ hw101_1)).trans hw101_1), ((HB.out.cell (bl_ w _ hw101_2)).trans hw101_2), ((HB.out.cell (bl_ w _ hw101_3)).trans hw101_3)⟩ (fun hHeld => ?_)
   clear hK K
   refine norm_ (a' := ?_) ?_ ?_
   rotate_left
   ·show Act.put _ (some 18) _ = _
    simp only [Act.put, lsa_, ls0_, ls1_, i64_w, i32_w]
    rfl
   refine pure_ (i := 7) (N := some 19) (v := ?_) (a' := ?_) #[t_,t_,t_,t_,t_,t_,t_,t_] rfl rfl (aF_ HT_.out (by kernel_rfl)) (fun _ _ _ h => h) (Or.inl ⟨by rfl, ?_⟩) ?_ ?_
   rotate_left
   ·intro w'
    go_simp
    with_reducible rfl
   rotate_left
   ·simp only [Act.put, lsa_, ls0_, ls1_, i64_w, i32_w]
    rfl
   refine done_ (dA_ HT_.out (by kernel_rfl)) ?_
   go_upto_if 19 with (fail)
   have H := HC6.out
   clear HC6
   by_cases c9 : ((af_ l0 x5_1).f0).toList = t102.toList
   rotate_left
   ·rw [if_neg c9] at H
    have c9b0 : (((af_ l0 x5_1).f0).toList == t102.toList) = false := beq_eq_false_iff_ne.mpr c9
    have c9b1 : (((af_ l0 x5_1).f0).toList != t102.toList) = true := bne_iff_ne.mpr c9
    (first | rw [c9b0] | (simp only [i64_w, i32_w]; rw [c9b0]) | (simp only [c9b1, Bool.not_true, Bool.not_false]) | (simp only [c9b0, Bool.not_true, Bool.not_false]) | skip)
    obtain rfl := Option.some.inj H
    go_wp2
    go_ret
    exact ⟨by first | rfl | (simp [*, an_, ao_] <;> rfl), bz HB.out⟩
   rw [if_pos c9] at H
   have c9b0 : (((af_ l0 x5_1).f0).toList == t102.toList) = true := beq_iff_eq.mpr c9
   have c9b1 : (((af_ l0 x5_1).f0).toList != t102.toList) = false := bne_eq_false_iff_eq.mpr c9
   clear c9
   (first | rw [c9b0] | (simp only [i64_w, i32_w]; rw [c9b0]) | (simp only [c9b1, Bool.not_true, Bool.not_false]) | (simp only [c9b0, Bool.not_true, Bool.not_false]) | skip)
   replace H := Option.bind_eq_some_iff.mp H
   obtain ⟨t104, A100, H⟩ := H
   (try dsimp only at H)
   have A10 := Aside0.mk A100
   clear A100
   have HC11 := Aside0.mk H
   clear H
   try go_wp2
   (try (rw [cV_ w8]; generalize hq_ : World.drewN w8 _ = w8; have n0_ : Aside0 (Below w.heap.size w w8) := ⟨by rw [← hq_]; exact (bz HB.out)⟩; clear HB hq_; have HB := n0_; clear n0_))
   have n0_ := Aside0.mk (bD_ HB.out)
   clear HB
   have HB := n0_
   clear n0_
   have p103 : 0 ≤ (x5_1 : Int) := of_decide_eq_true (by assumption)
   have q103 : x5_1 < (l0.length : Int) := of_decide_eq_true (by assumption)
   obtain ⟨ad103, e103, hx103_0, hx103_1, hx103_2, hx103_3⟩ := cm_ HR0.out x5_1 p103 q103
   have hw103_3 := hx103_3
   have hw103_2 := hx103_2
   have hw103_1 := hx103_1
   have hw103_0 := hx103_0
   obtain rfl : ad101 = ad103 := (by injection e103)
   replace hx103_0 := (HB.out.cell (bl_ w _ hx103_0)).trans hx103_0
   replace hx103_1 := (HB.out.cell (bl_ w _ hx103_1)).trans hx103_1
   replace hx103_2 := (HB.out.cell (bl_ w _ hx103_2)).trans hx103_2
   replace hx103_3 := (HB.out.cell (bl_ w _ hx103_3)).trans hx103_3
   replace p103 := eq_true p103
   replace q103 := eq_true q103
   refine start_ (n := 9) (S := fun w' => w'.cell? (ad101.add ((x5_1).toNat * 4)) = some (.string ((af_ l0 x5_1).f0)) ∧ w'.cell? ⟨(ad101.add ((x5_1).toNat * 4)).block, (ad101.add ((x5_1).toNat * 4)).off + 1, none⟩ = some (.string ((af_ l0 x5_1).f1.f0)) ∧ w'.cell? ⟨(ad101.add ((x5_1).toNat * 4)).block, (ad101.add ((x5_1).toNat * 4)).off + 2, none⟩ = some (.int .i64 ((af_ l0 x5_1).f1.f1)) ∧ w'.cell? ⟨(ad101.add ((x5_1).toNat * 4)).block, (ad101.add ((x5_1).toNat * 4)).off + 3, none⟩ = some (.int .i64 ((af_ l0 x5_1).f1.f2))) (ds := []) #[f_,f_,f_,f_,f_,f_,f_,f_,f_] (by kernel_rfl) rfl rfl ⟨((HB.out.cell (bl_ w _ hw103_0)).trans hw103_0), ((HB.out.cell (bl_ w _ hw103_1)).trans hw103_1), ((HB.out.cell (bl_ w _ hw103_2)).trans hw103_2), ((HB.out.cell (bl_ w _ hw103_3)).trans hw103_3)⟩ (fun hHeld => ?_); refine cS_ aJ_.tab7 aJ_.bits7 (fun HT_ HW_ => ?_)
   generalize w8.drew = w12 at HB hx103_0 hx103_1 hx103_2 hx103_3 hHeld ⊢
   refine pure_ (i := 0) (N := some 22) (v := ?_) (a' := ?_) #[t_,f_,f_,f_,f_,f_,f_,f_,f_] rfl rfl (aF_ HT_.out (by kernel_rfl)) (fun _ _ _ h => h) (Or.inl ⟨by rfl, ?_⟩) ?_ ?_
   rotate_left
   ·intro w'
    go_simp
    with_reducible rfl
   rotate_left
   ·simp only [Act.put, lsa_, ls0_, ls1_, i64_w, i32_w]
    rfl
   refine pure_ (i := 1) (N := some 23) (v := ?_) (a' := ?_) #[t_,t_,f_,f_,f_,f_,f_,f_,f_] rfl rfl (aF_ HT_.out (by kernel_rfl)) (fun _ _ _ h => h) (Or.inl ⟨by rfl, ?_⟩) ?_ ?_
   rotate_left
   ·intro w'
    go_simp
    with_reducible rfl
   rotate_left
   ·simp only [Act.put, lsa_, ls0_, ls1_, i64_w, i32_w]
    rfl
   refine pure_ (i := 2) (N := some 24) (v := ?_) (a' := ?_) #[t_,t_,t_,f_,f_,f_,f_,f_,f_] rfl rfl (aF_ HT_.out (by kernel_rfl)) (fun _ _ _ h => h) (Or.inl ⟨by rfl, ?_⟩) ?_ ?_
   rotate_left
   ·intro w'
    go_simp
    with_reducible rfl
   rotate_left
   ·simp only [Act.put, lsa_, ls0_, ls1_, i64_w, i32_w]
    rfl
   refine pure_ (i := 3) (N := some 25) (v := ?_) (a' := ?_) #[t_,t_,t_,t_,f_,f_,f_,f_,f_] rfl rfl (aF_ HT_.out (by kernel_rfl)) (fun _ _ _ h => h) (Or.inl ⟨by rfl, ?_⟩) ?_ ?_
   rotate_left
   ·intro w'
    go_simp
    with_reducible rfl
   rotate_left
   ·simp only [Act.put, lsa_, ls0_, ls1_, i64_w, i32_w]
    rfl
   refine pure_ (i := 4) (N := some 26) (v := ?_) (a' := ?_) #[t_,t_,t_,t_,t_,f_,f_,f_,f_] rfl rfl (aF_ HT_.out (by kernel_rfl)) (fun _ _ _ h => h) (Or.inl ⟨by rfl, ?_⟩) ?_ ?_
   rotate_left
   ·intro w'
    go_simp
    with_reducible rfl
   rotate_left
   ·simp only [Act.put, lsa_, ls0_, ls1_, i64_w, i32_w]
    rfl
   refine pure_ (i := 6) (N := some 28) (v := ?_) (a' := ?_) #[t_,t_,t_,t_,t_,f_,t_,f_,f_] rfl rfl (aF_ HT_.out (by kernel_rfl)) (fun _ _ _ h => h) (Or.inl ⟨by rfl, ?_⟩) ?_ ?_
   rotate_left
   ·intro w'
    go_simp
    with_reducible rfl
   rotate_left
   ·simp only [Act.put, lsa_, ls0_, ls1_, i64_w, i32_w]
    rfl
   refine take_ (i := 5) (N := some 27) (v := ?_) (a' := ?_) #[t_,t_,t_,t_,t_,t_,t_,f_,f_] rfl rfl (cJ_ HT_.out HW_.out (by kernel_rfl)) (fun _ _ _ h => h) (Or.inl ⟨by rfl, ?_⟩) hHeld ?_ ?_
   rotate_left
   ·rintro w' ⟨s0, s1, s2, s3⟩
    go_simp
    with_reducible rfl
   rotate_left
   ·simp only [Act.put, lsa_, ls0_, ls1_, i64_w, i32_w]
    rfl
   refine one_ (i := 7) (N := some 29) #[t_,t_,t_,t_,t_,t_,t_,t_,f_] rfl rfl (dD_ HT_.out (by kernel_rfl)) (by decide) (fun K hK => ?_)
   (first | refine goes_ Try.func43 (by kernel_rfl) rfl #[.int .i64 (wrap64 (x1_1 + 1))] (by rfl) rfl rfl (by first | rfl | (simp only [List.map_toArray, List.map_cons, List.map_nil]; first | done | rfl)) ?_ | refine RPW.goesV_ Try.func43 (by kernel_rfl) rfl #[.int .i64 (wrap64 (x1_1 + 1))] (by rfl) rfl rfl rfl (by first | rfl | (simp only [List.map_toArray, List.map_cons, List.map_nil]; first | done | rfl)) ?_ | refine RPW.goesC_ Try.func43 (by kernel_rfl) rfl #[.int .i64 (wrap64 (x1_1 + 1))] (by rfl) rfl rfl rfl (by first | rfl | (simp only [List.map_toArray, List.map_cons, List.map_nil]; first | done | rfl)) ?_)
   with_reducible refine (bk_.calls k1 (wrap64 (x1_1 + 1)) t104 _ A10.out).mono ?_
   rintro e w13 ⟨rfl, hb⟩
   refine ⟨_, rfl, ?_⟩
   have n0_ := Aside0.mk (ag_ (bz HB.out) hb)
   clear HB
   have HB := n0_
   clear n0_
   (try clear hb)
   refine hK.out _ _ ⟨((HB.out.cell (bl_ w _ hw103_0)).trans hw103_0), ((HB.out.cell (bl_ w _ hw103_1)).trans hw103_1), ((HB.out.cell (bl_ w _ hw103_2)).trans hw103_2), ((HB.out.cell (bl_ w _ hw103_3)).trans hw103_3)⟩ (fun hHeld => ?_)
   clear hK K
   refine norm_ (a' := ?_) ?_ ?_
   rotate_left
   ·show Act.put _ (some 29) _ = _
    simp only [Act.put, lsa_, ls0_, ls1_, i64_w, i32_w]
    rfl
   refine pure_ (i := 8) (N := some 30) (v := ?_) (a' := ?_) #[t_,t_,t_,t_,t_,t_,t_,t_,t_] rfl rfl (aF_ HT_.out (by kernel_rfl)) (fun _ _ _ h => h) (Or.inl ⟨by rfl, ?_⟩) ?_ ?_
   rotate_left
   ·intro w'
    go_simp
    with_reducible rfl
   rotate_left
   ·simp only [Act.put, lsa_, ls0_, ls1_, i64_w, i32_w]
    rfl
   refine done_ (dA_ HT_.out (by kernel_rfl)) ?_
   go_upto_if 30 with (fail)
   have H := HC11.out
   clear HC11
   by_cases c14 : ((af_ l0 x5_1).f1.f0).toList = t104.toList
   rotate_left
   ·rw [if_neg c14] at H
    have c14b0 : (((af_ l0 x5_1).f1.f0).toList == t104.toList) = false := beq_eq_false_iff_ne.mpr c14
    have c14b1 : (((af_ l0 x5_1).f1.f0).toList != t104.toList) = true := bne_iff_ne.mpr c14
    (first | rw [c14b0] | (simp only [i64_w, i32_w]; rw [c14b0]) | (simp only [c14b1, Bool.not_true, Bool.not_false]) | (simp only [c14b0, Bool.not_true, Bool.not_false]) | skip)
    obtain rfl := Option.some.inj H
    go_wp2
    go_ret
    exact ⟨by first | rfl | (simp [*, an_, ao_] <;> rfl), bz HB.out⟩
   rw [if_pos c14] at H
   have c14b0 : (((af_ l0 x5_1).f1.f0).toList == t104.toList) = true := beq_iff_eq.mpr c14
   have c14b1 : (((af_ l0 x5_1).f1.f0).toList != t104.toList) = false := bne_eq_false_iff_eq.mpr c14
   clear c14
   (first | rw [c14b0] | (simp only [i64_w, i32_w]; rw [c14b0]) | (simp only [c14b1, Bool.not_true, Bool.not_false]) | (simp only [c14b0, Bool.not_true, Bool.not_false]) | skip)
   by_cases c15 : ((af_ l0 x5_1).f1.f1) = (wrap64 ((wrap64 (x1_1 + 1)) + 1))
   rotate_left
   ·rw [if_neg c15] at H
    have c15b0 : (((af_ l0 x5_1).f1.f1) == (wrap64 ((wrap64 (x1_1 + 1)) + 1))) = false := beq_eq_false_iff_ne.mpr c15
    have c15b1 : (((af_ l0 x5_1).f1.f1) != (wrap64 ((wrap64 (x1_1 + 1)) + 1))) = true := bne_iff_ne.mpr c15
    obtain rfl := Option.some.inj H
    have p105 : 0 ≤ (x5_1 : Int) := of_decide_eq_true (by assumption)
    have q105 : x5_1 < (l0.length : Int) := of_decide_eq_true (by assumption)
    obtain ⟨ad105, e105, hx105_0, hx105_1, hx105_2, hx105_3⟩ := cm_ HR0.out x5_1 p105 q105
    obtain rfl : ad101 = ad105 := (by injection e105)
    replace hx105_0 := (HB.out.cell (bl_ w _ hx105_0)).trans hx105_0
    replace hx105_1 := (HB.out.cell (bl_ w _ hx105_1)).trans hx105_1
    replace hx105_2 := (HB.out.cell (bl_ w _ hx105_2)).trans hx105_2
    replace hx105_3 := (HB.out.cell (bl_ w _ hx105_3)).trans hx105_3
    replace p105 := eq_true p105
    replace q105 := eq_true q105
    go_wp2
    go_ret
    exact ⟨by first | rfl | (simp [*, an_, ao_] <;> rfl), bz HB.out⟩
   rw [if_pos c15] at H
   have c15b0 : (((af_ l0 x5_1).f1.f1) == (wrap64 ((wrap64 (x1_1 + 1)) + 1))) = true := beq_iff_eq.mpr c15
   have c15b1 : (((af_ l0 x5_1).f1.f1) != (wrap64 ((wrap64 (x1_1 + 1)) + 1))) = false := bne_eq_false_iff_eq.mpr c15
   clear c15
   by_cases c16 : ((af_ l0 x5_1).f1.f2) = (wrap64 ((wrap64 ((wrap64 (x1_1 + 1)) + 1)) + 1))
   rotate_left
   ·rw [if_neg c16] at H
    have c16b0 : (((af_ l0 x5_1).f1.f2) == (wrap64 ((wrap64 ((wrap64 (x1_1 + 1)) + 1)) + 1))) = false := beq_eq_false_iff_ne.mpr c16
    have c16b1 : (((af_ l0 x5_1).f1.f2) != (wrap64 ((wrap64 ((wrap64 (x1_1 + 1)) + 1)) + 1))) = true := bne_iff_ne.mpr c16
    obtain rfl := Option.some.inj H
    have p105 : 0 ≤ (x5_1 : Int) := of_decide_eq_true (by assumption)
    have q105 : x5_1 < (l0.length : Int) := of_decide_eq_true (by assumption)
    obtain ⟨ad105, e105, hx105_0, hx105_1, hx105_2, hx105_3⟩ := cm_ HR0.out x5_1 p105 q105
    obtain rfl : ad101 = ad105 := (by injection e105)
    replace hx105_0 := (HB.out.cell (bl_ w _ hx105_0)).trans hx105_0
    replace hx105_1 := (HB.out.cell (bl_ w _ hx105_1)).trans hx105_1
    replace hx105_2 := (HB.out.cell (bl_ w _ hx105_2)).trans hx105_2
    replace hx105_3 := (HB.out.cell (bl_ w _ hx105_3)).trans hx105_3
    replace p105 := eq_true p105
    replace q105 := eq_true q105
    have p106 : 0 ≤ (x5_1 : Int) := of_decide_eq_true (by assumption)
    have q106 : x5_1 < (l0.length : Int) := of_decide_eq_true (by assumption)
    obtain ⟨ad106, e106, hx106_0, hx106_1, hx106_2, hx106_3⟩ := cm_ HR0.out x5_1 p106 q106
    obtain rfl : ad101 = ad106 := (by injection e106)
    replace hx106_0 := (HB.out.cell (bl_ w _ hx106_0)).trans hx106_0
    replace hx106_1 := (HB.out.cell (bl_ w _ hx106_1)).trans hx106_1
    replace hx106_2 := (HB.out.cell (bl_ w _ hx106_2)).trans hx106_2
    replace hx106_3 := (HB.out.cell (bl_ w _ hx106_3)).trans hx106_3
    replace p106 := eq_true p106
    replace q106 := eq_true q106
    go_wp2
    go_ret
    exact ⟨by first | rfl | (simp [*, an_, ao_] <;> rfl), bz HB.out⟩
   rw [if_pos c16] at H
   have c16b0 : (((af_ l0 x5_1).f1.f2) == (wrap64 ((wrap64 ((wrap64 (x1_1 + 1)) + 1)) + 1))) = true := beq_iff_eq.mpr c16
   have c16b1 : (((af_ l0 x5_1).f1.f2) != (wrap64 ((wrap64 ((wrap64 (x1_1 + 1)) + 1)) + 1))) = false := bne_eq_false_iff_eq.mpr c16
   clear c16
   have H' := Aside0.mk H
   clear H
   have p105 : 0 ≤ (x5_1 : Int) := of_decide_eq_true (by assumption)
   have q105 : x5_1 < (l0.length : Int) := of_decide_eq_true (by assumption)
   obtain ⟨ad105, e105, hx105_0, hx105_1, hx105_2, hx105_3⟩ := cm_ HR0.out x5_1 p105 q105
   obtain rfl : ad101 = ad105 := (by injection e105)
   replace hx105_0 := (HB.out.cell (bl_ w _ hx105_0)).trans hx105_0
   replace hx105_1 := (HB.out.cell (bl_ w _ hx105_1)).trans hx105_1
   replace hx105_2 := (HB.out.cell (bl_ w _ hx105_2)).trans hx105_2
   replace hx105_3 := (HB.out.cell (bl_ w _ hx105_3)).trans hx105_3
   replace p105 := eq_true p105
   replace q105 := eq_true q105
   have p106 : 0 ≤ (x5_1 : Int) := of_decide_eq_true (by assumption)
   have q106 : x5_1 < (l0.length : Int) := of_decide_eq_true (by assumption)
   obtain ⟨ad106, e106, hx106_0, hx106_1, hx106_2, hx106_3⟩ := cm_ HR0.out x5_1 p106 q106
   obtain rfl : ad101 = ad106 := (by injection e106)
   replace hx106_0 := (HB.out.cell (bl_ w _ hx106_0)).trans hx106_0
   replace hx106_1 := (HB.out.cell (bl_ w _ hx106_1)).trans hx106_1
   replace hx106_2 := (HB.out.cell (bl_ w _ hx106_2)).trans hx106_2
   replace hx106_3 := (HB.out.cell (bl_ w _ hx106_3)).trans hx106_3
   replace p106 := eq_true p106
   replace q106 := eq_true q106
   go_wp2
   go_roundg k1
   case measure => have := HK1.out; omega
   case rel => exact ⟨(wrap64 ((wrap64 ((wrap64 ((wrap64 (x1_1 + 1)) + 1)) + 1)) + 1)), (wrap64 (x5_1 + 1)), (by first | rfl | (simp; done) | (simp [*]; done)), (by first | rfl | (simp; done) | (simp [*]; done)), H', ⟨by have := HK1.out; omega⟩, ⟨bz HB.out⟩⟩
def aI_.l0 : Nat → List (S78) → Int → Int → Option (Int)
 | 0, _, _, _ => none
 | k + 1, x0, x1, x5 => if x5 < (x0.length : Int) then (if 0 ≤ x5 then (if ((ak_ x0 x5).f0) = x1 then (if ((ak_ x0 x5).f1) = (wrap64 (x1 + 1)) then ((bk_.f k (wrap64 ((wrap64 (x1 + 1)) + 1))).bind fun t104 => (if ((ak_ x0 x5).f2).toList = t104.toList then ((aJ_.f k ((ak_ x0 x5).f3) (wrap64 ((wrap64 ((wrap64 (x1 + 1)) + 1)) + 1))).bind fun t106 => (if t106 < 0 then (some (-1)) else (aI_.l0 k x0 t106 (wrap64 (x5 + 1))))) else (some (-1)))) else (some (-1))) else (some (-1))) else (none)) else (some x1)
def aI_.f (k : Nat) (l0 : List (S78)) (a1 : Int) : Option (Int) := aI_.l0 k l0 a1 0
def aI_.T10 : Bool × List (List Nat × List Nat) := (true, [([], []), ([], []), ([0, 1], [0, 1]), ([2], [2]), ([3], [3]), ([], []), ([5], [5]), ([4, 6], [4, 6])])
def aI_.B10 : List Nat := [0, 0, 3, 7, 15, 0, 32, 127]
theorem aI_.tab10 : rtab .any (opsOf Try.f25 10) = aI_.T10 := by kernel_rfl
theorem aI_.bits10 : dy_ aI_.T10.2 aI_.B10 = true := by kernel_rfl
set_option maxHeartbeats 8000000 in
set_option maxRecDepth 100000 in
theorem aI_.calls (k : Nat) (A0 : Option Addr) (c0 : Nat) (l0 : List (S78)) (a1 : Int) (r : Int) (w : World) (hr0 : Kd.C k78 w A0 l0.length l0) (hc0 : l0.length ≤ c0) (h : aI_.f k l0 a1 = some r) :
  Calls Try.prog 25 #[.slice A0 l0.length c0, .int .i64 a1] w fun e w' => e = .returned (.int .i64 r) ∧ Below w.heap.size w w' := by
 have HR0 := Aside0.mk hr0
 have HC0 := Aside0.mk hc0
 clear hr0 hc0
 have HB := Aside0.mk (Below.refl w.heap.size w)
 have H : (aI_.l0 k l0 a1 0) = some r := h
 clear h
 have H' := Aside0.mk H
 clear H
 go_enter Try.func25, Try.ntmps25
 go_wp2
 (try simp only [Act.put, lsa_, ls0_, ls1_])
 go_loopg [1, 5] k (fun kq v1 v5 w' => ∃ (x1_1 : Int) (x5_1 : Int), v1 = .int .i64 x1_1 ∧ v5 = .int .i64 x5_1 ∧ Aside0 (aI_.l0 kq l0 x1_1 x5_1 = some r) ∧ Aside0 (kq ≤ k) ∧ Aside0 (Below w.heap.size w w'))
 case atStart => exact ⟨(a1), (0), (by first | rfl | (simp; done) | (simp [*]; done)), (by first | rfl | (simp; done) | (simp [*]; done)), H', ⟨Nat.le_refl _⟩, ⟨bz HB.out⟩⟩
 case round =>
  clear H'
  obtain ⟨x1_1, x5_1, rfl, rfl, HA, HK1, HB⟩ := hrel
  cases gk with
  | zero => exact absurd HA.out (by simp [aI_.l0])
  | succ k1 =>
   have H := HA.out
   clear HA
   simp only [aI_.l0] at H
   by_cases c3 : x5_1 < (l0.length : Int)
   rotate_left
   ·rw [if_neg c3] at H
    have c3b0 : decide (x5_1 < (l0.length : Int)) = false := decide_eq_false c3
    clear c3
    obtain rfl := Option.some.inj H
    go_wp2
    go_ret
    exact ⟨by first | rfl | (simp [*, an_, ao_] <;> rfl), bz HB.out⟩
   rw [if_pos c3] at H
   have c3b0 : decide (x5_1 < (l0.length : Int)) = true := decide_eq_true c3
   clear c3
   by_cases c4 : 0 ≤ x5_1
   rotate_left
   ·rw [if_neg c4] at H
    exact absurd H (by simp)
   rw [if_pos c4] at H
   have c4b0 : decide (0 ≤ x5_1) = true := decide_eq_true c4
   clear c4
   by_cases c5 : ((ak_ l0 x5_1).f0) = x1_1
   rotate_left
   ·rw [if_neg c5] at H
    have c5b0 : (((ak_ l0 x5_1).f0) == x1_1) = false := beq_eq_false_iff_ne.mpr c5
    have c5b1 : (((ak_ l0 x5_1).f0) != x1_1) = true := bne_iff_ne.mpr c5
    obtain rfl := Option.some.inj H
    have p101 : 0 ≤ (x5_1 : Int) := of_decide_eq_true (by assumption)
    have q101 : x5_1 < (l0.length : Int) := of_decide_eq_true (by assumption)
    obtain ⟨ad101, A101_3, c101_3, e101, hx101_0, hx101_1, hx101_2, hx101_3, hl101_3, hi101_3⟩ := cL_ HR0.out x5_1 p101 q101
    cases e101
    replace hx101_0 := (HB.out.cell (bl_ w _ hx101_0)).trans hx101_0
    replace hx101_1 := (HB.out.cell (bl_ w _ hx101_1)).trans hx101_1
    replace hx101_2 := (HB.out.cell (bl_ w _ hx101_2)).trans hx101_2
    replace hx101_3 := (HB.out.cell (bl_ w _ hx101_3)).trans hx101_3
    have HR101_3 := Aside0.mk hi101_3
    have HC101_3 := Aside0.mk hl101_3
    clear hi101_3 hl101_3
    replace p101 := eq_true p101
    replace q101 := eq_true q101
    go_wp2
    go_ret
    exact ⟨by first | rfl | (simp [*, an_, ao_] <;> rfl), bz HB.out⟩
   rw [if_pos c5] at H
   have c5b0 : (((ak_ l0 x5_1).f0) == x1_1) = true := beq_iff_eq.mpr c5
   have c5b1 : (((ak_ l0 x5_1).f0) != x1_1) = false := bne_eq_false_iff_eq.mpr c5
   clear c5
   by_cases c6 : ((ak_ l0 x5_1).f1) = (wrap64 (x1_1 + 1))
   rotate_left
   ·rw [if_neg c6] at H
    have c6b0 : (((ak_ l0 x5_1).f1) == (wrap64 (x1_1 + 1))) = false := beq_eq_false_iff_ne.mpr c6
    have c6b1 : (((ak_ l0 x5_1).f1) != (wrap64 (x1_1 + 1))) = true := bne_iff_ne.mpr c6
    obtain rfl := Option.some.inj H
    have p101 : 0 ≤ (x5_1 : Int) := of_decide_eq_true (by assumption)
    have q101 : x5_1 < (l0.length : Int) := of_decide_eq_true (by assumption)
    obtain ⟨ad101, A101_3, c101_3, e101, hx101_0, hx101_1, hx101_2, hx101_3, hl101_3, hi101_3⟩ := cL_ HR0.out x5_1 p101 q101
    cases e101
    replace hx101_0 := (HB.out.cell (bl_ w _ hx101_0)).trans hx101_0
    replace hx101_1 := (HB.out.cell (bl_ w _ hx101_1)).trans hx101_1
    replace hx101_2 := (HB.out.cell (bl_ w _ hx101_2)).trans hx101_2
    replace hx101_3 := (HB.out.cell (bl_ w _ hx101_3)).trans hx101_3
    have HR101_3 := Aside0.mk hi101_3
    have HC101_3 := Aside0.mk hl101_3
    clear hi101_3 hl101_3
    replace p101 := eq_true p101
    replace q101 := eq_true q101
    have p102 : 0 ≤ (x5_1 : Int) := of_decide_eq_true (by assumption)
    have q102 : x5_1 < (l0.length : Int) := of_decide_eq_true (by assumption)
    obtain ⟨ad102, A102_3, c102_3, e102, hx102_0, hx102_1, hx102_2, hx102_3, hl102_3, hi102_3⟩ := cL_ HR0.out x5_1 p102 q102
    obtain rfl : ad101 = ad102 := (by injection e102)
    (try (obtain ⟨rfl, rfl⟩ := RPW.sl_eq hw101_3 hx102_3))
    (try (obtain ⟨rfl, rfl⟩ := RPW.sl_eq hw102_3 hx102_3))
    (try (obtain ⟨rfl, rfl⟩ := RPW.sl_eq hw103_3 hx102_3))
    (try (obtain ⟨rfl, rfl⟩ := RPW.sl_eq hw105_3 hx102_3))
    replace hx102_0 := (HB.out.cell (bl_ w _ hx102_0)).trans hx102_0
    replace hx102_1 := (HB.out.cell (bl_ w _ hx102_1)).trans hx102_1
    replace hx102_2 := (HB.out.cell (bl_ w _ hx102_2)).trans hx102_2
    replace hx102_3 := (HB.out.cell (bl_ w _ hx102_3)).trans hx102_3
    have HR102_3 := Aside0.mk hi102_3
    have HC102_3 := Aside0.mk hl102_3
    clear hi102_3 hl102_3
    replace p102 := eq_true p102
    replace q102 := eq_true q102
    have ea_ := Option.some.inj (hx101_3.symm.trans hx102_3)
    injection ea_ with ea_ en_ ec_
    subst ea_
    subst ec_
    clear en_
    go_wp2
    go_ret
    exact ⟨by first | rfl | (simp [*, an_, ao_] <;> rfl), bz HB.out⟩
   rw [if_pos c6] at H
   have c6b0 : (((ak_ l0 x5_1).f1) == (wrap64 (x1_1 + 1))) = true := beq_iff_eq.mpr c6
   have c6b1 : (((ak_ l0 x5_1).f1) != (wrap64 (x1_1 + 1))) = false := bne_eq_false_iff_eq.mpr c6
   clear c6
   replace H := Option.bind_eq_some_iff.mp H
   obtain ⟨t104, A70, H⟩ := H
   (try dsimp only at H)
   have A7 := Aside0.mk A70
   clear A70
   have HC8 := Aside0.mk H
   clear H
   have p101 : 0 ≤ (x5_1 : Int) := of_decide_eq_true (by assumption)
   have q101 : x5_1 < (l0.length : Int) := of_decide_eq_true (by assumption)
   obtain ⟨ad101, A101_3, c101_3, e101, hx101_0, hx101_1, hx101_2, hx101_3, hl101_3, hi101_3⟩ := cL_ HR0.out x5_1 p101 q101
   cases e101
   replace hx101_0 := (HB.out.cell (bl_ w _ hx101_0)).trans hx101_0
   replace hx101_1 := (HB.out.cell (bl_ w _ hx101_1)).trans hx101_1
   replace hx101_2 := (HB.out.cell (bl_ w _ hx101_2)).trans hx101_2
   replace hx101_3 := (HB.out.cell (bl_ w _ hx101_3)).trans hx101_3
   have HR101_3 := Aside0.mk hi101_3
   have HC101_3 := Aside0.mk hl101_3
   clear hi101_3 hl101_3
   replace p101 := eq_true p101
   replace q101 := eq_true q101
   have p102 : 0 ≤ (x5_1 : Int) := of_decide_eq_true (by assumption)
   have q102 : x5_1 < (l0.length : Int) := of_decide_eq_true (by assumption)
   obtain ⟨ad102, A102_3, c102_3, e102, hx102_0, hx102_1, hx102_2, hx102_3, hl102_3, hi102_3⟩ := cL_ HR0.out x5_1 p102 q102
   obtain rfl : ad101 = ad102 := (by injection e102)
   (try (obtain ⟨rfl, rfl⟩ := RPW.sl_eq hw101_3 hx102_3))
   (try (obtain ⟨rfl, rfl⟩ := RPW.sl_eq hw102_3 hx102_3))
   replace hx102_0 := (HB.out.cell (bl_ w _ hx102_0)).trans hx102_0
   replace hx102_1 := (HB.out.cell (bl_ w _ hx102_1)).trans hx102_1
   replace hx102_2 := (HB.out.cell (bl_ w _ hx102_2)).trans hx102_2
   replace hx102_3 := (HB.out.cell (bl_ w _ hx102_3)).trans hx102_3
   have HR102_3 := Aside0.mk hi102_3
   have HC102_3 := Aside0.mk hl102_3
   clear hi102_3 hl102_3
   replace p102 := eq_true p102
   replace q102 := eq_true q102
   have ea_ := Option.some.inj (hx101_3.symm.trans hx102_3)
   injection ea_ with ea_ en_ ec_
   subst ea_
   subst ec_
   clear en_
   try go_wp2
   have n0_ := Aside0.mk (bD_ HB.out)
   clear HB
   have HB := n0_
   clear n0_
   have p103 : 0 ≤ (x5_1 : Int) := of_decide_eq_true (by assumption)
   have q103 : x5_1 < (l0.length : Int) := of_decide_eq_true (by assumption)
   obtain ⟨ad103, A103_3, c103_3, e103, hx103_0, hx103_1, hx103_2, hx103_3, hl103_3, hi103_3⟩ := cL_ HR0.out x5_1 p103 q103
   have hw103_3 := hx103_3
   have hw103_2 := hx103_2
   have hw103_1 := hx103_1
   have hw103_0 := hx103_0
   obtain rfl : ad101 = ad103 := (by injection e103)
   (try (obtain ⟨rfl, rfl⟩ := RPW.sl_eq hw101_3 hx103_3))
   (try (obtain ⟨rfl, rfl⟩ := RPW.sl_eq hw102_3 hx103_3))
   (try (obtain ⟨rfl, rfl⟩ := RPW.sl_eq hw103_3 hx103_3))
   replace hx103_0 := (HB.out.cell (bl_ w _ hx103_0)).trans hx103_0
   replace hx103_1 := (HB.out.cell (bl_ w _ hx103_1)).trans hx103_1
   replace hx103_2 := (HB.out.cell (bl_ w _ hx103_2)).trans hx103_2
   replace hx103_3 := (HB.out.cell (bl_ w _ hx103_3)).trans hx103_3
   have HR103_3 := Aside0.mk hi103_3
   have HC103_3 := Aside0.mk hl103_3
   clear hi103_3 hl103_3
   replace p103 := eq_true p103
   replace q103 := eq_true q103
   refine start_ (n := 8) (S := fun w' => w'.cell? (ad101.add ((x5_1).toNat * 4)) = some (.int .i64 ((ak_ l0 x5_1).f0)) ∧ w'.cell? ⟨(ad101.add ((x5_1).toNat * 4)).block, (ad101.add ((x5_1).toNat * 4)).off + 1, none⟩ = some (.int .i64 ((ak_ l0 x5_1).f1)) ∧ w'.cell? ⟨(ad101.add ((x5_1).toNat * 4)).block, (ad101.add ((x5_1).toNat * 4)).off + 2, none⟩ = some (.string ((ak_ l0 x5_1).f2)) ∧ w'.cell? ⟨(ad101.add ((x5_1).toNat * 4)).block, (ad101.add ((x5_1).toNat * 4)).off + 3, none⟩ = some (.slice A103_3 ((ak_ l0 x5_1).f3).length c103_3)) (ds := []) #[f_,f_,f_,f_,f_,f_,f_,f_] (by kernel_rfl) rfl rfl ⟨((HB.out.cell (bl_ w _ hw103_0)).trans hw103_0), ((HB.out.cell (bl_ w _ hw103_1)).trans hw103_1), ((HB.out.cell (bl_ w _ hw103_2)).trans hw103_2), ((HB.out.cell (bl_ w _ hw103_3)).trans hw103_3)⟩ (fun hHeld => ?_); refine cS_ aI_.tab10 aI_.bits10 (fun HT_ HW_ => ?_)
   generalize wr.drew = w9 at HB HR103_3 hx103_0 hx103_1 hx103_2 hx103_3 hHeld ⊢
   refine pure_ (i := 0) (N := some 30) (v := ?_) (a' := ?_) #[t_,f_,f_,f_,f_,f_,f_,f_] rfl rfl (aF_ HT_.out (by kernel_rfl)) (fun _ _ _ h => h) (Or.inl ⟨by rfl, ?_⟩) ?_ ?_
   rotate_left
   ·intro w'
    go_simp
    with_reducible rfl
   rotate_left
   ·simp only [Act.put, lsa_, ls0_, ls1_, i64_w, i32_w]
    rfl
   refine pure_ (i := 1) (N := some 31) (v := ?_) (a' := ?_) #[t_,t_,f_,f_,f_,f_,f_,f_] rfl rfl (aF_ HT_.out (by kernel_rfl)) (fun _ _ _ h => h) (Or.inl ⟨by rfl, ?_⟩) ?_ ?_
   rotate_left
   ·intro w'
    go_simp
    with_reducible rfl
   rotate_left
   ·simp only [Act.put, lsa_, ls0_, ls1_, i64_w, i32_w]
    rfl
   refine pure_ (i := 2) (N := some 32) (v := ?_) (a' := ?_) #[t_,t_,t_,f_,f_,f_,f_,f_] rfl rfl (aF_ HT_.out (by kernel_rfl)) (fun _ _ _ h => h) (Or.inl ⟨by rfl, ?_⟩) ?_ ?_
   rotate_left
   ·intro w'
    go_simp
    with_reducible rfl
   rotate_left
   ·simp only [Act.put, lsa_, ls0_, ls1_, i64_w, i32_w]
    rfl
   refine pure_ (i := 3) (N := some 33) (v := ?_) (a' := ?_) #[t_,t_,t_,t_,f_,f_,f_,f_] rfl rfl (aF_ HT_.out (by kernel_rfl)) (fun _ _ _ h => h) (Or.inl ⟨by rfl, ?_⟩) ?_ ?_
   rotate_left
   ·intro w'
    go_simp
    with_reducible rfl
   rotate_left
   ·simp only [Act.put, lsa_, ls0_, ls1_, i64_w, i32_w]
    rfl
   refine pure_ (i := 5) (N := some 35) (v := ?_) (a' := ?_) #[t_,t_,t_,t_,f_,t_,f_,f_] rfl rfl (aF_ HT_.out (by kernel_rfl)) (fun _ _ _ h => h) (Or.inl ⟨by rfl, ?_⟩) ?_ ?_
   rotate_left
   ·intro w'
    go_simp
    with_reducible rfl
   rotate_left
   ·simp only [Act.put, lsa_, ls0_, ls1_, i64_w, i32_w]
    rfl
   refine take_ (i := 4) (N := some 34) (v := ?_) (a' := ?_) #[t_,t_,t_,t_,t_,t_,f_,f_] rfl rfl (cJ_ HT_.out HW_.out (by kernel_rfl)) (fun _ _ _ h => h) (Or.inl ⟨by rfl, ?_⟩) hHeld ?_ ?_
   rotate_left
   ·rintro w' ⟨s0, s1, s2, s3⟩
    go_simp
    with_reducible rfl
   rotate_left
   ·simp only [Act.put, lsa_, ls0_, ls1_, i64_w, i32_w]
    rfl
   refine one_ (i := 6) (N := some 36) #[t_,t_,t_,t_,t_,t_,t_,f_] rfl rfl (dD_ HT_.out (by kernel_rfl)) (by decide) (fun K hK => ?_)
   (first | refine goes_ Try.func43 (by kernel_rfl) rfl #[.int .i64 (wrap64 ((wrap64 (x1_1 + 1)) + 1))] (by rfl) rfl rfl (by first | rfl | (simp only [List.map_toArray, List.map_cons, List.map_nil]; first | done | rfl)) ?_ | refine RPW.goesV_ Try.func43 (by kernel_rfl) rfl #[.int .i64 (wrap64 ((wrap64 (x1_1 + 1)) + 1))] (by rfl) rfl rfl rfl (by first | rfl | (simp only [List.map_toArray, List.map_cons, List.map_nil]; first | done | rfl)) ?_ | refine RPW.goesC_ Try.func43 (by kernel_rfl) rfl #[.int .i64 (wrap64 ((wrap64 (x1_1 + 1)) + 1))] (by rfl) rfl rfl rfl (by first | rfl | (simp only [List.map_toArray, List.map_cons, List.map_nil]; first | done | rfl)) ?_)
   with_reducible refine (bk_.calls k1 (wrap64 ((wrap64 (x1_1 + 1)) + 1)) t104 _ A7.out).mono ?_
   rintro e w10 ⟨rfl, hb⟩
   refine ⟨_, rfl, ?_⟩
   have n0_ := Aside0.mk (ag_ (bz HB.out) hb)
   clear HB
   have HB := n0_
   clear n0_
   (try clear hb)
   refine hK.out _ _ ⟨((HB.out.cell (bl_ w _ hw103_0)).trans hw103_0), ((HB.out.cell (bl_ w _ hw103_1)).trans hw103_1), ((HB.out.cell (bl_ w _ hw103_2)).trans hw103_2), ((HB.out.cell (bl_ w _ hw103_3)).trans hw103_3)⟩ (fun hHeld => ?_)
   clear hK K
   refine norm_ (a' := ?_) ?_ ?_
   rotate_left
   ·show Act.put _ (some 36) _ = _
    simp only [Act.put, lsa_, ls0_, ls1_, i64_w, i32_w]
    rfl
   refine pure_ (i := 7) (N := some 37) (v := ?_) (a' := ?_) #[t_,t_,t_,t_,t_,t_,t_,t_] rfl rfl (aF_ HT_.out (by kernel_rfl)) (fun _ _ _ h => h) (Or.inl ⟨by rfl, ?_⟩) ?_ ?_
   rotate_left
   ·intro w'
    go_simp
    with_reducible rfl
   rotate_left
   ·simp only [Act.put, lsa_, ls0_, ls1_, i64_w, i32_w]
    rfl
   refine done_ (dA_ HT_.out (by kernel_rfl)) ?_
   go_upto_if 37 with (fail)
   have H := HC8.out
   clear HC8
   by_cases c11 : ((ak_ l0 x5_1).f2).toList = t104.toList
   rotate_left
   ·rw [if_neg c11] at H
    have c11b0 : (((ak_ l0 x5_1).f2).toList == t104.toList) = false := beq_eq_false_iff_ne.mpr c11
    have c11b1 : (((ak_ l0 x5_1).f2).toList != t104.toList) = true := bne_iff_ne.mpr c11
    (first | rw [c11b0] | (simp only [i64_w, i32_w]; rw [c11b0]) | (simp only [c11b1, Bool.not_true, Bool.not_false]) | (simp only [c11b0, Bool.not_true, Bool.not_false]) | skip)
    obtain rfl := Option.some.inj H
    go_wp2
    go_ret
    exact ⟨by first | rfl | (simp [*, an_, ao_] <;> rfl), bz HB.out⟩
   rw [if_pos c11] at H
   have c11b0 : (((ak_ l0 x5_1).f2).toList == t104.toList) = true := beq_iff_eq.mpr c11
   have c11b1 : (((ak_ l0 x5_1).f2).toList != t104.toList) = false := bne_eq_false_iff_eq.mpr c11
   clear c11
   (first | rw [c11b0] | (simp only [i64_w, i32_w]; rw [c11b0]) | (simp only [c11b1, Bool.not_true, Bool.not_false]) | (simp only [c11b0, Bool.not_true, Bool.not_false]) | skip)
   replace H := Option.bind_eq_some_iff.mp H
   obtain ⟨t106, A120, H⟩ := H
   (try dsimp only at H)
   have A12 := Aside0.mk A120
   clear A120
   have HC13 := Aside0.mk H
   clear H
   have p105 : 0 ≤ (x5_1 : Int) := of_decide_eq_true (by assumption)
   have q105 : x5_1 < (l0.length : Int) := of_decide_eq_true (by assumption)
   obtain ⟨ad105, A105_3, c105_3, e105, hx105_0, hx105_1, hx105_2, hx105_3, hl105_3, hi105_3⟩ := cL_ HR0.out x5_1 p105 q105
   obtain rfl : ad101 = ad105 := (by injection e105)
   (try (obtain ⟨rfl, rfl⟩ := RPW.sl_eq hw101_3 hx105_3))
   (try (obtain ⟨rfl, rfl⟩ := RPW.sl_eq hw102_3 hx105_3))
   (try (obtain ⟨rfl, rfl⟩ := RPW.sl_eq hw103_3 hx105_3))
   (try (obtain ⟨rfl, rfl⟩ := RPW.sl_eq hw105_3 hx105_3))
   replace hx105_0 := (HB.out.cell (bl_ w _ hx105_0)).trans hx105_0
   replace hx105_1 := (HB.out.cell (bl_ w _ hx105_1)).trans hx105_1
   replace hx105_2 := (HB.out.cell (bl_ w _ hx105_2)).trans hx105_2
   replace hx105_3 := (HB.out.cell (bl_ w _ hx105_3)).trans hx105_3
   have HR105_3 := Aside0.mk hi105_3
   have HC105_3 := Aside0.mk hl105_3
   clear hi105_3 hl105_3
   replace p105 := eq_true p105
   replace q105 := eq_true q105
   go_upto_if 48 with (first | ((with_reducible refine am_ (f := 18) rfl ?_); refine aX_ (some 46) rfl rfl Try.func18 (by kernel_rfl) rfl #[.slice A105_3 ((ak_ l0 x5_1).f3).length c105_3, .int .i64 (wrap64 ((wrap64 ((wrap64 (x1_1 + 1)) + 1)) + 1))] rfl (by first | rfl | (simp only [List.map_toArray, List.map_cons, List.map_nil]; first | done | rfl)) ?_; (with_reducible refine (aJ_.calls k1 _ _ ((ak_ l0 x5_1).f3) (wrap64 ((wrap64 ((wrap64 (x1_1 + 1)) + 1)) + 1)) t106 _ ?side1 ?side2 A12.out).mono ?_); (case side1 => exact cz (Kd.bE_ HR105_3.out HB.out)); (case side2 => exact HC105_3.out); rintro e w14 ⟨rfl, hb⟩; refine ⟨_, rfl, ?_⟩; replace HB := Aside0.mk (ag_ (bz HB.out) hb); (try clear hb)))
   (try simp only [Act.put, lsa_, ls0_, ls1_])
   have H := HC13.out
   clear HC13
   by_cases c15 : t106 < 0
   rotate_left
   ·rw [if_neg c15] at H
    have c15b0 : decide (t106 < 0) = false := decide_eq_false c15
    clear c15
    (first | rw [c15b0] | (simp only [i64_w, i32_w]; rw [c15b0]) | (simp only [c15b1, Bool.not_true, Bool.not_false]) | (simp only [c15b0, Bool.not_true, Bool.not_false]) | skip)
    have H' := Aside0.mk H
    clear H
    go_wp2
    go_roundg k1
    case measure => have := HK1.out; omega
    case rel => exact ⟨(t106), (wrap64 (x5_1 + 1)), (by first | rfl | (simp; done) | (simp [*]; done)), (by first | rfl | (simp; done) | (simp [*]; done)), H', ⟨by have := HK1.out; omega⟩, ⟨bz HB.out⟩⟩
   rw [if_pos c15] at H
   have c15b0 : decide (t106 < 0) = true := decide_eq_true c15
   clear c15
   (first | rw [c15b0] | (simp only [i64_w, i32_w]; rw [c15b0]) | (simp only [c15b1, Bool.not_true, Bool.not_false]) | (simp only [c15b0, Bool.not_true, Bool.not_false]) | skip)
   obtain rfl := Option.some.inj H
   go_wp2
   go_ret
   exact ⟨by first | rfl | (simp [*, an_, ao_] <;> rfl), bz HB.out⟩
mutual
def al_.j0 : Nat → List (S71) → Int → Int → ByteArray → List (S78) → Int → List (S78) → List (S78) → Int → Bool → Option (Bool)
 | 0, _, _, _, _, _, _, _, _, _, _ => none
 | k + 1, x0, x1, x2, x3, x10, x11, x12, x13, x14, x55 => if x55 = true then (some false) else ((bg_.f k x0).bind fun t117 => ((aC_.f k x12 t117).bind fun t120 => (if t120 = true then ((aw_.f k x12 1).bind fun bt121 => (if bt121.1 < 0 then (al_.j1 k x0 x1 x2 x3 x10 x11 x13 true) else ((aC_.f k x13 x10).bind fun t123 => (if t123 = true then (al_.j1 k x0 x1 x2 x3 x10 x11 x13 (x14 != x11)) else (al_.j1 k x0 x1 x2 x3 x10 x11 x13 true))))) else (some false))))
def al_.j1 : Nat → List (S71) → Int → Int → ByteArray → List (S78) → Int → List (S78) → Bool → Option (Bool)
 | 0, _, _, _, _, _, _, _, _ => none
 | k + 1, x0, x1, x2, x3, x10, x11, x13, x76 => if x76 = true then (some false) else ((aw_.f k x13 1).bind fun bt124 => ((aI_.f k bt124.2 1).bind fun t126 => (if t126 < 0 then (some false) else (if t126 = bt124.1 then ((bg_.f k x0).bind fun t127 => ((aP_.f k t127 x1 x2 x3).bind fun bt130 => ((aC_.f k bt130.1 x10).bind fun t134 => (if t134 = true then (al_.j2 k bt124.2 bt124.1 (bt130.2 != x11)) else (al_.j2 k bt124.2 bt124.1 true))))) else (some false)))))
def al_.j2 : Nat → List (S78) → Int → Bool → Option (Bool)
 | 0, _, _, _ => none
 | k + 1, x13, x16, x105 => if x105 = true then (some false) else ((aI_.f k x13 1).bind fun t135 => (if t135 < 0 then (some false) else (if t135 = x16 then (some true) else (some false))))
end
def al_.f (k : Nat) (l0 : List (S71)) (a1 : Int) (a2 : Int) (a3 : ByteArray) : Option (Bool) := if (a3.size : Int) > 1048576 then (some true) else ((bH_.f k l0 1048576).bind fun t101 => (if t101 < 0 then (some true) else ((bg_.f k l0).bind fun t102 => ((ar_.f k t102 a1 a2 a3).bind fun bt105 => ((bg_.f k l0).bind fun t109 => ((aP_.f k t109 a1 a2 a3).bind fun bt112 => ((aC_.f k bt112.1 bt105.1).bind fun t116 => (if t116 = true then (al_.j0 k l0 a1 a2 a3 bt105.1 bt105.2 t109 bt112.1 bt112.2 (bt112.2 != bt105.2)) else (al_.j0 k l0 a1 a2 a3 bt105.1 bt105.2 t109 bt112.1 bt112.2 true)))))))))
set_option maxHeartbeats 8000000 in
set_option maxRecDepth 100000 in
theorem al_.calls (k : Nat) (A0 : Option Addr) (c0 : Nat) (l0 : List (S71)) (a1 : Int) (a2 : Int) (a3 : ByteArray) (r : Bool) (w : World) (hr0 : Kd.C k71 w A0 l0.length l0) (hc0 : l0.length ≤ c0) (h : al_.f k l0 a1 a2 a3 = some r) :
  Calls Try.prog 5 #[.slice A0 l0.length c0, .int .i64 a1, .int .i64 a2, .string a3] w fun e w' => e = .returned (.bool r) ∧ Below w.heap.size w w' := by
 have HR0 := Aside0.mk hr0
 have HC0 := Aside0.mk hc0
 clear hr0 hc0
 have HB := Aside0.mk (Below.refl w.heap.size w)
 have H : (if (a3.size : Int) > 1048576 then (some true) else ((bH_.f k l0 1048576).bind fun t101 => (if t101 < 0 then (some true) else ((bg_.f k l0).bind fun t102 => ((ar_.f k t102 a1 a2 a3).bind fun bt105 => ((bg_.f k l0).bind fun t109 => ((aP_.f k t109 a1 a2 a3).bind fun bt112 => ((aC_.f k bt112.1 bt105.1).bind fun t116 => (if t116 = true then (al_.j0 k l0 a1 a2 a3 bt105.1 bt105.2 t109 bt112.1 bt112.2 (bt112.2 != bt105.2)) else (al_.j0 k l0 a1 a2 a3 bt105.1 bt105.2 t109 bt112.1 bt112.2 true)))))))))) = some r := h
 clear h
 by_cases c5 : (a3.size : Int) > 1048576
 rotate_left
 ·rw [if_neg c5] at H
  have c5b0 : decide (1048576 < (a3.size : Int)) = false := decide_eq_false c5
  have c5b1 : decide (1048576 < a3.size) = false := decide_eq_false (by omega)
  clear c5
  replace H := Option.bind_eq_some_iff.mp H
  obtain ⟨t101, A60, H⟩ := H
  (try dsimp only at H)
  have A6 := Aside0.mk A60
  clear A60
  have HC7 := Aside0.mk H
  clear H
  go_enter Try.func5, Try.ntmps5
  go_upto_if 27 with (first | ((with_reducible refine am_ (f := 19) rfl ?_); refine aX_ (some 25) rfl rfl Try.func19 (by kernel_rfl) rfl #[.slice A0 l0.length c0, .int .i64 1048576] rfl (by first | rfl | (simp only [List.map_toArray, List.map_cons, List.map_nil]; first | done | rfl)) ?_; (with_reducible refine (bH_.calls k _ _ l0 1048576 t101 _ ?side1 ?side2 A6.out).mono ?_); (case side1 => exact cz HR0.out); (case side2 => exact HC0.out); rintro e w8 ⟨rfl, hb⟩; refine ⟨_, rfl, ?_⟩; replace HB := Aside0.mk (ag_ (bz HB.out) hb); (try clear hb)))
  (try simp only [Act.put, lsa_, ls0_, ls1_])
  have H := HC7.out
  clear HC7
  by_cases c9 : t101 < 0
  rotate_left
  ·rw [if_neg c9] at H
   have c9b0 : decide (t101 < 0) = false := decide_eq_false c9
   clear c9
   (first | rw [c9b0] | (simp only [i64_w, i32_w]; rw [c9b0]) | (simp only [c9b1, Bool.not_true, Bool.not_false]) | (simp only [c9b0, Bool.not_true, Bool.not_false]) | skip)
   replace H := Option.bind_eq_some_iff.mp H
   obtain ⟨t102, A100, H⟩ := H
   (try dsimp only at H)
   have A10 := Aside0.mk A100
   clear A100
   replace H := Option.bind_eq_some_iff.mp H
   obtain ⟨⟨t105, t108⟩, A110, H⟩ := H
   (try dsimp only at H)
   have A11 := Aside0.mk A110
   clear A110
   replace H := Option.bind_eq_some_iff.mp H
   obtain ⟨t109, A120, H⟩ := H
   (try dsimp only at H)
   have A12 := Aside0.mk A120
   clear A120
   replace H := Option.bind_eq_some_iff.mp H
   obtain ⟨⟨t112, t113⟩, A130, H⟩ := H
   (try dsimp only at H)
   have A13 := Aside0.mk A130
   clear A130
   have HC14 := Aside0.mk H
   clear H
   go_upto_region 10 with (first | ((with_reducible refine am_ (f := 21) rfl ?_); refine aX_ (some 30) rfl rfl Try.func21 (by kernel_rfl) rfl #[.slice A0 l0.length c0] rfl (by first | rfl | (simp only [List.map_toArray, List.map_cons, List.map_nil]; first | done | rfl)) ?_; (with_reducible refine (bg_.calls k _ _ l0 t102 _ ?side1 ?side2 A10.out).mono ?_); (case side1 => exact cz (Kd.bE_ HR0.out HB.out)); (case side2 => exact HC0.out); rintro e w15 ⟨v103, rfl, ho0, hb⟩; refine ⟨_, rfl, ?_⟩; obtain ⟨BxHO104, hBxHO104⟩ := RPW.ivB hb; have HO104 := Aside0.mk (Kd.S_lower (Kd.bY_ (ok' := fun k_ => (BxHO104 ≤ k_)) (Kd.dh_ ho0) (fun k_ hk_ => (by have h1_ := hk_.2.1; omega))) (ae_ (bz HB.out))); replace HB := Aside0.mk (ag_ (bz HB.out) hb); (try clear hb); (try clear ho0); obtain ⟨Ao16, co16, eo16⟩ := Kd.dB_ HO104.out; subst eo16) | ((with_reducible refine am_ (f := 20) rfl ?_); refine aX_ (some 34) rfl rfl Try.func20 (by kernel_rfl) rfl #[.slice Ao16 t102.length co16, .int .i64 a1, .int .i64 a2, .string a3] rfl (by first | rfl | (simp only [List.map_toArray, List.map_cons, List.map_nil]; first | done | rfl)) ?_; (with_reducible refine (ar_.calls k (fun k_ => (BxHO104 ≤ k_)) _ _ t102 a1 a2 a3 t105 t108 _ ?side1 A11.out).mono ?_); (case side1 => exact Kd.S_V (HO104.out)); rintro e w17 ⟨v106, rfl, ho0, hb⟩; refine ⟨_, rfl, ?_⟩; obtain ⟨BxHO107, hBxHO107⟩ := RPW.ivB hb; replace HO104 := Aside0.mk (Kd.bY_ (ok' := fun k_ => (BxHO104 ≤ k_ ∧ k_ < BxHO107) ∧ some k_ ≠ (v106 : Value).ownBlock) (Kd.S_old (HO104.out) hb) (fun k_ hk_ => ⟨(by have h1_ := hk_.1; have h2_ := hk_.2; omega), fun e_ => Nat.not_le.2 hk_.2 (Kd.N_base ho0 k_ e_.symm)⟩)); have HO107 := Aside0.mk (Kd.dt_ (Kd.cs_ (ok' := fun k_ => (0 ≤ k_)) (ho0) (fun k_ hk_ => Nat.zero_le k_)) (ae_ (bz HB.out))); replace HB := Aside0.mk (ag_ (bz HB.out) hb); (try clear hb); (try clear ho0)) | ((with_reducible refine am_ (f := 21) rfl ?_); refine aX_ (some 38) rfl rfl Try.func21 (by kernel_rfl) rfl #[.slice A0 l0.length c0] rfl (by first | rfl | (simp only [List.map_toArray, List.map_cons, List.map_nil]; first | done | rfl)) ?_; (with_reducible refine (bg_.calls k _ _ l0 t109 _ ?side1 ?side2 A12.out).mono ?_); (case side1 => exact cz (Kd.bE_ HR0.out HB.out)); (case side2 => exact HC0.out); rintro e w18 ⟨v110, rfl, ho0, hb⟩; refine ⟨_, rfl, ?_⟩; obtain ⟨BxHO111, hBxHO111⟩ := RPW.ivB hb; have HO111 := Aside0.mk (Kd.S_lower (Kd.bY_ (ok' := fun k_ => (BxHO111 ≤ k_) ∧ some k_ ≠ (.slice Ao16 t102.length co16 : Value).ownBlock ∧ some k_ ≠ (v106 : Value).ownBlock) (Kd.dh_ ho0) (fun k_ hk_ => ⟨(by have h1_ := hk_.2.1; omega), (Kd.fresh' (Kd.S_lt (sz HO104.out)) k_ hk_.2.1), (Kd.fresh' (Kd.N_lt (nz HO107.out)) k_ hk_.2.1)⟩)) (ae_ (bz HB.out))); replace HO104 := Aside0.mk (Kd.bY_ (ok' := fun k_ => (BxHO104 ≤ k_ ∧ k_ < BxHO107 ∧ k_ < BxHO111) ∧ some k_ ≠ (v106 : Value).ownBlock ∧ some k_ ≠ (v110 : Value).ownBlock) (Kd.S_old (HO104.out) hb) (fun k_ hk_ => ⟨(by have h1_ := hk_.1.1; have h2_ := hk_.2; omega), hk_.1.2, fun e_ => Nat.not_le.2 hk_.2 (Kd.dr_ ho0 k_ e_.symm)⟩)); replace HO107 := Aside0.mk (Kd.cs_ (ok' := fun k_ => (0 ≤ k_ ∧ k_ < BxHO111) ∧ some k_ ≠ (v110 : Value).ownBlock) (Kd.N_old (HO107.out) hb) (fun k_ hk_ => ⟨(by have h1_ := hk_.1; have h2_ := hk_.2; omega), fun e_ => Nat.not_le.2 hk_.2 (Kd.dr_ ho0 k_ e_.symm)⟩)); replace HB := Aside0.mk (ag_ (bz HB.out) hb); (try clear hb); (try clear ho0); obtain ⟨Ao19, co19, eo19⟩ := Kd.dB_ HO111.out; subst eo19) | ((with_reducible refine am_ (f := 22) rfl ?_); refine aX_ (some 44) rfl rfl Try.func22 (by kernel_rfl) rfl #[.slice Ao19 t109.length co19, .int .i64 a1, .int .i64 a2, .string a3] rfl (by first | rfl | (simp only [List.map_toArray, List.map_cons, List.map_nil]; first | done | rfl)) ?_; (with_reducible refine (aP_.calls k _ _ t109 a1 a2 a3 t112 t113 _ ?side1 ?side2 A13.out).mono ?_); (case side1 => exact cz (Kd.cd_ HO111.out).2.2); (case side2 => exact (Kd.cd_ HO111.out).2.1); rintro e w20 ⟨v114, rfl, ho0, hb⟩; refine ⟨_, rfl, ?_⟩; obtain ⟨BxHO115, hBxHO115⟩ := RPW.ivB hb; have HO115 := Aside0.mk (Kd.S_lower (Kd.bY_ (ok' := fun k_ => (BxHO115 ≤ k_) ∧ some k_ ≠ (.slice Ao16 t102.length co16 : Value).ownBlock ∧ some k_ ≠ (v106 : Value).ownBlock ∧ some k_ ≠ (.slice Ao19 t109.length co19 : Value).ownBlock) (Kd.dh_ ho0) (fun k_ hk_ => ⟨(by have h1_ := hk_.2.1; omega), (Kd.fresh' (Kd.S_lt (sz HO104.out)) k_ hk_.2.1), (Kd.fresh' (Kd.N_lt (nz HO107.out)) k_ hk_.2.1), (Kd.fresh' (Kd.S_lt (sz HO111.out)) k_ hk_.2.1)⟩)) (ae_ (bz HB.out))); replace HO104 := Aside0.mk (Kd.bY_ (ok' := fun k_ => (BxHO104 ≤ k_ ∧ k_ < BxHO107 ∧ k_ < BxHO111 ∧ k_ < BxHO115) ∧ some k_ ≠ (v106 : Value).ownBlock ∧ some k_ ≠ (.slice Ao19 t109.length co19 : Value).ownBlock ∧ some k_ ≠ (v114 : Value).ownBlock) (Kd.S_old (HO104.out) hb) (fun k_ hk_ => ⟨(by have h1_ := hk_.1.1; have h2_ := hk_.2; omega), hk_.1.2.1, hk_.1.2.2, fun e_ => Nat.not_le.2 hk_.2 (Kd.dr_ ho0 k_ e_.symm)⟩)); replace HO107 := Aside0.mk (Kd.cs_ (ok' := fun k_ => (0 ≤ k_ ∧ k_ < BxHO111 ∧ k_ < BxHO115) ∧ some k_ ≠ (.slice Ao19 t109.length co19 : Value).ownBlock ∧ some k_ ≠ (v114 : Value).ownBlock) (Kd.N_old (HO107.out) hb) (fun k_ hk_ => ⟨(by have h1_ := hk_.1.1; have h2_ := hk_.2; omega), hk_.1.2, fun e_ => Nat.not_le.2 hk_.2 (Kd.dr_ ho0 k_ e_.symm)⟩)); replace HO111 := Aside0.mk (Kd.bY_ (ok' := fun k_ => (BxHO111 ≤ k_ ∧ k_ < BxHO115) ∧ some k_ ≠ (.slice Ao16 t102.length co16 : Value).ownBlock ∧ some k_ ≠ (v106 : Value).ownBlock ∧ some k_ ≠ (v114 : Value).ownBlock) (Kd.S_old (HO111.out) hb) (fun k_ hk_ => ⟨(by have h1_ := hk_.1.1; have h2_ := hk_.2; omega), hk_.1.2.1, hk_.1.2.2, fun e_ => Nat.not_le.2 hk_.2 (Kd.dr_ ho0 k_ e_.symm)⟩)); replace HB := Aside0.mk (ag_ (bz HB.out) hb); (try clear hb); (try clear ho0)))
   (try simp only [Act.put, lsa_, ls0_, ls1_])
   go_cut [55] (fun v55 wc => ∃ (kq : Nat) (x55_13 : Bool), v55 = .bool x55_13 ∧ Aside0 (al_.j0 kq l0 a1 a2 a3 t105 t108 t109 t112 t113 x55_13 = some r) ∧ Aside0 (kq ≤ k) ∧ Aside0 (Kd.N k78 78 wc w.heap.size (fun k_ => (0 ≤ k_ ∧ k_ < BxHO111 ∧ k_ < BxHO115) ∧ some k_ ≠ ((.slice Ao19 t109.length co19) : Value).ownBlock ∧ some k_ ≠ (v114 : Value).ownBlock) v106 t105) ∧ Aside0 (Kd.S k78 78 wc w.heap.size (fun k_ => (BxHO111 ≤ k_ ∧ k_ < BxHO115) ∧ some k_ ≠ (v106 : Value).ownBlock ∧ some k_ ≠ (v114 : Value).ownBlock) (.slice Ao19 t109.length co19) t109) ∧ Aside0 (Kd.S k78 78 wc w.heap.size (fun k_ => (BxHO115 ≤ k_) ∧ some k_ ≠ (v106 : Value).ownBlock ∧ some k_ ≠ ((.slice Ao19 t109.length co19) : Value).ownBlock) v114 t112) ∧ Aside0 (Below w.heap.size w wc))
   case first =>
    have H := HC14.out
    clear HC14
    replace H := Option.bind_eq_some_iff.mp H
    obtain ⟨t116, A210, H⟩ := H
    (try dsimp only at H)
    have A21 := Aside0.mk A210
    clear A210
    by_cases c22 : t116 = true
    rotate_left
    ·replace c22 := Bool.eq_false_iff.mpr c22
     subst c22
     have H1 : (al_.j0 k l0 a1 a2 a3 t105 t108 t109 t112 t113 true) = some r := by rw [if_neg (show ¬ (false = true) by decide)] at H; exact H
     clear H
     have H := H1
     clear H1
     have H' := Aside0.mk H
     clear H
     obtain ⟨Ao26, co26, eo26⟩ := Kd.dB_ HO115.out
     subst eo26
     obtain ⟨Ao27, co27, eo27⟩ := Kd.dz_ HO107.out
     subst eo27
     go_wp2_with (first | ((with_reducible refine am_ (f := 23) rfl ?_); refine aX_ (some 49) rfl rfl Try.func23 (by kernel_rfl) rfl #[.slice Ao26 t112.length co26, .slice Ao27 t105.length co27] rfl (by first | rfl | (simp only [List.map_toArray, List.map_cons, List.map_nil]; first | done | rfl)) ?_; (with_reducible refine (aC_.calls k _ _ t112 _ _ t105 false _ ?side1 ?side2 ?side3 ?side4 A21.out).mono ?_); (case side1 => exact cz (Kd.cd_ HO115.out).2.2); (case side2 => exact (Kd.cd_ HO115.out).2.1); (case side3 => exact cz (Kd.cp_ HO107.out).2.2); (case side4 => exact (Kd.cp_ HO107.out).2.1); rintro e w28 ⟨rfl, hb⟩; refine ⟨_, rfl, ?_⟩; replace HO104 := Aside0.mk (Kd.ct_ (sz HO104.out) hb); replace HO107 := Aside0.mk (Kd.dC_ (nz HO107.out) hb); replace HO111 := Aside0.mk (Kd.ct_ (sz HO111.out) hb); replace HO115 := Aside0.mk (Kd.ct_ (sz HO115.out) hb); replace HB := Aside0.mk (ag_ (bz HB.out) hb); (try clear hb)))
     go_meet
     case rel => exact ⟨_, (true), (by first | rfl | (simp; done) | (simp [*]; done)), H', ⟨by first | omega | exact Nat.le_refl _⟩, ⟨nz (Kd.cs_ HO107.out (fun _ hk => ⟨(by have h_ := hk.1; omega), ⟨hk.2.1, hk.2.2⟩⟩))⟩, ⟨sz (Kd.bY_ HO111.out (fun _ hk => ⟨(by have h_ := hk.1; omega), ⟨hk.2.2.1, hk.2.2.2⟩⟩))⟩, ⟨sz (Kd.bY_ HO115.out (fun _ hk => ⟨(by have h_ := hk.1; omega), ⟨hk.2.2.1, hk.2.2.2⟩⟩))⟩, ⟨bz HB.out⟩⟩
    subst c22
    have H1 : (al_.j0 k l0 a1 a2 a3 t105 t108 t109 t112 t113 (t113 != t108)) = some r := by rw [if_pos rfl] at H; exact H
    clear H
    have H := H1
    clear H1
    have H' := Aside0.mk H
    clear H
    obtain ⟨Ao23, co23, eo23⟩ := Kd.dB_ HO115.out
    subst eo23
    obtain ⟨Ao24, co24, eo24⟩ := Kd.dz_ HO107.out
    subst eo24
    go_wp2_with (first | ((with_reducible refine am_ (f := 23) rfl ?_); refine aX_ (some 49) rfl rfl Try.func23 (by kernel_rfl) rfl #[.slice Ao23 t112.length co23, .slice Ao24 t105.length co24] rfl (by first | rfl | (simp only [List.map_toArray, List.map_cons, List.map_nil]; first | done | rfl)) ?_; (with_reducible refine (aC_.calls k _ _ t112 _ _ t105 true _ ?side1 ?side2 ?side3 ?side4 A21.out).mono ?_); (case side1 => exact cz (Kd.cd_ HO115.out).2.2); (case side2 => exact (Kd.cd_ HO115.out).2.1); (case side3 => exact cz (Kd.cp_ HO107.out).2.2); (case side4 => exact (Kd.cp_ HO107.out).2.1); rintro e w25 ⟨rfl, hb⟩; refine ⟨_, rfl, ?_⟩; replace HO104 := Aside0.mk (Kd.ct_ (sz HO104.out) hb); replace HO107 := Aside0.mk (Kd.dC_ (nz HO107.out) hb); replace HO111 := Aside0.mk (Kd.ct_ (sz HO111.out) hb); replace HO115 := Aside0.mk (Kd.ct_ (sz HO115.out) hb); replace HB := Aside0.mk (ag_ (bz HB.out) hb); (try clear hb)))
    go_meet
    case rel => exact ⟨_, ((t113 != t108)), (by first | rfl | (simp; done) | (simp [*]; done)), H', ⟨by first | omega | exact Nat.le_refl _⟩, ⟨nz (Kd.cs_ HO107.out (fun _ hk => ⟨(by have h_ := hk.1; omega), ⟨hk.2.1, hk.2.2⟩⟩))⟩, ⟨sz (Kd.bY_ HO111.out (fun _ hk => ⟨(by have h_ := hk.1; omega), ⟨hk.2.2.1, hk.2.2.2⟩⟩))⟩, ⟨sz (Kd.bY_ HO115.out (fun _ hk => ⟨(by have h_ := hk.1; omega), ⟨hk.2.2.1, hk.2.2.2⟩⟩))⟩, ⟨bz HB.out⟩⟩
   case rest =>
    clear HC14
    obtain ⟨kq, x55_13, rfl, HA, HJ13, HO_10, HO_12, HO_13, HB⟩ := hcut
    cases kq with
    | zero => exact absurd HA.out (by simp [al_.j0])
    | succ kj13 =>
     have H := HA.out
     clear HA
     simp only [al_.j0] at H
     by_cases c29 : x55_13 = true
     rotate_left
     ·replace c29 := Bool.eq_false_iff.mpr c29
      subst c29
      have H1 : ((bg_.f kj13 l0).bind fun t117 => ((aC_.f kj13 t109 t117).bind fun t120 => (if t120 = true then ((aw_.f kj13 t109 1).bind fun bt121 => (if bt121.1 < 0 then (al_.j1 kj13 l0 a1 a2 a3 t105 t108 t112 true) else ((aC_.f kj13 t112 t105).bind fun t123 => (if t123 = true then (al_.j1 kj13 l0 a1 a2 a3 t105 t108 t112 (t113 != t108)) else (al_.j1 kj13 l0 a1 a2 a3 t105 t108 t112 true))))) else (some false)))) = some r := by rw [if_neg (show ¬ (false = true) by decide)] at H; exact H
      clear H
      have H := H1
      clear H1
      replace H := Option.bind_eq_some_iff.mp H
      obtain ⟨t117, A300, H⟩ := H
      (try dsimp only at H)
      have A30 := Aside0.mk A300
      clear A300
      replace H := Option.bind_eq_some_iff.mp H
      obtain ⟨t120, A310, H⟩ := H
      (try dsimp only at H)
      have A31 := Aside0.mk A310
      clear A310
      have HC32 := Aside0.mk H
      clear H
      go_upto_if 60 with (first | ((with_reducible refine am_ (f := 21) rfl ?_); refine aX_ (some 58) rfl rfl Try.func21 (by kernel_rfl) rfl #[.slice A0 l0.length c0] rfl (by first | rfl | (simp only [List.map_toArray, List.map_cons, List.map_nil]; first | done | rfl)) ?_; (with_reducible refine (bg_.calls kj13 _ _ l0 t117 _ ?side1 ?side2 A30.out).mono ?_); (case side1 => exact cz (Kd.bE_ HR0.out HB.out)); (case side2 => exact HC0.out); rintro e w33 ⟨v118, rfl, ho0, hb⟩; refine ⟨_, rfl, ?_⟩; obtain ⟨BxHO119, hBxHO119⟩ := RPW.ivB hb; have HO119 := Aside0.mk (Kd.S_lower (Kd.bY_ (ok' := fun k_ => (BxHO119 ≤ k_) ∧ some k_ ≠ (v106 : Value).ownBlock ∧ some k_ ≠ (.slice Ao19 t109.length co19 : Value).ownBlock ∧ some k_ ≠ (v114 : Value).ownBlock) (Kd.dh_ ho0) (fun k_ hk_ => ⟨(by have h1_ := hk_.2.1; omega), (Kd.fresh' (Kd.N_lt (nz HO_10.out)) k_ hk_.2.1), (Kd.fresh' (Kd.S_lt (sz HO_12.out)) k_ hk_.2.1), (Kd.fresh' (Kd.S_lt (sz HO_13.out)) k_ hk_.2.1)⟩)) (ae_ (bz HB.out))); replace HO_10 := Aside0.mk (Kd.cs_ (ok' := fun k_ => (0 ≤ k_ ∧ k_ < BxHO111 ∧ k_ < BxHO115 ∧ k_ < BxHO119) ∧ some k_ ≠ (.slice Ao19 t109.length co19 : Value).ownBlock ∧ some k_ ≠ (v114 : Value).ownBlock ∧ some k_ ≠ (v118 : Value).ownBlock) (Kd.N_old (HO_10.out) hb) (fun k_ hk_ => ⟨(by have h1_ := hk_.1.1; have h2_ := hk_.2; omega), hk_.1.2.1, hk_.1.2.2, fun e_ => Nat.not_le.2 hk_.2 (Kd.dr_ ho0 k_ e_.symm)⟩)); replace HO_12 := Aside0.mk (Kd.bY_ (ok' := fun k_ => (BxHO111 ≤ k_ ∧ k_ < BxHO115 ∧ k_ < BxHO119) ∧ some k_ ≠ (v106 : Value).ownBlock ∧ some k_ ≠ (v114 : Value).ownBlock ∧ some k_ ≠ (v118 : Value).ownBlock) (Kd.S_old (HO_12.out) hb) (fun k_ hk_ => ⟨(by have h1_ := hk_.1.1; have h2_ := hk_.2; omega), hk_.1.2.1, hk_.1.2.2, fun e_ => Nat.not_le.2 hk_.2 (Kd.dr_ ho0 k_ e_.symm)⟩)); replace HO_13 := Aside0.mk (Kd.bY_ (ok' := fun k_ => (BxHO115 ≤ k_ ∧ k_ < BxHO119) ∧ some k_ ≠ (v106 : Value).ownBlock ∧ some k_ ≠ (.slice Ao19 t109.length co19 : Value).ownBlock ∧ some k_ ≠ (v118 : Value).ownBlock) (Kd.S_old (HO_13.out) hb) (fun k_ hk_ => ⟨(by have h1_ := hk_.1.1; have h2_ := hk_.2; omega), hk_.1.2.1, hk_.1.2.2, fun e_ => Nat.not_le.2 hk_.2 (Kd.dr_ ho0 k_ e_.symm)⟩)); replace HB := Aside0.mk (ag_ (bz HB.out) hb); (try clear hb); (try clear ho0); obtain ⟨Ao34, co34, eo34⟩ := Kd.dB_ HO119.out; subst eo34) | ((with_reducible refine am_ (f := 23) rfl ?_); refine aX_ (some 59) rfl rfl Try.func23 (by kernel_rfl) rfl #[.slice Ao19 t109.length co19, .slice Ao34 t117.length co34] rfl (by first | rfl | (simp only [List.map_toArray, List.map_cons, List.map_nil]; first | done | rfl)) ?_; (with_reducible refine (aC_.calls kj13 _ _ t109 _ _ t117 t120 _ ?side1 ?side2 ?side3 ?side4 A31.out).mono ?_); (case side1 => exact cz (Kd.cd_ HO_12.out).2.2); (case side2 => exact (Kd.cd_ HO_12.out).2.1); (case side3 => exact cz (Kd.cd_ HO119.out).2.2); (case side4 => exact (Kd.cd_ HO119.out).2.1); rintro e w35 ⟨rfl, hb⟩; refine ⟨_, rfl, ?_⟩; replace HO_10 := Aside0.mk (Kd.dC_ (nz HO_10.out) hb); replace HO_12 := Aside0.mk (Kd.ct_ (sz HO_12.out) hb); replace HO_13 := Aside0.mk (Kd.ct_ (sz HO_13.out) hb); replace HO119 := Aside0.mk (Kd.ct_ (sz HO119.out) hb); replace HB := Aside0.mk (ag_ (bz HB.out) hb); (try clear hb)))
      (try simp only [Act.put, lsa_, ls0_, ls1_])
      have H := HC32.out
      clear HC32
      by_cases c36 : t120 = true
      rotate_left
      ·replace c36 := Bool.eq_false_iff.mpr c36
       subst c36
       have H1 : (some false) = some r := by rw [if_neg (show ¬ (false = true) by decide)] at H; exact H
       clear H
       have H := H1
       clear H1
       obtain rfl := Option.some.inj H
       go_wp2
       go_ret
       exact ⟨by first | rfl | (simp [*, an_, ao_] <;> rfl), bz HB.out⟩
      subst c36
      have H1 : ((aw_.f kj13 t109 1).bind fun bt121 => (if bt121.1 < 0 then (al_.j1 kj13 l0 a1 a2 a3 t105 t108 t112 true) else ((aC_.f kj13 t112 t105).bind fun t123 => (if t123 = true then (al_.j1 kj13 l0 a1 a2 a3 t105 t108 t112 (t113 != t108)) else (al_.j1 kj13 l0 a1 a2 a3 t105 t108 t112 true))))) = some r := by rw [if_pos rfl] at H; exact H
      clear H
      have H := H1
      clear H1
      replace H := Option.bind_eq_some_iff.mp H
      obtain ⟨⟨t121, t122⟩, A370, H⟩ := H
      (try dsimp only at H)
      have A37 := Aside0.mk A370
      clear A370
      have HC38 := Aside0.mk H
      clear H
      go_upto_region 16 with (first | ((with_reducible refine am_ (f := 24) rfl ?_); refine aX_ (some 63) rfl rfl Try.func24 (by kernel_rfl) rfl #[.slice Ao19 t109.length co19, .int .i64 1] rfl (by first | rfl | (simp only [List.map_toArray, List.map_cons, List.map_nil]; first | done | rfl)) ?_; (with_reducible refine (aw_.calls kj13 ?PPA37 (.slice Ao19 t109.length co19) t109 1 t121 t122 w _ ?side1 ?side2 A37.out).mono ?_); (case side1 => exact bz HB.out); (case side2 => exact Kd.dh_ HO_12.out); rintro e w39 ⟨rfl, hy0, hb, hkp⟩; refine ⟨_, rfl, ?_⟩; replace HO_10 := Aside0.mk (Kd.cs_ (ok' := fun k_ => (0 ≤ k_ ∧ k_ < BxHO111 ∧ k_ < BxHO115 ∧ k_ < BxHO119) ∧ some k_ ≠ (.slice Ao19 t109.length co19 : Value).ownBlock ∧ some k_ ≠ (v114 : Value).ownBlock ∧ some k_ ≠ (.slice Ao34 t117.length co34 : Value).ownBlock) (Kd.N_keptB ((Kd.cs_ HO_10.out (fun k_ hk_ => (⟨hk_, fun hs_ => RPW.ivf_ (And.left hs_) (fun h2_ => by have h1_ := hk_.1; have h3_ := h2_.1; omega)⟩ : _ ∧ ¬ (_ ∧ _))))) hkp (fun k_ hk_ hs_ => (hk_.2) hs_)) (fun k_ hk_ => ⟨(by have h_ := hk_.1.1.1; omega), hk_.1.1.2.1, hk_.1.1.2.2.1, hk_.1.1.2.2.2⟩)); replace HO_12 := Aside0.mk ((Kd.bY_ hy0 (fun _ h_ => h_.1))); replace HO_13 := Aside0.mk (Kd.bY_ (ok' := fun k_ => (BxHO115 ≤ k_ ∧ k_ < BxHO119) ∧ some k_ ≠ (v106 : Value).ownBlock ∧ some k_ ≠ (.slice Ao19 t109.length co19 : Value).ownBlock ∧ some k_ ≠ (.slice Ao34 t117.length co34 : Value).ownBlock) (Kd.S_keptB ((Kd.bY_ HO_13.out (fun k_ hk_ => (⟨hk_, fun hs_ => RPW.ivf_ (And.left hs_) (fun h2_ => by have h1_ := hk_.1; have h3_ := h2_.1; omega)⟩ : _ ∧ ¬ (_ ∧ _))))) hkp (fun k_ hk_ hs_ => (hk_.2) hs_)) (fun k_ hk_ => ⟨(by have h_ := hk_.1.1.1; omega), hk_.1.1.2.1, hk_.1.1.2.2.1, hk_.1.1.2.2.2⟩)); replace HO119 := Aside0.mk (Kd.bY_ (ok' := fun k_ => (BxHO119 ≤ k_) ∧ some k_ ≠ (v106 : Value).ownBlock ∧ some k_ ≠ (.slice Ao19 t109.length co19 : Value).ownBlock ∧ some k_ ≠ (v114 : Value).ownBlock) (Kd.S_keptB ((Kd.bY_ HO119.out (fun k_ hk_ => (⟨hk_, fun hs_ => RPW.ivf_ (And.left hs_) (fun h2_ => by have h1_ := hk_.1; have h3_ := h2_.1; omega)⟩ : _ ∧ ¬ (_ ∧ _))))) hkp (fun k_ hk_ hs_ => (hk_.2) hs_)) (fun k_ hk_ => ⟨(by have h_ := hk_.1.1.1; omega), hk_.1.1.2.1, hk_.1.1.2.2.1, hk_.1.1.2.2.2⟩)); replace HB := Aside0.mk (hb); (try clear hb); (try clear hkp); (try clear hy0)))
      (try simp only [Act.put, lsa_, ls0_, ls1_])
      go_cut [76] (fun v76 wc => ∃ (kq : Nat) (x76_37 : Bool), v76 = .bool x76_37 ∧ Aside0 (al_.j1 kq l0 a1 a2 a3 t105 t108 t112 x76_37 = some r) ∧ Aside0 (kq ≤ kj13) ∧ Aside0 (Kd.N k78 78 wc w.heap.size (fun k_ => (0 ≤ k_ ∧ k_ < BxHO111 ∧ k_ < BxHO115 ∧ k_ < BxHO119) ∧ some k_ ≠ (v114 : Value).ownBlock) v106 t105) ∧ Aside0 (Kd.S k78 78 wc w.heap.size (fun k_ => (BxHO115 ≤ k_ ∧ k_ < BxHO119) ∧ some k_ ≠ (v106 : Value).ownBlock) v114 t112) ∧ Aside0 (Below w.heap.size w wc))
      case first =>
       have H := HC38.out
       clear HC38
       by_cases c40 : t121 < 0
       rotate_left
       ·rw [if_neg c40] at H
        have c40b0 : decide (t121 < 0) = false := decide_eq_false c40
        clear c40
        (first | rw [c40b0] | (simp only [i64_w, i32_w]; rw [c40b0]) | (simp only [c40b1, Bool.not_true, Bool.not_false]) | (simp only [c40b0, Bool.not_true, Bool.not_false]) | skip)
        replace H := Option.bind_eq_some_iff.mp H
        obtain ⟨t123, A410, H⟩ := H
        (try dsimp only at H)
        have A41 := Aside0.mk A410
        clear A410
        by_cases c42 : t123 = true
        rotate_left
        ·replace c42 := Bool.eq_false_iff.mpr c42
         subst c42
         have H1 : (al_.j1 kj13 l0 a1 a2 a3 t105 t108 t112 true) = some r := by rw [if_neg (show ¬ (false = true) by decide)] at H; exact H
         clear H
         have H := H1
         clear H1
         have H' := Aside0.mk H
         clear H
         obtain ⟨Ao46, co46, eo46⟩ := Kd.dB_ HO_13.out
         subst eo46
         obtain ⟨Ao47, co47, eo47⟩ := Kd.dz_ HO_10.out
         subst eo47
         go_wp2_with (first | (go_at_call 23; (with_reducible refine (aC_.calls kj13 _ _ t112 _ _ t105 false _ ?side1 ?side2 ?side3 ?side4 A41.out).mono ?_); (case side1 => exact cz (Kd.cd_ HO_13.out).2.2); (case side2 => exact (Kd.cd_ HO_13.out).2.1); (case side3 => exact cz (Kd.cp_ HO_10.out).2.2); (case side4 => exact (Kd.cp_ HO_10.out).2.1); rintro e w48 ⟨rfl, hb⟩; replace HO_10 := Aside0.mk (Kd.dC_ (nz HO_10.out) hb); replace HO_12 := Aside0.mk (Kd.ct_ (sz HO_12.out) hb); replace HO_13 := Aside0.mk (Kd.ct_ (sz HO_13.out) hb); replace HO119 := Aside0.mk (Kd.ct_ (sz HO119.out) hb); replace HB := Aside0.mk (ag_ (bz HB.out) hb); (try clear hb)))
         go_meet
         case rel => exact ⟨_, (true), (by first | rfl | (simp; done) | (simp [*]; done)), H', ⟨by have := HJ13.out; first | omega | exact Nat.le_refl _⟩, ⟨nz (Kd.cs_ HO_10.out (fun _ hk => ⟨(by have h_ := hk.1; omega), hk.2.2.1⟩))⟩, ⟨sz (Kd.bY_ HO_13.out (fun _ hk => ⟨(by have h_ := hk.1; omega), hk.2.1⟩))⟩, ⟨bz HB.out⟩⟩
        subst c42
        have H1 : (al_.j1 kj13 l0 a1 a2 a3 t105 t108 t112 (t113 != t108)) = some r := by rw [if_pos rfl] at H; exact H
        clear H
        have H := H1
        clear H1
        have H' := Aside0.mk H
        clear H
        obtain ⟨Ao43, co43, eo43⟩ := Kd.dB_ HO_13.out
        subst eo43
        obtain ⟨Ao44, co44, eo44⟩ := Kd.dz_ HO_10.out
        subst eo44
        go_wp2_with (first | (go_at_call 23; (with_reducible refine (aC_.calls kj13 _ _ t112 _ _ t105 true _ ?side1 ?side2 ?side3 ?side4 A41.out).mono ?_); (case side1 => exact cz (Kd.cd_ HO_13.out).2.2); (case side2 => exact (Kd.cd_ HO_13.out).2.1); (case side3 => exact cz (Kd.cp_ HO_10.out).2.2); (case side4 => exact (Kd.cp_ HO_10.out).2.1); rintro e w45 ⟨rfl, hb⟩; replace HO_10 := Aside0.mk (Kd.dC_ (nz HO_10.out) hb); replace HO_12 := Aside0.mk (Kd.ct_ (sz HO_12.out) hb); replace HO_13 := Aside0.mk (Kd.ct_ (sz HO_13.out) hb); replace HO119 := Aside0.mk (Kd.ct_ (sz HO119.out) hb); replace HB := Aside0.mk (ag_ (bz HB.out) hb); (try clear hb)))
        go_meet
        case rel => exact ⟨_, ((t113 != t108)), (by first | rfl | (simp; done) | (simp [*]; done)), H', ⟨by have := HJ13.out; first | omega | exact Nat.le_refl _⟩, ⟨nz (Kd.cs_ HO_10.out (fun _ hk => ⟨(by have h_ := hk.1; omega), hk.2.2.1⟩))⟩, ⟨sz (Kd.bY_ HO_13.out (fun _ hk => ⟨(by have h_ := hk.1; omega), hk.2.1⟩))⟩, ⟨bz HB.out⟩⟩
       rw [if_pos c40] at H
       have c40b0 : decide (t121 < 0) = true := decide_eq_true c40
       clear c40
       (first | rw [c40b0] | (simp only [i64_w, i32_w]; rw [c40b0]) | (simp only [c40b1, Bool.not_true, Bool.not_false]) | (simp only [c40b0, Bool.not_true, Bool.not_false]) | skip)
       have H' := Aside0.mk H
       clear H
       go_wp2
       go_meet
       case rel => exact ⟨_, (true), (by first | rfl | (simp; done) | (simp [*]; done)), H', ⟨by have := HJ13.out; first | omega | exact Nat.le_refl _⟩, ⟨nz (Kd.cs_ HO_10.out (fun _ hk => ⟨(by have h_ := hk.1; omega), hk.2.2.1⟩))⟩, ⟨sz (Kd.bY_ HO_13.out (fun _ hk => ⟨(by have h_ := hk.1; omega), hk.2.1⟩))⟩, ⟨bz HB.out⟩⟩
      case rest =>
       clear HC38
       obtain ⟨kq, x76_37, rfl, HA, HJ37, HO_10, HO_13, HB⟩ := hcut
       cases kq with
       | zero => exact absurd HA.out (by simp [al_.j1])
       | succ kj37 =>
        have H := HA.out
        clear HA
        simp only [al_.j1] at H
        by_cases c49 : x76_37 = true
        rotate_left
        ·replace c49 := Bool.eq_false_iff.mpr c49
         subst c49
         have H1 : ((aw_.f kj37 t112 1).bind fun bt124 => ((aI_.f kj37 bt124.2 1).bind fun t126 => (if t126 < 0 then (some false) else (if t126 = bt124.1 then ((bg_.f kj37 l0).bind fun t127 => ((aP_.f kj37 t127 a1 a2 a3).bind fun bt130 => ((aC_.f kj37 bt130.1 t105).bind fun t134 => (if t134 = true then (al_.j2 kj37 bt124.2 bt124.1 (bt130.2 != t108)) else (al_.j2 kj37 bt124.2 bt124.1 true))))) else (some false))))) = some r := by rw [if_neg (show ¬ (false = true) by decide)] at H; exact H
         clear H
         have H := H1
         clear H1
         replace H := Option.bind_eq_some_iff.mp H
         obtain ⟨⟨t124, t125⟩, A500, H⟩ := H
         (try dsimp only at H)
         have A50 := Aside0.mk A500
         clear A500
         replace H := Option.bind_eq_some_iff.mp H
         obtain ⟨t126, A510, H⟩ := H
         (try dsimp only at H)
         have A51 := Aside0.mk A510
         clear A510
         have HC52 := Aside0.mk H
         clear H
         obtain ⟨Ao53, co53, eo53⟩ := Kd.dB_ HO_13.out
         subst eo53
         go_upto_if 84 with (first | ((with_reducible refine am_ (f := 24) rfl ?_); refine aX_ (some 79) rfl rfl Try.func24 (by kernel_rfl) rfl #[.slice Ao53 t112.length co53, .int .i64 1] rfl (by first | rfl | (simp only [List.map_toArray, List.map_cons, List.map_nil]; first | done | rfl)) ?_; (with_reducible refine (aw_.calls kj37 ?PPA50 (.slice Ao53 t112.length co53) t112 1 t124 t125 w _ ?side1 ?side2 A50.out).mono ?_); (case side1 => exact bz HB.out); (case side2 => exact Kd.dh_ HO_13.out); rintro e w54 ⟨rfl, hy0, hb, hkp⟩; refine ⟨_, rfl, ?_⟩; replace HO_10 := Aside0.mk (Kd.cs_ (ok' := fun k_ => (0 ≤ k_ ∧ k_ < BxHO111 ∧ k_ < BxHO115 ∧ k_ < BxHO119) ∧ some k_ ≠ (.slice Ao53 t112.length co53 : Value).ownBlock) (Kd.N_keptB ((Kd.cs_ HO_10.out (fun k_ hk_ => (⟨hk_, fun hs_ => RPW.ivf_ (And.left hs_) (fun h2_ => by have h1_ := hk_.1; have h3_ := h2_.1; omega)⟩ : _ ∧ ¬ (_ ∧ _))))) hkp (fun k_ hk_ hs_ => (hk_.2) hs_)) (fun k_ hk_ => ⟨(by have h_ := hk_.1.1.1; omega), hk_.1.1.2⟩)); replace HO_13 := Aside0.mk ((Kd.bY_ hy0 (fun _ h_ => h_.1))); replace HB := Aside0.mk (hb); (try clear hb); (try clear hkp); (try clear hy0)) | ((with_reducible refine am_ (f := 25) rfl ?_); refine aX_ (some 82) rfl rfl Try.func25 (by kernel_rfl) rfl #[.slice Ao53 t125.length co53, .int .i64 1] rfl (by (try simp only [List.map_toArray, List.map_cons, List.map_nil]); first | done | (rw [show t125.length = t112.length from (Kd.cd_ HO_13.out).1.symm] <;> rfl) | rfl | (simp only [List.length_drop, List.length_take]; rfl)) ?_; (with_reducible refine (aI_.calls kj37 _ _ t125 1 t126 _ ?side1 ?side2 A51.out).mono ?_); (case side1 => exact cz (Kd.cd_ HO_13.out).2.2); (case side2 => rw [show t125.length = t112.length from (Kd.cd_ HO_13.out).1.symm]; exact (Kd.cd_ HO_13.out).2.1); rintro e w55 ⟨rfl, hb⟩; refine ⟨_, rfl, ?_⟩; replace HO_10 := Aside0.mk (Kd.dC_ (nz HO_10.out) hb); replace HO_13 := Aside0.mk (Kd.ct_ (sz HO_13.out) hb); replace HB := Aside0.mk (ag_ (bz HB.out) hb); (try clear hb)))
         (try simp only [Act.put, lsa_, ls0_, ls1_])
         have H := HC52.out
         clear HC52
         by_cases c56 : t126 < 0
         rotate_left
         ·rw [if_neg c56] at H
          have c56b0 : decide (t126 < 0) = false := decide_eq_false c56
          clear c56
          (first | rw [c56b0] | (simp only [i64_w, i32_w]; rw [c56b0]) | (simp only [c56b1, Bool.not_true, Bool.not_false]) | (simp only [c56b0, Bool.not_true, Bool.not_false]) | skip)
          by_cases c57 : t126 = t124
          rotate_left
          ·rw [if_neg c57] at H
           have c57b0 : (t126 == t124) = false := beq_eq_false_iff_ne.mpr c57
           have c57b1 : (t126 != t124) = true := bne_iff_ne.mpr c57
           obtain rfl := Option.some.inj H
           go_wp2
           go_ret
           exact ⟨by first | rfl | (simp [*, an_, ao_] <;> rfl), bz HB.out⟩
          rw [if_pos c57] at H
          have c57b0 : (t126 == t124) = true := beq_iff_eq.mpr c57
          have c57b1 : (t126 != t124) = false := bne_eq_false_iff_eq.mpr c57
          clear c57
          replace H := Option.bind_eq_some_iff.mp H
          obtain ⟨t127, A580, H⟩ := H
          (try dsimp only at H)
          have A58 := Aside0.mk A580
          clear A580
          replace H := Option.bind_eq_some_iff.mp H
          obtain ⟨⟨t130, t131⟩, A590, H⟩ := H
          (try dsimp only at H)
          have A59 := Aside0.mk A590
          clear A590
          have HC60 := Aside0.mk H
          clear H
          go_upto_region 27 with (first | ((with_reducible refine am_ (f := 21) rfl ?_); refine aX_ (some 90) rfl rfl Try.func21 (by kernel_rfl) rfl #[.slice A0 l0.length c0] rfl (by first | rfl | (simp only [List.map_toArray, List.map_cons, List.map_nil]; first | done | rfl)) ?_; (with_reducible refine (bg_.calls kj37 _ _ l0 t127 _ ?side1 ?side2 A58.out).mono ?_); (case side1 => exact cz (Kd.bE_ HR0.out HB.out)); (case side2 => exact HC0.out); rintro e w61 ⟨v128, rfl, ho0, hb⟩; refine ⟨_, rfl, ?_⟩; obtain ⟨BxHO129, hBxHO129⟩ := RPW.ivB hb; have HO129 := Aside0.mk (Kd.S_lower (Kd.bY_ (ok' := fun k_ => (BxHO129 ≤ k_) ∧ some k_ ≠ (v106 : Value).ownBlock ∧ some k_ ≠ (.slice Ao53 t112.length co53 : Value).ownBlock) (Kd.dh_ ho0) (fun k_ hk_ => ⟨(by have h1_ := hk_.2.1; omega), (Kd.fresh' (Kd.N_lt (nz HO_10.out)) k_ hk_.2.1), (Kd.fresh' (Kd.S_lt (sz HO_13.out)) k_ hk_.2.1)⟩)) (ae_ (bz HB.out))); replace HO_10 := Aside0.mk (Kd.cs_ (ok' := fun k_ => (0 ≤ k_ ∧ k_ < BxHO111 ∧ k_ < BxHO115 ∧ k_ < BxHO119 ∧ k_ < BxHO129) ∧ some k_ ≠ (.slice Ao53 t112.length co53 : Value).ownBlock ∧ some k_ ≠ (v128 : Value).ownBlock) (Kd.N_old (HO_10.out) hb) (fun k_ hk_ => ⟨(by have h1_ := hk_.1.1; have h2_ := hk_.2; omega), hk_.1.2, fun e_ => Nat.not_le.2 hk_.2 (Kd.dr_ ho0 k_ e_.symm)⟩)); replace HO_13 := Aside0.mk (Kd.bY_ (ok' := fun k_ => (BxHO115 ≤ k_ ∧ k_ < BxHO119 ∧ k_ < BxHO129) ∧ some k_ ≠ (v106 : Value).ownBlock ∧ some k_ ≠ (v128 : Value).ownBlock) (Kd.S_old (HO_13.out) hb) (fun k_ hk_ => ⟨(by have h1_ := hk_.1.1; have h2_ := hk_.2; omega), hk_.1.2, fun e_ => Nat.not_le.2 hk_.2 (Kd.dr_ ho0 k_ e_.symm)⟩)); replace HB := Aside0.mk (ag_ (bz HB.out) hb); (try clear hb); (try clear ho0); obtain ⟨Ao62, co62, eo62⟩ := Kd.dB_ HO129.out; subst eo62) | ((with_reducible refine am_ (f := 22) rfl ?_); refine aX_ (some 94) rfl rfl Try.func22 (by kernel_rfl) rfl #[.slice Ao62 t127.length co62, .int .i64 a1, .int .i64 a2, .string a3] rfl (by first | rfl | (simp only [List.map_toArray, List.map_cons, List.map_nil]; first | done | rfl)) ?_; (with_reducible refine (aP_.calls kj37 _ _ t127 a1 a2 a3 t130 t131 _ ?side1 ?side2 A59.out).mono ?_); (case side1 => exact cz (Kd.cd_ HO129.out).2.2); (case side2 => exact (Kd.cd_ HO129.out).2.1); rintro e w63 ⟨v132, rfl, ho0, hb⟩; refine ⟨_, rfl, ?_⟩; obtain ⟨BxHO133, hBxHO133⟩ := RPW.ivB hb; have HO133 := Aside0.mk (Kd.S_lower (Kd.bY_ (ok' := fun k_ => (BxHO133 ≤ k_) ∧ some k_ ≠ (v106 : Value).ownBlock ∧ some k_ ≠ (.slice Ao53 t112.length co53 : Value).ownBlock ∧ some k_ ≠ (.slice Ao62 t127.length co62 : Value).ownBlock) (Kd.dh_ ho0) (fun k_ hk_ => ⟨(by have h1_ := hk_.2.1; omega), (Kd.fresh' (Kd.N_lt (nz HO_10.out)) k_ hk_.2.1), (Kd.fresh' (Kd.S_lt (sz HO_13.out)) k_ hk_.2.1), (Kd.fresh' (Kd.S_lt (sz HO129.out)) k_ hk_.2.1)⟩)) (ae_ (bz HB.out))); replace HO_10 := Aside0.mk (Kd.cs_ (ok' := fun k_ => (0 ≤ k_ ∧ k_ < BxHO111 ∧ k_ < BxHO115 ∧ k_ < BxHO119 ∧ k_ < BxHO129 ∧ k_ < BxHO133) ∧ some k_ ≠ (.slice Ao53 t112.length co53 : Value).ownBlock ∧ some k_ ≠ (.slice Ao62 t127.length co62 : Value).ownBlock ∧ some k_ ≠ (v132 : Value).ownBlock) (Kd.N_old (HO_10.out) hb) (fun k_ hk_ => ⟨(by have h1_ := hk_.1.1; have h2_ := hk_.2; omega), hk_.1.2.1, hk_.1.2.2, fun e_ => Nat.not_le.2 hk_.2 (Kd.dr_ ho0 k_ e_.symm)⟩)); replace HO_13 := Aside0.mk (Kd.bY_ (ok' := fun k_ => (BxHO115 ≤ k_ ∧ k_ < BxHO119 ∧ k_ < BxHO129 ∧ k_ < BxHO133) ∧ some k_ ≠ (v106 : Value).ownBlock ∧ some k_ ≠ (.slice Ao62 t127.length co62 : Value).ownBlock ∧ some k_ ≠ (v132 : Value).ownBlock) (Kd.S_old (HO_13.out) hb) (fun k_ hk_ => ⟨(by have h1_ := hk_.1.1; have h2_ := hk_.2; omega), hk_.1.2.1, hk_.1.2.2, fun e_ => Nat.not_le.2 hk_.2 (Kd.dr_ ho0 k_ e_.symm)⟩)); replace HO129 := Aside0.mk (Kd.bY_ (ok' := fun k_ => (BxHO129 ≤ k_ ∧ k_ < BxHO133) ∧ some k_ ≠ (v106 : Value).ownBlock ∧ some k_ ≠ (.slice Ao53 t112.length co53 : Value).ownBlock ∧ some k_ ≠ (v132 : Value).ownBlock) (Kd.S_old (HO129.out) hb) (fun k_ hk_ => ⟨(by have h1_ := hk_.1.1; have h2_ := hk_.2; omega), hk_.1.2.1, hk_.1.2.2, fun e_ => Nat.not_le.2 hk_.2 (Kd.dr_ ho0 k_ e_.symm)⟩)); replace HB := Aside0.mk (ag_ (bz HB.out) hb); (try clear hb); (try clear ho0)))
          (try simp only [Act.put, lsa_, ls0_, ls1_])
          go_cut [105] (fun v105 wc => ∃ (kq : Nat) (x105_59 : Bool), v105 = .bool x105_59 ∧ Aside0 (al_.j2 kq t125 t124 x105_59 = some r) ∧ Aside0 (kq ≤ kj37) ∧ Aside0 (Kd.S k78 78 wc w.heap.size (fun k_ => (BxHO115 ≤ k_ ∧ k_ < BxHO119 ∧ k_ < BxHO129 ∧ k_ < BxHO133)) (.slice Ao53 t112.length co53) t125) ∧ Aside0 (Below w.heap.size w wc))
          case first =>
           have H := HC60.out
           clear HC60
           replace H := Option.bind_eq_some_iff.mp H
           obtain ⟨t134, A640, H⟩ := H
           (try dsimp only at H)
           have A64 := Aside0.mk A640
           clear A640
           by_cases c65 : t134 = true
           rotate_left
           ·replace c65 := Bool.eq_false_iff.mpr c65
            subst c65
            have H1 : (al_.j2 kj37 t125 t124 true) = some r := by rw [if_neg (show ¬ (false = true) by decide)] at H; exact H
            clear H
            have H := H1
            clear H1
            have H' := Aside0.mk H
            clear H
            obtain ⟨Ao69, co69, eo69⟩ := Kd.dB_ HO133.out
            subst eo69
            obtain ⟨Ao70, co70, eo70⟩ := Kd.dz_ HO_10.out
            subst eo70
            go_wp2_with (first | ((with_reducible refine am_ (f := 23) rfl ?_); refine aX_ (some 99) rfl rfl Try.func23 (by kernel_rfl) rfl #[.slice Ao69 t130.length co69, .slice Ao70 t105.length co70] rfl (by first | rfl | (simp only [List.map_toArray, List.map_cons, List.map_nil]; first | done | rfl)) ?_; (with_reducible refine (aC_.calls kj37 _ _ t130 _ _ t105 false _ ?side1 ?side2 ?side3 ?side4 A64.out).mono ?_); (case side1 => exact cz (Kd.cd_ HO133.out).2.2); (case side2 => exact (Kd.cd_ HO133.out).2.1); (case side3 => exact cz (Kd.cp_ HO_10.out).2.2); (case side4 => exact (Kd.cp_ HO_10.out).2.1); rintro e w71 ⟨rfl, hb⟩; refine ⟨_, rfl, ?_⟩; replace HO_10 := Aside0.mk (Kd.dC_ (nz HO_10.out) hb); replace HO_13 := Aside0.mk (Kd.ct_ (sz HO_13.out) hb); replace HO129 := Aside0.mk (Kd.ct_ (sz HO129.out) hb); replace HO133 := Aside0.mk (Kd.ct_ (sz HO133.out) hb); replace HB := Aside0.mk (ag_ (bz HB.out) hb); (try clear hb)))
            go_meet
            case rel => exact ⟨_, (true), (by first | rfl | (simp; done) | (simp [*]; done)), H', ⟨by have := HJ13.out; have := HJ37.out; first | omega | exact Nat.le_refl _⟩, ⟨sz (Kd.bY_ HO_13.out (fun _ hk => (by have h_ := hk.1; omega)))⟩, ⟨bz HB.out⟩⟩
           subst c65
           have H1 : (al_.j2 kj37 t125 t124 (t131 != t108)) = some r := by rw [if_pos rfl] at H; exact H
           clear H
           have H := H1
           clear H1
           have H' := Aside0.mk H
           clear H
           obtain ⟨Ao66, co66, eo66⟩ := Kd.dB_ HO133.out
           subst eo66
           obtain ⟨Ao67, co67, eo67⟩ := Kd.dz_ HO_10.out
           subst eo67
           go_wp2_with (first | ((with_reducible refine am_ (f := 23) rfl ?_); refine aX_ (some 99) rfl rfl Try.func23 (by kernel_rfl) rfl #[.slice Ao66 t130.length co66, .slice Ao67 t105.length co67] rfl (by first | rfl | (simp only [List.map_toArray, List.map_cons, List.map_nil]; first | done | rfl)) ?_; (with_reducible refine (aC_.calls kj37 _ _ t130 _ _ t105 true _ ?side1 ?side2 ?side3 ?side4 A64.out).mono ?_); (case side1 => exact cz (Kd.cd_ HO133.out).2.2); (case side2 => exact (Kd.cd_ HO133.out).2.1); (case side3 => exact cz (Kd.cp_ HO_10.out).2.2); (case side4 => exact (Kd.cp_ HO_10.out).2.1); rintro e w68 ⟨rfl, hb⟩; refine ⟨_, rfl, ?_⟩; replace HO_10 := Aside0.mk (Kd.dC_ (nz HO_10.out) hb); replace HO_13 := Aside0.mk (Kd.ct_ (sz HO_13.out) hb); replace HO129 := Aside0.mk (Kd.ct_ (sz HO129.out) hb); replace HO133 := Aside0.mk (Kd.ct_ (sz HO133.out) hb); replace HB := Aside0.mk (ag_ (bz HB.out) hb); (try clear hb)))
           go_meet
           case rel => exact ⟨_, ((t131 != t108)), (by first | rfl | (simp; done) | (simp [*]; done)), H', ⟨by have := HJ13.out; have := HJ37.out; first | omega | exact Nat.le_refl _⟩, ⟨sz (Kd.bY_ HO_13.out (fun _ hk => (by have h_ := hk.1; omega)))⟩, ⟨bz HB.out⟩⟩
          case rest =>
           clear HC60
           obtain ⟨kq, x105_59, rfl, HA, HJ59, HO_13, HB⟩ := hcut
           have hl13_59 := (Kd.cd_ HO_13.out).1
           rw [hl13_59] at HO_13
           (try simp only [hl13_59])
           cases kq with
           | zero => exact absurd HA.out (by simp [al_.j2])
           | succ kj59 =>
            have H := HA.out
            clear HA
            simp only [al_.j2] at H
            by_cases c72 : x105_59 = true
            rotate_left
            ·replace c72 := Bool.eq_false_iff.mpr c72
             subst c72
             have H1 : ((aI_.f kj59 t125 1).bind fun t135 => (if t135 < 0 then (some false) else (if t135 = t124 then (some true) else (some false)))) = some r := by rw [if_neg (show ¬ (false = true) by decide)] at H; exact H
             clear H
             have H := H1
             clear H1
             replace H := Option.bind_eq_some_iff.mp H
             obtain ⟨t135, A730, H⟩ := H
             (try dsimp only at H)
             have A73 := Aside0.mk A730
             clear A730
             have HC74 := Aside0.mk H
             clear H
             go_upto_if 110 with (first | ((with_reducible refine am_ (f := 25) rfl ?_); refine aX_ (some 108) rfl rfl Try.func25 (by kernel_rfl) rfl #[.slice Ao53 t125.length co53, .int .i64 1] rfl (by first | rfl | (simp only [List.map_toArray, List.map_cons, List.map_nil]; first | done | rfl)) ?_; (with_reducible refine (aI_.calls kj59 _ _ t125 1 t135 _ ?side1 ?side2 A73.out).mono ?_); (case side1 => exact cz (Kd.cd_ HO_13.out).2.2); (case side2 => exact (Kd.cd_ HO_13.out).2.1); rintro e w75 ⟨rfl, hb⟩; refine ⟨_, rfl, ?_⟩; replace HO_13 := Aside0.mk (Kd.ct_ (sz HO_13.out) hb); replace HB := Aside0.mk (ag_ (bz HB.out) hb); (try clear hb)))
             (try simp only [Act.put, lsa_, ls0_, ls1_])
             have H := HC74.out
             clear HC74
             by_cases c76 : t135 < 0
             rotate_left
             ·rw [if_neg c76] at H
              have c76b0 : decide (t135 < 0) = false := decide_eq_false c76
              clear c76
              (first | rw [c76b0] | (simp only [i64_w, i32_w]; rw [c76b0]) | (simp only [c76b1, Bool.not_true, Bool.not_false]) | (simp only [c76b0, Bool.not_true, Bool.not_false]) | skip)
              by_cases c77 : t135 = t124
              rotate_left
              ·rw [if_neg c77] at H
               have c77b0 : (t135 == t124) = false := beq_eq_false_iff_ne.mpr c77
               have c77b1 : (t135 != t124) = true := bne_iff_ne.mpr c77
               obtain rfl := Option.some.inj H
               go_wp2
               go_ret
               exact ⟨by first | rfl | (simp [*, an_, ao_] <;> rfl), bz HB.out⟩
              rw [if_pos c77] at H
              have c77b0 : (t135 == t124) = true := beq_iff_eq.mpr c77
              have c77b1 : (t135 != t124) = false := bne_eq_false_iff_eq.mpr c77
              clear c77
              obtain rfl := Option.some.inj H
              go_wp2
              go_ret
              exact ⟨by first | rfl | (simp [*, an_, ao_] <;> rfl), bz HB.out⟩
             rw [if_pos c76] at H
             have c76b0 : decide (t135 < 0) = true := decide_eq_true c76
             clear c76
             (first | rw [c76b0] | (simp only [i64_w, i32_w]; rw [c76b0]) | (simp only [c76b1, Bool.not_true, Bool.not_false]) | (simp only [c76b0, Bool.not_true, Bool.not_false]) | skip)
             obtain rfl := Option.some.inj H
             go_wp2
             go_ret
             exact ⟨by first | rfl | (simp [*, an_, ao_] <;> rfl), bz HB.out⟩
            subst c72
            have H1 : (some false) = some r := by rw [if_pos rfl] at H; exact H
            clear H
            have H := H1
            clear H1
            obtain rfl := Option.some.inj H
            go_wp2
            go_ret
            exact ⟨by first | rfl | (simp [*, an_, ao_] <;> rfl), bz HB.out⟩
         rw [if_pos c56] at H
         have c56b0 : decide (t126 < 0) = true := decide_eq_true c56
         clear c56
         (first | rw [c56b0] | (simp only [i64_w, i32_w]; rw [c56b0]) | (simp only [c56b1, Bool.not_true, Bool.not_false]) | (simp only [c56b0, Bool.not_true, Bool.not_false]) | skip)
         obtain rfl := Option.some.inj H
         go_wp2
         go_ret
         exact ⟨by first | rfl | (simp [*, an_, ao_] <;> rfl), bz HB.out⟩
        subst c49
        have H1 : (some false) = some r := by rw [if_pos rfl] at H; exact H
        clear H
        have H := H1
        clear H1
        obtain rfl := Option.some.inj H
        go_wp2
        go_ret
        exact ⟨by first | rfl | (simp [*, an_, ao_] <;> rfl), bz HB.out⟩
     subst c29
     have H1 : (some false) = some r := by rw [if_pos rfl] at H; exact H
     clear H
     have H := H1
     clear H1
     obtain rfl := Option.some.inj H
     go_wp2
     go_ret
     exact ⟨by first | rfl | (simp [*, an_, ao_] <;> rfl), bz HB.out⟩
  rw [if_pos c9] at H
  have c9b0 : decide (t101 < 0) = true := decide_eq_true c9
  clear c9
  (first | rw [c9b0] | (simp only [i64_w, i32_w]; rw [c9b0]) | (simp only [c9b1, Bool.not_true, Bool.not_false]) | (simp only [c9b0, Bool.not_true, Bool.not_false]) | skip)
  obtain rfl := Option.some.inj H
  go_wp2
  go_ret
  exact ⟨by first | rfl | (simp [*, an_, ao_] <;> rfl), bz HB.out⟩
 rw [if_pos c5] at H
 have c5b0 : decide (1048576 < (a3.size : Int)) = true := decide_eq_true c5
 have c5b1 : decide (1048576 < a3.size) = true := decide_eq_true (by omega)
 clear c5
 obtain rfl := Option.some.inj H
 go_enter Try.func5, Try.ntmps5
 go_wp2
 go_ret
 exact ⟨by first | rfl | (simp [*, an_, ao_] <;> rfl), bz HB.out⟩
def al_.Pure : Prop := ∀ (x0 : List (S71)) (x1 : Int) (x2 : Int) (x3 : ByteArray), (x0.length ≤ maxLen ∧ ∀ y0 ∈ x0, W71 y0) → (Lit.int .i64 x1).wf = true → (Lit.int .i64 x2).wf = true → x3.size ≤ maxLen → ∃ k, al_.f k x0 x1 x2 x3 = some true
end Go.Proofs.Ytiheginanghhjaa.Q
namespace Go.Proofs.Ytiheginanghhjaa.Q
open Go.RowKit Go.Proofs.YtiheginanghhjaaW.PrintWords Go.Proofs.YtiheginanghhjaaW.PrintLast Go.Proofs.YtiheginanghhjaaW.PrintMore
theorem wr64 {x : Int} (h0 : -9223372036854775808 ≤ x) (h1 : x < 9223372036854775808) : wrap64 x = x := by unfold wrap64; omega
theorem wr64s (i : Nat) (h : (i : Int) < 9223372036854775807) : wrap64 ((i : Int) + 1) = ((i + 1 : Nat) : Int) := by rw [wr64 (by omega) (by omega)]; omega
theorem aZ_ {α : Type} {g : Nat → Option α} {r : α} (h : Ev (fun k => g (k + 1)) r) : Ev g r := by
 obtain ⟨K, hK⟩ := h
 refine ⟨K + 1, fun k hk => ?_⟩
 obtain ⟨m, rfl⟩ : ∃ m, k = m + 1 := ⟨k - 1, by omega⟩
 exact hK m (by omega)
theorem Ev_t {α : Type} {c : Prop} [Decidable c] {f g : Nat → Option α} {r : α} (h : c) (k : Ev f r) : Ev (fun n => if c then f n else g n) r := by
 obtain ⟨K, hK⟩ := k
 exact ⟨K, fun n hn => (if_pos h).trans (hK n hn)⟩
theorem Ev_f {α : Type} {c : Prop} [Decidable c] {f g : Nat → Option α} {r : α} (h : ¬ c) (k : Ev g r) : Ev (fun n => if c then f n else g n) r := by
 obtain ⟨K, hK⟩ := k
 exact ⟨K, fun n hn => (if_neg h).trans (hK n hn)⟩
theorem Ev_b {α β : Type} {g : Nat → Option α} {f : Nat → α → Option β} {a : α} {r : β} (h : Ev g a) (k : Ev (fun n => f n a) r) : Ev (fun n => (g n).bind (fun x => f n x)) r := Ev.bind h k
theorem Ev_s {α β : Type} {a : α} {f : Nat → α → Option β} {r : β} (k : Ev (fun n => f n a) r) : Ev (fun n => (some a).bind (fun x => f n x)) r := k
theorem Ev_n {α : Type} {a r : α} (h : a = r) : Ev (fun _ => some a) r := ⟨0, fun _ _ => by rw [h]⟩
theorem Ev_c {α : Type} {o : Option α} {r : α} (h : o = some r) : Ev (fun _ => o) r := ⟨0, fun _ _ => h⟩
theorem Ev_at {α : Type} {g : Nat → Option α} {r r' : α} (h : Ev g r) (e : r = r') : Ev g r' := e ▸ h
theorem Ev_two {α β : Type} {g : Nat → Option α} {f : Nat → Option β} {a : α} {b : β} (h : Ev g a) (k : Ev f b) : ∃ K, ∀ n, K ≤ n → g n = some a ∧ f n = some b := by
 obtain ⟨K, hK⟩ := h
 obtain ⟨L, hL⟩ := k
 exact ⟨max K L, fun n hn => ⟨hK n (by omega), hL n (by omega)⟩⟩
theorem Ev_one {α : Type} {g : Nat → Option α} {a b : α} (h : Ev g a) (k : Ev g b) : a = b := by
 obtain ⟨K, hK⟩ := Ev_two h k
 have := hK K (Nat.le_refl _)
 have h2 := this.1.symm.trans this.2
 exact Option.some.inj h2
def cut (c s : Int) : Int := if s ≤ c then c - s else -1
theorem cut_pos {c s : Int} (h : s ≤ c) : cut c s = c - s := by unfold cut; rw [if_pos h]
theorem dq_ {c s : Int} (h : ¬ s ≤ c) : cut c s = -1 := by unfold cut; rw [if_neg h]
theorem set_take' {α : Type} (xs : List α) (i : Nat) (m : α) (h : i < xs.length) : (xs.set i m).take (i + 1) = xs.take i ++ [m] := by
 rw [List.take_succ_eq_append_getElem (by simpa using h)]
 congr 1
 ·rw [List.take_set_of_le (Nat.le_refl _)]
 ·simp
theorem getD_in {α : Type} (l : List α) (z : α) (i : Nat) (h : i < l.length) : l.getD ((i : Int).toNat) z = l[i] := by simp [List.getD, h]
theorem getD_at {α : Type} (p q : List α) (z x : α) (i : Nat) (h : p.length = i) : (p ++ x :: q).getD ((i : Int).toNat) z = x := by subst h; simp [List.getD]
theorem set_at {α : Type} (p q : List α) (x y : α) (i : Nat) (h : p.length = i) : (p ++ x :: q).set ((i : Int).toNat) y = p ++ y :: q := by subst h; simp
theorem sum_le {α : Type} (f : α → Nat) : ∀ (l : List α) (x : α), x ∈ l → f x ≤ (l.map f).sum
 | a :: l, x, h => by
  rw [List.map_cons, List.sum_cons]
  rcases List.mem_cons.1 h with rfl | h
  ·omega
  ·have := sum_le f l x h; omega
theorem markText_ev (c : Int) (h0 : 0 ≤ c) (h1 : c ≤ 1000000000000000000) : ∃ t, Ev (fun k => bk_.f k c) t := by
 have go : ∀ (d : Nat) (c : Int) (s : ByteArray), 0 ≤ c → c < 10 ^ d → c ≤ 1000000000000000000 → s.size + d ≤ 1000 → ∃ t, Ev (fun k => bk_.l0 k c s) t := by
  intro d
  induction d with
  | zero =>
   intro c s h0 h1 h2 h3
   refine ⟨(⟨#[109]⟩ : ByteArray) ++ s, aZ_ ?_⟩
   simp only [bk_.l0]
   refine Ev_f (by simp at h1; omega) (Ev_t (by omega) (Ev_n rfl))
  | succ d ih =>
   intro c s h0 h1 h2 h3
   by_cases hc : c > 0
   rotate_left
   ·refine ⟨(⟨#[109]⟩ : ByteArray) ++ s, aZ_ ?_⟩
    simp only [bk_.l0]
    refine Ev_f hc (Ev_t (by omega) (Ev_n rfl))
   have e1 : (strOfNums [(wrap64 (48 + Int.tmod c 10)) % 256]).size = 1 := rfl
   have e2 : wrap64 (Int.tdiv c 10) = c / 10 := by rw [Int.tdiv_eq_ediv_of_nonneg h0, wr64 (by omega) (by omega)]
   obtain ⟨t, ht⟩ := ih (c / 10) (strOfNums [(wrap64 (48 + Int.tmod c 10)) % 256] ++ s) (by omega) (by rw [Int.pow_succ] at h1; omega) (by omega) (by rw [ByteArray.size_append, e1]; omega)
   refine ⟨t, aZ_ ?_⟩
   simp only [bk_.l0]
   refine Ev_t hc (Ev_s (Ev_t (by rw [e1]; omega) ?_))
   rw [e2]
   exact ht
 by_cases hc : c ≤ 0
 rotate_left
 ·obtain ⟨t, ht⟩ := go 19 c (⟨#[]⟩ : ByteArray) h0 (by omega) h1 (by simp [ByteArray.size])
  refine ⟨t, ?_⟩
  simp only [bk_.f]
  exact Ev_f hc ht
 refine ⟨(⟨#[109, 48]⟩ : ByteArray), ?_⟩
 simp only [bk_.f]
 exact Ev_t hc (Ev_n rfl)
def dE_ (x : S57) : Nat := x.f0.size
theorem sz_Veneer (x : S57) (hw : W57 x) (c : Int) (h0 : 0 ≤ c) (h1 : c ≤ 1048576) : Ev (fun k => cR_.f (x.f0) (x.f1) (x.f2) c) (cut c (dE_ x)) := by
 have hM : maxLen = 9223372036854775807 := by decide
 unfold W57 at hw
 obtain ⟨w0, w1, w2⟩ := hw
 simp only [cR_.f]
 have b0 : x.f0.size ≤ maxLen := w0
 rw [hM] at b0
 have e0 : wrap64 (c - ((x.f0.size : Nat) : Int)) = c - ((x.f0.size : Nat) : Int) := wr64 (by omega) (by omega)
 simp only [e0]
 by_cases g0 : c - ((x.f0.size : Nat) : Int) < 0
 ·rw [dq_ (by unfold dE_; omega)]; exact Ev_t g0 (Ev_n rfl)
 refine Ev_f g0 ?_
 obtain ⟨c0, hc0⟩ : ∃ z_, z_ = c - ((x.f0.size : Nat) : Int) := ⟨_, rfl⟩
 simp only [← hc0]
 rw [cut_pos (by unfold dE_; omega)]
 exact Ev_n (by unfold dE_; omega)
def conv_Veneer (x : S57) : S61 := ⟨x.f0, x.f1, x.f2⟩
def B_Veneer (x : S57) : Prop := True
theorem B_of_Veneer (x : S57) (h : (dE_ x : Int) ≤ 1048576) : B_Veneer x := by
 unfold dE_ at h
 unfold B_Veneer
 trivial
theorem to_Veneer (x : S57) (hb : B_Veneer x) : Ev (fun k => cQ_.f (x.f0) (x.f1) (x.f2)) ((conv_Veneer x).f0, (conv_Veneer x).f1, (conv_Veneer x).f2) := by
 unfold B_Veneer at hb
 simp only [cQ_.f]
 exact Ev_n rfl
def E_Veneer (x : S61) : Prop := True
theorem E_of_Veneer (x : S57) (hb : B_Veneer x) : E_Veneer (conv_Veneer x) := by
 unfold B_Veneer at hb
 unfold E_Veneer
 exact trivial
theorem eq_Veneer (x : S61) (he : E_Veneer x) : Ev (fun k => cN_.f (x.f0) (x.f1) (x.f2) (x.f0) (x.f1) (x.f2)) true := by
 unfold E_Veneer at he
 simp only [cN_.f, if_true]
 exact Ev_n rfl
theorem rdl_Entry (l : List S59) (i : Nat) (h : i < l.length) : cD_ l (i : Int) = l[i] := by unfold cD_; exact getD_in l _ i h
theorem bR_ (l : List S63) (i : Nat) (h : i < l.length) : af_ l (i : Int) = l[i] := by unfold af_; exact getD_in l _ i h
theorem rda_Entry (a b : List S63) (x : S63) (i : Nat) (h : a.length = i) : af_ (a ++ x :: b) (i : Int) = x := by unfold af_; exact getD_at a b _ x i h
def dx_ (x : S59) : Nat := x.f0.size + (dE_ x.f1)
def du_ (l : List S59) : Nat := l.length + (l.map dx_).sum
theorem ZS_in_Entry (l : List S59) : l.length ≤ du_ l ∧ ∀ y ∈ l, dx_ y ≤ du_ l := ⟨by unfold du_; omega, fun y hy => by have := sum_le dx_ l y hy; unfold du_; omega⟩
theorem sz_Entry (x : S59) (hw : W59 x) (c : Int) (h0 : 0 ≤ c) (h1 : c ≤ 1048576) : Ev (fun k => dj_.f (x.f0) (x.f1.f0) (x.f1.f1) (x.f1.f2) c) (cut c (dx_ x)) := by
 have hM : maxLen = 9223372036854775807 := by decide
 unfold W59 at hw
 obtain ⟨w0, w1⟩ := hw
 simp only [dj_.f]
 have b0 : x.f0.size ≤ maxLen := w0
 rw [hM] at b0
 have e0 : wrap64 (c - ((x.f0.size : Nat) : Int)) = c - ((x.f0.size : Nat) : Int) := wr64 (by omega) (by omega)
 simp only [e0]
 by_cases g0 : c - ((x.f0.size : Nat) : Int) < 0
 ·rw [dq_ (by unfold dx_; omega)]; exact Ev_t g0 (Ev_n rfl)
 refine Ev_f g0 ?_
 obtain ⟨c0, hc0⟩ : ∃ z_, z_ = c - ((x.f0.size : Nat) : Int) := ⟨_, rfl⟩
 simp only [← hc0]
 refine Ev_b (sz_Veneer x.f1 w1 c0 (by omega) (by omega)) ?_
 by_cases g1 : (((dE_ x.f1) : Nat) : Int) ≤ c0
 case neg => rw [dq_ g1, dq_ (by unfold dx_; omega)]; exact Ev_t (by decide) (Ev_n rfl)
 rw [cut_pos g1]
 refine Ev_f (by omega) ?_
 obtain ⟨c1, hc1⟩ : ∃ z_, z_ = c0 - (((dE_ x.f1) : Nat) : Int) := ⟨_, rfl⟩
 simp only [← hc1]
 rw [cut_pos (by unfold dx_; omega)]
 exact Ev_n (by unfold dx_; omega)
theorem szS_Entry (l : List S59) (hl : l.length ≤ maxLen) (hw : ∀ y ∈ l, W59 y) (c : Int) (h0 : 0 ≤ c) (h1 : c ≤ 1048576) : Ev (fun k => bS_.f k l c) (cut c (du_ l)) := by
 have hM : maxLen = 9223372036854775807 := by decide
 rw [hM] at hl
 have go : ∀ (d i : Nat) (c : Int), i + d = l.length → l.length ≤ 1048576 → 0 ≤ c → c ≤ 1048576 → Ev (fun k => bS_.l0 k l c i) (cut c (((l.drop i).map dx_).sum : Nat)) := by
  intro d
  induction d with
  | zero =>
   intro i c q1 q2 q3 q4
   refine aZ_ ?_
   simp only [bS_.l0]
   rw [List.drop_of_length_le (by omega), cut_pos (by simpa using q3)]
   exact Ev_f (by omega) (Ev_n (by simp))
  | succ d ih =>
   intro i c q1 q2 q3 q4
   refine aZ_ ?_
   simp only [bS_.l0]
   refine Ev_t (by omega) (Ev_t (by omega) ?_)
   rw [rdl_Entry l i (by omega)]
   refine Ev_b (sz_Entry l[i] (hw _ (List.getElem_mem _)) c q3 q4) ?_
   rw [List.drop_eq_getElem_cons (show i < l.length by omega), List.map_cons, List.sum_cons]
   by_cases g : ((dx_ l[i] : Nat) : Int) ≤ c
   case neg => rw [dq_ g, dq_ (by omega)]; exact Ev_t (by decide) (Ev_n rfl)
   rw [cut_pos g]
   refine Ev_f (by omega) ?_
   rw [wr64s i (by omega)]
   refine Ev_at (ih (i + 1) _ (by omega) q2 (by omega) (by omega)) ?_
   unfold cut
   split <;> split <;> omega
 simp only [bS_.f]
 rw [wr64 (x := c - (l.length : Int)) (by omega) (by omega)]
 by_cases g : c - (l.length : Int) < 0
 rotate_left
 ·refine Ev_f g (Ev_at (go l.length 0 _ (by omega) (by omega) (by omega) (by omega)) ?_)
  rw [List.drop_zero]
  unfold cut du_
  split <;> split <;> omega
 rw [dq_ (by unfold du_; omega)]
 exact Ev_t g (Ev_n rfl)
def cF_ (x : S59) : S63 := ⟨x.f0, (conv_Veneer x.f1)⟩
def B_Entry (x : S59) : Prop := B_Veneer x.f1
theorem B_of_Entry (x : S59) (h : (dx_ x : Int) ≤ 1048576) : B_Entry x := by
 unfold dx_ at h
 unfold B_Entry
 exact B_of_Veneer x.f1 (by omega)
theorem to_Entry (x : S59) (hb : B_Entry x) : Ev (fun k => dl_.f (x.f0) (x.f1.f0) (x.f1.f1) (x.f1.f2)) ((cF_ x).f0, (cF_ x).f1.f0, (cF_ x).f1.f1, (cF_ x).f1.f2) := by
 unfold B_Entry at hb
 simp only [dl_.f]
 refine Ev_b (to_Veneer x.f1 hb) ?_
 exact Ev_n rfl
theorem toS_Entry (l : List S59) (hl : (l.length : Int) ≤ 1048576) (hb : ∀ y ∈ l, B_Entry y) : Ev (fun k => bK_.f k l) (l.map cF_) := by
 have go : ∀ (d i : Nat) (xs : List S63), i + d = l.length → xs.length = l.length → xs.take i = (l.map cF_).take i → Ev (fun k => bK_.l0 k l xs i) (l.map cF_) := by
  intro d
  induction d with
  | zero =>
   intro i xs q1 q2 q3
   refine aZ_ ?_
   simp only [bK_.l0]
   rw [List.take_of_length_le (by omega), List.take_of_length_le (by simp; omega)] at q3
   rw [q3]
   exact Ev_f (by omega) (Ev_n rfl)
  | succ d ih =>
   intro i xs q1 q2 q3
   refine aZ_ ?_
   simp only [bK_.l0]
   refine Ev_t (by omega) (Ev_t (by omega) ?_)
   rw [rdl_Entry l i (by omega)]
   refine Ev_b (to_Entry l[i] (hb _ (List.getElem_mem _))) ?_
   refine Ev_t (by omega) ?_
   rw [wr64s i (by omega), Int.toNat_natCast]
   refine ih (i + 1) _ (by omega) (by rw [List.length_set]; exact q2) ?_
   rw [set_take' _ _ _ (by omega), q3, List.take_succ_eq_append_getElem (by simp; omega)]
   simp [cF_]
 simp only [bK_.f]
 refine Ev_t (by omega) (Ev_t (by omega) ?_)
 exact go l.length 0 _ (by omega) (by simp) (by simp)
def E_Entry (x : S63) : Prop := E_Veneer x.f1
theorem E_of_Entry (x : S59) (hb : B_Entry x) : E_Entry (cF_ x) := by
 unfold B_Entry at hb
 unfold E_Entry
 exact E_of_Veneer _ hb
theorem eq_Entry (x : S63) (he : E_Entry x) : Ev (fun k => dm_.f (x.f0) (x.f1.f0) (x.f1.f1) (x.f1.f2) (x.f0) (x.f1.f0) (x.f1.f1) (x.f1.f2)) true := by
 unfold E_Entry at he
 simp only [dm_.f, if_true]
 refine Ev_b (eq_Veneer x.f1 he) ?_
 simp only [if_true]
 exact Ev_n rfl
theorem eqS_Entry (m : List S63) (hl : (m.length : Int) ≤ 1048576) (he : ∀ y ∈ m, E_Entry y) : Ev (fun k => bt_.f k m m) true := by
 have go : ∀ (d i : Nat), i + d = m.length → Ev (fun k => bt_.l0 k m m i) true := by
  intro d
  induction d with
  | zero =>
   intro i q1
   refine aZ_ ?_
   simp only [bt_.l0]
   exact Ev_f (by omega) (Ev_n rfl)
  | succ d ih =>
   intro i q1
   refine aZ_ ?_
   simp only [bt_.l0]
   refine Ev_t (by omega) (Ev_t (by omega) (Ev_t (by omega) ?_))
   rw [bR_ m i (by omega)]
   refine Ev_b (eq_Entry m[i] (he _ (List.getElem_mem _))) ?_
   rw [wr64s i (by omega)]
   exact Ev_t rfl (ih (i + 1) (by omega))
 simp only [bt_.f]
 exact Ev_t (by first | trivial | rfl) (go m.length 0 (by omega))
theorem mk_Entry (l : List S63) (c : Int) (h0 : 0 ≤ c) (h1 : c ≤ 1000000000000000) (hl : (l.length : Int) ≤ 1000000000000) : ∃ l', l'.length = l.length ∧ Ev (fun k => bw_.f k l c) (c + 4 * l.length, l') ∧ Ev (fun k => aJ_.f k l' c) (c + 4 * l.length) := by
 have go : ∀ (q p : List S63) (i : Nat) (c : Int), p.length = i → 0 ≤ c → c + 4 * q.length ≤ 100000000000000000 → (i : Int) + q.length ≤ 1000000000000 → ∃ q', q'.length = q.length ∧ Ev (fun k => bw_.l0 k (p ++ q) c i) (c + 4 * q.length, p ++ q') ∧ ∀ r : List S63, r.length = i → Ev (fun k => aJ_.l0 k (r ++ q') c i) (c + 4 * q.length) := by
  intro q
  induction q with
  | nil =>
   intro p i c q1 q2 q3 q4
   refine ⟨[], rfl, aZ_ ?_, fun r hr => aZ_ ?_⟩
   ·simp only [bw_.l0]
    exact Ev_f (by simp; omega) (Ev_n (by simp))
   ·simp only [aJ_.l0]
    exact Ev_f (by simp; omega) (Ev_n (by simp))
  | cons x q ih =>
   intro p i c q1 q2 q3 q4
   simp only [List.length_cons] at q3 q4
   have e0 : wrap64 (c + 1) = c + 1 := (wr64 (by omega) (by omega)).trans (by omega)
   have e1 : wrap64 (c + 1 + 1) = c + 2 := (wr64 (by omega) (by omega)).trans (by omega)
   have e2 : wrap64 (c + 2 + 1) = c + 3 := (wr64 (by omega) (by omega)).trans (by omega)
   have e3 : wrap64 (c + 3 + 1) = c + 4 := (wr64 (by omega) (by omega)).trans (by omega)
   obtain ⟨t0, ht0⟩ := markText_ev (c) (by omega) (by omega)
   obtain ⟨t1, ht1⟩ := markText_ev (c + 1) (by omega) (by omega)
   obtain ⟨q', hq, hm, hh⟩ := ih (p ++ [(⟨t0, (⟨t1, c + 2, c + 3⟩ : S61)⟩ : S63)]) (i + 1) (c + 4) (by simp; omega) (by omega) (by omega) (by omega)
   refine ⟨(⟨t0, (⟨t1, c + 2, c + 3⟩ : S61)⟩ : S63) :: q', by simp [hq], aZ_ ?_, fun r hr => aZ_ ?_⟩
   ·simp only [bw_.l0, e0, e1, e2, e3, set_at p q _ _ i q1, rda_Entry p q _ i q1]
    refine Ev_t (by simp; omega) ?_
    refine Ev_b ht0 ?_
    refine Ev_t (by omega) ?_
    refine Ev_s ?_
    try simp only [e0, e1, e2, e3, set_at p q _ _ i q1, rda_Entry p q _ i q1]
    refine Ev_b ht1 ?_
    refine Ev_s ?_
    try simp only [e0, e1, e2, e3, set_at p q _ _ i q1, rda_Entry p q _ i q1]
    refine Ev_s ?_
    try simp only [e0, e1, e2, e3, set_at p q _ _ i q1, rda_Entry p q _ i q1]
    try simp only [e0, e1, e2, e3, set_at p q _ _ i q1, rda_Entry p q _ i q1]
    rw [wr64s i (by omega)]
    have hm' := hm
    rw [List.append_assoc, List.singleton_append, List.append_assoc, List.singleton_append] at hm'
    exact Ev_at hm' (by simp only [List.length_cons, Prod.mk.injEq, and_true]; omega)
   ·simp only [aJ_.l0, e0, e1, e2, e3, rda_Entry r q' _ i hr]
    refine Ev_t (by simp; omega) ?_
    refine Ev_t (by omega) ?_
    refine Ev_b ht0 ?_
    refine Ev_t (by first | rfl | exact True.intro | omega) ?_
    refine Ev_b ht1 ?_
    refine Ev_t (by first | rfl | exact True.intro | omega) ?_
    refine Ev_t (by first | rfl | exact True.intro | omega) ?_
    refine Ev_t (by first | rfl | exact True.intro | omega) ?_
    rw [wr64s i (by omega)]
    have hh' := hh (r ++ [(⟨t0, (⟨t1, c + 2, c + 3⟩ : S61)⟩ : S63)]) (by simp; omega)
    rw [List.append_assoc, List.singleton_append] at hh'
    exact Ev_at hh' (by simp only [List.length_cons]; omega)
 obtain ⟨l', e1, e2, e3⟩ := go l [] 0 c rfl h0 (by omega) (by simpa using hl)
 refine ⟨l', e1, ?_, ?_⟩
 ·simp only [bw_.f]; exact e2
 ·simp only [aJ_.f]; exact e3 [] rfl
theorem rdl_Version (l : List S71) (i : Nat) (h : i < l.length) : cA_ l (i : Int) = l[i] := by unfold cA_; exact getD_in l _ i h
theorem cI_ (l : List S78) (i : Nat) (h : i < l.length) : ak_ l (i : Int) = l[i] := by unfold ak_; exact getD_in l _ i h
theorem rda_Version (a b : List S78) (x : S78) (i : Nat) (h : a.length = i) : ak_ (a ++ x :: b) (i : Int) = x := by unfold ak_; exact getD_at a b _ x i h
def cH_ (x : S71) : Nat := x.f2.size + (du_ x.f3)
def di_ (l : List S71) : Nat := l.length + (l.map cH_).sum
theorem ZS_in_Version (l : List S71) : l.length ≤ di_ l ∧ ∀ y ∈ l, cH_ y ≤ di_ l := ⟨by unfold di_; omega, fun y hy => by have := sum_le cH_ l y hy; unfold di_; omega⟩
theorem sz_Version (x : S71) (hw : W71 x) (c : Int) (h0 : 0 ≤ c) (h1 : c ≤ 1048576) : Ev (fun k => cW_.f k (x.f0) (x.f1) (x.f2) (x.f3) c) (cut c (cH_ x)) := by
 have hM : maxLen = 9223372036854775807 := by decide
 unfold W71 at hw
 obtain ⟨w0, w1, w2, w3⟩ := hw
 simp only [cW_.f]
 have b2 : x.f2.size ≤ maxLen := w2
 rw [hM] at b2
 have e2 : wrap64 (c - ((x.f2.size : Nat) : Int)) = c - ((x.f2.size : Nat) : Int) := wr64 (by omega) (by omega)
 simp only [e2]
 by_cases g2 : c - ((x.f2.size : Nat) : Int) < 0
 ·rw [dq_ (by unfold cH_; omega)]; exact Ev_t g2 (Ev_n rfl)
 refine Ev_f g2 ?_
 obtain ⟨c2, hc2⟩ : ∃ z_, z_ = c - ((x.f2.size : Nat) : Int) := ⟨_, rfl⟩
 simp only [← hc2]
 refine Ev_b (szS_Entry x.f3 w3.1 w3.2 c2 (by omega) (by omega)) ?_
 by_cases g3 : (((du_ x.f3) : Nat) : Int) ≤ c2
 case neg => rw [dq_ g3, dq_ (by unfold cH_; omega)]; exact Ev_t (by decide) (Ev_n rfl)
 rw [cut_pos g3]
 refine Ev_f (by omega) ?_
 obtain ⟨c3, hc3⟩ : ∃ z_, z_ = c2 - (((du_ x.f3) : Nat) : Int) := ⟨_, rfl⟩
 simp only [← hc3]
 rw [cut_pos (by unfold cH_; omega)]
 exact Ev_n (by unfold cH_; omega)
theorem szS_Version (l : List S71) (hl : l.length ≤ maxLen) (hw : ∀ y ∈ l, W71 y) (c : Int) (h0 : 0 ≤ c) (h1 : c ≤ 1048576) : Ev (fun k => bH_.f k l c) (cut c (di_ l)) := by
 have hM : maxLen = 9223372036854775807 := by decide
 rw [hM] at hl
 have go : ∀ (d i : Nat) (c : Int), i + d = l.length → l.length ≤ 1048576 → 0 ≤ c → c ≤ 1048576 → Ev (fun k => bH_.l0 k l c i) (cut c (((l.drop i).map cH_).sum : Nat)) := by
  intro d
  induction d with
  | zero =>
   intro i c q1 q2 q3 q4
   refine aZ_ ?_
   simp only [bH_.l0]
   rw [List.drop_of_length_le (by omega), cut_pos (by simpa using q3)]
   exact Ev_f (by omega) (Ev_n (by simp))
  | succ d ih =>
   intro i c q1 q2 q3 q4
   refine aZ_ ?_
   simp only [bH_.l0]
   refine Ev_t (by omega) (Ev_t (by omega) ?_)
   rw [rdl_Version l i (by omega)]
   refine Ev_b (sz_Version l[i] (hw _ (List.getElem_mem _)) c q3 q4) ?_
   rw [List.drop_eq_getElem_cons (show i < l.length by omega), List.map_cons, List.sum_cons]
   by_cases g : ((cH_ l[i] : Nat) : Int) ≤ c
   case neg => rw [dq_ g, dq_ (by omega)]; exact Ev_t (by decide) (Ev_n rfl)
   rw [cut_pos g]
   refine Ev_f (by omega) ?_
   rw [wr64s i (by omega)]
   refine Ev_at (ih (i + 1) _ (by omega) q2 (by omega) (by omega)) ?_
   unfold cut
   split <;> split <;> omega
 simp only [bH_.f]
 rw [wr64 (x := c - (l.length : Int)) (by omega) (by omega)]
 by_cases g : c - (l.length : Int) < 0
 rotate_left
 ·refine Ev_f g (Ev_at (go l.length 0 _ (by omega) (by omega) (by omega) (by omega)) ?_)
  rw [List.drop_zero]
  unfold cut di_
  split <;> split <;> omega
 rw [dq_ (by unfold di_; omega)]
 exact Ev_t g (Ev_n rfl)
def bV_ (x : S71) : S78 := ⟨x.f0, x.f1, x.f2, (x.f3.map cF_)⟩
def dw_ (x : S71) : Prop := ((x.f3.length : Int) ≤ 1048576 ∧ ∀ y ∈ x.f3, B_Entry y)
theorem B_of_Version (x : S71) (h : (cH_ x : Int) ≤ 1048576) : dw_ x := by
 unfold cH_ at h
 unfold dw_
 exact ⟨by have := (ZS_in_Entry x.f3).1; omega, fun y hy => B_of_Entry y (by have := (ZS_in_Entry x.f3).2 y hy; omega)⟩
theorem to_Version (x : S71) (hb : dw_ x) : Ev (fun k => cU_.f k (x.f0) (x.f1) (x.f2) (x.f3)) ((bV_ x).f0, (bV_ x).f1, (bV_ x).f2, (bV_ x).f3) := by
 unfold dw_ at hb
 simp only [cU_.f]
 refine Ev_b (toS_Entry x.f3 hb.1 hb.2) ?_
 exact Ev_n rfl
theorem toS_Version (l : List S71) (hl : (l.length : Int) ≤ 1048576) (hb : ∀ y ∈ l, dw_ y) : Ev (fun k => bg_.f k l) (l.map bV_) := by
 have go : ∀ (d i : Nat) (xs : List S78), i + d = l.length → xs.length = l.length → xs.take i = (l.map bV_).take i → Ev (fun k => bg_.l0 k l xs i) (l.map bV_) := by
  intro d
  induction d with
  | zero =>
   intro i xs q1 q2 q3
   refine aZ_ ?_
   simp only [bg_.l0]
   rw [List.take_of_length_le (by omega), List.take_of_length_le (by simp; omega)] at q3
   rw [q3]
   exact Ev_f (by omega) (Ev_n rfl)
  | succ d ih =>
   intro i xs q1 q2 q3
   refine aZ_ ?_
   simp only [bg_.l0]
   refine Ev_t (by omega) (Ev_t (by omega) ?_)
   rw [rdl_Version l i (by omega)]
   refine Ev_b (to_Version l[i] (hb _ (List.getElem_mem _))) ?_
   refine Ev_t (by omega) ?_
   rw [wr64s i (by omega), Int.toNat_natCast]
   refine ih (i + 1) _ (by omega) (by rw [List.length_set]; exact q2) ?_
   rw [set_take' _ _ _ (by omega), q3, List.take_succ_eq_append_getElem (by simp; omega)]
   simp [bV_]
 simp only [bg_.f]
 refine Ev_t (by omega) (Ev_t (by omega) ?_)
 exact go l.length 0 _ (by omega) (by simp) (by simp)
def E_Version (x : S78) : Prop := ((x.f3.length : Int) ≤ 1048576 ∧ ∀ y ∈ x.f3, E_Entry y)
theorem E_of_Version (x : S71) (hb : dw_ x) : E_Version (bV_ x) := by
 unfold dw_ at hb
 unfold E_Version
 exact ⟨by unfold bV_; simpa using hb.1, fun y hy => by have hy' : y ∈ x.f3.map cF_ := hy; obtain ⟨z, hz, rfl⟩ := List.mem_map.1 hy'; exact E_of_Entry z (hb.2 z hz)⟩
theorem eq_Version (x : S78) (he : E_Version x) : Ev (fun k => cT_.f k (x.f0) (x.f1) (x.f2) (x.f3) (x.f0) (x.f1) (x.f2) (x.f3)) true := by
 unfold E_Version at he
 simp only [cT_.f, if_true]
 refine Ev_b (eqS_Entry x.f3 he.1 he.2) ?_
 simp only [if_true]
 exact Ev_n rfl
theorem eqS_Version (m : List S78) (hl : (m.length : Int) ≤ 1048576) (he : ∀ y ∈ m, E_Version y) : Ev (fun k => aC_.f k m m) true := by
 have go : ∀ (d i : Nat), i + d = m.length → Ev (fun k => aC_.l0 k m m i) true := by
  intro d
  induction d with
  | zero =>
   intro i q1
   refine aZ_ ?_
   simp only [aC_.l0]
   exact Ev_f (by omega) (Ev_n rfl)
  | succ d ih =>
   intro i q1
   refine aZ_ ?_
   simp only [aC_.l0]
   refine Ev_t (by omega) (Ev_t (by omega) (Ev_t (by omega) ?_))
   rw [cI_ m i (by omega)]
   refine Ev_b (eq_Version m[i] (he _ (List.getElem_mem _))) ?_
   rw [wr64s i (by omega)]
   exact Ev_t rfl (ih (i + 1) (by omega))
 simp only [aC_.f]
 exact Ev_t (by first | trivial | rfl) (go m.length 0 (by omega))
structure Ordr {κ : Type} (c : κ → κ → Int) : Prop where
 zero : ∀ a b, c a b = 0 ↔ a = b
 anti : ∀ a b, c a b < 0 ↔ 0 < c b a
 trans : ∀ a b d, c a b < 0 → c b d < 0 → c a d < 0
theorem cb_ord : Ordr Go.Lib.compareBytes := by
 constructor
 ·intro a
  induction a with
  | nil => intro b; cases b <;> simp [Go.Lib.compareBytes]
  | cons x a ih =>
   intro b
   cases b with
   | nil => simp [Go.Lib.compareBytes]
   | cons y b =>
    simp only [Go.Lib.compareBytes]
    by_cases h1 : x < y
    rotate_left
    ·by_cases h2 : y < x
     rotate_left
     ·have : x = y := UInt8.le_antisymm (UInt8.not_lt.1 h2) (UInt8.not_lt.1 h1)
      subst this
      simp [h1, ih]
     have : x ≠ y := fun e => by subst e; exact absurd h2 (UInt8.lt_irrefl _)
     simp [h1, h2, this]
    have : x ≠ y := fun e => by subst e; exact absurd h1 (UInt8.lt_irrefl _)
    simp [h1, this]
 ·intro a
  induction a with
  | nil => intro b; cases b <;> simp [Go.Lib.compareBytes]
  | cons x a ih =>
   intro b
   cases b with
   | nil => simp [Go.Lib.compareBytes]
   | cons y b =>
    simp only [Go.Lib.compareBytes]
    by_cases h1 : x < y
    rotate_left
    ·by_cases h2 : y < x
     rotate_left
     ·simp [h1, h2, ih]
     simp [h1, h2]
    have h2 : ¬ y < x := fun h => absurd (UInt8.lt_trans h1 h) (UInt8.lt_irrefl _)
    simp [h1, h2]
 ·intro a
  induction a with
  | nil => intro b d; cases b <;> cases d <;> simp [Go.Lib.compareBytes]
  | cons x a ih =>
   intro b d
   cases b with
   | nil => simp [Go.Lib.compareBytes]
   | cons y b =>
    cases d with
    | nil => simp [Go.Lib.compareBytes]
    | cons z d =>
     simp only [Go.Lib.compareBytes]
     by_cases h1 : x < y
     rotate_left
     ·by_cases h1' : y < x
      ·simp [h1, h1']
      ·have : x = y := UInt8.le_antisymm (UInt8.not_lt.1 h1') (UInt8.not_lt.1 h1)
       subst this
       by_cases h2 : x < z
       rotate_left
       ·by_cases h3 : z < x
        rotate_left
        ·simpa [h1, h2, h3] using ih b d
        simp [h2, h3]
       simp [h2]
     by_cases h2 : y < z
     rotate_left
     ·by_cases h3 : z < y
      rotate_left
      ·have : y = z := UInt8.le_antisymm (UInt8.not_lt.1 h3) (UInt8.not_lt.1 h2)
       subst this
       simp [h1]
      simp [h1, h2, h3]
     simp [h1, h2, UInt8.lt_trans h1 h2]
theorem Ordr.step {κ : Type} {c : κ → κ → Int} (h : Ordr c) {x y t : κ} (h1 : c x y < 0) (h2 : 0 ≤ c x t) : 0 < c y t := by
 by_cases e : c x t = 0
 rotate_left
 ·have q : c t x < 0 := (h.anti t x).2 (by omega)
  exact (h.anti t y).1 (h.trans t x y q h1)
 have := (h.zero x t).1 e
 subst this
 exact (h.anti _ _).1 h1
def plc {α : Type} (c : α → Int) : List α → Nat
 | [] => 0
 | x :: l => if c x < 0 then plc c l + 1 else 0
def Rsg {α : Type} (c : α → Int) (l : List α) : Prop := ∀ (i j : Nat) (hi : i < j) (hj : j < l.length), 0 ≤ c l[i] → 0 < c l[j]
theorem plc_le {α : Type} (c : α → Int) : ∀ l, plc c l ≤ l.length
 | [] => by simp [plc]
 | x :: l => by have := plc_le c l; unfold plc; split <;> simp <;> omega
theorem plc_lt {α : Type} (c : α → Int) : ∀ l (i : Nat) (hi : i < l.length), i < plc c l → c l[i] < 0
 | [], i, hi, _ => by simp at hi
 | x :: l, i, hi, h => by
  unfold plc at h
  split at h
  ·rename_i hx
   cases i with
   | zero => exact hx
   | succ i => exact plc_lt c l i (by simpa using hi) (by omega)
  ·omega
theorem plc_at {α : Type} (c : α → Int) : ∀ l (h : plc c l < l.length), 0 ≤ c (l[plc c l]'h)
 | [], h => by simp [plc] at h
 | x :: l, h => by
  by_cases hx : c x < 0
  rotate_left
  ·have e : plc c (x :: l) = 0 := by rw [plc, if_neg hx]
   simp only [e, List.getElem_cons_zero]
   omega
  have e : plc c (x :: l) = plc c l + 1 := by rw [plc, if_pos hx]
  have h2 : plc c l < l.length := by rw [e] at h; simpa using h
  have := plc_at c l h2
  simpa only [e, List.getElem_cons_succ] using this
theorem Rsg.gt {α : Type} {c : α → Int} {l : List α} (h : Rsg c l) (i : Nat) (hi : i < l.length) (hp : plc c l < i) : 0 < c l[i] := h (plc c l) i hp hi (plc_at c l (by omega))
def fnd {α : Type} (c : α → Int) (l : List α) : Bool := if h : plc c l < l.length then decide (c (l[plc c l]'h) = 0) else false
theorem fnd_t {α : Type} {c : α → Int} {l : List α} (h : fnd c l = true) : ∃ hp : plc c l < l.length, c (l[plc c l]'hp) = 0 := by
 unfold fnd at h
 split at h
 ·rename_i hp; exact ⟨hp, by simpa using h⟩
 ·cases h
theorem fnd_f {α : Type} {c : α → Int} {l : List α} (hr : Rsg c l) (h : fnd c l = false) (i : Nat) (hi : i < l.length) : c l[i] ≠ 0 := by
 rcases Nat.lt_trichotomy i (plc c l) with g | g | g
 ·have := plc_lt c l i hi g; omega
 ·subst g
  unfold fnd at h
  rw [dif_pos hi] at h
  simpa using h
 ·have := hr.gt i hi g; omega
theorem rsg_of {α κ : Type} {c : κ → κ → Int} (ho : Ordr c) (key : α → κ) {l : List α} (h : ∀ (i : Nat) (hi : i + 1 < l.length), c (key (l[i]'(by omega))) (key l[i + 1]) < 0) (t : κ) : Rsg (fun x => c (key x) t) l := by
 have q : ∀ (d i : Nat) (hj : i + d + 1 < l.length), c (key (l[i]'(by omega))) (key l[i + d + 1]) < 0 := by
  intro d
  induction d with
  | zero => intro i hj; exact h i hj
  | succ d ih =>
   intro i hj
   exact ho.trans _ _ _ (ih i (by omega)) (h (i + d + 1) (by omega))
 intro i j hi hj h0
 have e : i + (j - i - 1) + 1 = j := by omega
 have := q (j - i - 1) i (by omega)
 simp only [e] at this
 exact ho.step this h0
theorem mid_ev (i j : Nat) (h : (i : Int) + j < 1000000000000) : wrap64 ((IntKind.u64.wrap (wrap64 ((i : Int) + j))) / 2) = (((i + j) / 2 : Nat) : Int) := by
 rw [wr64 (x := (i : Int) + j) (by omega) (by omega)]
 have : IntKind.u64.wrap ((i : Int) + j) = (i : Int) + j := by simp [IntKind.wrap, IntKind.bits, IntKind.signed]; omega
 rw [this, wr64 (by omega) (by omega)]
 omega
theorem ite_and (b c : Bool) : (if b = true then some c else some false) = some (b && c) := by cases b <;> rfl
theorem in_f (a b c : Int) : bZ_.f a b c = some (decide (b ≤ a) && decide (a ≤ c)) := by unfold bZ_.f; by_cases h : a ≥ b <;> simp [h]
theorem within_f (a b c : Int) : by_.f a b c = some (decide (b ≤ a) && decide (a ≤ c)) := by unfold by_.f; by_cases h : a ≥ b <;> simp [h]
theorem w64 {x : Int} (h0 : -9223372036854775808 ≤ x) (h1 : x < 9223372036854775808) : wrap64 x = x := by unfold wrap64; omega
theorem toList_len (x : ByteArray) : x.toList.length = x.size := by
 rw [Go.ByteArray.toList_eq x, Array.length_toList]; rfl
theorem name_round (k : Nat) (x : ByteArray) (i : Int) : ba_.l0 k x i = aV_.l0 k x i := by
 induction k generalizing i with
 | zero => rfl
 | succ k ih =>
  simp only [ba_.l0, aV_.l0, ih, cw_.f, db_.f]
  by_cases h1 : i < (x.size : Int)
  rotate_left
  ·rw [if_neg h1, if_neg h1]
  rw [if_pos h1, if_pos h1]
  by_cases h2 : 0 ≤ i
  rotate_left
  ·rw [if_neg h2, if_neg h2]
  rw [if_pos h2, if_pos h2]
  generalize bt x i = c
  by_cases h3 : c < 97
  rotate_left
  ·rw [if_neg h3, if_pos (show c ≥ 97 by omega)]
   by_cases h4 : c > 122
   rotate_left
   ·rw [if_neg h4]; simp [show c ≤ 122 by omega]
   simp [h4, show ¬ c < 48 by omega, show c > 57 by omega, show ¬ c ≤ 122 by omega, show ¬ c ≤ 57 by omega]
  rw [if_pos h3, if_neg (by omega)]
  by_cases h4 : c < 48
  rotate_left
  ·rw [if_neg h4, if_pos (by omega)]
   by_cases h5 : c > 57
   rotate_left
   ·rw [if_neg h5]; simp [show c ≤ 57 by omega]
   rw [if_pos h5]; simp [show ¬ c ≤ 57 by omega]
  rw [if_pos h4, if_neg (by omega)]; simp
theorem name_same (k : Nat) (x : ByteArray) : ba_.f k x = aV_.f k x := by
 have hj : ∀ b, ba_.j0 k x b = aV_.j0 k x b := by
  intro b
  cases k with
  | zero => rfl
  | succ k => simp only [ba_.j0, aV_.j0, name_round]
 unfold ba_.f aV_.f cw_.f
 simp only [hj]
 by_cases h0 : x.toList = []
 rotate_left
 ·have : x.size ≠ 0 := by
   intro e; apply h0; apply List.eq_nil_of_length_eq_zero; rw [toList_len, e]
  rw [if_neg h0, if_neg (show ¬ (x.size : Int) < 1 by omega)]
  by_cases h1 : (x.size : Int) > 10
  rotate_left
  ·rw [if_neg h1, if_neg h1, if_pos (show 0 < (x.size : Int) by omega), if_pos (show 0 < (x.size : Int) by omega)]
   generalize bt x 0 = c
   by_cases h3 : c < 97
   rotate_left
   ·rw [if_neg h3, if_pos (show c ≥ 97 by omega)]
    simp only [Option.bind_some]
    congr 1
    by_cases h4 : c > 122
    rotate_left
    ·simp [h4, show c ≤ 122 by omega]
    simp [h4, show ¬ c ≤ 122 by omega]
   rw [if_pos h3, if_neg (show ¬ c ≥ 97 by omega)]; rfl
  rw [if_pos h1, if_pos h1]
 have : x.size = 0 := by rw [← toList_len, h0]; rfl
 rw [if_pos h0, if_pos (by omega)]
theorem name_ev (x : ByteArray) : ∃ b, ∀ k, 12 < k → aV_.f k x = some b := by
 have go : ∀ (d : Nat) (i : Int), 0 ≤ i → i + d = x.size → (x.size : Int) ≤ 10 → ∃ b, ∀ k, d < k → aV_.l0 k x i = some b := by
  intro d
  induction d with
  | zero =>
   intro i h0 h1 _
   refine ⟨true, fun k hk => ?_⟩
   obtain ⟨k, rfl⟩ : ∃ m, k = m + 1 := ⟨k - 1, by omega⟩
   simp only [aV_.l0]
   rw [if_neg (by omega)]
  | succ d ih =>
   intro i h0 h1 h2
   obtain ⟨b, hb⟩ := ih (i + 1) (by omega) (by omega) h2
   by_cases h3 : bt x i < 97
   rotate_left
   ·by_cases h4 : bt x i > 122
    rotate_left
    ·refine ⟨b, fun k hk => ?_⟩
     obtain ⟨k, rfl⟩ : ∃ m, k = m + 1 := ⟨k - 1, by omega⟩
     simp only [aV_.l0]
     rw [if_pos (by omega), if_pos h0, if_neg h3, if_neg h4, w64 (by omega) (by omega), hb k (by omega)]
    refine ⟨false, fun k hk => ?_⟩
    obtain ⟨k, rfl⟩ : ∃ m, k = m + 1 := ⟨k - 1, by omega⟩
    simp only [aV_.l0]
    rw [if_pos (by omega), if_pos h0, if_neg h3, if_pos h4, if_neg (by omega), if_pos (by omega)]
   by_cases h4 : bt x i < 48
   rotate_left
   ·by_cases h5 : bt x i > 57
    rotate_left
    ·refine ⟨b, fun k hk => ?_⟩
     obtain ⟨k, rfl⟩ : ∃ m, k = m + 1 := ⟨k - 1, by omega⟩
     simp only [aV_.l0]
     rw [if_pos (by omega), if_pos h0, if_pos h3, if_neg h4, if_neg h5, w64 (by omega) (by omega), hb k (by omega)]
    refine ⟨false, fun k hk => ?_⟩
    obtain ⟨k, rfl⟩ : ∃ m, k = m + 1 := ⟨k - 1, by omega⟩
    simp only [aV_.l0]
    rw [if_pos (by omega), if_pos h0, if_pos h3, if_neg h4, if_pos h5]
   refine ⟨false, fun k hk => ?_⟩
   obtain ⟨k, rfl⟩ : ∃ m, k = m + 1 := ⟨k - 1, by omega⟩
   simp only [aV_.l0]
   rw [if_pos (by omega), if_pos h0, if_pos h3, if_pos h4]
 have hj : ∀ (b : Bool), (b = false → (x.size : Int) ≤ 10) → ∃ c, ∀ k, 12 < k → aV_.j0 k x b = some c := by
  intro b hs
  cases b with
  | true =>
   refine ⟨false, fun k hk => ?_⟩
   obtain ⟨k, rfl⟩ : ∃ m, k = m + 1 := ⟨k - 1, by omega⟩
   simp only [aV_.j0, if_true]
  | false =>
   obtain ⟨c, hc⟩ := go x.size 0 (by omega) (by omega) (hs rfl)
   have := hs rfl
   refine ⟨c, fun k hk => ?_⟩
   obtain ⟨k, rfl⟩ : ∃ m, k = m + 1 := ⟨k - 1, by omega⟩
   simp only [aV_.j0]
   rw [if_neg (by decide), hc k (by omega)]
 unfold aV_.f
 by_cases h1 : (x.size : Int) < 1
 rotate_left
 ·simp only [if_neg h1]
  by_cases h2 : (x.size : Int) > 10
  rotate_left
  ·simp only [if_neg h2, if_pos (show 0 < (x.size : Int) by omega)]
   by_cases h3 : bt x 0 < 97
   rotate_left
   ·simp only [if_neg h3]; exact hj _ (fun _ => by omega)
   simp only [if_pos h3]; exact hj true (by intro h; cases h)
  simp only [if_pos h2]; exact hj true (by intro h; cases h)
 simp only [if_pos h1]; exact hj true (by intro h; cases h)
def spi (l : List UInt8) : Int := if l = [97, 115, 104] then 0 else if l = [98, 101, 101, 99, 104] then 1 else if l = [98, 105, 114, 99, 104] then 2 else if l = [99, 104, 101, 114, 114, 121] then 3 else if l = [101, 98, 111, 110, 121] then 4 else if l = [104, 111, 108, 108, 121] then 5 else if l = [109, 97, 112, 108, 101] then 6 else if l = [111, 97, 107] then 7 else if l = [114, 111, 115, 101, 119, 111, 111, 100] then 8 else if l = [119, 97, 108, 110, 117, 116] then 9 else -1
def shades : List Int := [20, 35, 15, 50, 95, 5, 10, 40, 80, 70]
theorem sp_cases (l : List UInt8) : (l = [97, 115, 104]) ∨ (l = [98, 101, 101, 99, 104]) ∨ (l = [98, 105, 114, 99, 104]) ∨ (l = [99, 104, 101, 114, 114, 121]) ∨ (l = [101, 98, 111, 110, 121]) ∨ (l = [104, 111, 108, 108, 121]) ∨ (l = [109, 97, 112, 108, 101]) ∨ (l = [111, 97, 107]) ∨ (l = [114, 111, 115, 101, 119, 111, 111, 100]) ∨ (l = [119, 97, 108, 110, 117, 116]) ∨ (¬ l = [97, 115, 104] ∧ ¬ l = [98, 101, 101, 99, 104] ∧ ¬ l = [98, 105, 114, 99, 104] ∧ ¬ l = [99, 104, 101, 114, 114, 121] ∧ ¬ l = [101, 98, 111, 110, 121] ∧ ¬ l = [104, 111, 108, 108, 121] ∧ ¬ l = [109, 97, 112, 108, 101] ∧ ¬ l = [111, 97, 107] ∧ ¬ l = [114, 111, 115, 101, 119, 111, 111, 100] ∧ ¬ l = [119, 97, 108, 110, 117, 116]) := by
 by_cases h0 : l = [97, 115, 104]
 ·exact .inl h0
 by_cases h1 : l = [98, 101, 101, 99, 104]
 ·exact .inr ((.inl h1))
 by_cases h2 : l = [98, 105, 114, 99, 104]
 ·exact .inr (.inr ((.inl h2)))
 by_cases h3 : l = [99, 104, 101, 114, 114, 121]
 ·exact .inr (.inr (.inr ((.inl h3))))
 by_cases h4 : l = [101, 98, 111, 110, 121]
 ·exact .inr (.inr (.inr (.inr ((.inl h4)))))
 by_cases h5 : l = [104, 111, 108, 108, 121]
 ·exact .inr (.inr (.inr (.inr (.inr ((.inl h5))))))
 by_cases h6 : l = [109, 97, 112, 108, 101]
 ·exact .inr (.inr (.inr (.inr (.inr (.inr ((.inl h6)))))))
 by_cases h7 : l = [111, 97, 107]
 ·exact .inr (.inr (.inr (.inr (.inr (.inr (.inr ((.inl h7))))))))
 by_cases h8 : l = [114, 111, 115, 101, 119, 111, 111, 100]
 ·exact .inr (.inr (.inr (.inr (.inr (.inr (.inr (.inr ((.inl h8)))))))))
 by_cases h9 : l = [119, 97, 108, 110, 117, 116]
 ·exact .inr (.inr (.inr (.inr (.inr (.inr (.inr (.inr (.inr ((.inl h9))))))))))
 exact .inr (.inr (.inr (.inr (.inr (.inr (.inr (.inr (.inr (.inr (⟨h0, h1, h2, h3, h4, h5, h6, h7, h8, h9⟩))))))))))
theorem l07Find_f (a : ByteArray) (k : Nat) (hk : 12 ≤ k) : ce_.f k a = some (spi a.toList) := by
 obtain ⟨k, rfl⟩ : ∃ m, k = m + 12 := ⟨k - 12, by omega⟩
 unfold ce_.f dc_.f spi
 simp only [Option.bind_some, ce_.l0, wrap64, rdOf]
 simp (decide := true)
 generalize a.toList = l
 simp only [eq_comm (b := l)]
 rcases sp_cases l with h | h | h | h | h | h | h | h | h | h | h
 all_goals first | (subst h; decide) | (obtain ⟨h0, h1, h2, h3, h4, h5, h6, h7, h8, h9⟩ := h; simp only [h0, h1, h2, h3, h4, h5, h6, h7, h8, h9, if_false])
def vVen (l : List UInt8) (sh gr : Int) : Bool := decide (0 ≤ spi l) && ((decide (0 ≤ sh) && decide (sh ≤ 100)) && ((decide (rd shades (spi l) - 15 ≤ sh) && decide (sh ≤ rd shades (spi l) + 15)) && (decide (0 ≤ gr) && decide (gr ≤ 179))))
theorem spi_range (l : List UInt8) : -1 ≤ spi l ∧ spi l ≤ 9 := by
 rcases sp_cases l with h | h | h | h | h | h | h | h | h | h | h
 all_goals first | (subst h; decide) | (obtain ⟨h0, h1, h2, h3, h4, h5, h6, h7, h8, h9⟩ := h; unfold spi; simp only [h0, h1, h2, h3, h4, h5, h6, h7, h8, h9, if_false]; decide)
theorem shade_of (i : Int) (h0 : 0 ≤ i) (h1 : i ≤ 9) : ∃ t, cO_.f = some t ∧ i < t.length ∧ 0 < (rd_L4 t i).length ∧ rd (rd_L4 t i) 0 = rd shades i ∧ 0 ≤ rd shades i ∧ rd shades i ≤ 100 := by
 refine ⟨_, rfl, ?_⟩
 obtain ⟨n, rfl⟩ := Int.eq_ofNat_of_zero_le h0
 have hn : n ≤ 9 := by omega
 match n, hn with
 | 0, _ => decide
 | 1, _ => decide
 | 2, _ => decide
 | 3, _ => decide
 | 4, _ => decide
 | 5, _ => decide
 | 6, _ => decide
 | 7, _ => decide
 | 8, _ => decide
 | 9, _ => decide
theorem iShade_f (a : ByteArray) : cb_.f a = some (if 0 ≤ spi a.toList then (rd shades (spi a.toList), true) else (0, false)) := by
 unfold cb_.f cG_.f spi
 generalize a.toList = l
 rcases sp_cases l with h | h | h | h | h | h | h | h | h | h | h
 all_goals first | (subst h; decide) | (obtain ⟨h0, h1, h2, h3, h4, h5, h6, h7, h8, h9⟩ := h; simp only [h0, h1, h2, h3, h4, h5, h6, h7, h8, h9, if_false]; decide)
theorem l07Ok_f (x : S61) (k : Nat) (hk : 12 ≤ k) : cg_.f k [x] = some (vVen x.f0.toList x.f1 x.f2) := by
 obtain ⟨k, rfl⟩ : ∃ m, k = m + 1 := ⟨k - 1, by omega⟩
 have hrd : de_ [x] 0 = x := rfl
 unfold cg_.f vVen
 rw [if_pos (by simp), hrd, l07Find_f _ _ hk]
 simp only [Option.bind_some]
 have hr := spi_range x.f0.toList
 by_cases h : spi x.f0.toList < 0
 rotate_left
 ·rw [if_neg h, in_f, show decide (0 ≤ spi x.f0.toList) = true from decide_eq_true (by omega)]
  obtain ⟨t, ht, h1, h2, h3, h4, h5⟩ := shade_of (spi x.f0.toList) (by omega) (by omega)
  simp only [Option.bind_some, cg_.j0]
  cases hs : (decide (0 ≤ x.f1) && decide (x.f1 ≤ 100))
  ·simp
  ·rw [if_neg (by simp), ht]
   simp only [Option.bind_some]
   rw [if_pos (by omega), if_pos h1, if_pos (by omega), if_pos (by simp), hrd, h3, in_f, w64 (by omega) (by omega), w64 (by omega) (by omega)]
   simp only [Option.bind_some, cP_.f, in_f]
   rw [ite_and]
   simp
 rw [if_pos h]
 simp only [cg_.j0, if_true]
 rw [show decide (0 ≤ spi x.f0.toList) = false from decide_eq_false (by omega)]
 rfl
theorem iValidVeneer_f (a : ByteArray) (sh gr : Int) : cr_.f a sh gr = some (vVen a.toList sh gr) := by
 unfold cr_.f vVen
 rw [iShade_f]
 simp only [Option.bind_some]
 have hr := spi_range a.toList
 by_cases h : 0 ≤ spi a.toList
 rotate_left
 ·rw [if_neg h, show decide (0 ≤ spi a.toList) = false from decide_eq_false h]
  simp
 rw [if_pos h]
 obtain ⟨t, ht, h1, h2, h3, h4, h5⟩ := shade_of (spi a.toList) h (by omega)
 simp only [if_true, within_f, Option.bind_some]
 rw [show decide (0 ≤ spi a.toList) = true from decide_eq_true h]
 cases hs : (decide (0 ≤ sh) && decide (sh ≤ 100))
 ·simp
 ·have hs' : 0 ≤ sh ∧ sh ≤ 100 := by simpa using hs
  rw [w64 (by omega) (by omega)]
  simp only [if_true, ite_and, Bool.true_and]
  congr 2
  rw [Bool.eq_iff_iff]
  simp only [Bool.and_eq_true, decide_eq_true_eq]
  omega
abbrev Ent := S63
abbrev Ver := S78
def fcE (x : Ent) : List UInt8 := x.f0.data.toList
theorem less_iff : ∀ l m : List UInt8, Op.bytesLess l m = true ↔ Go.Lib.compareBytes l m < 0
 | [], [] => by simp [Go.Lib.compareBytes, Op.bytesLess]
 | [], _ :: _ => by simp [Go.Lib.compareBytes, Op.bytesLess]
 | _ :: _, [] => by simp [Go.Lib.compareBytes, Op.bytesLess]
 | a :: x, b :: y => by
  have ih := less_iff x y
  unfold Go.Lib.compareBytes Op.bytesLess
  by_cases hab : a < b
  rotate_left
  ·by_cases hba : b < a
   rotate_left
   ·have he : a = b := UInt8.le_antisymm (UInt8.not_lt.1 hba) (UInt8.not_lt.1 hab)
    subst he
    simp only [hab, if_false]
    simpa using ih
   have hne : a ≠ b := fun e => by subst e; exact absurd hba (UInt8.lt_irrefl _)
   simp [hab, hba, hne]
  have hne : a ≠ b := fun e => by subst e; exact absurd hab (UInt8.lt_irrefl _)
  simp [hab, hne]
theorem nameE_ev (x : ByteArray) : ∃ b, Ev (fun k => aV_.f k x) b ∧ Ev (fun k => ba_.f k x) b := by
 obtain ⟨b, hb⟩ := name_ev x
 exact ⟨b, ⟨13, fun k hk => hb k (by omega)⟩, ⟨13, fun k hk => (name_same k x).trans (hb k (by omega))⟩⟩
theorem entry_ev (x : Ent) : ∃ b, Ev (fun k => cu_.f k [x]) b ∧ Ev (fun k => cq_.f k x.f0 x.f1.f0 x.f1.f1 x.f1.f2) b ∧ (b = true → vVen x.f1.f0.toList x.f1.f1 x.f1.f2 = true) := by
 obtain ⟨n, h1, h2⟩ := nameE_ev x.f0
 have v1 : Ev (fun k => cg_.f k [x.f1]) (vVen x.f1.f0.toList x.f1.f1 x.f1.f2) := ⟨12, fun k hk => l07Ok_f x.f1 k hk⟩
 have v2 := iValidVeneer_f x.f1.f0 x.f1.f1 x.f1.f2
 have r0 : af_ [x] 0 = x := rfl
 cases n with
 | false =>
  refine ⟨false, ?_, ?_, fun h => by cases h⟩
  ·simp only [cu_.f, r0]; exact Ev_t (by simp) (Ev_b h2 (Ev_f (by decide) (Ev_n rfl)))
  ·simp only [cq_.f]; exact Ev_b h1 (Ev_f (by decide) (Ev_n rfl))
 | true =>
  refine ⟨vVen x.f1.f0.toList x.f1.f1 x.f1.f2, ?_, ?_, fun h => h⟩
  ·simp only [cu_.f, r0]; exact Ev_t (by simp) (Ev_b h2 (Ev_t rfl (Ev_b v1 (Ev_n rfl))))
  ·simp only [cq_.f]; exact Ev_b h1 (Ev_t rfl (Ev_b (Ev_c v2) (Ev_n rfl)))
def Sta (m : List Ent) : Prop := m.length ≤ 24 ∧ (∀ (i : Nat) (hi : i + 1 < m.length), Go.Lib.compareBytes (fcE (m[i]'(by omega))) (fcE m[i + 1]) < 0) ∧ ∀ y ∈ m, vVen y.f1.f0.toList y.f1.f1 y.f1.f2 = true
theorem state_ev (m : List Ent) (hl : (m.length : Int) ≤ 1048576) : ∃ b, Ev (fun k => ay_.f k m) b ∧ Ev (fun k => ap_.f k m) b ∧ (b = true → Sta m) := by
 have go : ∀ (d i : Nat), i + d = m.length → ∃ b, Ev (fun k => ay_.l0 k m i) b ∧ Ev (fun k => ap_.l0 k m m (m.length : Int) i) b ∧ (b = true → m.length ≤ 24 ∧ (∀ (j : Nat), i ≤ j → 0 < j → ∀ (hj : j < m.length), Go.Lib.compareBytes (fcE (m[j - 1]'(by omega))) (fcE m[j]) < 0) ∧ ∀ (j : Nat), i ≤ j → ∀ (hj : j < m.length), vVen m[j].f1.f0.toList m[j].f1.f1 m[j].f1.f2 = true) := by
  intro d
  induction d with
  | zero =>
   intro i h1
   refine ⟨decide ((m.length : Int) ≤ 24), aZ_ ?_, aZ_ ?_, fun h => ⟨by have := of_decide_eq_true h; omega, fun j h2 _ hj => by omega, fun j h2 hj => by omega⟩⟩
   ·simp only [ay_.l0]; exact Ev_f (by omega) (Ev_n rfl)
   ·simp only [ap_.l0]; exact Ev_f (by omega) (Ev_n rfl)
  | succ d ih =>
   intro i h1
   have hi : i < m.length := by omega
   obtain ⟨v, v1, v2, v3⟩ := entry_ev m[i]
   cases v with
   | false =>
    refine ⟨false, aZ_ ?_, aZ_ ?_, fun h => by cases h⟩
    ·simp only [ay_.l0]
     refine Ev_t (by omega) (Ev_t (by omega) ?_)
     rw [bR_ m i hi]
     exact Ev_b v1 (Ev_f (by decide) (Ev_n rfl))
    ·simp only [ap_.l0]
     refine Ev_t (by omega) (Ev_t (by omega) (Ev_t (by omega) ?_))
     rw [bR_ m i hi]
     exact Ev_b v2 (Ev_f (by decide) (Ev_n rfl))
   | true =>
    obtain ⟨b, b1, b2, b3⟩ := ih (i + 1) (by omega)
    by_cases h0 : i = 0
    rotate_left
    ·have e : wrap64 ((i : Int) - 1) = ((i - 1 : Nat) : Int) := by rw [wr64 (by omega) (by omega)]; omega
     by_cases hc : Op.bytesLess ((m[i - 1]'(by omega)).f0.toList) (m[i].f0.toList) = true
     rotate_left
     ·refine ⟨false, aZ_ ?_, aZ_ ?_, fun h => by cases h⟩
      ·simp only [ay_.l0]
       refine Ev_t (by omega) (Ev_t (by omega) ?_)
       rw [e, bR_ m i hi, bR_ m (i - 1) (by omega), wr64s i (by omega)]
       exact Ev_b v1 (Ev_t rfl (Ev_t (by omega) (Ev_t (by omega) (Ev_t (by omega) (Ev_f hc (Ev_n rfl))))))
      ·simp only [ap_.l0]
       refine Ev_t (by omega) (Ev_t (by omega) (Ev_t (by omega) ?_))
       rw [e, bR_ m i hi, bR_ m (i - 1) (by omega), wr64s i (by omega)]
       exact Ev_b v2 (Ev_t rfl (Ev_t (by omega) (Ev_t (by omega) (Ev_t (by omega) (Ev_f hc (Ev_n rfl))))))
     refine ⟨b, aZ_ ?_, aZ_ ?_, fun h => ?_⟩
     ·simp only [ay_.l0]
      refine Ev_t (by omega) (Ev_t (by omega) ?_)
      rw [e, bR_ m i hi, bR_ m (i - 1) (by omega), wr64s i (by omega)]
      exact Ev_b v1 (Ev_t rfl (Ev_t (by omega) (Ev_t (by omega) (Ev_t (by omega) (Ev_t hc b1)))))
     ·simp only [ap_.l0]
      refine Ev_t (by omega) (Ev_t (by omega) (Ev_t (by omega) ?_))
      rw [e, bR_ m i hi, bR_ m (i - 1) (by omega), wr64s i (by omega)]
      exact Ev_b v2 (Ev_t rfl (Ev_t (by omega) (Ev_t (by omega) (Ev_t (by omega) (Ev_t hc b2)))))
     ·obtain ⟨c1, c2, c3⟩ := b3 h
      refine ⟨c1, fun j h2 h3 hj => ?_, fun j h2 hj => ?_⟩
      ·rcases Nat.lt_or_eq_of_le h2 with g | g
       ·exact c2 j (by omega) h3 hj
       ·subst g
        have := (less_iff _ _).1 hc
        simpa only [fcE, Go.ByteArray.toList_eq] using this
      ·rcases Nat.lt_or_eq_of_le h2 with g | g
       ·exact c3 j (by omega) hj
       ·subst g; exact v3 rfl
    refine ⟨b, aZ_ ?_, aZ_ ?_, fun h => ?_⟩
    ·simp only [ay_.l0]
     refine Ev_t (by omega) (Ev_t (by omega) ?_)
     rw [bR_ m i hi, wr64s i (by omega)]
     exact Ev_b v1 (Ev_t rfl (Ev_f (by omega) b1))
    ·simp only [ap_.l0]
     refine Ev_t (by omega) (Ev_t (by omega) (Ev_t (by omega) ?_))
     rw [bR_ m i hi, wr64s i (by omega)]
     exact Ev_b v2 (Ev_t rfl (Ev_f (by omega) b2))
    ·obtain ⟨c1, c2, c3⟩ := b3 h
     refine ⟨c1, fun j h2 h3 hj => c2 j (by omega) h3 hj, fun j h2 hj => ?_⟩
     rcases Nat.lt_or_eq_of_le h2 with g | g
     ·exact c3 j (by omega) hj
     ·subst g; exact v3 rfl
 obtain ⟨b, b1, b2, b3⟩ := go m.length 0 (by omega)
 refine ⟨b, by simp only [ay_.f]; exact b1, by simp only [ap_.f]; exact b2, fun h => ?_⟩
 obtain ⟨c1, c2, c3⟩ := b3 h
 refine ⟨c1, fun i hi => c2 (i + 1) (by omega) (by omega) hi, fun y hy => ?_⟩
 obtain ⟨j, hj, rfl⟩ := List.mem_iff_getElem.1 hy
 exact c3 j (by omega) hj
theorem note_ev (x : ByteArray) (hx : (x.size : Int) ≤ 1048576) : ∃ b, Ev (fun k => bz_.f k x) b ∧ Ev (fun k => br_.f k x) b := by
 have go : ∀ (d i : Nat), i + d = x.size → ∃ b, Ev (fun k => bz_.l0 k x i) b ∧ Ev (fun k => br_.l0 k x i) b := by
  intro d
  induction d with
  | zero =>
   intro i h1
   refine ⟨decide ((x.size : Int) ≤ 20), aZ_ ?_, aZ_ ?_⟩
   ·simp only [bz_.l0]; exact Ev_f (by omega) (Ev_n rfl)
   ·simp only [br_.l0]; exact Ev_f (by omega) (Ev_n rfl)
  | succ d ih =>
   intro i h1
   by_cases c1 : bt x i < 32
   rotate_left
   ·by_cases c2 : bt x i > 126
    rotate_left
    ·obtain ⟨b, b1, b2⟩ := ih (i + 1) (by omega)
     refine ⟨b, aZ_ ?_, aZ_ ?_⟩
     ·simp only [bz_.l0]; rw [wr64s i (by omega)]; exact Ev_t (by omega) (Ev_t (by omega) (Ev_f c1 (Ev_f c2 b1)))
     ·simp only [br_.l0]; rw [wr64s i (by omega)]; exact Ev_t (by omega) (Ev_t (by omega) (Ev_f c1 (Ev_f c2 b2)))
    refine ⟨false, aZ_ ?_, aZ_ ?_⟩
    ·simp only [bz_.l0]; exact Ev_t (by omega) (Ev_t (by omega) (Ev_f c1 (Ev_t c2 (Ev_n rfl))))
    ·simp only [br_.l0]; exact Ev_t (by omega) (Ev_t (by omega) (Ev_f c1 (Ev_t c2 (Ev_n rfl))))
   refine ⟨false, aZ_ ?_, aZ_ ?_⟩
   ·simp only [bz_.l0]; exact Ev_t (by omega) (Ev_t (by omega) (Ev_t c1 (Ev_n rfl)))
   ·simp only [br_.l0]; exact Ev_t (by omega) (Ev_t (by omega) (Ev_t c1 (Ev_n rfl)))
 obtain ⟨b, b1, b2⟩ := go x.size 0 (by omega)
 exact ⟨b, by simp only [bz_.f]; exact b1, by simp only [br_.f]; exact b2⟩
def Prj (m : List Ver) : Prop := m.length ≤ 16 ∧ ∀ (i : Nat) (hi : i < m.length), m[i].f0 = (i : Int) + 1 ∧ 0 ≤ m[i].f1 ∧ m[i].f1 ≤ i ∧ Sta m[i].f3
theorem project_ev (m : List Ver) (hl : (m.length : Int) ≤ 1048576) (hn : ∀ y ∈ m, (y.f2.size : Int) ≤ 1048576 ∧ (y.f3.length : Int) ≤ 1048576) : ∃ b, Ev (fun k => bO_.f k m) b ∧ Ev (fun k => be_.f k m) b ∧ (b = true → Prj m) := by
 have go : ∀ (d i : Nat), i + d = m.length → ∃ b, Ev (fun k => bO_.l0 k m i) b ∧ Ev (fun k => be_.l0 k m m (m.length : Int) i) b ∧ (b = true → m.length ≤ 16 ∧ ∀ (j : Nat), i ≤ j → ∀ (hj : j < m.length), m[j].f0 = (j : Int) + 1 ∧ 0 ≤ m[j].f1 ∧ m[j].f1 ≤ j ∧ Sta m[j].f3) := by
  intro d
  induction d with
  | zero =>
   intro i h1
   refine ⟨decide ((m.length : Int) ≤ 16), aZ_ ?_, aZ_ ?_, fun h => ⟨by have := of_decide_eq_true h; omega, fun j h2 hj => by omega⟩⟩
   ·simp only [bO_.l0]; exact Ev_f (by omega) (Ev_n rfl)
   ·simp only [be_.l0]; exact Ev_f (by omega) (Ev_n rfl)
  | succ d ih =>
   intro i h1
   have hi : i < m.length := by omega
   obtain ⟨hs1, hs2⟩ := hn m[i] (List.getElem_mem _)
   have w := wr64s i (by omega)
   have step : ∀ b, Ev (fun n => if m[i].f0 = ((i + 1 : Nat) : Int) then (bZ_.f m[i].f1 0 (i : Int)).bind fun t103 => (if t103 = true then ((bz_.f n m[i].f2).bind fun t104 => (if t104 = true then ((ay_.f n m[i].f3).bind fun t105 => (if t105 = true then (bO_.l0 n m ((i + 1 : Nat) : Int)) else (some false))) else (some false))) else (some false)) else some false) b →
     Ev (fun n => if m[i].f0 = ((i + 1 : Nat) : Int) then (by_.f m[i].f1 0 (i : Int)).bind fun t103 => (if t103 = true then ((br_.f n m[i].f2).bind fun t104 => (if t104 = true then ((ap_.f n m[i].f3).bind fun t105 => (if t105 = true then (be_.l0 n m m (m.length : Int) ((i + 1 : Nat) : Int)) else (some false))) else (some false))) else (some false)) else some false) b →
     Ev (fun k => bO_.l0 k m i) b ∧ Ev (fun k => be_.l0 k m m (m.length : Int) i) b := by
    intro b q1 q2
    constructor
    ·refine aZ_ ?_
     simp only [bO_.l0]
     refine Ev_t (by omega) (Ev_t (by omega) ?_)
     rw [show ak_ m (i : Int) = m[i] from cI_ m i hi, w]
     exact q1
    ·refine aZ_ ?_
     simp only [be_.l0]
     refine Ev_t (by omega) (Ev_t (by omega) (Ev_t (by omega) ?_))
     rw [show ak_ m (i : Int) = m[i] from cI_ m i hi, w]
     exact q2
   by_cases c0 : m[i].f0 = ((i + 1 : Nat) : Int)
   case neg =>
    obtain ⟨s1, s2⟩ := step false (Ev_f c0 (Ev_n rfl)) (Ev_f c0 (Ev_n rfl))
    exact ⟨false, s1, s2, fun h => by cases h⟩
   have i1 := in_f m[i].f1 0 (i : Int)
   have i2 := within_f m[i].f1 0 (i : Int)
   by_cases c1 : (decide ((0 : Int) ≤ m[i].f1) && decide (m[i].f1 ≤ (i : Int))) = true
   case neg =>
    have c1' : (decide ((0 : Int) ≤ m[i].f1) && decide (m[i].f1 ≤ (i : Int))) = false := by simpa using c1
    rw [c1'] at i1 i2
    obtain ⟨s1, s2⟩ := step false (Ev_t c0 (Ev_b (Ev_c i1) (Ev_f (by decide) (Ev_n rfl)))) (Ev_t c0 (Ev_b (Ev_c i2) (Ev_f (by decide) (Ev_n rfl))))
    exact ⟨false, s1, s2, fun h => by cases h⟩
   rw [c1] at i1 i2
   simp only [Bool.and_eq_true, decide_eq_true_eq] at c1
   obtain ⟨nb, n1, n2⟩ := note_ev m[i].f2 hs1
   cases nb with
   | false =>
    obtain ⟨s1, s2⟩ := step false (Ev_t c0 (Ev_b (Ev_c i1) (Ev_t rfl (Ev_b n1 (Ev_f (by decide) (Ev_n rfl)))))) (Ev_t c0 (Ev_b (Ev_c i2) (Ev_t rfl (Ev_b n2 (Ev_f (by decide) (Ev_n rfl))))))
    exact ⟨false, s1, s2, fun h => by cases h⟩
   | true =>
    obtain ⟨sb, t1, t2, t3⟩ := state_ev m[i].f3 hs2
    cases sb with
    | false =>
     obtain ⟨s1, s2⟩ := step false (Ev_t c0 (Ev_b (Ev_c i1) (Ev_t rfl (Ev_b n1 (Ev_t rfl (Ev_b t1 (Ev_f (by decide) (Ev_n rfl)))))))) (Ev_t c0 (Ev_b (Ev_c i2) (Ev_t rfl (Ev_b n2 (Ev_t rfl (Ev_b t2 (Ev_f (by decide) (Ev_n rfl))))))))
     exact ⟨false, s1, s2, fun h => by cases h⟩
    | true =>
     obtain ⟨b, b1, b2, b3⟩ := ih (i + 1) (by omega)
     obtain ⟨s1, s2⟩ := step b (Ev_t c0 (Ev_b (Ev_c i1) (Ev_t rfl (Ev_b n1 (Ev_t rfl (Ev_b t1 (Ev_t rfl b1))))))) (Ev_t c0 (Ev_b (Ev_c i2) (Ev_t rfl (Ev_b n2 (Ev_t rfl (Ev_b t2 (Ev_t rfl b2)))))))
     refine ⟨b, s1, s2, fun h => ?_⟩
     obtain ⟨d1, d2⟩ := b3 h
     refine ⟨d1, fun j h2 hj => ?_⟩
     rcases Nat.lt_or_eq_of_le h2 with g | g
     ·exact d2 j (by omega) hj
     ·subst g; exact ⟨by omega, c1.1, c1.2, t3 rfl⟩
 obtain ⟨b, b1, b2, b3⟩ := go m.length 0 (by omega)
 refine ⟨b, by simp only [bO_.f]; exact b1, by simp only [be_.f]; exact b2, fun h => ?_⟩
 obtain ⟨c1, c2⟩ := b3 h
 exact ⟨c1, fun i hi => c2 i (by omega) hi⟩
theorem ep_ev (a0 a1 : ByteArray) (a2 a3 : Int) (b : ByteArray) : ch_.f a0 a1 a2 a3 b = some (Go.Lib.compareBytes a0.data.toList b.data.toList) := by
 unfold ch_.f strings_Compare.f
 rfl
theorem keyE_iff (x : Ent) (u : ByteArray) : Go.Lib.compareBytes (fcE x) u.data.toList = 0 ↔ x.f0.toList = u.toList := by
 rw [cb_ord.zero]
 simp only [fcE, Go.ByteArray.toList_eq]
theorem bsE_ev (l : List Ent) (hl : (l.length : Int) ≤ 1048576) (u : ByteArray) (hr : Rsg (fun x => Go.Lib.compareBytes (fcE x) u.data.toList) l) :
  Ev (fun k => bs_.f k l u) (((plc (fun x => Go.Lib.compareBytes (fcE x) u.data.toList) l : Nat) : Int), fnd (fun x => Go.Lib.compareBytes (fcE x) u.data.toList) l) := by
 have hp0 := plc_le (fun x => Go.Lib.compareBytes (fcE x) u.data.toList) l
 have go : ∀ (d i j : Nat), j = i + d → i ≤ plc (fun x => Go.Lib.compareBytes (fcE x) u.data.toList) l → plc (fun x => Go.Lib.compareBytes (fcE x) u.data.toList) l ≤ j → j ≤ l.length → Ev (fun k => bs_.l0 k l u (l.length : Int) i j) (((plc (fun x => Go.Lib.compareBytes (fcE x) u.data.toList) l : Nat) : Int), fnd (fun x => Go.Lib.compareBytes (fcE x) u.data.toList) l) := by
  intro d
  induction d using Nat.strongRecOn with
  | _ d ih =>
  intro i j h1 h2 h3 h4
  refine aZ_ ?_
  simp only [bs_.l0]
  by_cases hd : d = 0
  rotate_left
  ·refine Ev_t (by omega) ?_
   rw [mid_ev i j (by omega)]
   obtain ⟨m, hm⟩ : ∃ m, m = (i + j) / 2 := ⟨_, rfl⟩
   rw [← hm]
   have hm1 : m < l.length := by omega
   refine Ev_t (by omega) (Ev_t (by omega) ?_)
   rw [bR_ l m hm1, ep_ev]
   refine Ev_s ?_
   by_cases hc : Go.Lib.compareBytes l[m].f0.data.toList u.data.toList < 0
   rotate_left
   ·refine Ev_f hc ?_
    refine ih (m - i) (by omega) i m (by omega) h2 ?_ (by omega)
    rcases Nat.lt_or_ge m (plc (fun x => Go.Lib.compareBytes (fcE x) u.data.toList) l) with g | g
    ·exact absurd (plc_lt _ l m hm1 g) hc
    ·exact g
   refine Ev_t hc ?_
   rw [wr64s m (by omega)]
   refine ih (j - (m + 1)) (by omega) (m + 1) j (by omega) ?_ h3 h4
   rcases Nat.lt_or_ge m (plc (fun x => Go.Lib.compareBytes (fcE x) u.data.toList) l) with g | g
   ·exact g
   ·rcases Nat.lt_or_eq_of_le g with g | g
    ·have hgt : 0 < Go.Lib.compareBytes (fcE l[m]) u.data.toList := hr.gt m hm1 g
     have hc' : Go.Lib.compareBytes (fcE l[m]) u.data.toList < 0 := hc
     omega
    ·have := plc_at (fun x => Go.Lib.compareBytes (fcE x) u.data.toList) l (by omega)
     simp only [g] at this
     have hc' : Go.Lib.compareBytes (fcE l[m]) u.data.toList < 0 := hc
     omega
  refine Ev_f (by omega) ?_
  have hp : plc (fun x => Go.Lib.compareBytes (fcE x) u.data.toList) l = i := by omega
  by_cases hn : i < l.length
  rotate_left
  ·refine Ev_f (by omega) (Ev_n ?_)
   unfold fnd
   rw [dif_neg (by omega), hp]
  refine Ev_t (by omega) (Ev_t (by omega) (Ev_t (by omega) ?_))
  rw [bR_ l i hn, ep_ev]
  refine Ev_s (Ev_n ?_)
  unfold fnd
  rw [dif_pos (by omega)]
  simp only [hp]
  rfl
 simp only [bs_.f]
 exact go l.length 0 l.length (by omega) (by omega) hp0 (Nat.le_refl _)
theorem findE_ev (l : List Ent) (hl : (l.length : Int) ≤ 1048576) (u : ByteArray) (hr : Rsg (fun x => Go.Lib.compareBytes (fcE x) u.data.toList) l) :
  Ev (fun k => cj_.f k l u) (if fnd (fun x => Go.Lib.compareBytes (fcE x) u.data.toList) l = true then ((plc (fun x => Go.Lib.compareBytes (fcE x) u.data.toList) l : Nat) : Int) else -1) := by
 obtain ⟨c, hc⟩ : ∃ c, c = (fun x => Go.Lib.compareBytes (fcE x) u.data.toList) := ⟨_, rfl⟩
 rw [← hc] at hr ⊢
 have key : ∀ x, c x = 0 ↔ x.f0.toList = u.toList := fun x => by rw [hc]; exact keyE_iff x u
 have go : ∀ (d i : Nat), i + d = l.length → (∀ (j : Nat) (hj : j < l.length), j < i → c l[j] ≠ 0) → Ev (fun k => cj_.l0 k l u i) (if fnd c l = true then ((plc c l : Nat) : Int) else -1) := by
  intro d
  induction d with
  | zero =>
   intro i h1 h2
   refine aZ_ ?_
   simp only [cj_.l0]
   refine Ev_f (by omega) (Ev_n ?_)
   rw [if_neg]
   intro h
   obtain ⟨hp, h0⟩ := fnd_t h
   exact h2 _ hp (by omega) h0
  | succ d ih =>
   intro i h1 h2
   refine aZ_ ?_
   simp only [cj_.l0]
   refine Ev_t (by omega) (Ev_t (by omega) ?_)
   rw [bR_ l i (by omega), wr64s i (by omega)]
   have more : c l[i] ≠ 0 → Ev (fun k => cj_.l0 k l u ((i + 1 : Nat) : Int)) (if fnd c l = true then ((plc c l : Nat) : Int) else -1) := fun hn =>
    ih (i + 1) (by omega) (fun j hj hji => by
     rcases Nat.lt_or_eq_of_le (Nat.le_of_lt_succ hji) with g | g
     ·exact h2 j hj g
     ·subst g; exact hn)
   by_cases e0 : l[i].f0.toList = u.toList
   rotate_left
   ·exact Ev_f e0 (more (fun h => e0 ((key _).1 h)))
   refine Ev_t e0 (Ev_n ?_)
   have hz := (key l[i]).2 e0
   have hp : plc c l = i := by
    rcases Nat.lt_trichotomy i (plc c l) with g | g | g
    ·have := plc_lt c l i (by omega) g; omega
    ·exact g.symm
    ·have := hr.gt i (by omega) g; omega
   have hf : fnd c l = true := by
    unfold fnd
    rw [dif_pos (by omega)]
    simp only [hp, hz, decide_true]
   rw [if_pos hf, hp]
 simp only [cj_.f]
 exact go l.length 0 (by omega) (fun j _ hj => by omega)
theorem placeE_ev (l : List Ent) (hl : (l.length : Int) ≤ 1048576) (u : ByteArray) (hr : Rsg (fun x => Go.Lib.compareBytes (fcE x) u.data.toList) l) :
  Ev (fun k => cB_.f k l u) (((plc (fun x => Go.Lib.compareBytes (fcE x) u.data.toList) l : Nat) : Int), fnd (fun x => Go.Lib.compareBytes (fcE x) u.data.toList) l) := by
 simp only [cB_.f]
 exact Ev_b (bsE_ev l hl u hr) (Ev_n rfl)
theorem Sta.rsg {m : List Ent} (h : Sta m) (t : List UInt8) : Rsg (fun x => Go.Lib.compareBytes (fcE x) t) m := rsg_of cb_ord fcE h.2.1 t
theorem ven_ne {l : List UInt8} {a b : Int} (h : vVen l a b = true) : l ≠ [] := by
 intro e
 subst e
 simp [vVen, spi] at h
section
variable {α κ : Type} {c : κ → κ → Int} {key : α → κ}
theorem rsgG (ho : Ordr c) {l : List α} (h : l.Pairwise (fun x y => c (key x) (key y) < 0)) (t : κ) : Rsg (fun x => c (key x) t) l := by
 intro i j hi hj h0
 exact ho.step ((List.pairwise_iff_getElem.1 h) i j (by omega) hj hi) h0
def putG (c : κ → κ → Int) (key : α → κ) (l : List α) (b : α) : List α :=
 if fnd (fun x => c (key x) (key b)) l = true then l.take (plc (fun x => c (key x) (key b)) l) ++ b :: l.drop (plc (fun x => c (key x) (key b)) l + 1)
 else l.take (plc (fun x => c (key x) (key b)) l) ++ b :: l.drop (plc (fun x => c (key x) (key b)) l)
theorem aheadG {l : List α} {t : κ} {x : α} (h : x ∈ l.take (plc (fun x => c (key x) t) l)) : c (key x) t < 0 := by
 obtain ⟨i, hi, rfl⟩ := List.mem_iff_getElem.1 h
 rw [List.getElem_take]
 exact plc_lt (fun x => c (key x) t) l i (by simp at hi; omega) (by simp at hi; omega)
theorem behindG {l : List α} {t : κ} (hr : Rsg (fun x => c (key x) t) l) {x : α} (h : x ∈ l.drop (plc (fun x => c (key x) t) l + 1)) : 0 < c (key x) t := by
 obtain ⟨i, hi, rfl⟩ := List.mem_iff_getElem.1 h
 rw [List.getElem_drop]
 exact hr.gt _ (by simp at hi; omega) (by omega)
theorem putG_pw (ho : Ordr c) {l : List α} (h : l.Pairwise (fun x y => c (key x) (key y) < 0)) (b : α) : (putG c key l b).Pairwise (fun x y => c (key x) (key y) < 0) := by
 have hr := rsgG ho h (key b)
 have hp := plc_le (fun x => c (key x) (key b)) l
 have key' : ∀ q, (∀ x ∈ l.drop q, 0 < c (key x) (key b)) → plc (fun x => c (key x) (key b)) l ≤ q → (l.take (plc (fun x => c (key x) (key b)) l) ++ b :: l.drop q).Pairwise (fun x y => c (key x) (key y) < 0) := by
  intro q hq hle
  rw [List.pairwise_append]
  refine ⟨h.sublist (List.take_sublist _ _), ?_, ?_⟩
  ·rw [List.pairwise_cons]
   exact ⟨fun y hy => (ho.anti _ _).2 (hq y hy), h.sublist (List.drop_sublist _ _)⟩
  ·intro x hx y hy
   have hx0 := aheadG hx
   rcases List.mem_cons.1 hy with e | e
   ·subst e; exact hx0
   ·exact ho.trans _ _ _ hx0 ((ho.anti _ _).2 (hq y e))
 unfold putG
 split
 ·exact key' _ (fun x hx => behindG hr hx) (by omega)
 ·rename_i hf
  refine key' _ (fun x hx => ?_) (Nat.le_refl _)
  obtain ⟨i, hi, rfl⟩ := List.mem_iff_getElem.1 hx
  rw [List.getElem_drop]
  simp at hi
  have hn := fnd_f hr (by simpa using hf) (plc (fun x => c (key x) (key b)) l + i) (by omega)
  rcases Nat.eq_zero_or_pos i with g | g
  ·subst g
   have := plc_at (fun x => c (key x) (key b)) l (by omega)
   simp only [Nat.add_zero] at hn ⊢
   omega
  ·exact hr.gt _ (by omega) (by omega)
theorem putG_len (l : List α) (b : α) : (putG c key l b).length ≤ l.length + 1 ∧ (fnd (fun x => c (key x) (key b)) l = true → (putG c key l b).length = l.length) ∧ (fnd (fun x => c (key x) (key b)) l = false → (putG c key l b).length = l.length + 1) := by
 have hp := plc_le (fun x => c (key x) (key b)) l
 unfold putG
 cases hf : fnd (fun x => c (key x) (key b)) l with
 | true =>
  obtain ⟨h1, _⟩ := fnd_t hf
  simp
  omega
 | false =>
  simp
  omega
end
end Go.Proofs.Ytiheginanghhjaa.Q
namespace Go.Proofs.Ytiheginanghhjaa.Q
open Go.RowKit Go.Proofs.YtiheginanghhjaaW.PrintWords Go.Proofs.YtiheginanghhjaaW.PrintLast Go.Proofs.YtiheginanghhjaaW.PrintMore
abbrev risE (l : List Ent) : Prop := l.Pairwise (fun x y => Go.Lib.compareBytes (fcE x) (fcE y) < 0)
abbrev putE (l : List Ent) (b : Ent) : List Ent := putG Go.Lib.compareBytes fcE l b
theorem setE_ev (l : List Ent) (hl : (l.length : Int) ≤ 1048576) (b : Ent) (hr : Rsg (fun x => Go.Lib.compareBytes (fcE x) (fcE b)) l) : Ev (fun k => aR_.f k l b.f0 b.f1.f0 b.f1.f1 b.f1.f2) (putE l b) := by
 obtain ⟨c, hc⟩ : ∃ c, c = (fun x => Go.Lib.compareBytes (fcE x) (fcE b)) := ⟨_, rfl⟩
 unfold putE putG
 rw [← hc] at hr ⊢
 have key : ∀ x, c x = 0 ↔ x.f0.toList = b.f0.toList := fun x => by rw [hc]; exact keyE_iff x b.f0
 have cEq : ∀ y : Ent, Op.bytesLess y.f0.toList b.f0.toList = decide (c y < 0) := fun y => by
  rw [hc]
  have := less_iff y.f0.toList b.f0.toList
  simp only [fcE, Go.ByteArray.toList_eq] at this ⊢
  cases hb : Op.bytesLess y.f0.data.toList b.f0.data.toList with
  | true => exact (decide_eq_true (this.1 hb)).symm
  | false => exact (decide_eq_false (fun h => by rw [this.2 h] at hb; cases hb)).symm
 have hb : ∀ y : Ent, (⟨y.f0, (⟨y.f1.f0, y.f1.f1, y.f1.f2⟩ : S61)⟩ : Ent) = y := fun y => rfl
 have two : ∀ (d i : Nat) (out : List Ent), i + d = l.length → plc c l < i → out.length ≤ i + 1 → Ev (fun k => aR_.l0 k l out true i b.f0 b.f1.f0 b.f1.f1 b.f1.f2) (out ++ l.drop i) := by
  intro d
  induction d with
  | zero =>
   intro i out h1 h2 h3
   refine aZ_ ?_
   simp only [aR_.l0]
   rw [List.drop_of_length_le (by omega), List.append_nil]
   exact Ev_f (by omega) (Ev_t (by first | exact True.intro | rfl) (Ev_n rfl))
  | succ d ih =>
   intro i out h1 h2 h3
   refine aZ_ ?_
   simp only [aR_.l0]
   refine Ev_t (by omega) (Ev_t (by first | exact True.intro | rfl) (aZ_ ?_))
   simp only [aR_.j1]
   refine Ev_f (by decide) (Ev_t (by omega) (Ev_t (by omega) ?_))
   rw [bR_ l i (by omega), wr64s i (by omega), List.drop_eq_getElem_cons (show i < l.length by omega), hb]
   have hn : c l[i] ≠ 0 := by have := hr.gt i (by omega) h2; omega
   have nxt := ih (i + 1) (out ++ [l[i]]) (by omega) (by omega) (by simp; omega)
   rw [List.append_assoc, List.singleton_append] at nxt
   exact Ev_f (fun e0 => hn ((key _).2 e0)) (Ev_t (by omega) nxt)
 have one : ∀ (d i : Nat), i + d = plc c l → Ev (fun k => aR_.l0 k l (l.take i) false i b.f0 b.f1.f0 b.f1.f1 b.f1.f2) (if fnd c l = true then l.take (plc c l) ++ b :: l.drop (plc c l + 1) else l.take (plc c l) ++ b :: l.drop (plc c l)) := by
  have hp0 := plc_le c l
  intro d
  induction d with
  | zero =>
   intro i h1
   have h1' : i = plc c l := by omega
   subst h1'
   refine aZ_ ?_
   simp only [aR_.l0]
   have hlen : (l.take (plc c l)).length = plc c l := by simp; omega
   by_cases hn : plc c l < l.length
   rotate_left
   ·have hf : ¬ fnd c l = true := by unfold fnd; rw [dif_neg hn]; decide
    rw [if_neg hf, List.drop_of_length_le (by omega)]
    exact Ev_f (by omega) (Ev_f (by decide) (Ev_t (by omega) (Ev_n rfl)))
   refine Ev_t (by omega) (Ev_f (by decide) (Ev_t (by omega) (aZ_ ?_)))
   rw [bR_ l _ hn, cEq]
   have h0 := plc_at c l hn
   simp only [aR_.j1]
   refine Ev_t (by simpa using h0) (Ev_t (by omega) (Ev_s (Ev_t (by omega) (Ev_t (by omega) ?_))))
   rw [bR_ l _ hn, hb, hb, wr64s _ (by omega)]
   have more : ∀ out : List Ent, out.length ≤ plc c l + 2 → Ev (fun k => aR_.l0 k l out true ((plc c l + 1 : Nat) : Int) b.f0 b.f1.f0 b.f1.f1 b.f1.f2) (out ++ l.drop (plc c l + 1)) := fun out ho =>
    two (l.length - (plc c l + 1)) (plc c l + 1) out (by omega) (by omega) ho
   by_cases hz : c l[plc c l] = 0
   rotate_left
   ·have hf : ¬ fnd c l = true := by unfold fnd; rw [dif_pos hn]; simpa using hz
    rw [if_neg hf]
    refine Ev_f (fun e0 => hz ((key _).2 e0)) (Ev_t (by simp; omega) ?_)
    refine Ev_at (more (l.take (plc c l) ++ [b] ++ [l[plc c l]]) (by simp; omega)) ?_
    rw [List.append_assoc, List.append_assoc, List.singleton_append, List.singleton_append, List.getElem_cons_drop]
   have hf : fnd c l = true := by unfold fnd; rw [dif_pos hn]; simpa using hz
   rw [if_pos hf]
   refine Ev_t ((key _).1 hz) ?_
   refine Ev_at (more _ (by simp; omega)) ?_
   rw [List.append_assoc, List.singleton_append]
  | succ d ih =>
   intro i h1
   have hi : i < l.length := by omega
   have hlen : (l.take i).length = i := by simp; omega
   refine aZ_ ?_
   simp only [aR_.l0]
   refine Ev_t (by omega) (Ev_f (by decide) (Ev_t (by omega) (aZ_ ?_)))
   rw [bR_ l i hi, cEq]
   have h0 := plc_lt c l i hi (by omega)
   simp only [aR_.j1]
   refine Ev_f (by simpa using h0) (Ev_t (by omega) (Ev_t (by omega) ?_))
   rw [bR_ l i hi, hb, wr64s i (by omega)]
   have nxt := ih (i + 1) (by omega)
   rw [List.take_succ_eq_append_getElem hi] at nxt
   exact Ev_f (fun e0 => by have := (key _).2 e0; omega) (Ev_t (by omega) nxt)
 simp only [aR_.f]
 exact one (plc c l) 0 (by omega)
theorem fs_lt : ∀ a b : List UInt8, a < b ↔ Go.Lib.compareBytes a b < 0
 | [], [] => by simp [Go.Lib.compareBytes]
 | [], _ :: _ => by simp [Go.Lib.compareBytes]
 | _ :: _, [] => by simp [Go.Lib.compareBytes]
 | x :: a, y :: b => by
  have ih := fs_lt a b
  rw [List.cons_lt_cons_iff]
  simp only [Go.Lib.compareBytes]
  by_cases h1 : x < y
  rotate_left
  ·by_cases h2 : y < x
   rotate_left
   ·have : x = y := UInt8.le_antisymm (UInt8.not_lt.1 h2) (UInt8.not_lt.1 h1)
    subst this
    simp [h1, ih]
   have : x ≠ y := fun e => by subst e; exact h1 h2
   simp [h1, h2, this]
  simp [h1]
theorem fs_le (l : List (List UInt8)) : (l.mergeSort fun x y => decide (x ≤ y)).Pairwise (fun x y => x ≤ y) := by
 have := List.pairwise_mergeSort (le := fun x y : List UInt8 => decide (x ≤ y)) (fun a b c h1 h2 => by simp only [decide_eq_true_eq] at *; exact List.le_trans h1 h2) (fun a b => by simp only [Bool.or_eq_true, decide_eq_true_eq]; exact List.le_total a b) l
 exact this.imp (fun h => by simpa using h)
theorem fs_pw (zs : List (List UInt8)) (h : zs.Pairwise (fun x y => x ≤ y)) : (Go.Lib.compact zs).Pairwise (fun x y => x < y) := by
 unfold Go.Lib.compact Go.Lib.compactUpTo
 rw [List.pairwise_map]
 refine List.Pairwise.imp_of_mem (R := fun i j => i < j) (fun {i j} hi hj hij => ?_) ((List.pairwise_lt_range (n := zs.length)).sublist List.filter_sublist)
 obtain ⟨hj1, hj2⟩ := List.mem_filter.1 hj
 have hj1 := List.mem_range.1 hj1
 simp only [Go.Lib.keeps, decide_eq_true_eq] at hj2
 have g := List.pairwise_iff_getElem.1 h
 have e : ∀ q (hq : q < zs.length), zs.toArray[q]! = zs[q] := fun q hq => by simp [getElem!_pos, hq]
 rw [e j hj1, e (j - 1) (by omega)] at hj2
 rw [e j hj1, e i (by omega)]
 have h2 : zs[j - 1] < zs[j] := by
  have l1 := g (j - 1) j (by omega) hj1 (by omega)
  have ne : zs[j - 1] ≠ zs[j] := fun q => by rcases hj2 with r | r; omega; exact r q.symm
  exact Decidable.byContradiction fun hn => ne (List.le_antisymm l1 hn)
 by_cases hij2 : i = j - 1
 rotate_left
 ·exact Decidable.byContradiction fun hn => absurd (List.le_trans (List.not_lt.1 hn) (g i (j - 1) (by omega) (by omega) (by omega))) (fun hle => hle h2)
 subst hij2; exact h2
theorem fs_mem (zs : List (List UInt8)) (x : List UInt8) : x ∈ Go.Lib.compact zs ↔ x ∈ zs := by
 unfold Go.Lib.compact Go.Lib.compactUpTo
 have e : ∀ q (hq : q < zs.length), zs.toArray[q]! = zs[q] := fun q hq => by simp [getElem!_pos, hq]
 constructor
 ·intro h
  obtain ⟨j, hj, rfl⟩ := List.mem_map.1 h
  have := List.mem_range.1 (List.mem_filter.1 hj).1
  rw [e j this]
  exact List.getElem_mem _
 ·intro h
  obtain ⟨j, hj, rfl⟩ := List.mem_iff_getElem.1 h
  clear h
  induction j with
  | zero => exact List.mem_map.2 ⟨0, List.mem_filter.2 ⟨List.mem_range.2 hj, by simp [Go.Lib.keeps]⟩, e 0 hj⟩
  | succ j ih =>
   by_cases hk : Go.Lib.keeps zs.toArray (j + 1) = true
   rotate_left
   ·have : zs[j + 1] = zs[j] := by
     have h3 := hk
     simp only [Go.Lib.keeps, decide_eq_true_eq] at h3
     rw [e _ hj, e (j + 1 - 1) (by omega)] at h3
     have := fun q => h3 (.inr q)
     simpa using this
    rw [this]
    exact ih (by omega)
   exact List.mem_map.2 ⟨j + 1, List.mem_filter.2 ⟨List.mem_range.2 hj, hk⟩, e _ hj⟩
theorem fs_uniq : ∀ (a b : List (List UInt8)), a.Pairwise (fun x y => x < y) → b.Pairwise (fun x y => x < y) → (∀ x, x ∈ a ↔ x ∈ b) → a = b
 | [], [], _, _, _ => rfl
 | [], y :: b, _, _, h => by have := (h y).2 (by simp); simp at this
 | x :: a, [], _, _, h => by have := (h x).1 (by simp); simp at this
 | x :: a, y :: b, ha, hb, h => by
  rw [List.pairwise_cons] at ha hb
  have irr : ∀ z : List UInt8, ¬ z < z := fun z => List.lt_irrefl z
  have tr : ∀ p q r : List UInt8, p < q → q < r → p < r := fun p q r => List.lt_trans
  have e : x = y := by
   rcases List.mem_cons.1 ((h x).1 (by simp)) with q | q
   ·exact q
   ·rcases List.mem_cons.1 ((h y).2 (by simp)) with r | r
    ·exact r.symm
    ·exact absurd (tr _ _ _ (ha.1 y r) (hb.1 x q)) (irr _)
  subst e
  rw [fs_uniq a b ha.2 hb.2 (fun z => ?_)]
  constructor
  ·intro hz
   rcases List.mem_cons.1 ((h z).1 (by simp [hz])) with q | q
   ·subst q; exact absurd (ha.1 z hz) (irr _)
   ·exact q
  ·intro hz
   rcases List.mem_cons.1 ((h z).2 (by simp [hz])) with q | q
   ·subst q; exact absurd (hb.1 z hz) (irr _)
   ·exact q
abbrev bL (u : ByteArray) : List UInt8 := u.data.toList
theorem bL_inj {u v : ByteArray} (h : bL u = bL v) : u = v := by
 cases u with | mk a => cases v with | mk b => cases a; cases b; simp only [bL] at h; subst h; rfl
theorem map_bL_inj : ∀ {a b : List ByteArray}, a.map bL = b.map bL → a = b
 | [], [], _ => rfl
 | [], _ :: _, h => by simp at h
 | _ :: _, [], h => by simp at h
 | x :: a, y :: b, h => by
  simp only [List.map_cons, List.cons.injEq] at h
  rw [bL_inj h.1, map_bL_inj h.2]
def fcs (l : List ByteArray) : List ByteArray := aD_.cmp (as_.srt l)
theorem fcs_map (l : List ByteArray) : (fcs l).map bL = Go.Lib.compact ((l.map bL).mergeSort fun x y => decide (x ≤ y)) := by
 have h1 : ∀ q : List (List UInt8), (q.map fun b => (⟨b.toArray⟩ : ByteArray)).map bL = q := fun q => by
  rw [List.map_map]; simp [bL, Function.comp_def]
 have h2 : (as_.srt l).map bL = (l.map bL).mergeSort fun x y => decide (x ≤ y) := h1 _
 have h3 : (fcs l).map bL = Go.Lib.compact ((as_.srt l).map bL) := h1 _
 rw [h3, h2]
theorem fcs_pw (l : List ByteArray) : ((fcs l).map bL).Pairwise (fun x y => x < y) := by
 rw [fcs_map]
 exact fs_pw _ (fs_le _)
theorem fcs_memb (l : List ByteArray) (x : List UInt8) : x ∈ (fcs l).map bL ↔ x ∈ l.map bL := by
 rw [fcs_map, fs_mem, List.mem_mergeSort]
theorem fcs_mem (l : List ByteArray) (u : ByteArray) : u ∈ fcs l ↔ u ∈ l := by
 have h : ∀ q : List ByteArray, u ∈ q ↔ bL u ∈ q.map bL := fun q => ⟨fun h => List.mem_map.2 ⟨u, h, rfl⟩, fun h => by obtain ⟨v, hv, e⟩ := List.mem_map.1 h; rw [← bL_inj e]; exact hv⟩
 rw [h, h, fcs_memb]
theorem fcs_len (l : List ByteArray) : (fcs l).length ≤ l.length := by
 have h1 : (fcs l).length = ((fcs l).map bL).length := by simp
 rw [h1, fcs_map]
 unfold Go.Lib.compact Go.Lib.compactUpTo
 rw [List.length_map]
 exact Nat.le_trans (List.length_filter_le _ _) (by simp)
theorem faces_ev (L : List (List Ent)) (hL : L.length ≤ 3) (hs : ∀ s ∈ L, s.length ≤ 24) : Ev (fun k => bj_.f k L) (fcs (L.flatten.map (·.f0))) := by
 have inner : ∀ (i : Nat) (s : List Ent) (r : List ByteArray), s.length ≤ 24 → i < 3 → ∀ (d j : Nat) (out : List ByteArray), j + d = s.length → out.length ≤ 1000 + j → Ev (fun k => bj_.l0 k (out ++ (s.drop j).map (·.f0)) L (L.length : Int) ((i + 1 : Nat) : Int)) r → Ev (fun k => bj_.l1 k out L (L.length : Int) i s (s.length : Int) j) r := by
  intro i s r hs hi d
  induction d with
  | zero =>
   intro j out h1 h2 h3
   refine aZ_ ?_
   simp only [bj_.l1]
   rw [List.drop_of_length_le (by omega)] at h3
   simp only [List.map_nil, List.append_nil] at h3
   rw [wr64s i (by omega)]
   exact Ev_f (by omega) h3
  | succ d ih =>
   intro j out h1 h2 h3
   refine aZ_ ?_
   simp only [bj_.l1]
   rw [wr64s j (by omega), bR_ s j (by omega)]
   refine Ev_t (by omega) (Ev_t (by omega) (Ev_t (by omega) (Ev_t (by omega) (ih (j + 1) _ (by omega) (by simp; omega) ?_))))
   rw [List.drop_eq_getElem_cons (show j < s.length by omega), List.map_cons] at h3
   rw [List.append_assoc, List.singleton_append]
   exact h3
 have outer : ∀ (d i : Nat) (out : List ByteArray), i + d = L.length → out.length ≤ 24 * i → Ev (fun k => bj_.l0 k out L (L.length : Int) i) (fcs (out ++ (L.drop i).flatten.map (·.f0))) := by
  intro d
  induction d with
  | zero =>
   intro i out h1 h2
   refine aZ_ ?_
   simp only [bj_.l0]
   rw [List.drop_of_length_le (by omega)]
   simp only [List.flatten_nil, List.map_nil, List.append_nil]
   have hl : (as_.srt out).length = out.length := by simp [as_.srt]
   refine Ev_f (by omega) (Ev_b (a := as_.srt out) (Ev_c ?_) (Ev_b (a := fcs out) (Ev_c ?_) (Ev_n rfl)))
   ·unfold as_.f; rw [if_pos (by omega)]
   ·unfold aD_.f; rw [if_pos (by omega)]; rfl
  | succ d ih =>
   intro i out h1 h2
   refine aZ_ ?_
   simp only [bj_.l0]
   have hi : i < L.length := by omega
   have hr : rd_L7 L (i : Int) = L[i] := getD_in L _ i hi
   have h24 := hs L[i] (List.getElem_mem _)
   rw [hr]
   refine Ev_t (by omega) (Ev_t (by omega) (Ev_t (by omega) (inner i L[i] _ h24 (by omega) L[i].length 0 out (by omega) (by omega) ?_)))
   rw [List.drop_zero]
   have := ih (i + 1) (out ++ L[i].map (·.f0)) (by omega) (by simp; omega)
   rw [List.append_assoc, ← List.map_append, ← List.flatten_cons, List.getElem_cons_drop] at this
   exact this
 simp only [bj_.f]
 exact outer L.length 0 [] (by omega) (by simp)
theorem putE_mem (l : List Ent) (b : Ent) (u : List UInt8) : u ∈ (putE l b).map fcE ↔ u = fcE b ∨ u ∈ l.map fcE := by
 obtain ⟨p, hp⟩ : ∃ p, p = plc (fun x => Go.Lib.compareBytes (fcE x) (fcE b)) l := ⟨_, rfl⟩
 unfold putE putG
 rw [← hp]
 split
 ·rename_i hf
  obtain ⟨h1, h2⟩ := fnd_t hf
  simp only [← hp] at h1 h2
  have h3 : fcE l[p] = fcE b := (cb_ord.zero _ _).1 h2
  have h4 : l.map fcE = (l.take p).map fcE ++ fcE b :: (l.drop (p + 1)).map fcE := by
   rw [← h3, ← List.map_cons, ← List.map_append, List.getElem_cons_drop, List.take_append_drop]
  rw [h4]
  simp only [List.map_append, List.map_cons, List.mem_append, List.mem_cons]
  constructor
  ·rintro (h | h | h)
   ·exact .inr (.inl h)
   ·exact .inl h
   ·exact .inr (.inr (.inr h))
  ·rintro (h | h | h | h)
   ·exact .inr (.inl h)
   ·exact .inl h
   ·exact .inr (.inl h)
   ·exact .inr (.inr h)
 ·have h4 : l.map fcE = (l.take p).map fcE ++ (l.drop p).map fcE := by rw [← List.map_append, List.take_append_drop]
  rw [h4]
  simp only [List.map_append, List.map_cons, List.mem_append, List.mem_cons]
  constructor
  ·rintro (h | h | h)
   ·exact .inr (.inl h)
   ·exact .inl h
   ·exact .inr (.inr h)
  ·rintro (h | h | h)
   ·exact .inr (.inl h)
   ·exact .inl h
   ·exact .inr (.inr h)
theorem fold_mem : ∀ (L acc : List Ent) (u : List UInt8), u ∈ (L.foldl putE acc).map fcE ↔ u ∈ acc.map fcE ∨ u ∈ L.map fcE
 | [], acc, u => by simp
 | b :: L, acc, u => by
  rw [List.foldl_cons, fold_mem L, putE_mem, List.map_cons, List.mem_cons]
  constructor
  ·rintro ((h | h) | h)
   ·exact .inr (.inl h)
   ·exact .inl h
   ·exact .inr (.inr h)
  ·rintro (h | h | h)
   ·exact .inl (.inr h)
   ·exact .inl (.inl h)
   ·exact .inr h
theorem fold_ris : ∀ (L acc : List Ent), risE acc → risE (L.foldl putE acc)
 | [], _, h => h
 | b :: L, acc, h => fold_ris L _ (putG_pw cb_ord h b)
theorem sfaces_ev (x y z : List Ent) (hx : x.length ≤ 24) (hy : y.length ≤ 24) (hz : z.length ≤ 24) : Ev (fun k => ax_.f k x y z) (((x ++ y ++ z).foldl putE []).map (·.f0)) := by
 have last : ∀ (A : List Ent), A.length ≤ 1000 → ∀ (d i : Nat) (out : List ByteArray), i + d = A.length → out.length ≤ i → Ev (fun k => ax_.l3 k A out i) (out ++ (A.drop i).map (·.f0)) := by
  intro A hA d
  induction d with
  | zero =>
   intro i out h1 h2
   refine aZ_ ?_
   simp only [ax_.l3]
   rw [List.drop_of_length_le (by omega), List.map_nil, List.append_nil]
   exact Ev_f (by omega) (Ev_n rfl)
  | succ d ih =>
   intro i out h1 h2
   refine aZ_ ?_
   simp only [ax_.l3]
   rw [wr64s i (by omega), bR_ A i (by omega)]
   have := ih (i + 1) (out ++ [A[i].f0]) (by omega) (by simp; omega)
   rw [List.append_assoc, List.singleton_append, ← List.map_cons, List.getElem_cons_drop] at this
   exact Ev_t (by omega) (Ev_t (by omega) (Ev_t (by omega) this))
 have set : ∀ (acc : List Ent) (b : Ent), risE acc → acc.length ≤ 1000 → Ev (fun k => aR_.f k acc b.f0 b.f1.f0 b.f1.f1 b.f1.f2) (putE acc b) := fun acc b h1 h2 => setE_ev acc (by omega) b (rsgG cb_ord h1 (fcE b))
 have len : ∀ (acc : List Ent) (b : Ent), (putE acc b).length ≤ acc.length + 1 := fun acc b => (putG_len (c := Go.Lib.compareBytes) (key := fcE) acc b).1
 have three : ∀ (d i : Nat) (acc : List Ent), i + d = z.length → risE acc → acc.length ≤ 48 + i → Ev (fun k => ax_.l2 k z acc i) (((z.drop i).foldl putE acc).map (·.f0)) := by
  intro d
  induction d with
  | zero =>
   intro i acc h1 h2 h3
   refine aZ_ ?_
   simp only [ax_.l2]
   rw [List.drop_of_length_le (by omega), List.foldl_nil]
   have := last acc (by omega) acc.length 0 [] (by omega) (by simp)
   rw [List.drop_zero, List.nil_append] at this
   exact Ev_f (by omega) this
  | succ d ih =>
   intro i acc h1 h2 h3
   refine aZ_ ?_
   simp only [ax_.l2]
   have l1 := len acc z[i]
   rw [wr64s i (by omega), bR_ z i (by omega), List.drop_eq_getElem_cons (show i < z.length by omega), List.foldl_cons]
   exact Ev_t (by omega) (Ev_t (by omega) (Ev_b (set acc z[i] h2 (by omega)) (ih (i + 1) _ (by omega) (putG_pw cb_ord h2 _) (by omega))))
 have two : ∀ (d i : Nat) (acc : List Ent), i + d = y.length → risE acc → acc.length ≤ 24 + i → Ev (fun k => ax_.l1 k y z acc i) (((y.drop i ++ z).foldl putE acc).map (·.f0)) := by
  intro d
  induction d with
  | zero =>
   intro i acc h1 h2 h3
   refine aZ_ ?_
   simp only [ax_.l1]
   rw [List.drop_of_length_le (by omega), List.nil_append]
   exact Ev_f (by omega) (three z.length 0 acc (by omega) h2 (by omega))
  | succ d ih =>
   intro i acc h1 h2 h3
   refine aZ_ ?_
   simp only [ax_.l1]
   have l1 := len acc y[i]
   rw [wr64s i (by omega), bR_ y i (by omega), List.drop_eq_getElem_cons (show i < y.length by omega), List.cons_append, List.foldl_cons]
   exact Ev_t (by omega) (Ev_t (by omega) (Ev_b (set acc y[i] h2 (by omega)) (ih (i + 1) _ (by omega) (putG_pw cb_ord h2 _) (by omega))))
 have one : ∀ (d i : Nat) (acc : List Ent), i + d = x.length → risE acc → acc.length ≤ i → Ev (fun k => ax_.l0 k x y z acc i) (((x.drop i ++ y ++ z).foldl putE acc).map (·.f0)) := by
  intro d
  induction d with
  | zero =>
   intro i acc h1 h2 h3
   refine aZ_ ?_
   simp only [ax_.l0]
   rw [List.drop_of_length_le (by omega), List.nil_append]
   exact Ev_f (by omega) (two y.length 0 acc (by omega) h2 (by omega))
  | succ d ih =>
   intro i acc h1 h2 h3
   refine aZ_ ?_
   simp only [ax_.l0]
   have l1 := len acc x[i]
   rw [wr64s i (by omega), bR_ x i (by omega), List.drop_eq_getElem_cons (show i < x.length by omega), List.cons_append, List.cons_append, List.foldl_cons]
   exact Ev_t (by omega) (Ev_t (by omega) (Ev_b (set acc x[i] h2 (by omega)) (ih (i + 1) _ (by omega) (putG_pw cb_ord h2 _) (by omega))))
 simp only [ax_.f]
 exact one x.length 0 [] (by omega) List.Pairwise.nil (by simp)
theorem faces_eq (L : List Ent) : (L.foldl putE []).map (·.f0) = fcs (L.map (·.f0)) := by
 refine map_bL_inj (fs_uniq _ _ ?_ (fcs_pw _) (fun u => ?_))
 ·have h := fold_ris L [] List.Pairwise.nil
  rw [List.map_map]
  refine List.pairwise_map.2 (h.imp fun {a b} hab => ?_)
  exact (fs_lt _ _).2 hab
 ·rw [fcs_memb, List.map_map, List.map_map]
  have := fold_mem L [] u
  simpa [fcE, Function.comp_def, bL] using this
def zE : Ent := ⟨(⟨#[]⟩ : ByteArray), ⟨(⟨#[]⟩ : ByteArray), 0, 0⟩⟩
def gE (m : List Ent) (u : ByteArray) : Ent := if fnd (fun x => Go.Lib.compareBytes (fcE x) u.data.toList) m = true then m.getD (plc (fun x => Go.Lib.compareBytes (fcE x) u.data.toList) m) zE else zE
def Stn (m : List Ent) : Prop := Sta m ∧ ∀ y ∈ m, y.f0.toList ≠ []
theorem name_ne (k : Nat) (x : ByteArray) (h : ba_.f k x = some true) : x.toList ≠ [] := by
 intro e
 simp only [ba_.f] at h
 rw [if_pos e] at h
 cases k with
 | zero => simp [ba_.j0] at h
 | succ k => simp [ba_.j0] at h
theorem state_ne (m : List Ent) : ∀ (k i : Nat), ay_.l0 k m i = some true → ∀ (j : Nat) (hj : j < m.length), i ≤ j → m.length < 1000000 → m[j].f0.toList ≠ []
 | 0, i, h, _, _, _, _ => by simp [ay_.l0] at h
 | k + 1, i, h, j, hj, hij, hm => by
  simp only [ay_.l0] at h
  rw [if_pos (by omega), if_pos (by omega), wr64s i (by omega), bR_ m i (by omega)] at h
  obtain ⟨t, h1, h2⟩ := Option.bind_eq_some_iff.1 h
  cases t with
  | false => simp at h2
  | true =>
   rw [if_pos rfl] at h2
   have nx : ay_.l0 k m ((i + 1 : Nat) : Int) = some true := by
    split at h2
    ·split at h2
     ·split at h2
      ·split at h2
       ·exact h2
       ·simp at h2
      ·cases h2
     ·cases h2
    ·exact h2
   have hn : m[i].f0.toList ≠ [] := by
    have r0 : af_ [m[i]'(by omega)] 0 = m[i]'(by omega) := rfl
    simp only [cu_.f, r0] at h1
    rw [if_pos (by simp)] at h1
    obtain ⟨t2, g1, g2⟩ := Option.bind_eq_some_iff.1 h1
    cases t2 with
    | false => simp at g2
    | true => exact name_ne k _ g1
   rcases Nat.lt_or_eq_of_le hij with g | g
   ·exact state_ne m k (i + 1) nx j hj (by omega) hm
   ·subst g; exact hn
theorem stateN_ev (m : List Ent) (hl : (m.length : Int) ≤ 1048576) : ∃ b, Ev (fun k => ay_.f k m) b ∧ Ev (fun k => ap_.f k m) b ∧ (b = true → Stn m) := by
 obtain ⟨b, h1, h2, h3⟩ := state_ev m hl
 refine ⟨b, h1, h2, fun hb => ?_⟩
 subst hb
 obtain ⟨K, hK⟩ := h1
 have hk := hK K (Nat.le_refl _)
 simp only [ay_.f] at hk
 refine ⟨h3 rfl, fun y hy => ?_⟩
 obtain ⟨j, hj, rfl⟩ := List.mem_iff_getElem.1 hy
 have := (h3 rfl).1
 exact state_ne m K 0 hk j hj (by omega) (by omega)
theorem gE_at (m : List Ent) (u : ByteArray) (h : fnd (fun x => Go.Lib.compareBytes (fcE x) u.data.toList) m = true) : ∃ hp : plc (fun x => Go.Lib.compareBytes (fcE x) u.data.toList) m < m.length, gE m u = m[plc (fun x => Go.Lib.compareBytes (fcE x) u.data.toList) m]'hp ∧ fcE (m[plc (fun x => Go.Lib.compareBytes (fcE x) u.data.toList) m]'hp) = u.data.toList := by
 obtain ⟨hp, h0⟩ := fnd_t h
 refine ⟨hp, ?_, (cb_ord.zero _ _).1 h0⟩
 unfold gE
 rw [if_pos h]
 simp [List.getD, hp]
theorem getS_ev (m : List Ent) (hs : Sta m) (u : ByteArray) : Ev (fun k => bQ_.f k m u) ((gE m u).f0, (gE m u).f1.f0, (gE m u).f1.f1, (gE m u).f1.f2) := by
 have h24 := hs.1
 have f1 := findE_ev m (by omega) u (hs.rsg _)
 simp only [bQ_.f]
 cases hf : fnd (fun x => Go.Lib.compareBytes (fcE x) u.data.toList) m with
 | false =>
  rw [hf, if_neg (by decide)] at f1
  have e : gE m u = zE := by unfold gE; rw [hf]; rfl
  rw [e]
  exact Ev_b f1 (Ev_t (by decide) (Ev_n rfl))
 | true =>
  obtain ⟨hp, e, _⟩ := gE_at m u hf
  rw [hf, if_pos rfl] at f1
  refine Ev_b f1 (Ev_f (by omega) (Ev_t (by omega) (Ev_t (by omega) (Ev_n ?_))))
  rw [e, bR_ m _ hp]
theorem getI_ev (m : List Ent) (hs : Sta m) (u : ByteArray) : Ev (fun k => bC_.f k m u) ((gE m u).f1.f0, (gE m u).f1.f1, (gE m u).f1.f2) := by
 have h24 := hs.1
 have f2 := placeE_ev m (by omega) u (hs.rsg _)
 simp only [bC_.f]
 cases hf : fnd (fun x => Go.Lib.compareBytes (fcE x) u.data.toList) m with
 | false =>
  rw [hf] at f2
  have e : gE m u = zE := by unfold gE; rw [hf]; rfl
  rw [e]
  exact Ev_b f2 (Ev_f (by simp) (Ev_n rfl))
 | true =>
  obtain ⟨hp, e, _⟩ := gE_at m u hf
  rw [hf] at f2
  refine Ev_b f2 (Ev_t rfl (Ev_t (by show (0 : Int) ≤ _; omega) (Ev_t (by show _ < (m.length : Int); omega) (Ev_n ?_))))
  simp only
  rw [e, bR_ m _ hp]
theorem gE_cases (m : List Ent) (hs : Stn m) (u : ByteArray) : (gE m u = zE ∧ u ∉ m.map (·.f0)) ∨ ((gE m u).f0 = u ∧ (gE m u).f1.f0.toList ≠ [] ∧ u.toList ≠ [] ∧ u ∈ m.map (·.f0)) := by
 cases hf : fnd (fun x => Go.Lib.compareBytes (fcE x) u.data.toList) m with
 | false =>
  refine .inl ⟨by unfold gE; rw [hf]; rfl, fun h => ?_⟩
  obtain ⟨y, hy, e⟩ := List.mem_map.1 h
  obtain ⟨i, hi, rfl⟩ := List.mem_iff_getElem.1 hy
  have := fnd_f (hs.1.rsg u.data.toList) hf i hi
  apply this
  rw [cb_ord.zero]
  simp only [fcE]
  rw [← e]
 | true =>
  obtain ⟨hp, e, h0⟩ := gE_at m u hf
  have e2 : (m[plc (fun x => Go.Lib.compareBytes (fcE x) u.data.toList) m]'hp).f0 = u := bL_inj h0
  rw [e]
  refine .inr ⟨e2, ven_ne (hs.1.2.2 _ (List.getElem_mem _)), ?_, List.mem_map.2 ⟨_, List.getElem_mem hp, e2⟩⟩
  rw [← e2]
  exact hs.2 _ (List.getElem_mem _)
def dE (x y : Ent) : Bool := (!(x.f0.toList == y.f0.toList) || ((!(x.f1.f0.toList == y.f1.f0.toList) || (!(x.f1.f1 == y.f1.f1) || (!(x.f1.f2 == y.f1.f2))))))
def dV (x y : Ent) : Bool := (!(x.f1.f0.toList == y.f1.f0.toList) || (!(x.f1.f1 == y.f1.f1) || (!(x.f1.f2 == y.f1.f2))))
theorem dE_comm (x y : Ent) : dE x y = dE y x := by
 have h1 : (x.f0.toList == y.f0.toList) = (y.f0.toList == x.f0.toList) := Bool.beq_comm
 have h2 : (x.f1.f0.toList == y.f1.f0.toList) = (y.f1.f0.toList == x.f1.f0.toList) := Bool.beq_comm
 have h3 : (x.f1.f1 == y.f1.f1) = (y.f1.f1 == x.f1.f1) := Bool.beq_comm
 have h4 : (x.f1.f2 == y.f1.f2) = (y.f1.f2 == x.f1.f2) := Bool.beq_comm
 unfold dE
 rw [h1, h2, h3, h4]
theorem zt : (zE.f0.toList = []) ∧ (zE.f1.f0.toList = []) := by
 constructor <;> (show (⟨#[]⟩ : ByteArray).toList = []; rw [Go.ByteArray.toList_eq])
theorem dV_eq (m n : List Ent) (hm : Stn m) (hn : Stn n) (u : ByteArray) : dV (gE m u) (gE n u) = dE (gE m u) (gE n u) := by
 rcases gE_cases m hm u with ⟨a, _⟩ | ⟨a1, a2, a3, _⟩
 ·rcases gE_cases n hn u with ⟨b, _⟩ | ⟨b1, b2, b3, _⟩
  ·rw [a, b]; simp [dV, dE]
  ·rw [a]
   have h : dV zE (gE n u) = true := by simp [dV, zt.2, b2]
   have h2 : dE zE (gE n u) = true := by simp [dE, zt.1, b1, b3]
   rw [h, h2]
 ·rcases gE_cases n hn u with ⟨b, _⟩ | ⟨b1, b2, b3, _⟩
  ·rw [b]
   have h : dV (gE m u) zE = true := by simp [dV, zt.2, a2]
   have h2 : dE (gE m u) zE = true := by simp [dE, zt.1, a1, a3]
   rw [h, h2]
  ·simp [dV, dE, a1, b1]
def clE (base a b : List Ent) (u : ByteArray) : Bool := dE (gE base u) (gE a u) && (dE (gE base u) (gE b u) && dE (gE a u) (gE b u))
theorem rdB (l : List ByteArray) (i : Nat) (h : i < l.length) : rdOf ByteArray.empty l (i : Int) = l[i] := getD_in l _ i h
theorem sclash_ev (base a b : List Ent) (h0 : Stn base) (h1 : Stn a) (h2 : Stn b) : Ev (fun k => bq_.f k base a b) ((fcs ((base ++ a ++ b).map (·.f0))).filter (clE base a b)) := by
 have l0 := h0.1.1
 have l1 := h1.1.1
 have l2 := h2.1.1
 have f := sfaces_ev base a b l0 l1 l2
 rw [faces_eq] at f
 have fl := fcs_len ((base ++ a ++ b).map (·.f0))
 simp only [List.length_map, List.length_append] at fl
 generalize fcs ((base ++ a ++ b).map (·.f0)) = F at f fl
 have go : ∀ (d i : Nat) (out : List ByteArray), i + d = F.length → out.length ≤ i → Ev (fun k => bq_.l0 k base a b F out i) (out ++ (F.drop i).filter (clE base a b)) := by
  intro d
  induction d with
  | zero =>
   intro i out g1 g2
   refine aZ_ ?_
   simp only [bq_.l0]
   rw [List.drop_of_length_le (by omega), List.filter_nil, List.append_nil]
   exact Ev_f (by omega) (Ev_n rfl)
  | succ d ih =>
   intro i out g1 g2
   refine aZ_ ?_
   simp only [bq_.l0]
   have hi : i < F.length := by omega
   rw [rdB F i hi, wr64s i (by omega), List.drop_eq_getElem_cons hi]
   refine Ev_t (by omega) (Ev_t (by omega) (Ev_b (getS_ev base h0.1 F[i]) (Ev_b (getS_ev a h1.1 F[i]) (Ev_b (getS_ev b h2.1 F[i]) ?_))))
   have skip : clE base a b F[i] = false → Ev (fun k => bq_.l0 k base a b F out ((i + 1 : Nat) : Int)) (out ++ (F[i] :: F.drop (i + 1)).filter (clE base a b)) := fun hc => by
    rw [List.filter_cons_of_neg (by rw [hc]; decide)]
    exact ih (i + 1) out (by omega) (by omega)
   by_cases c1 : dE (gE base F[i]) (gE a F[i]) = true
   rotate_left
   ·exact Ev_f c1 (skip (by simp [clE, c1]))
   refine Ev_t c1 ?_
   by_cases c2 : dE (gE base F[i]) (gE b F[i]) = true
   rotate_left
   ·exact Ev_f c2 (skip (by simp [clE, c2]))
   refine Ev_t c2 ?_
   by_cases c3 : dE (gE a F[i]) (gE b F[i]) = true
   rotate_left
   ·exact Ev_f c3 (skip (by simp [clE, c3]))
   refine Ev_t c3 (Ev_t (by omega) ?_)
   rw [List.filter_cons_of_pos (by simp [clE, c1, c2, c3])]
   have := ih (i + 1) (out ++ [F[i]]) (by omega) (by simp; omega)
   rwa [List.append_assoc, List.singleton_append] at this
 simp only [bq_.f]
 refine Ev_b f ?_
 have := go F.length 0 [] (by omega) (by simp)
 rwa [List.drop_zero, List.nil_append] at this
theorem iclash_ev (base a b : List Ent) (h0 : Stn base) (h1 : Stn a) (h2 : Stn b) : Ev (fun k => aE_.j0 k base a b false) ((fcs ((base ++ a ++ b).map (·.f0))).filter (clE base a b), 0) := by
 have l0 := h0.1.1
 have l1 := h1.1.1
 have l2 := h2.1.1
 have f := faces_ev [base, a, b] (by simp) (by simp; omega)
 have fe : [base, a, b].flatten = base ++ a ++ b := by simp
 rw [fe] at f
 have fl := fcs_len ((base ++ a ++ b).map (·.f0))
 simp only [List.length_map, List.length_append] at fl
 generalize fcs ((base ++ a ++ b).map (·.f0)) = F at f fl
 have go : ∀ (d i : Nat) (out : List ByteArray), i + d = F.length → out.length ≤ i → Ev (fun k => aE_.l0 k base a b out F (F.length : Int) i) (out ++ (F.drop i).filter (clE base a b), 0) := by
  intro d
  induction d with
  | zero =>
   intro i out g1 g2
   refine aZ_ ?_
   simp only [aE_.l0]
   rw [List.drop_of_length_le (by omega), List.filter_nil, List.append_nil]
   exact Ev_f (by omega) (Ev_n rfl)
  | succ d ih =>
   intro i out g1 g2
   refine aZ_ ?_
   simp only [aE_.l0]
   have hi : i < F.length := by omega
   rw [rdB F i hi, wr64s i (by omega), List.drop_eq_getElem_cons hi]
   refine Ev_t (by omega) (Ev_t (by omega) (Ev_t (by omega) (Ev_b (getI_ev base h0.1 F[i]) (Ev_b (getI_ev a h1.1 F[i]) (Ev_b (getI_ev b h2.1 F[i]) ?_)))))
   have skip : clE base a b F[i] = false → Ev (fun k => aE_.l0 k base a b out F (F.length : Int) ((i + 1 : Nat) : Int)) (out ++ (F[i] :: F.drop (i + 1)).filter (clE base a b), 0) := fun hc => by
    rw [List.filter_cons_of_neg (by rw [hc]; decide)]
    exact ih (i + 1) out (by omega) (by omega)
   have e1 := dV_eq a b h1 h2 F[i]
   have e2 := (dV_eq a base h1 h0 F[i]).trans (dE_comm _ _)
   have e3 := (dV_eq b base h2 h0 F[i]).trans (dE_comm _ _)
   by_cases c1 : dV (gE a F[i]) (gE b F[i]) = true
   rotate_left
   ·refine Ev_f c1 (skip ?_)
    rw [e1] at c1
    simp [clE, c1]
   refine Ev_t c1 ?_
   rw [e1] at c1
   by_cases c2 : dV (gE a F[i]) (gE base F[i]) = true
   rotate_left
   ·refine Ev_f c2 (skip ?_)
    rw [e2] at c2
    simp [clE, c2]
   refine Ev_t c2 ?_
   rw [e2] at c2
   by_cases c3 : dV (gE b F[i]) (gE base F[i]) = true
   rotate_left
   ·refine Ev_f c3 (skip ?_)
    rw [e3] at c3
    simp [clE, c3]
   refine Ev_t c3 (Ev_t (by omega) ?_)
   rw [e3] at c3
   rw [List.filter_cons_of_pos (by simp [clE, c1, c2, c3])]
   have := ih (i + 1) (out ++ [F[i]]) (by omega) (by simp; omega)
   rwa [List.append_assoc, List.singleton_append] at this
 refine aZ_ ?_
 simp only [aE_.j0]
 refine Ev_f (by decide) (Ev_b f ?_)
 have := go F.length 0 [] (by omega) (by simp)
 rwa [List.drop_zero, List.nil_append] at this
theorem dE_sE (x y : Ent) : (x.f0.toList == y.f0.toList && ((x.f1.f0.toList == y.f1.f0.toList && (x.f1.f1 == y.f1.f1 && (x.f1.f2 == y.f1.f2))))) = !dE x y := by
 unfold dE
 simp only [Bool.not_or, Bool.not_not]
theorem dV_sV (x y : Ent) : (x.f1.f0.toList == y.f1.f0.toList && (x.f1.f1 == y.f1.f1 && (x.f1.f2 == y.f1.f2))) = !dV x y := by
 unfold dV
 simp only [Bool.not_or, Bool.not_not]
def pkE (base a b : List Ent) (u : ByteArray) : Ent := if dE (gE a u) (gE base u) = true then gE a u else gE b u
def mgE (base a b : List Ent) (u : ByteArray) : List Ent := if (pkE base a b u).f0.toList = [] then [] else [pkE base a b u]
theorem pk_cases (base a b : List Ent) (h1 : Stn a) (h2 : Stn b) (u : ByteArray) : pkE base a b u = zE ∨ ((pkE base a b u).f0 = u ∧ (pkE base a b u).f1.f0.toList ≠ [] ∧ u.toList ≠ [] ∧ (u ∈ a.map (·.f0) ∨ u ∈ b.map (·.f0))) := by
 unfold pkE
 split
 ·rcases gE_cases a h1 u with ⟨h, _⟩ | ⟨q1, q2, q3, q4⟩
  ·exact .inl h
  ·exact .inr ⟨q1, q2, q3, .inl q4⟩
 ·rcases gE_cases b h2 u with ⟨h, _⟩ | ⟨q1, q2, q3, q4⟩
  ·exact .inl h
  ·exact .inr ⟨q1, q2, q3, .inr q4⟩
theorem smerge_ev (base a b : List Ent) (h0 : Stn base) (h1 : Stn a) (h2 : Stn b) (F : List ByteArray) (fl : F.length ≤ 72) : ∀ (d i : Nat) (out : List Ent), i + d = F.length → out.length ≤ i → Ev (fun k => bc_.l0 k base a b F out i) (if (out ++ (F.drop i).flatMap (mgE base a b)).length > 24 then ([], 5) else (out ++ (F.drop i).flatMap (mgE base a b), 0)) := by
 intro d
 induction d with
 | zero =>
  intro i out g1 g2
  refine aZ_ ?_
  simp only [bc_.l0]
  rw [List.drop_of_length_le (by omega), List.flatMap_nil, List.append_nil]
  refine Ev_f (by omega) ?_
  by_cases c : out.length > 24
  rotate_left
  ·rw [if_neg c]; exact Ev_f (by omega) (Ev_n rfl)
  rw [if_pos c]; exact Ev_t (by omega) (Ev_n rfl)
 | succ d ih =>
  intro i out g1 g2
  refine aZ_ ?_
  simp only [bc_.l0]
  have hi : i < F.length := by omega
  rw [rdB F i hi, wr64s i (by omega), List.drop_eq_getElem_cons hi, List.flatMap_cons]
  refine Ev_t (by omega) (Ev_t (by omega) (Ev_b (getS_ev a h1.1 F[i]) (Ev_b (getS_ev base h0.1 F[i]) ?_)))
  have tail : ∀ p : Ent, p = pkE base a b F[i] → Ev (fun n => if p.f0.toList = ([] : List UInt8) then (bc_.l0 n base a b F out ((i + 1 : Nat) : Int)) else (if out.length < 2932031007402 then (bc_.l0 n base a b F (out ++ [(⟨p.f0, (⟨p.f1.f0, p.f1.f1, p.f1.f2⟩ : S61)⟩ : Ent)]) ((i + 1 : Nat) : Int)) else none)) (if (out ++ (mgE base a b F[i] ++ (F.drop (i + 1)).flatMap (mgE base a b))).length > 24 then ([], 5) else (out ++ (mgE base a b F[i] ++ (F.drop (i + 1)).flatMap (mgE base a b)), 0)) := by
   intro p hp
   have hm : mgE base a b F[i] = if p.f0.toList = [] then [] else [p] := by unfold mgE; rw [← hp]
   by_cases c : p.f0.toList = ([] : List UInt8)
   rotate_left
   ·rw [hm, if_neg c]
    have := ih (i + 1) (out ++ [p]) (by omega) (by simp; omega)
    rw [List.append_assoc] at this
    exact Ev_f c (Ev_t (by omega) this)
   rw [hm, if_pos c, List.nil_append]
   exact Ev_t c (ih (i + 1) out (by omega) (by omega))
  have e := dE_sE (gE a F[i]) (gE base F[i])
  by_cases c : dE (gE a F[i]) (gE base F[i]) = true
  rotate_left
  ·have c' : dE (gE a F[i]) (gE base F[i]) = false := by simpa using c
   rw [c'] at e
   refine Ev_t e (Ev_b (getS_ev b h2.1 F[i]) (tail (gE b F[i]) ?_))
   unfold pkE; rw [if_neg c]
  rw [c] at e
  refine Ev_f (fun q => by rw [e] at q; exact absurd q (by decide)) (tail (gE a F[i]) ?_)
  unfold pkE; rw [if_pos c]
theorem imerge_ev (base a b : List Ent) (h0 : Stn base) (h1 : Stn a) (h2 : Stn b) (F : List ByteArray) (fl : F.length ≤ 72) : ∀ (d i : Nat) (out : List Ent), i + d = F.length → out.length ≤ i → Ev (fun k => aq_.l0 k base a b out F (F.length : Int) i) (if (out ++ (F.drop i).flatMap (mgE base a b)).length > 24 then ([], 5) else (out ++ (F.drop i).flatMap (mgE base a b), 0)) := by
 intro d
 induction d with
 | zero =>
  intro i out g1 g2
  refine aZ_ ?_
  simp only [aq_.l0]
  rw [List.drop_of_length_le (by omega), List.flatMap_nil, List.append_nil]
  refine Ev_f (by omega) ?_
  by_cases c : out.length > 24
  rotate_left
  ·rw [if_neg c]; exact Ev_f (by omega) (Ev_n rfl)
  rw [if_pos c]; exact Ev_t (by omega) (Ev_n rfl)
 | succ d ih =>
  intro i out g1 g2
  refine aZ_ ?_
  simp only [aq_.l0]
  have hi : i < F.length := by omega
  rw [rdB F i hi, wr64s i (by omega), List.drop_eq_getElem_cons hi, List.flatMap_cons]
  refine Ev_t (by omega) (Ev_t (by omega) (Ev_t (by omega) (Ev_b (getI_ev a h1.1 F[i]) (Ev_b (getI_ev base h0.1 F[i]) ?_))))
  have tail : ∀ p : Ent, p = pkE base a b F[i] → Ev (fun n => if (!(p.f1.f0.toList == ([] : List UInt8)) || (!(p.f1.f1 == 0) || (!(p.f1.f2 == 0)))) = true then (if out.length < 2932031007402 then (aq_.l0 n base a b (out ++ [(⟨F[i], (⟨p.f1.f0, p.f1.f1, p.f1.f2⟩ : S61)⟩ : Ent)]) F (F.length : Int) ((i + 1 : Nat) : Int)) else none) else (aq_.l0 n base a b out F (F.length : Int) ((i + 1 : Nat) : Int))) (if (out ++ (mgE base a b F[i] ++ (F.drop (i + 1)).flatMap (mgE base a b))).length > 24 then ([], 5) else (out ++ (mgE base a b F[i] ++ (F.drop (i + 1)).flatMap (mgE base a b)), 0)) := by
   intro p hp
   have hm : mgE base a b F[i] = if p.f0.toList = [] then [] else [p] := by unfold mgE; rw [← hp]
   rcases pk_cases base a b h1 h2 F[i] with g | ⟨q1, q2, q3, _⟩
   ·rw [← hp] at g
    have hz : p.f0.toList = [] := by rw [g]; exact zt.1
    rw [hm, if_pos hz, List.nil_append]
    refine Ev_f ?_ (ih (i + 1) out (by omega) (by omega))
    rw [g, zt.2]
    decide
   ·rw [← hp] at q1 q2
    have hz : p.f0.toList ≠ [] := by rw [q1]; exact q3
    rw [hm, if_neg hz]
    have := ih (i + 1) (out ++ [p]) (by omega) (by simp; omega)
    rw [List.append_assoc] at this
    refine Ev_t (by simp [q2]) (Ev_t (by omega) ?_)
    rw [← q1]
    exact this
  have e := dV_sV (gE a F[i]) (gE base F[i])
  rw [dV_eq a base h1 h0] at e
  by_cases c : dE (gE a F[i]) (gE base F[i]) = true
  rotate_left
  ·have c' : dE (gE a F[i]) (gE base F[i]) = false := by simpa using c
   rw [c'] at e
   refine Ev_t e (Ev_b (getI_ev b h2.1 F[i]) (tail (gE b F[i]) ?_))
   unfold pkE; rw [if_neg c]
  rw [c] at e
  refine Ev_f (fun q => by rw [e] at q; exact absurd q (by decide)) (tail (gE a F[i]) ?_)
  unfold pkE; rw [if_pos c]
theorem fm_filter {α β : Type} (g : α → List β) (p : α → Bool) : ∀ l : List α, (∀ x ∈ l, p x = false → g x = []) → l.flatMap g = (l.filter p).flatMap g
 | [], _ => rfl
 | x :: l, h => by
  have ih := fm_filter g p l (fun y hy => h y (List.mem_cons_of_mem _ hy))
  rw [List.flatMap_cons]
  cases hp : p x with
  | true => rw [List.filter_cons_of_pos hp, List.flatMap_cons, ih]
  | false => rw [List.filter_cons_of_neg (by rw [hp]; decide), h x (by simp) hp, List.nil_append, ih]
theorem two_faces (base a b : List Ent) (h1 : Stn a) (h2 : Stn b) : (fcs ((base ++ a ++ b).map (·.f0))).flatMap (mgE base a b) = (fcs ((a ++ b).map (·.f0))).flatMap (mgE base a b) := by
 rw [fm_filter (mgE base a b) (fun u => decide (bL u ∈ (fcs ((a ++ b).map (·.f0))).map bL)) (fcs ((base ++ a ++ b).map (·.f0))) ?_]
 ·congr 1
  refine map_bL_inj (fs_uniq _ _ ?_ (fcs_pw _) (fun x => ?_))
  ·exact (fcs_pw ((base ++ a ++ b).map (·.f0))).sublist (List.filter_sublist.map _)
  ·constructor
   ·intro h
    obtain ⟨u, hu, rfl⟩ := List.mem_map.1 h
    simpa using (List.mem_filter.1 hu).2
   ·intro h
    obtain ⟨u, hu, rfl⟩ := List.mem_map.1 h
    refine List.mem_map.2 ⟨u, List.mem_filter.2 ⟨?_, by simpa using h⟩, rfl⟩
    rw [fcs_mem] at hu ⊢
    simp only [List.map_append, List.mem_append] at hu ⊢
    rcases hu with g | g
    ·exact .inl (.inr g)
    ·exact .inr g
 ·intro u _ hp
  have hp : ¬ bL u ∈ (fcs ((a ++ b).map (·.f0))).map bL := by simpa using hp
  rcases pk_cases base a b h1 h2 u with g | ⟨_, _, _, q⟩
  ·unfold mgE; rw [if_pos (by rw [g]; exact zt.1)]
  ·refine absurd ?_ hp
   rw [fcs_memb]
   refine List.mem_map.2 ⟨u, ?_, rfl⟩
   rw [List.map_append, List.mem_append]
   exact q
theorem mergeN_ev (base a b : List Ent) (n0 : Stn base) (n1 : Stn a) (n2 : Stn b) : ∃ r c, r.length ≤ 24 ∧ Ev (fun k => bc_.f k base a b) (r, c) ∧ ∀ m, Ev (fun k => aE_.f k base a b) m → m = ((fcs ((base ++ a ++ b).map (·.f0))).filter (clE base a b), 0) → Ev (fun k => aq_.f k base a b) (r, c) := by
 have l0 := n0.1.1
 have l1 := n1.1.1
 have l2 := n2.1.1
 have s := sclash_ev base a b n0 n1 n2
 have fl := fcs_len ((base ++ a ++ b).map (·.f0))
 have fl2 := fcs_len ((a ++ b).map (·.f0))
 simp only [List.length_map, List.length_append] at fl fl2
 simp only [bc_.f, aq_.f]
 generalize hC : (fcs ((base ++ a ++ b).map (·.f0))).filter (clE base a b) = C at s
 by_cases hc : C.length > 0
 rotate_left
 ·have s3 := sfaces_ev base a b l0 l1 l2
  rw [faces_eq] at s3
  have i2 := faces_ev [a, b] (by simp) (by simp; omega)
  have fe : [a, b].flatten = a ++ b := by simp
  rw [fe] at i2
  have p := smerge_ev base a b n0 n1 n2 (fcs ((base ++ a ++ b).map (·.f0))) (by omega) _ 0 [] (Nat.zero_add _) (by simp)
  have q := imerge_ev base a b n0 n1 n2 (fcs ((a ++ b).map (·.f0))) (by omega) _ 0 [] (Nat.zero_add _) (by simp)
  rw [List.drop_zero, List.nil_append] at p q
  rw [two_faces base a b n1 n2] at p
  generalize (fcs ((a ++ b).map (·.f0))).flatMap (mgE base a b) = R at p q
  have fin : ∀ rc : List Ent × Int, rc = (if R.length > 24 then ([], 5) else (R, 0)) → rc.1.length ≤ 24 := by
   intro rc h
   subst h
   split
   ·simp
   ·show R.length ≤ 24; omega
  refine ⟨(if R.length > 24 then ([], 5) else (R, 0) : List Ent × Int).1, (if R.length > 24 then ([], 5) else (R, 0) : List Ent × Int).2, fin _ rfl, Ev_b s (Ev_f (by omega) (Ev_b s3 p)), fun m hm e => ?_⟩
  subst e
  refine Ev_b hm (Ev_t rfl (aZ_ ?_))
  simp only [aq_.j0]
  refine Ev_f (by simp only [decide_eq_true_eq]; omega) (aZ_ ?_)
  simp only [aq_.j1]
  exact Ev_t (by first | exact True.intro | rfl) (Ev_b i2 q)
 refine ⟨[], 6, by simp, Ev_b s (Ev_t (by omega) (Ev_n rfl)), fun m hm e => ?_⟩
 subst e
 refine Ev_b hm (Ev_t rfl (aZ_ ?_))
 simp only [aq_.j0]
 refine Ev_t (decide_eq_true (by omega)) (aZ_ ?_)
 simp only [aq_.j1]
 exact Ev_f (by decide) (Ev_n rfl)
theorem mkh_ev (l : List Ver) (hl : (l.length : Int) ≤ 1048576) (hs : ∀ y ∈ l, (y.f3.length : Int) ≤ 1048576) : ∃ r l', 0 ≤ r ∧ r ≤ 10000000000000 ∧ Ev (fun k => aw_.f k l 1) (r, l') ∧ Ev (fun k => aI_.f k l' 1) r := by
 have go : ∀ (q p : List Ver) (i : Nat) (c : Int), (∀ y ∈ q, (y.f3.length : Int) ≤ 1048576) → p.length = i → 0 ≤ c → c ≤ 1 + 5000000 * (i : Int) → (i : Int) + q.length ≤ 1048576 → ∃ r q', 0 ≤ r ∧ r ≤ 10000000000000 ∧ q'.length = q.length ∧ Ev (fun k => aw_.l0 k (p ++ q) c i) (r, p ++ q') ∧ ∀ z : List Ver, z.length = i → Ev (fun k => aI_.l0 k (z ++ q') c i) r := by
  intro q
  induction q with
  | nil =>
   intro p i c q0 q1 q2 q3 q4
   refine ⟨c, [], q2, by simp only [List.length_nil] at q4; omega, rfl, aZ_ ?_, fun z hz => aZ_ ?_⟩
   ·simp only [aw_.l0]
    exact Ev_f (by simp; omega) (Ev_n rfl)
   ·simp only [aI_.l0]
    exact Ev_f (by simp; omega) (Ev_n rfl)
  | cons x q ih =>
   intro p i c q0 q1 q2 q3 q4
   simp only [List.length_cons] at q4
   have hx := q0 x (List.mem_cons_self ..)
   have e0 : wrap64 (c + 1) = c + 1 := (wr64 (by omega) (by omega)).trans (by omega)
   have e1 : wrap64 (c + 1 + 1) = c + 2 := (wr64 (by omega) (by omega)).trans (by omega)
   have e2 : wrap64 (c + 2 + 1) = c + 3 := (wr64 (by omega) (by omega)).trans (by omega)
   obtain ⟨t0, ht0⟩ := markText_ev (c + 2) (by omega) (by omega)
   obtain ⟨st, _, hst, hst2⟩ := mk_Entry x.f3 (c + 3) (by omega) (by omega) (by omega)
   obtain ⟨r, q', hr, hr2, hq', he, hh⟩ := ih (p ++ [(⟨c, c + 1, t0, st⟩ : Ver)]) (i + 1) (c + 3 + 4 * x.f3.length) (fun y hy => q0 y (List.mem_cons_of_mem _ hy)) (by simp; omega) (by omega) (by omega) (by omega)
   refine ⟨r, ⟨c, c + 1, t0, st⟩ :: q', hr, hr2, by simp [hq'], aZ_ ?_, fun z hz => aZ_ ?_⟩
   ·simp only [aw_.l0, e0, e1, e2, set_at p q _ _ i q1, rda_Version p q _ i q1]
    refine Ev_t (by simp; omega) (Ev_b ht0 (Ev_b hst (Ev_t (by omega) ?_)))
    rw [wr64s i (by omega)]
    rw [List.append_assoc, List.singleton_append, List.append_assoc, List.singleton_append] at he
    exact he
   ·simp only [aI_.l0, e0, e1, e2, rda_Version z q' _ i hz]
    refine Ev_t (by simp; omega) (Ev_t (by omega) (Ev_t True.intro (Ev_t True.intro (Ev_b ht0 (Ev_t rfl (Ev_b hst2 (Ev_f (by omega) ?_)))))))
    rw [wr64s i (by omega)]
    have hh' := hh (z ++ [(⟨c, c + 1, t0, st⟩ : Ver)]) (by simp; omega)
    rw [List.append_assoc, List.singleton_append] at hh'
    exact hh'
 obtain ⟨r, l', h1, h2, _, h3, h4⟩ := go l [] 0 1 hs rfl (by omega) (by omega) (by simpa using hl)
 refine ⟨r, l', h1, h2, ?_, ?_⟩
 ·simp only [aw_.f]; exact h3
 ·simp only [aI_.f]; exact h4 [] rfl
theorem own_ev (m : List Ver) (hm : m.length ≤ 16) (hs : ∀ y ∈ m, (y.f3.length : Int) ≤ 1048576) : Ev (fun k => bL_.f k m) m := by
 have go : ∀ (d i : Nat), i + d = m.length → Ev (fun k => bL_.l0 k m (m.take i) i) m := by
  intro d
  induction d with
  | zero =>
   intro i h
   refine aZ_ ?_
   simp only [bL_.l0]
   exact Ev_f (by omega) (Ev_n (by rw [List.take_of_length_le (by omega)]))
  | succ d ih =>
   intro i h
   have hi : i < m.length := by omega
   have h1 := hs m[i] (List.getElem_mem _)
   refine aZ_ ?_
   simp only [bL_.l0]
   rw [cI_ m i hi, wr64s i (by omega)]
   have := ih (i + 1) (by omega)
   rw [List.take_succ_eq_append_getElem hi] at this
   exact Ev_t (by omega) (Ev_t (by omega) (Ev_b (Ev_n rfl) (Ev_t (by simp only [List.length_nil]; omega) (Ev_t (by rw [List.length_take]; omega) this))))
 simp only [bL_.f]
 exact go m.length 0 (by omega)
theorem add_ev (m : List Ver) (a : Int) (nt : ByteArray) (st : List Ent) (hm : m.length ≤ 16) (hs : ∀ y ∈ m, (y.f3.length : Int) ≤ 1048576) (hst : (st.length : Int) ≤ 1048576) : ∃ (r0 : List Ver) (r1 : Int), (r0 = [] ∨ r0 = m ++ [⟨(m.length : Int) + 1, a, nt, st⟩]) ∧ Ev (fun k => cZ_.f k m a nt st) (r0, r1) ∧ Ev (fun k => bx_.f k m a nt st) (r0, r1) := by
 by_cases c : (m.length : Int) = 16
 ·refine ⟨[], 5, .inl rfl, ?_, ?_⟩
  ·simp only [cZ_.f]; exact Ev_t c (Ev_n rfl)
  ·simp only [bx_.f]; exact Ev_t c (Ev_n rfl)
 have hw : wrap64 ((m.length : Int) + 1) = (m.length : Int) + 1 := wr64 (by omega) (by omega)
 refine ⟨m ++ [⟨(m.length : Int) + 1, a, nt, st⟩], 0, .inr rfl, ?_, ?_⟩
 ·simp only [cZ_.f, hw]
  exact Ev_f c (Ev_b (Ev_n rfl) (Ev_t (by simp only [List.length_nil]; omega) (Ev_b (own_ev m hm hs) (Ev_b (Ev_n rfl) (Ev_t (by simp only [List.length_cons, List.length_nil]; omega) (Ev_n (by simp)))))))
 ·simp only [bx_.f, hw]
  obtain ⟨y, hy⟩ : ∃ y : List Ver, y = m ++ [⟨(m.length : Int) + 1, a, nt, st⟩] := ⟨_, rfl⟩
  have hyl : y.length = m.length + 1 := by rw [hy]; simp
  have hys : ∀ z ∈ y, (z.f3.length : Int) ≤ 1048576 := by
   intro z hz
   rw [hy] at hz
   rcases List.mem_append.1 hz with h | h
   ·exact hs z h
   ·rw [List.mem_singleton.1 h]; exact hst
  have go : ∀ (d i : Nat), i + d = y.length → Ev (fun k => bx_.l0 k (y.take i) y (y.length : Int) i) (y, 0) := by
   intro d
   induction d with
   | zero =>
    intro i h
    refine aZ_ ?_
    simp only [bx_.l0]
    exact Ev_f (by omega) (Ev_n (by rw [List.take_of_length_le (by omega)]))
   | succ d ih =>
    intro i h
    have hi : i < y.length := by omega
    have h1 := hys y[i] (List.getElem_mem _)
    refine aZ_ ?_
    simp only [bx_.l0]
    rw [cI_ y i hi, wr64s i (by omega)]
    have := ih (i + 1) (by omega)
    rw [List.take_succ_eq_append_getElem hi] at this
    refine Ev_t (by omega) (Ev_t (by omega) (Ev_t (by omega) (Ev_b (a := y[i].f3) (Ev_c ?_) (Ev_t (by rw [List.length_take]; omega) this))))
    unfold impl_Entry.f
    rw [if_pos (by omega)]
  have hc : cM_.f m = some m := by
   unfold cM_.f
   simp only [Option.bind_some, List.length_nil, List.nil_append]
   rw [if_pos (by omega)]
  rw [hc]
  refine Ev_f c (Ev_b (Ev_n rfl) (Ev_t (by omega) (Ev_b (Ev_n rfl) ?_)))
  rw [← hy]
  exact go y.length 0 (by omega)
theorem added (P : Ver → Prop) (m : List Ver) (v : Ver) (r : List Ver) (h : r = [] ∨ r = m ++ [v]) (hm : ∀ y ∈ m, P y) (hv : P v) : ∀ y ∈ r, P y := by
 rcases h with rfl | rfl
 ·intro y hy; cases hy
 ·intro y hy
  rcases List.mem_append.1 hy with h | h
  ·exact hm y h
  ·rw [List.mem_singleton.1 h]; exact hv
theorem rd_nat (l : List Int) (i : Nat) (h : i < l.length) : rd l (i : Int) = l[i] := by unfold rd; exact getD_in l _ i h
theorem has_ev (l : List Int) (hl : (l.length : Int) ≤ 1048576) (x : Int) : Ev (fun k => ci_.f k l x) (decide (x ∈ l)) := by
 have go : ∀ (d i : Nat), i + d = l.length → Ev (fun k => ci_.l0 k l x i) (decide (x ∈ l.drop i)) := by
  intro d
  induction d with
  | zero =>
   intro i h
   refine aZ_ ?_
   simp only [ci_.l0]
   exact Ev_f (by omega) (Ev_n (by rw [List.drop_of_length_le (by omega)]; simp))
  | succ d ih =>
   intro i h
   refine aZ_ ?_
   simp only [ci_.l0]
   rw [rd_nat l i (by omega), wr64s i (by omega), List.drop_eq_getElem_cons (show i < l.length by omega)]
   refine Ev_t (by omega) (Ev_t (by omega) ?_)
   by_cases e : l[i] = x
   rotate_left
   ·exact Ev_f e (Ev_at (ih (i + 1) (by omega)) (by rw [decide_eq_decide, List.mem_cons]; exact ⟨.inr, fun h => h.resolve_left (fun q => e q.symm)⟩))
   exact Ev_t e (Ev_n (by simp [e]))
 simp only [ci_.f]
 exact go l.length 0 (by omega)
theorem contains_ev (l : List Int) (hl : (l.length : Int) ≤ 1048576) (x : Int) : Ev (fun k => bX_.f k l x) (decide (x ∈ l)) := by
 have go : ∀ (d i : Nat), i + d = l.length → ∃ r : Int, Ev (fun k => aT_.l0 k l x (l.length : Int) i) r ∧ decide (r ≥ 0) = decide (x ∈ l.drop i) := by
  intro d
  induction d with
  | zero =>
   intro i h
   refine ⟨-1, aZ_ ?_, ?_⟩
   ·simp only [aT_.l0]; exact Ev_f (by omega) (Ev_n rfl)
   ·rw [List.drop_of_length_le (by omega)]; simp
  | succ d ih =>
   intro i h
   by_cases e : x = l[i]
   rotate_left
   ·obtain ⟨r, r1, r2⟩ := ih (i + 1) (by omega)
    refine ⟨r, aZ_ ?_, ?_⟩
    ·simp only [aT_.l0]
     rw [rd_nat l i (by omega), wr64s i (by omega)]
     exact Ev_t (by omega) (Ev_t (by omega) (Ev_t (by omega) (Ev_f e r1)))
    ·rw [r2, List.drop_eq_getElem_cons (show i < l.length by omega), decide_eq_decide, List.mem_cons]
     exact ⟨.inr, fun h => h.resolve_left e⟩
   refine ⟨i, aZ_ ?_, ?_⟩
   ·simp only [aT_.l0]
    rw [rd_nat l i (by omega)]
    exact Ev_t (by omega) (Ev_t (by omega) (Ev_t (by omega) (Ev_t e (Ev_n rfl))))
   ·rw [List.drop_eq_getElem_cons (show i < l.length by omega), decide_eq_decide, List.mem_cons]
    exact ⟨fun _ => .inl e, fun _ => by omega⟩
 obtain ⟨r, r1, r2⟩ := go l.length 0 (by omega)
 simp only [bX_.f, aT_.f]
 exact Ev_b r1 (Ev_n (by rw [r2, List.drop_zero]))
theorem above_ev (m : List Ver) (hm : Prj m) : ∀ (n a : Nat), a ≤ n → 1 ≤ a → a ≤ m.length → ∃ l : List Int, l.length < a ∧
  (∀ out : List Int, out.length + a ≤ 2000 → Ev (fun k => bm_.l0 k m (a : Int) out) (out ++ l)) ∧
  (∀ (h : a - 1 < m.length) (out : List Int), out.length + a ≤ 2000 → Ev (fun k => bB_.l0 k m out (m[a - 1]'h).f1) (out ++ l)) ∧
  (∀ S1 S2 : List Int, S1.length ≤ 1000 → S2.length ≤ 1000 → (∀ x, x ∈ S1 ↔ x ∈ S2) → ∃ r : Int, (0 ≤ r ∧ r ≤ (m.length : Int)) ∧ (∀ pre : List Int, pre.length + a ≤ 2000 → Ev (fun k => bu_.l0 k (pre ++ (a : Int) :: l) S1 (pre.length : Int)) r) ∧ Ev (fun k => aY_.l0 k m S2 (a : Int)) r) := by
 intro n
 induction n with
 | zero => intro a h1 h2 h3; omega
 | succ n ih =>
  intro a h1 h2 h3
  obtain ⟨hlen, hall⟩ := hm
  have ha : a - 1 < m.length := by omega
  obtain ⟨p0, p1, p2, _⟩ := hall (a - 1) ha
  have ew : wrap64 ((a : Int) - 1) = ((a - 1 : Nat) : Int) := by rw [wr64 (by omega) (by omega)]; omega
  have er : ak_ m ((a - 1 : Nat) : Int) = m[a - 1]'ha := cI_ m (a - 1) ha
  have first : ∀ (l : List Int) (S1 S2 : List Int), S1.length ≤ 1000 → S2.length ≤ 1000 → (∀ x, x ∈ S1 ↔ x ∈ S2) → ∀ r, ((a : Int) ∈ S1 → r = (a : Int)) →
    (¬ (a : Int) ∈ S1 → (∀ pre : List Int, pre.length + a ≤ 2000 → Ev (fun k => bu_.l0 k (pre ++ (a : Int) :: l) S1 ((pre.length + 1 : Nat) : Int)) r) ∧ Ev (fun k => aY_.l0 k m S2 (m[a - 1]'ha).f1) r) →
    (∀ pre : List Int, pre.length + a ≤ 2000 → Ev (fun k => bu_.l0 k (pre ++ (a : Int) :: l) S1 (pre.length : Int)) r) ∧ Ev (fun k => aY_.l0 k m S2 (a : Int)) r := by
   intro l S1 S2 q1 q2 hS r hin hout
   have c2 := contains_ev S2 (by omega) (a : Int)
   constructor
   ·intro pre hpre
    have e : rd (pre ++ (a : Int) :: l) (pre.length : Int) = (a : Int) := by unfold rd; exact getD_at pre l _ _ _ rfl
    refine aZ_ ?_
    simp only [bu_.l0]
    rw [e, wr64s pre.length (by omega)]
    refine Ev_t (by simp; omega) (Ev_t (by omega) (Ev_b (has_ev S1 (by omega) _) ?_))
    by_cases h : (a : Int) ∈ S1
    rotate_left
    ·exact Ev_f (by simpa using h) ((hout h).1 pre hpre)
    exact Ev_t (by simpa using h) (Ev_n (hin h).symm)
   ·refine aZ_ ?_
    simp only [aY_.l0]
    rw [ew, er]
    refine Ev_t (by omega) (Ev_b c2 ?_)
    by_cases h : (a : Int) ∈ S1
    rotate_left
    ·exact Ev_f (by simpa using fun h' => h ((hS _).2 h')) (Ev_t (by omega) (Ev_t (by omega) (hout h).2))
    exact Ev_t (by simpa using (hS _).1 h) (Ev_n (hin h).symm)
  by_cases hp : (m[a - 1]'ha).f1 = 0
  rotate_left
  ·obtain ⟨q, hq⟩ := Int.eq_ofNat_of_zero_le p1
   have q1 : 1 ≤ q := by omega
   have q2 : q < a := by omega
   have hq1 : q - 1 < m.length := by omega
   have ew2 : wrap64 ((q : Int) - 1) = ((q - 1 : Nat) : Int) := by rw [wr64 (by omega) (by omega)]; omega
   have er2 : ak_ m ((q - 1 : Nat) : Int) = m[q - 1]'hq1 := cI_ m (q - 1) hq1
   obtain ⟨l, l1, l3, l4, l5⟩ := ih q (by omega) q1 (by omega)
   refine ⟨(q : Int) :: l, by simp; omega, fun out ho => aZ_ ?_, fun h out ho => aZ_ ?_, fun S1 S2 r1 r2 hS => ?_⟩
   ·simp only [bm_.l0]
    rw [ew, er, hq]
    refine Ev_f (by omega) (Ev_t (by omega) (Ev_t (by omega) (Ev_f (by omega) (Ev_t (by omega) ?_))))
    exact Ev_at (l3 (out ++ [(q : Int)]) (by simp; omega)) (by simp)
   ·simp only [bB_.l0]
    rw [hq, ew2, er2]
    refine Ev_t (by omega) (Ev_t (by omega) (Ev_t (by omega) (Ev_t (by omega) ?_)))
    exact Ev_at (l4 hq1 (out ++ [(q : Int)]) (by simp; omega)) (by simp)
   ·obtain ⟨r, u0, u1, u2⟩ := l5 S1 S2 r1 r2 hS
    refine ⟨if (a : Int) ∈ S1 then (a : Int) else r, by split <;> omega, first ((q : Int) :: l) S1 S2 r1 r2 hS _ (fun h => by rw [if_pos h]) (fun h => ?_)⟩
    rw [if_neg h]
    constructor
    ·intro pre hpre
     have := u1 (pre ++ [(a : Int)]) (by simp; omega)
     rw [List.append_assoc, List.singleton_append] at this
     simpa using this
    ·rw [hq]; exact u2
  refine ⟨[], by simp; omega, fun out ho => aZ_ ?_, fun h out ho => aZ_ ?_, fun S1 S2 q1 q2 hS => ?_⟩
  ·simp only [bm_.l0]
   rw [ew, er, List.append_nil]
   refine Ev_f (by omega) (Ev_t (by omega) (Ev_t (by omega) (Ev_t hp ?_)))
   rw [hp]
   refine aZ_ ?_
   simp only [bm_.l0]
   exact Ev_t (by first | exact True.intro | rfl) (Ev_n rfl)
  ·simp only [bB_.l0]
   rw [hp, List.append_nil]
   exact Ev_f (by omega) (Ev_n rfl)
  ·refine ⟨if (a : Int) ∈ S1 then (a : Int) else 0, by split <;> omega, first [] S1 S2 q1 q2 hS _ (fun h => by rw [if_pos h]) (fun h => ?_)⟩
   rw [if_neg h]
   constructor
   ·intro pre hpre
    refine aZ_ ?_
    simp only [bu_.l0]
    exact Ev_f (by first | (simp; done) | (simp; omega)) (Ev_n rfl)
   ·rw [hp]
    refine aZ_ ?_
    simp only [aY_.l0]
    exact Ev_f (by omega) (Ev_n rfl)
theorem two_ev (m : List Ver) (hm : Prj m) (vp : Ev (fun k => be_.f k m) true) (a b : Int) :
  ((decide (1 ≤ a) && decide (a ≤ (m.length : Int))) = true ∧ (decide (1 ≤ b) && decide (b ≤ (m.length : Int))) = true ∧ Ev (fun k => aU_.f k m [a, b]) 0 ∧ ∃ r : Int, (0 ≤ r ∧ r ≤ (m.length : Int)) ∧ Ev (fun k => bu_.f k m a b) r ∧ Ev (fun k => aY_.f k m a b) r) ∨
  (Ev (fun k => aU_.f k m [a, b]) 3 ∧ ((decide (1 ≤ a) && decide (a ≤ (m.length : Int))) = false ∨ (decide (1 ≤ a) && decide (a ≤ (m.length : Int))) = true ∧ (decide (1 ≤ b) && decide (b ≤ (m.length : Int))) = false)) := by
 have ra : rd [a, b] 0 = a := rfl
 have rb : rd [a, b] 1 = b := rfl
 have wa : ∀ x, by_.f x 1 (m.length : Int) = some (decide (1 ≤ x) && decide (x ≤ (m.length : Int))) := fun x => within_f x 1 _
 have code : ∀ c, Ev (fun k => aU_.l0 k m [a, b] 2 0) c → Ev (fun k => aU_.f k m [a, b]) c := fun c h => by
  simp only [aU_.f]
  exact Ev_b vp (Ev_t rfl h)
 by_cases ca : (decide (1 ≤ a) && decide (a ≤ (m.length : Int))) = true
 case neg =>
  refine .inr ⟨code 3 (aZ_ ?_), .inl (by simpa using ca)⟩
  simp only [aU_.l0, ra]
  exact Ev_t (by decide) (Ev_t (by decide) (Ev_t (by simp) (Ev_b (Ev_c (wa a)) (Ev_f ca (Ev_n rfl)))))
 by_cases cb : (decide (1 ≤ b) && decide (b ≤ (m.length : Int))) = true
 case neg =>
  refine .inr ⟨code 3 (aZ_ ?_), .inr ⟨ca, by simpa using cb⟩⟩
  simp only [aU_.l0, ra]
  refine Ev_t (by decide) (Ev_t (by decide) (Ev_t (by simp) (Ev_b (Ev_c (wa a)) (Ev_t ca (aZ_ ?_)))))
  rw [show wrap64 ((0 : Int) + 1) = 1 by rw [wr64 (by omega) (by omega)]; rfl]
  simp only [aU_.l0, rb]
  exact Ev_t (by decide) (Ev_t (by decide) (Ev_t (by simp) (Ev_b (Ev_c (wa b)) (Ev_f cb (Ev_n rfl)))))
 have ca2 := ca
 have cb2 := cb
 simp only [Bool.and_eq_true, decide_eq_true_eq] at ca2 cb2
 obtain ⟨u, hu⟩ := Int.eq_ofNat_of_zero_le (show 0 ≤ a by omega)
 obtain ⟨v, hv⟩ := Int.eq_ofNat_of_zero_le (show 0 ≤ b by omega)
 have hm2 := hm
 obtain ⟨hlen, _⟩ := hm2
 obtain ⟨l, l1, l2, l3, l4⟩ := above_ev m hm u u (Nat.le_refl _) (by omega) (by omega)
 obtain ⟨l', l1', l2', l3', _⟩ := above_ev m hm v v (Nat.le_refl _) (by omega) (by omega)
 obtain ⟨r, r0, r1, r2⟩ := l4 ((v : Int) :: l') (l' ++ [(v : Int)]) (by simp; omega) (by simp; omega) (fun x => by simp; exact Or.comm)
 have t1 := l2 [] (by simp; omega)
 have t2 := l2' [] (by simp; omega)
 rw [List.nil_append] at t1 t2
 refine .inl ⟨ca, cb, code 0 (aZ_ ?_), r, r0, ?_, ?_⟩
 ·simp only [aU_.l0, ra]
  refine Ev_t (by decide) (Ev_t (by decide) (Ev_t (by simp) (Ev_b (Ev_c (wa a)) (Ev_t ca (aZ_ ?_)))))
  rw [show wrap64 ((0 : Int) + 1) = 1 by rw [wr64 (by omega) (by omega)]; rfl]
  simp only [aU_.l0, rb]
  refine Ev_t (by decide) (Ev_t (by decide) (Ev_t (by simp) (Ev_b (Ev_c (wa b)) (Ev_t cb (aZ_ ?_)))))
  rw [show wrap64 ((1 : Int) + 1) = 2 by rw [wr64 (by omega) (by omega)]; rfl]
  simp only [aU_.l0]
  exact Ev_f (by decide) (Ev_n rfl)
 ·simp only [bu_.f, bm_.f]
  rw [hu, hv]
  refine Ev_s (Ev_b t1 (Ev_t (by simp; omega) (Ev_s (Ev_b t2 (Ev_t (by simp; omega) ?_)))))
  have := r1 [] (by simp; omega)
  simpa using this
 ·simp only [aY_.f, bB_.f]
  rw [hu, hv]
  have hv1 : v - 1 < m.length := by omega
  have ew : wrap64 ((v : Int) - 1) = ((v - 1 : Nat) : Int) := by rw [wr64 (by omega) (by omega)]; omega
  have er : ak_ m ((v - 1 : Nat) : Int) = m[v - 1]'hv1 := cI_ m (v - 1) hv1
  rw [ew, er]
  have t3 := l3' hv1 [] (by simp; omega)
  rw [List.nil_append] at t3
  refine Ev_b (a := l') (Ev_t (by omega) (Ev_t (by omega) t3)) (Ev_t (by omega) r2)
theorem project_ne (m : List Ver) (hm : m.length < 1000000) : ∀ (d i k : Nat) (hj : i + d < m.length), bO_.l0 (k + d + 1) m i = some true → ay_.f k (m[i + d]'hj).f3 = some true
 | d, i, k, hj, h => by
  simp only [bO_.l0] at h
  rw [if_pos (by omega), if_pos (by omega), wr64s i (by omega), cI_ m i (by omega)] at h
  split at h
  case isFalse => simp at h
  obtain ⟨t, _, h⟩ := Option.bind_eq_some_iff.1 h
  cases t with
  | false => simp at h
  | true =>
   rw [if_pos rfl] at h
   obtain ⟨t, _, h⟩ := Option.bind_eq_some_iff.1 h
   cases t with
   | false => simp at h
   | true =>
    rw [if_pos rfl] at h
    obtain ⟨t, h1, h⟩ := Option.bind_eq_some_iff.1 h
    cases t with
    | false => simp at h
    | true =>
     rw [if_pos rfl] at h
     cases d with
     | zero => exact h1
     | succ d =>
      have := project_ne m hm d (i + 1) k (by omega) (by rw [show k + d + 1 = k + (d + 1) by omega]; exact h)
      simp only [show i + 1 + d = i + (d + 1) by omega] at this
      exact this
def Vst (s : List Ent) : Prop := Stn s ∧ Ev (fun k => ap_.f k s) true
theorem Vst_of (s : List Ent) (hl : (s.length : Int) ≤ 1048576) (h4 : Ev (fun k => ay_.f k s) true) : Vst s := by
 obtain ⟨b, h1, h2, h3⟩ := stateN_ev s hl
 have := Ev_one h1 h4
 subst this
 exact ⟨h3 rfl, h2⟩
theorem Vst_nil : Vst [] := Vst_of [] (by simp) (aZ_ (by simp only [ay_.f, ay_.l0]; exact Ev_f (by simp) (Ev_n (by simp))))
theorem projectN_ev (m : List Ver) (hl : (m.length : Int) ≤ 1048576) (hn : ∀ y ∈ m, (y.f2.size : Int) ≤ 1048576 ∧ (y.f3.length : Int) ≤ 1048576) : ∃ b, Ev (fun k => bO_.f k m) b ∧ Ev (fun k => be_.f k m) b ∧ (b = true → Prj m ∧ ∀ y ∈ m, Vst y.f3) := by
 obtain ⟨b, h1, h2, h3⟩ := project_ev m hl hn
 refine ⟨b, h1, h2, fun hb => ?_⟩
 subst hb
 have hp := h3 rfl
 refine ⟨hp, fun y hy => ?_⟩
 obtain ⟨K, hK⟩ := h1
 have h16 := hp.1
 refine Vst_of _ (hn y hy).2 ?_
 obtain ⟨j, hj, rfl⟩ := List.mem_iff_getElem.1 hy
 refine ⟨K, fun k hk => ?_⟩
 have h := hK (k + j + 1) (by omega)
 simp only [bO_.f] at h
 have := project_ne m (by omega) j 0 k (by omega) h
 simpa using this
theorem stateOf_ev (m : List Ver) (hm : Prj m) (hs : ∀ y ∈ m, Vst y.f3) (n : Int) (h0 : 0 ≤ n) (h1 : n ≤ (m.length : Int)) : ∃ s : List Ent, Vst s ∧ bT_.f m n = some s ∧ cx_.f m n = some s := by
 have h16 := hm.1
 by_cases c : n = 0
 rotate_left
 ·obtain ⟨u, hu⟩ := Int.eq_ofNat_of_zero_le h0
  subst hu
  have hv1 : u - 1 < m.length := by omega
  have ew : wrap64 ((u : Int) - 1) = ((u - 1 : Nat) : Int) := by rw [wr64 (by omega) (by omega)]; omega
  have er : ak_ m ((u - 1 : Nat) : Int) = m[u - 1]'hv1 := cI_ m (u - 1) hv1
  refine ⟨(m[u - 1]'hv1).f3, hs _ (List.getElem_mem _), ?_, ?_⟩
  ·unfold bT_.f
   rw [if_neg c, ew, if_pos (by omega), if_pos (by omega), er]
  ·unfold cx_.f
   rw [if_neg c, ew, if_pos (by omega), if_pos (by omega), er]
 subst c
 exact ⟨[], Vst_nil, by simp [bT_.f], by simp [cx_.f]⟩
theorem mergev_ev (m : List Ver) (hl : (m.length : Int) ≤ 1048576) (hn : ∀ y ∈ m, (y.f2.size : Int) ≤ 1048576 ∧ (y.f3.length : Int) ≤ 1048576) (a b : Int) (nt : ByteArray) (hnt : (nt.size : Int) ≤ 1048576) :
  ∃ (r0 : List Ver) (r1 : Int), (r0.length : Int) ≤ 17 ∧ (∃ st : List Ent, st.length ≤ 24 ∧ (r0 = [] ∨ r0 = m ++ [⟨(m.length : Int) + 1, a, nt, st⟩])) ∧ Ev (fun k => ar_.f k m a b nt) (r0, r1) ∧ Ev (fun k => aP_.f k m a b nt) (r0, r1) := by
 obtain ⟨ok, e1, e2, hok⟩ := projectN_ev m hl hn
 obtain ⟨nb, n1, n2⟩ := note_ev nt hnt
 have jf : ∀ x : Int, x ≠ 0 → Ev (fun k => aP_.j0 k m a b nt x) (([] : List Ver), x) := fun x hx => by
  refine aZ_ ?_
  simp only [aP_.j0]
  exact Ev_f hx (Ev_n rfl)
 have sj : Ev (fun k => ar_.j0 k m a b nt true) (([] : List Ver), (1 : Int)) := by
  refine aZ_ ?_
  simp only [ar_.j0]
  exact Ev_t (by first | exact True.intro | rfl) (Ev_n rfl)
 have sj1 : Ev (fun k => ar_.j1 k m a b nt true) (([] : List Ver), (3 : Int)) := by
  refine aZ_ ?_
  simp only [ar_.j1]
  exact Ev_t (by first | exact True.intro | rfl) (Ev_n rfl)
 have na : ∀ x, cf_.f m x = some (decide (1 ≤ x) && decide (x ≤ (m.length : Int))) := fun x => by unfold cf_.f; rw [in_f]; rfl
 have none : ∀ c, (([] : List Ver).length : Int) ≤ 17 ∧ (∃ st : List Ent, st.length ≤ 24 ∧ (([] : List Ver) = [] ∨ ([] : List Ver) = m ++ [⟨(m.length : Int) + 1, a, nt, st⟩])) ∧ True ∧ c = c := fun c : Int => ⟨by simp, ⟨[], by simp, .inl rfl⟩, True.intro, rfl⟩
 simp only [ar_.f, aP_.f]
 cases ok with
 | false =>
  have pc : Ev (fun k => aU_.f k m [a, b]) 1 := by
   simp only [aU_.f]
   exact Ev_b e2 (Ev_f (by decide) (Ev_n rfl))
  refine ⟨[], 1, (none 1).1, (none 1).2.1, Ev_b e1 (Ev_f (by decide) sj), Ev_b pc (Ev_b n2 ?_)⟩
  cases nb with
  | false => exact Ev_f (by decide) (jf 1 (by decide))
  | true => exact Ev_t rfl (jf 1 (by decide))
 | true =>
  obtain ⟨hp, hs⟩ := hok rfl
  have h16 := hp.1
  cases nb with
  | false =>
   refine ⟨[], 1, (none 1).1, (none 1).2.1, Ev_b e1 (Ev_t rfl (Ev_b n1 sj)), ?_⟩
   rcases two_ev m hp e2 a b with ⟨_, _, pc, _⟩ | ⟨pc, _⟩
   ·exact Ev_b pc (Ev_b n2 (Ev_f (by decide) (jf 1 (by decide))))
   ·exact Ev_b pc (Ev_b n2 (Ev_f (by decide) (jf 1 (by decide))))
  | true =>
   rcases two_ev m hp e2 a b with ⟨ca, cb, pc, r, ⟨r0, r1⟩, c1, c2⟩ | ⟨pc, hc⟩
   ·have ca2 := ca
    have cb2 := cb
    simp only [Bool.and_eq_true, decide_eq_true_eq] at ca2 cb2
    obtain ⟨s0, ⟨v0, i0⟩, f0, g0⟩ := stateOf_ev m hp hs r r0 r1
    obtain ⟨s1, ⟨v1, i1⟩, f1, g1⟩ := stateOf_ev m hp hs a (by omega) ca2.2
    obtain ⟨s2, ⟨v2, i2⟩, f2, g2⟩ := stateOf_ev m hp hs b (by omega) cb2.2
    obtain ⟨x, c, hx, p1, p2⟩ := mergeN_ev s0 s1 s2 v0 v1 v2
    have q0 := v0.1.1
    have q1 := v1.1.1
    have q2 := v2.1.1
    have pm : Ev (fun k => aq_.f k s0 s1 s2) (x, c) := by
     refine p2 _ ?_ rfl
     simp only [aE_.f]
     exact Ev_b i0 (Ev_t rfl (Ev_b i1 (Ev_t rfl (Ev_b i2 (iclash_ev s0 s1 s2 v0 v1 v2)))))
    by_cases hc : c = 0
    rotate_left
    ·refine ⟨[], c, (none c).1, (none c).2.1, Ev_b e1 (Ev_t rfl (Ev_b n1 (aZ_ ?_))), Ev_b pc (Ev_b n2 (Ev_t rfl (aZ_ ?_)))⟩
     ·simp only [ar_.j0]
      refine Ev_f (by decide) (Ev_b (Ev_c (na a)) (Ev_t ca (Ev_b (Ev_c (na b)) (aZ_ ?_))))
      simp only [ar_.j1]
      exact Ev_f (by rw [cb]; decide) (Ev_b c1 (Ev_b (Ev_c f0) (Ev_b (Ev_c f1) (Ev_b (Ev_c f2) (Ev_b p1 (Ev_f hc (Ev_n rfl)))))))
     ·simp only [aP_.j0]
      exact Ev_t (by first | exact True.intro | rfl) (Ev_b c2 (Ev_b (Ev_c g0) (Ev_b (Ev_c g1) (Ev_b (Ev_c g2) (Ev_b pm (Ev_f hc (Ev_n rfl)))))))
    obtain ⟨y0, y1, hy, z1, z2⟩ := add_ev m a nt x h16 (fun y hy => (hn y hy).2) (by omega)
    have hlen : (y0.length : Int) ≤ 17 := by
     rcases hy with rfl | rfl
     ·simp
     ·simp; omega
    refine ⟨y0, y1, hlen, ⟨x, hx, hy⟩, Ev_b e1 (Ev_t rfl (Ev_b n1 (aZ_ ?_))), Ev_b pc (Ev_b n2 (Ev_t rfl (aZ_ ?_)))⟩
    ·simp only [ar_.j0]
     refine Ev_f (by decide) (Ev_b (Ev_c (na a)) (Ev_t ca (Ev_b (Ev_c (na b)) (aZ_ ?_))))
     simp only [ar_.j1]
     exact Ev_f (by rw [cb]; decide) (Ev_b c1 (Ev_b (Ev_c f0) (Ev_b (Ev_c f1) (Ev_b (Ev_c f2) (Ev_b p1 (Ev_t hc (Ev_b z1 (Ev_n rfl))))))))
    ·simp only [aP_.j0]
     exact Ev_t (by first | exact True.intro | rfl) (Ev_b c2 (Ev_b (Ev_c g0) (Ev_b (Ev_c g1) (Ev_b (Ev_c g2) (Ev_b pm (Ev_t hc (Ev_b z2 (Ev_n rfl))))))))
   ·refine ⟨[], 3, (none 3).1, (none 3).2.1, Ev_b e1 (Ev_t rfl (Ev_b n1 (aZ_ ?_))), Ev_b pc (Ev_b n2 (Ev_t rfl (jf 3 (by decide))))⟩
    simp only [ar_.j0]
    rcases hc with hc | ⟨hc, hd⟩
    ·exact Ev_f (by decide) (Ev_b (Ev_c (na a)) (Ev_f (by rw [hc]; decide) sj1))
    ·refine Ev_f (by decide) (Ev_b (Ev_c (na a)) (Ev_t hc (Ev_b (Ev_c (na b)) ?_)))
     rw [hd]
     exact sj1
theorem law_MergeVersions : al_.Pure := by
 intro x a b u hx ha hb hu
 have hM : maxLen = 9223372036854775807 := by decide
 refine Ev.rounds (r := true) ?_
 simp only [al_.f]
 by_cases lu : (u.size : Int) > 1048576
 ·exact Ev_t lu (Ev_n rfl)
 refine Ev_f lu ?_
 refine Ev_b (szS_Version x hx.1 hx.2 (1048576) (by omega) (by omega)) ?_
 by_cases cx : ((di_ x : Nat) : Int) ≤ 1048576
 case neg => rw [dq_ cx]; exact Ev_t (by decide) (Ev_n rfl)
 rw [cut_pos cx]
 refine Ev_f (by omega) ?_
 have nx : (x.length : Int) ≤ 1048576 := by have := (ZS_in_Version x).1; omega
 have bx : ∀ q_ ∈ x, dw_ q_ := fun q_ hq_ => B_of_Version q_ (by have := (ZS_in_Version x).2 q_ hq_; omega)
 have mx : ((x.map bV_).length : Int) ≤ 1048576 := by simpa using nx
 have Ex : ∀ q_ ∈ x.map bV_, E_Version q_ := fun y hy => by obtain ⟨u, hu, rfl⟩ := List.mem_map.1 hy; exact E_of_Version u (bx u hu)
 have tx := toS_Version x nx bx
 have qx := eqS_Version (x.map bV_) mx Ex
 have zx : ∀ q_ ∈ x.map bV_, ∃ u ∈ x, bV_ u = q_ ∧ ((cH_ u : Nat) : Int) ≤ 1048576 := fun y hy => by obtain ⟨u, hu, e⟩ := List.mem_map.1 hy; exact ⟨u, hu, e, by have := (ZS_in_Version x).2 u hu; omega⟩
 have vnx : ∀ y ∈ x.map bV_, (y.f2.size : Int) ≤ 1048576 ∧ (y.f3.length : Int) ≤ 1048576 := (fun y hy => by obtain ⟨u_, _, rfl, h_⟩ := zx y hy; unfold cH_ at h_; have := (ZS_in_Entry u_.f3).1; exact ⟨by show ((u_.f2.size : Nat) : Int) ≤ 1048576; omega, by show (((u_.f3.map cF_).length : Nat) : Int) ≤ 1048576; rw [List.length_map]; omega⟩)
 obtain ⟨r0, r1, hr0, ⟨st, hst, hq⟩, e1, e2⟩ := mergev_ev (x.map bV_) mx vnx a b u (by omega)
 have E_r0 : ∀ y ∈ r0, E_Version y := added _ _ _ _ hq Ex ⟨by show (st.length : Int) ≤ 1048576; omega, fun _ _ => trivial⟩
 have S_r0 : ∀ y ∈ r0, (y.f3.length : Int) ≤ 1048576 := added (fun y => (y.f3.length : Int) ≤ 1048576) _ _ _ hq (fun y hy => (vnx y hy).2) (by show (st.length : Int) ≤ 1048576; omega)
 have qr0 := eqS_Version r0 (by omega) E_r0
 obtain ⟨Rx, px, hRx, hRb, mmx, _⟩ := mkh_ev (x.map bV_) mx (fun y hy => (vnx y hy).2)
 obtain ⟨Rr, pr, hRr, _, mr0, hdr0⟩ := mkh_ev r0 (by omega) S_r0
 repeat' (first | ((first | (with_reducible refine Ev_b e1 ?_) | (with_reducible refine Ev_b e2 ?_) | (with_reducible refine Ev_b tx ?_) | (with_reducible refine Ev_b qx ?_) | (with_reducible refine Ev_b qr0 ?_) | (with_reducible refine Ev_b mmx ?_) | (with_reducible refine Ev_b mr0 ?_) | (with_reducible refine Ev_b hdr0 ?_)); try dsimp only) | (with_reducible refine Ev_t rfl ?_) | (with_reducible refine Ev_t True.intro ?_) | (refine Ev_f (by omega) ?_) | (refine Ev_t (by omega) ?_) | (refine Ev_f (by simp) ?_) | exact Ev_n rfl | (refine aZ_ ?_; first | simp only [al_.j0] | simp only [al_.j1] | simp only [al_.j2]))
end Go.Proofs.Ytiheginanghhjaa.Q
namespace Go.Proofs.Ytiheginanghhjaa.Pure
open Go.Proofs.Ytiheginanghhjaa.Q
theorem FnExactMergeVersions : al_.Pure := law_MergeVersions
end Go.Proofs.Ytiheginanghhjaa.Pure
namespace Go.Proofs.Ytiheginanghhjaa.fnExactMergeVersions
open Go.ChangeShapes Go.WideShapes Go.ChangeAt Go.RowKit Go.Proofs.Ytiheginanghhjaa.OPN Go.Proofs.Ytiheginanghhjaa.Q Go.Proofs.YtiheginanghhjaaW.PrintWords
open Go.ChangeMaps (open_string shut_string)
theorem own : ownKnob Try.prog.godebug = none := by kernel_rfl
theorem laidOut : laidOutB Try.prog = true := by kernel_rfl
set_option maxRecDepth 100000 in
theorem lifted (os : Os) (started : os.Started) (H : Type) (enc : TypeId × Value → H) :
  ReturnsInHanded {} Try.checked os 5 .any (Rows.fnExactMergeVersionsSpec.pre6 enc Try.prog Try.f5 Rows.fnExactMergeVersionsRow.domain false) (Rows.fnExactMergeVersionsSpec.post enc Try.prog Try.f5 false true false false) := by
 refine returnsInHanded_of_change_sized (C := Try.checked) own started (by kernel_rfl) Try.func5
  (ChangeSpec.witness6 (enc := enc) (C := Try.checked) false ⟨#[], #[.slice none 0 0, .int .i64 0, .int .i64 0, .string ByteArray.empty], []⟩ 8 (by kernel_rfl) (by kernel_rfl) (by kernel_rfl) (by kernel_rfl)) ?_
 intro W base args ds gs before hval0 hW hcnd hsz0 _
 have hval : ∀ (j : Nat) t v, Try.f5.params[j]? = some t → args[j]? = some v → Value.okWide Try.prog W .any base t v := hval0
 have hW' := hW
 obtain ⟨p, q, hA0, hV, rfl, hfz, hnd⟩ := hW
 have hA : DataW.TrodAll enc Try.prog W 0 (fun _ => true) true Try.f5.params.toList args.toList ds p := hA0
 rw [Try.params5] at hA hval
 obtain ⟨v0, vs0, d0, ds0, p0, q0, hargs, rfl, rfl, h0, r0⟩ := trodAll_cons hA
 obtain ⟨v1, vs1, d1, ds1, p1, q1, rfl, rfl, rfl, h1, r1⟩ := trodAll_cons r0
 obtain ⟨v2, vs2, d2, ds2, p2, q2, rfl, rfl, rfl, h2, r2⟩ := trodAll_cons r1
 obtain ⟨v3, vs3, d3, ds3, p3, q3, rfl, rfl, rfl, h3, r3⟩ := trodAll_cons r2
 obtain ⟨rfl, rfl, rfl⟩ := trodAll_nil r3
 obtain rfl : args = #[v0, v1, v2, v3] := by cases args; simp_all
 obtain ⟨rfl, rfl⟩ := trodVars_none hV
 have lt0 : ∀ x ∈ p0, x.block < W.heap.size := by obtain ⟨m, hm⟩ := h0; exact DataW.trod_lt m _ _ _ hm
 have k0 := h0
 obtain ⟨z0, y0, u0, rfl⟩ := okWide_slice Try.underlying36 (hval 0 36 v0 rfl rfl)
 obtain ⟨fu0, hf0⟩ := h0
 obtain ⟨x0, ⟨A0, c0, hcs0, hc0, hr0⟩, w0⟩ := ((opn_slice Try.underlying36 (by kernel_rfl) opn71) : Opn _ _ (Kd.slice 71 k71) _).get rfl hf0
 obtain ⟨rfl, rfl, rfl⟩ : A0 = z0 ∧ x0.length = y0 ∧ c0 = u0 := (fun (h_ : z0 = A0 ∧ y0 = x0.length ∧ u0 = c0) => ⟨h_.1.symm, h_.2.1.symm, h_.2.2.symm⟩) (by simpa [Value.cells] using hcs0)
 obtain ⟨x1, rfl, rfl, rfl, w1⟩ := open_int Try.underlying2 (hval 1 2 v1 rfl rfl) h1
 obtain ⟨x2, rfl, rfl, rfl, w2⟩ := open_int Try.underlying2 (hval 2 2 v2 rfl rfl) h2
 obtain ⟨x3, rfl, rfl, rfl, w3⟩ := open_string Try.underlying9 (hval 3 9 v3 rfl rfl) h3
 clear hA0 hval0 hsz0
 obtain ⟨k, hP⟩ := Pure.FnExactMergeVersions x0 x1 x2 x3 w0 w1 w2 w3
 refine (al_.calls k A0 c0 x0 x1 x2 x3 true W hr0 hc0 hP).mono fun e W' hh => ?_
 obtain ⟨rfl, bel0⟩ := hh
 have bel : Below W.heap.size W W' := bel0
 exact ⟨_, rfl, _, _, _, [], _, [], hW', trodAll_mk1 (shut_bool Try.underlying4 _), (trodAll_cons_mk (Below.trod laidOut (by kernel_rfl) (of_decide_eq_true (by kernel_rfl)) k0 bel lt0) (trodAll_cons_mk (shut_int Try.underlying2 w1) (trodAll_cons_mk (shut_int Try.underlying2 w2) (trodAll_cons_mk (shut_string Try.underlying9 w3) trodAll_mk0)))), rfl, bel.frame _, fun h => by cases h⟩
theorem over : Rows.fnExactMergeVersionsRow.holds Try.pinned (OpenSpec.ofChange Rows.fnExactMergeVersionsSpec) :=
 OpenClaim.holds_of_wide 5 Try.f5 rfl rfl rfl rfl rfl rfl rfl ⟨rfl, rfl, rfl, rfl, rfl⟩ rfl rfl rfl rfl rfl (by kernel_rfl) Try.func5 (by kernel_rfl)
  (of_decide_eq_true (by kernel_rfl)) (by unfold Func.isWrapper; first | (rw [if_pos (by decide +kernel)]; kernel_rfl) | (rw [if_neg (by decide +kernel)]; exact ⟨rfl, rfl⟩))
  (fun os started H enc _ => lifted os started H enc)
theorem proved : Rows.FnExactMergeVersionsSaid := over
#print axioms proved
end Go.Proofs.Ytiheginanghhjaa.fnExactMergeVersions
namespace Go.Proofs.Ytiheginanghhjaa
theorem fnExactMergeVersions_holds : Rows.FnExactMergeVersionsSaid := fnExactMergeVersions.proved
end Go.Proofs.Ytiheginanghhjaa
