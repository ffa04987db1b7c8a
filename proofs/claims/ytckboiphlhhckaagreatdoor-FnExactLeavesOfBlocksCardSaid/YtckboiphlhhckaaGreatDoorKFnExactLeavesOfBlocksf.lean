/- The statement FnExactLeavesOfBlocks: for all lists of blocks the program and the reference give the same leaves and the same code; the lists handed over stay as they are, and the leaves are new. This text holds the functions' walks and the words for them. -/
import Derived.Lib.ItoaLen
import Derived.Lib.SplitLaws
import Derived.Lib.IndexBytes
import Derived.Test.YtckboiphlhhckaaGreatDoorKFnExactLeavesOfBlocksa
import Derived.Test.YtckboiphlhhckaaGreatDoorKFnExactLeavesOfBlockse
import Derived.Test.YtckboiphlhhckaaGreatDoorKFnExactLeavesOfBlocksc
import Derived.Test.YtckboiphlhhckaaGreatDoorKFnExactLeavesOfBlocksb
import Derived.Test.YtckboiphlhhckaaGreatDoorKFnExactLeavesOfBlocksd
set_option linter.unusedVariables false
set_option linter.unusedSimpArgs false
namespace Go.Proofs.YtckboiphlhhckaaGreatDoor.Q
open Go.RowKit Go.Proofs.YtckboiphlhhckaaGreatDoorW.PrintWords Go.Proofs.YtckboiphlhhckaaGreatDoorW.PrintLast Go.Proofs.YtckboiphlhhckaaGreatDoorW.PrintMore
attribute [local go_sem] aN_ aM_ aW_ aU_ aC_ aD_ aL_ aO_
theorem aw_.cells {W : World} {base g n cap : Nat} {ok : Nat → Prop} {xs : List S43} (h : Kd.S k43 43 W base ok (.slice (some ⟨g, 0, none⟩) n cap) xs) (i : Int) (h0 : 0 ≤ i) (h1 : i < n) :
  ∃ vI A c, vI = Value.slice A (ab_ xs i).f6.length c ∧ W.cell? ⟨g, i.toNat * 9, none⟩ = some (.string ((ab_ xs i).f0)) ∧ W.cell? ⟨g, i.toNat * 9 + 1, none⟩ = some (.string ((ab_ xs i).f1)) ∧ W.cell? ⟨g, i.toNat * 9 + 2, none⟩ = some (.int .i64 ((ab_ xs i).f2)) ∧ W.cell? ⟨g, i.toNat * 9 + 3, none⟩ = some (.string ((ab_ xs i).f3.f0)) ∧ W.cell? ⟨g, i.toNat * 9 + 4, none⟩ = some (.int .i64 ((ab_ xs i).f3.f1)) ∧ W.cell? ⟨g, i.toNat * 9 + 5, none⟩ = some (.int .i64 ((ab_ xs i).f3.f2)) ∧ W.cell? ⟨g, i.toNat * 9 + 6, none⟩ = some (.int .i64 ((ab_ xs i).f4)) ∧ W.cell? ⟨g, i.toNat * 9 + 7, none⟩ = some (.int .i64 ((ab_ xs i).f5)) ∧ W.cell? ⟨g, i.toNat * 9 + 8, none⟩ = some vI ∧ W.frozen? ⟨g, i.toNat * 9, none⟩ = false ∧ W.frozen? ⟨g, i.toNat * 9 + 1, none⟩ = false ∧ W.frozen? ⟨g, i.toNat * 9 + 2, none⟩ = false ∧ W.frozen? ⟨g, i.toNat * 9 + 3, none⟩ = false ∧ W.frozen? ⟨g, i.toNat * 9 + 4, none⟩ = false ∧ W.frozen? ⟨g, i.toNat * 9 + 5, none⟩ = false ∧ W.frozen? ⟨g, i.toNat * 9 + 6, none⟩ = false ∧ W.frozen? ⟨g, i.toNat * 9 + 7, none⟩ = false ∧
   (∃ oki : Nat → Prop, (∀ k, oki k → ok k) ∧ Kd.R k66 66 W base oki vI (ab_ xs i).f6 ∧ ∀ (W2 : World) (ys : List S66), Kept W W2 oki → Kd.R k66 66 W2 base oki vI ys → Kd.S k43 43 W2 base ok (.slice (some ⟨g, 0, none⟩) n cap) (xs.set i.toNat ⟨(ab_ xs i).f0, (ab_ xs i).f1, (ab_ xs i).f2, ⟨(ab_ xs i).f3.f0, (ab_ xs i).f3.f1, (ab_ xs i).f3.f2⟩, (ab_ xs i).f4, (ab_ xs i).f5, ys⟩)) := by
 obtain ⟨oki, c, hcl, hM, hcc, hfr, hoki, hH⟩ := Kd.S_elem h z43 i h0 h1
 obtain ⟨vI, rfl, hv⟩ := k43_openM hM
 obtain ⟨A, cc, rfl⟩ := Kd.bv_ hv
 refine ⟨_, A, cc, rfl, hcc 0 _ rfl, hcc 1 _ rfl, hcc 2 _ rfl, hcc 3 _ rfl, hcc 4 _ rfl, hcc 5 _ rfl, hcc 6 _ rfl, hcc 7 _ rfl, hcc 8 _ rfl, hfr 0, hfr 1, hfr 2, hfr 3, hfr 4, hfr 5, hfr 6, hfr 7, oki, fun k hk => (hoki k hk).1, hv, fun W2 ys hK hR => ?_⟩
 have hH2 := Kd.H_step hH (w1 := W2) (fun k _ hn hlt => hK.2 k hlt hn)
 exact Kd.H_back hH2 (x' := ⟨(ab_ xs i).f0, (ab_ xs i).f1, (ab_ xs i).f2, ⟨(ab_ xs i).f3.f0, (ab_ xs i).f3.f1, (ab_ xs i).f3.f2⟩, (ab_ xs i).f4, (ab_ xs i).f5, ys⟩) (cV_ _ _ _ (⟨(ab_ xs i).f0, (ab_ xs i).f1, (ab_ xs i).f2, ⟨(ab_ xs i).f3.f0, (ab_ xs i).f3.f1, (ab_ xs i).f3.f2⟩, (ab_ xs i).f4, (ab_ xs i).f5, ys⟩ : S43) hR) (fun _ hk => hk)
theorem aw_.put {W : World} {base g n cap : Nat} {ok : Nat → Prop} {xs : List S43} (h : Kd.S k43 43 W base ok (.slice (some ⟨g, 0, none⟩) n cap) xs) (i : Int) (h0 : 0 ≤ i) (h1 : i < n) :
  (∀ x : ByteArray, Kd.S k43 43 (W.setCell ⟨g, i.toNat * 9, none⟩ (.string x)) base ok (.slice (some ⟨g, 0, none⟩) n cap) (xs.set i.toNat ⟨x, (ab_ xs i).f1, (ab_ xs i).f2, ⟨(ab_ xs i).f3.f0, (ab_ xs i).f3.f1, (ab_ xs i).f3.f2⟩, (ab_ xs i).f4, (ab_ xs i).f5, (ab_ xs i).f6⟩) ∧ W.grownBy (W.setCell ⟨g, i.toNat * 9, none⟩ (.string x)) (some g)) ∧ (∀ x : ByteArray, Kd.S k43 43 (W.setCell ⟨g, i.toNat * 9 + 1, none⟩ (.string x)) base ok (.slice (some ⟨g, 0, none⟩) n cap) (xs.set i.toNat ⟨(ab_ xs i).f0, x, (ab_ xs i).f2, ⟨(ab_ xs i).f3.f0, (ab_ xs i).f3.f1, (ab_ xs i).f3.f2⟩, (ab_ xs i).f4, (ab_ xs i).f5, (ab_ xs i).f6⟩) ∧ W.grownBy (W.setCell ⟨g, i.toNat * 9 + 1, none⟩ (.string x)) (some g)) ∧ (∀ x : Int, Kd.S k43 43 (W.setCell ⟨g, i.toNat * 9 + 2, none⟩ (.int .i64 (x))) base ok (.slice (some ⟨g, 0, none⟩) n cap) (xs.set i.toNat ⟨(ab_ xs i).f0, (ab_ xs i).f1, x, ⟨(ab_ xs i).f3.f0, (ab_ xs i).f3.f1, (ab_ xs i).f3.f2⟩, (ab_ xs i).f4, (ab_ xs i).f5, (ab_ xs i).f6⟩) ∧ W.grownBy (W.setCell ⟨g, i.toNat * 9 + 2, none⟩ (.int .i64 (x))) (some g)) ∧ (∀ x : ByteArray, Kd.S k43 43 (W.setCell ⟨g, i.toNat * 9 + 3, none⟩ (.string x)) base ok (.slice (some ⟨g, 0, none⟩) n cap) (xs.set i.toNat ⟨(ab_ xs i).f0, (ab_ xs i).f1, (ab_ xs i).f2, ⟨x, (ab_ xs i).f3.f1, (ab_ xs i).f3.f2⟩, (ab_ xs i).f4, (ab_ xs i).f5, (ab_ xs i).f6⟩) ∧ W.grownBy (W.setCell ⟨g, i.toNat * 9 + 3, none⟩ (.string x)) (some g)) ∧ (∀ x : Int, Kd.S k43 43 (W.setCell ⟨g, i.toNat * 9 + 4, none⟩ (.int .i64 (x))) base ok (.slice (some ⟨g, 0, none⟩) n cap) (xs.set i.toNat ⟨(ab_ xs i).f0, (ab_ xs i).f1, (ab_ xs i).f2, ⟨(ab_ xs i).f3.f0, x, (ab_ xs i).f3.f2⟩, (ab_ xs i).f4, (ab_ xs i).f5, (ab_ xs i).f6⟩) ∧ W.grownBy (W.setCell ⟨g, i.toNat * 9 + 4, none⟩ (.int .i64 (x))) (some g)) ∧ (∀ x : Int, Kd.S k43 43 (W.setCell ⟨g, i.toNat * 9 + 5, none⟩ (.int .i64 (x))) base ok (.slice (some ⟨g, 0, none⟩) n cap) (xs.set i.toNat ⟨(ab_ xs i).f0, (ab_ xs i).f1, (ab_ xs i).f2, ⟨(ab_ xs i).f3.f0, (ab_ xs i).f3.f1, x⟩, (ab_ xs i).f4, (ab_ xs i).f5, (ab_ xs i).f6⟩) ∧ W.grownBy (W.setCell ⟨g, i.toNat * 9 + 5, none⟩ (.int .i64 (x))) (some g)) ∧ (∀ x : Int, Kd.S k43 43 (W.setCell ⟨g, i.toNat * 9 + 6, none⟩ (.int .i64 (x))) base ok (.slice (some ⟨g, 0, none⟩) n cap) (xs.set i.toNat ⟨(ab_ xs i).f0, (ab_ xs i).f1, (ab_ xs i).f2, ⟨(ab_ xs i).f3.f0, (ab_ xs i).f3.f1, (ab_ xs i).f3.f2⟩, x, (ab_ xs i).f5, (ab_ xs i).f6⟩) ∧ W.grownBy (W.setCell ⟨g, i.toNat * 9 + 6, none⟩ (.int .i64 (x))) (some g)) ∧ (∀ x : Int, Kd.S k43 43 (W.setCell ⟨g, i.toNat * 9 + 7, none⟩ (.int .i64 (x))) base ok (.slice (some ⟨g, 0, none⟩) n cap) (xs.set i.toNat ⟨(ab_ xs i).f0, (ab_ xs i).f1, (ab_ xs i).f2, ⟨(ab_ xs i).f3.f0, (ab_ xs i).f3.f1, (ab_ xs i).f3.f2⟩, (ab_ xs i).f4, x, (ab_ xs i).f6⟩) ∧ W.grownBy (W.setCell ⟨g, i.toNat * 9 + 7, none⟩ (.int .i64 (x))) (some g)) ∧ True := by
 obtain ⟨oki, c, hcl, hM, hcc, hfr, hoki, hH⟩ := Kd.S_elem h z43 i h0 h1
 obtain ⟨vI, rfl, hv⟩ := k43_openM hM
 refine ⟨fun x => ?_, fun x => ?_, fun x => ?_, fun x => ?_, fun x => ?_, fun x => ?_, fun x => ?_, fun x => ?_, True.intro⟩
 ·exact Kd.S_seg0 hH h0 h1 (seg := [.string x]) (j := 0) (show 1 ≤ 9 by decide) (x' := ⟨x, (ab_ xs i).f1, (ab_ xs i).f2, ⟨(ab_ xs i).f3.f0, (ab_ xs i).f3.f1, (ab_ xs i).f3.f2⟩, (ab_ xs i).f4, (ab_ xs i).f5, (ab_ xs i).f6⟩) (cV_ _ _ _ (⟨x, (ab_ xs i).f1, (ab_ xs i).f2, ⟨(ab_ xs i).f3.f0, (ab_ xs i).f3.f1, (ab_ xs i).f3.f2⟩, (ab_ xs i).f4, (ab_ xs i).f5, (ab_ xs i).f6⟩ : S43) hv) (fun _ hk => hk)
 ·exact Kd.S_seg0 hH h0 h1 (seg := [.string x]) (j := 1) (show 2 ≤ 9 by decide) (x' := ⟨(ab_ xs i).f0, x, (ab_ xs i).f2, ⟨(ab_ xs i).f3.f0, (ab_ xs i).f3.f1, (ab_ xs i).f3.f2⟩, (ab_ xs i).f4, (ab_ xs i).f5, (ab_ xs i).f6⟩) (cV_ _ _ _ (⟨(ab_ xs i).f0, x, (ab_ xs i).f2, ⟨(ab_ xs i).f3.f0, (ab_ xs i).f3.f1, (ab_ xs i).f3.f2⟩, (ab_ xs i).f4, (ab_ xs i).f5, (ab_ xs i).f6⟩ : S43) hv) (fun _ hk => hk)
 ·exact Kd.S_seg0 hH h0 h1 (seg := [.int .i64 (x)]) (j := 2) (show 3 ≤ 9 by decide) (x' := ⟨(ab_ xs i).f0, (ab_ xs i).f1, x, ⟨(ab_ xs i).f3.f0, (ab_ xs i).f3.f1, (ab_ xs i).f3.f2⟩, (ab_ xs i).f4, (ab_ xs i).f5, (ab_ xs i).f6⟩) (cV_ _ _ _ (⟨(ab_ xs i).f0, (ab_ xs i).f1, x, ⟨(ab_ xs i).f3.f0, (ab_ xs i).f3.f1, (ab_ xs i).f3.f2⟩, (ab_ xs i).f4, (ab_ xs i).f5, (ab_ xs i).f6⟩ : S43) hv) (fun _ hk => hk)
 ·exact Kd.S_seg0 hH h0 h1 (seg := [.string x]) (j := 3) (show 4 ≤ 9 by decide) (x' := ⟨(ab_ xs i).f0, (ab_ xs i).f1, (ab_ xs i).f2, ⟨x, (ab_ xs i).f3.f1, (ab_ xs i).f3.f2⟩, (ab_ xs i).f4, (ab_ xs i).f5, (ab_ xs i).f6⟩) (cV_ _ _ _ (⟨(ab_ xs i).f0, (ab_ xs i).f1, (ab_ xs i).f2, ⟨x, (ab_ xs i).f3.f1, (ab_ xs i).f3.f2⟩, (ab_ xs i).f4, (ab_ xs i).f5, (ab_ xs i).f6⟩ : S43) hv) (fun _ hk => hk)
 ·exact Kd.S_seg0 hH h0 h1 (seg := [.int .i64 (x)]) (j := 4) (show 5 ≤ 9 by decide) (x' := ⟨(ab_ xs i).f0, (ab_ xs i).f1, (ab_ xs i).f2, ⟨(ab_ xs i).f3.f0, x, (ab_ xs i).f3.f2⟩, (ab_ xs i).f4, (ab_ xs i).f5, (ab_ xs i).f6⟩) (cV_ _ _ _ (⟨(ab_ xs i).f0, (ab_ xs i).f1, (ab_ xs i).f2, ⟨(ab_ xs i).f3.f0, x, (ab_ xs i).f3.f2⟩, (ab_ xs i).f4, (ab_ xs i).f5, (ab_ xs i).f6⟩ : S43) hv) (fun _ hk => hk)
 ·exact Kd.S_seg0 hH h0 h1 (seg := [.int .i64 (x)]) (j := 5) (show 6 ≤ 9 by decide) (x' := ⟨(ab_ xs i).f0, (ab_ xs i).f1, (ab_ xs i).f2, ⟨(ab_ xs i).f3.f0, (ab_ xs i).f3.f1, x⟩, (ab_ xs i).f4, (ab_ xs i).f5, (ab_ xs i).f6⟩) (cV_ _ _ _ (⟨(ab_ xs i).f0, (ab_ xs i).f1, (ab_ xs i).f2, ⟨(ab_ xs i).f3.f0, (ab_ xs i).f3.f1, x⟩, (ab_ xs i).f4, (ab_ xs i).f5, (ab_ xs i).f6⟩ : S43) hv) (fun _ hk => hk)
 ·exact Kd.S_seg0 hH h0 h1 (seg := [.int .i64 (x)]) (j := 6) (show 7 ≤ 9 by decide) (x' := ⟨(ab_ xs i).f0, (ab_ xs i).f1, (ab_ xs i).f2, ⟨(ab_ xs i).f3.f0, (ab_ xs i).f3.f1, (ab_ xs i).f3.f2⟩, x, (ab_ xs i).f5, (ab_ xs i).f6⟩) (cV_ _ _ _ (⟨(ab_ xs i).f0, (ab_ xs i).f1, (ab_ xs i).f2, ⟨(ab_ xs i).f3.f0, (ab_ xs i).f3.f1, (ab_ xs i).f3.f2⟩, x, (ab_ xs i).f5, (ab_ xs i).f6⟩ : S43) hv) (fun _ hk => hk)
 ·exact Kd.S_seg0 hH h0 h1 (seg := [.int .i64 (x)]) (j := 7) (show 8 ≤ 9 by decide) (x' := ⟨(ab_ xs i).f0, (ab_ xs i).f1, (ab_ xs i).f2, ⟨(ab_ xs i).f3.f0, (ab_ xs i).f3.f1, (ab_ xs i).f3.f2⟩, (ab_ xs i).f4, x, (ab_ xs i).f6⟩) (cV_ _ _ _ (⟨(ab_ xs i).f0, (ab_ xs i).f1, (ab_ xs i).f2, ⟨(ab_ xs i).f3.f0, (ab_ xs i).f3.f1, (ab_ xs i).f3.f2⟩, (ab_ xs i).f4, x, (ab_ xs i).f6⟩ : S43) hv) (fun _ hk => hk)
theorem aw_.rd_set (xs : List S43) (i : Int) (x : S43) (h : i.toNat < xs.length) : ab_ (xs.set i.toNat x) i = x := by
 unfold ab_
 rw [List.getD_eq_getElem?_getD, List.getElem?_set_self h]
 rfl
def aw_.l0 : Nat → List S43 → Int → Int → Option (Int × List S43)
 | 0, _, _, _ => none
 | k + 1, x0, x1, x5 => if x5 < (x0.length : Int) then (((aK_.f k x1).bind fun t0 => ((aK_.f k (wrap64 (x1 + 1))).bind fun t1 => ((aK_.f k (wrap64 (wrap64 (wrap64 (x1 + 1) + 1) + 1))).bind fun t3 => ((bq_.f k (ab_ x0 x5).f6 (wrap64 (wrap64 (wrap64 (wrap64 (wrap64 (wrap64 (wrap64 (wrap64 (x1 + 1) + 1) + 1) + 1) + 1) + 1) + 1) + 1))).bind fun p => (if 0 ≤ x5 then (aw_.l0 k (x0.set x5.toNat ⟨t0, t1, wrap64 (wrap64 (x1 + 1) + 1), ⟨t3, wrap64 (wrap64 (wrap64 (wrap64 (x1 + 1) + 1) + 1) + 1), wrap64 (wrap64 (wrap64 (wrap64 (wrap64 (x1 + 1) + 1) + 1) + 1) + 1)⟩, wrap64 (wrap64 (wrap64 (wrap64 (wrap64 (wrap64 (x1 + 1) + 1) + 1) + 1) + 1) + 1), wrap64 (wrap64 (wrap64 (wrap64 (wrap64 (wrap64 (wrap64 (x1 + 1) + 1) + 1) + 1) + 1) + 1) + 1), p.2⟩) p.1 (wrap64 (x5 + 1))) else (none))))))) else (some (x1, x0))
def aw_.f (k : Nat) (l0 : List S43) (a1 : Int) : Option (Int × List S43) := aw_.l0 k l0 a1 0
set_option maxHeartbeats 8000000 in
set_option maxRecDepth 100000 in
theorem aw_.calls (k : Nat) (P0_ : Nat → Prop) (u9000_ : Value) (l0 : List (S43)) (a1 : Int) (r1 : Int) (r2 : List (S43)) (w0 w : World) (hB : Below w0.heap.size w0 w) (ho0 : Kd.S k43 43 w w0.heap.size P0_ u9000_ l0) (h : aw_.f k l0 a1 = some (r1, r2)) :
  Calls Tryz.prog 11 #[u9000_, .int .i64 a1] w fun e w' => e = .returned (.int .i64 r1) ∧ Kd.S k43 43 w' w0.heap.size P0_ u9000_ r2 ∧ Below w0.heap.size w0 w' ∧ Kept w w' (fun k_ => P0_ k_) := by
 have HO0 := Aside0.mk ho0
 have HK := Aside0.mk (Kept.refl w (fun k_ => P0_ k_))
 have HB := Aside0.mk hB
 clear hB ho0
 have H : (aw_.l0 k l0 a1 0) = some (r1, r2) := h
 clear h
 have H' := Aside0.mk H
 clear H
 go_enter Tryz.func11, Tryz.ntmps11
 go_wp2
 go_loopg [1, 5] k (fun kq v1 v5 w' => ∃ (x0_1 : List (S43)) (x1_1 : Int) (x5_1 : Int), v1 = .int .i64 x1_1 ∧ v5 = .int .i64 x5_1 ∧ Aside0 (aw_.l0 kq x0_1 x1_1 x5_1 = some (r1, r2)) ∧ Aside0 (kq ≤ k) ∧ Aside0 (Kd.S k43 43 w' w0.heap.size P0_ u9000_ x0_1) ∧ Aside0 (Kept w w' (fun k_ => P0_ k_)) ∧ Aside0 (Below w0.heap.size w0 w'))
 case atStart => exact ⟨(l0), (a1), (0), (by first | rfl | (simp; done) | (simp [*]; done)), (by first | rfl | (simp; done) | (simp [*]; done)), H', ⟨Nat.le_refl _⟩, ⟨sz HO0.out⟩, ⟨hz HK.out⟩, ⟨bz HB.out⟩⟩
 case round =>
  clear H'
  obtain ⟨x0_1, x1_1, x5_1, rfl, rfl, HA, HK1, HO_0, HK, HB⟩ := hrel
  cases gk with
  | zero => exact absurd HA.out (by simp [aw_.l0])
  | succ k1 =>
   have H := HA.out
   clear HA
   simp only [aw_.l0] at H
   by_cases c3 : x5_1 < (x0_1.length : Int)
   rotate_left
   ·rw [if_neg c3] at H
    have c3b0 : decide (x5_1 < (x0_1.length : Int)) = false := decide_eq_false c3
    clear c3
    simp only [Option.some.injEq, Prod.mk.injEq] at H
    obtain ⟨rfl, rfl⟩ := H
    obtain ⟨Ao22, co22, eo22⟩ := Kd.cA_ HO_0.out
    subst eo22
    go_wp2
    go_ret
    exact ⟨by first | rfl | (simp; done), sz HO_0.out, bz HB.out, hz HK.out⟩
   rw [if_pos c3] at H
   have c3b0 : decide (x5_1 < (x0_1.length : Int)) = true := decide_eq_true c3
   replace H := Option.bind_eq_some_iff.mp H
   obtain ⟨t0, A4_00, H⟩ := H
   have A4_0 := Aside0.mk A4_00
   clear A4_00
   replace H := Option.bind_eq_some_iff.mp H
   obtain ⟨t1, A4_10, H⟩ := H
   have A4_1 := Aside0.mk A4_10
   clear A4_10
   replace H := Option.bind_eq_some_iff.mp H
   obtain ⟨t3, A4_30, H⟩ := H
   have A4_3 := Aside0.mk A4_30
   clear A4_30
   replace H := Option.bind_eq_some_iff.mp H
   obtain ⟨⟨m1, ys⟩, A50, H⟩ := H
   have A5 := Aside0.mk A50
   clear A50
   by_cases c5 : 0 ≤ x5_1
   rotate_left
   ·rw [if_neg c5] at H
    exact absurd H (by simp)
   rw [if_pos c5] at H
   obtain ⟨x2, hx2⟩ : ∃ x2, x2 = x0_1.set x5_1.toNat ⟨t0, t1, wrap64 (wrap64 (x1_1 + 1) + 1), ⟨t3, wrap64 (wrap64 (wrap64 (wrap64 (x1_1 + 1) + 1) + 1) + 1), wrap64 (wrap64 (wrap64 (wrap64 (wrap64 (x1_1 + 1) + 1) + 1) + 1) + 1)⟩, wrap64 (wrap64 (wrap64 (wrap64 (wrap64 (wrap64 (x1_1 + 1) + 1) + 1) + 1) + 1) + 1), wrap64 (wrap64 (wrap64 (wrap64 (wrap64 (wrap64 (wrap64 (x1_1 + 1) + 1) + 1) + 1) + 1) + 1) + 1), ys⟩ := ⟨_, rfl⟩
   have N2 := Aside0.mk hx2
   replace H : aw_.l0 k1 x2 m1 (wrap64 (x5_1 + 1)) = some (r1, r2) := by rw [hx2]; exact H
   clear hx2
   have H' := Aside0.mk H
   clear H
   obtain ⟨go6, co6, eo6, gb6, _, _⟩ := Kd.S_form HO_0.out (by omega)
   subst eo6
   have GB6 := Aside0.mk gb6
   have GP6 := Aside0.mk (show P0_ go6 from (Kd.S_R HO_0.out).1 _ rfl)
   clear gb6
   have c5b := decide_eq_true c5
   obtain ⟨vI, A3, c3_, ev3, hx0, hx1, hx2, hx3, hx4, hx5, hx6, hx7, hx8, hf0, hf1, hf2, hf3, hf4, hf5, hf6, hf7, hlend⟩ := aw_.cells HO_0.out x5_1 c5 c3
   subst ev3
   go_wp2_with (first | ((with_reducible refine af_ (f := 21) rfl ?_); refine aJ_ (some 15) rfl rfl Tryz.func21 (by kernel_rfl) rfl #[.int .i64 x1_1] rfl (by first | rfl | (simp only [lma_, lmc_, lmn_]; first | done | rfl)) ?_; (with_reducible refine (aK_.calls k1 x1_1 t0 _ A4_0.out).mono ?_); rintro e wt0 ⟨rfl, hb⟩; refine ⟨_, rfl, ?_⟩; clear hx0 hx1 hx2 hx3 hx4 hx5 hx6 hx7 hx8 hf0 hf1 hf2 hf3 hf4 hf5 hf6 hf7 hlend; replace HO_0 := Aside0.mk (Kd.bO_ (sz HO_0.out) hb); replace HK := Aside0.mk (Kept.below (S := (fun k_ => P0_ k_)) (hz HK.out) hb); replace HB := Aside0.mk (ac_ (bz HB.out) hb); (try clear hb); obtain ⟨vI, A3, c3_, ev3, hx0, hx1, hx2, hx3, hx4, hx5, hx6, hx7, hx8, hf0, hf1, hf2, hf3, hf4, hf5, hf6, hf7, hlend⟩ := aw_.cells HO_0.out x5_1 c5 c3; subst ev3) | ((with_reducible refine bJ_ (t := 9) (p := 17) rfl ?_); refine by_ (t := 9) (p := 17) (v := ?vo_1) (w1 := (wt0.setCell ⟨go6, (x5_1 : Int).toNat * 9, none⟩ (.string t0))) ?hg ?ho ?hn ?hr ?_; (case ho => rfl); (case hg => rfl); (case hn => rfl); (case hr => (go_simp; try rfl)); intro ws0 hw; have hp_ := (aw_.put HO_0.out x5_1 c5 c3).1 t0; rw [← hw] at hp_; clear hx0 hx1 hx2 hx3 hx4 hx5 hx6 hx7 hx8 hf0 hf1 hf2 hf3 hf4 hf5 hf6 hf7 hlend; have hB2 : Below w0.heap.size w0 ws0 := (by rw [hw]; exact aa_ HB.out GB6.out); have hK2 : Kept w ws0 (fun k_ => P0_ k_) := Kept.cy_ (S := (fun k_ => P0_ k_)) hp_.2 HK.out (fun k_ e_ => by injection e_ with e_; subst e_; exact .inl GP6.out); have hS2 := hp_.1; have hR := aw_.rd_set x0_1 x5_1 (⟨t0, (ab_ x0_1 x5_1).f1, (ab_ x0_1 x5_1).f2, ⟨(ab_ x0_1 x5_1).f3.f0, (ab_ x0_1 x5_1).f3.f1, (ab_ x0_1 x5_1).f3.f2⟩, (ab_ x0_1 x5_1).f4, (ab_ x0_1 x5_1).f5, (ab_ x0_1 x5_1).f6⟩ : S43) (by omega); clear hp_ hw HO_0 HB HK; have HO_0 := Aside0.mk hS2; have HB := Aside0.mk hB2; have HK := Aside0.mk hK2; clear hS2 hB2 hK2; obtain ⟨vI, A3, c3_, ev3, hx0, hx1, hx2, hx3, hx4, hx5, hx6, hx7, hx8, hf0, hf1, hf2, hf3, hf4, hf5, hf6, hf7, hlend⟩ := aw_.cells HO_0.out x5_1 c5 c3; subst ev3) | ((with_reducible refine af_ (f := 21) rfl ?_); refine aJ_ (some 23) rfl rfl Tryz.func21 (by kernel_rfl) rfl #[.int .i64 (wrap64 (x1_1 + 1))] rfl (by first | rfl | (simp only [lma_, lmc_, lmn_]; first | done | rfl)) ?_; (with_reducible refine (aK_.calls k1 (wrap64 (x1_1 + 1)) t1 _ A4_1.out).mono ?_); rintro e wt1 ⟨rfl, hb⟩; refine ⟨_, rfl, ?_⟩; clear hx0 hx1 hx2 hx3 hx4 hx5 hx6 hx7 hx8 hf0 hf1 hf2 hf3 hf4 hf5 hf6 hf7 hlend; replace HO_0 := Aside0.mk (Kd.bO_ (sz HO_0.out) hb); replace HK := Aside0.mk (Kept.below (S := (fun k_ => P0_ k_)) (hz HK.out) hb); replace HB := Aside0.mk (ac_ (bz HB.out) hb); (try clear hb); obtain ⟨vI, A3, c3_, ev3, hx0, hx1, hx2, hx3, hx4, hx5, hx6, hx7, hx8, hf0, hf1, hf2, hf3, hf4, hf5, hf6, hf7, hlend⟩ := aw_.cells HO_0.out x5_1 c5 c3; subst ev3) | ((with_reducible refine bJ_ (t := 9) (p := 25) rfl ?_); refine by_ (t := 9) (p := 25) (v := ?vo_2) (w1 := (wt1.setCell ⟨go6, (x5_1 : Int).toNat * 9 + 1, none⟩ (.string t1))) ?hg ?ho ?hn ?hr ?_; (case ho => rfl); (case hg => rfl); (case hn => rfl); (case hr => (go_simp; try rfl)); intro ws1 hw; have hp_ := (aw_.put HO_0.out x5_1 c5 c3).2.1 t1; rw [← hw] at hp_; clear hx0 hx1 hx2 hx3 hx4 hx5 hx6 hx7 hx8 hf0 hf1 hf2 hf3 hf4 hf5 hf6 hf7 hlend; have hB2 : Below w0.heap.size w0 ws1 := (by rw [hw]; exact aa_ HB.out GB6.out); have hK2 : Kept w ws1 (fun k_ => P0_ k_) := Kept.cy_ (S := (fun k_ => P0_ k_)) hp_.2 HK.out (fun k_ e_ => by injection e_ with e_; subst e_; exact .inl GP6.out); have hS2 := hp_.1; rw [hR, List.set_set] at hS2; clear hR; have hR := aw_.rd_set x0_1 x5_1 (⟨t0, t1, (ab_ x0_1 x5_1).f2, ⟨(ab_ x0_1 x5_1).f3.f0, (ab_ x0_1 x5_1).f3.f1, (ab_ x0_1 x5_1).f3.f2⟩, (ab_ x0_1 x5_1).f4, (ab_ x0_1 x5_1).f5, (ab_ x0_1 x5_1).f6⟩ : S43) (by omega); clear hp_ hw HO_0 HB HK; have HO_0 := Aside0.mk hS2; have HB := Aside0.mk hB2; have HK := Aside0.mk hK2; clear hS2 hB2 hK2; obtain ⟨vI, A3, c3_, ev3, hx0, hx1, hx2, hx3, hx4, hx5, hx6, hx7, hx8, hf0, hf1, hf2, hf3, hf4, hf5, hf6, hf7, hlend⟩ := aw_.cells HO_0.out x5_1 c5 c3; subst ev3) | ((with_reducible refine bJ_ (t := 2) (p := 32) rfl ?_); refine by_ (t := 2) (p := 32) (v := ?vo_3) (w1 := (ws1.setCell ⟨go6, (x5_1 : Int).toNat * 9 + 2, none⟩ (.int .i64 (wrap64 (wrap64 (x1_1 + 1) + 1))))) ?hg ?ho ?hn ?hr ?_; (case ho => rfl); (case hg => rfl); (case hn => rfl); (case hr => (go_simp; try rfl)); intro ws2 hw; have hp_ := (aw_.put HO_0.out x5_1 c5 c3).2.2.1 (wrap64 (wrap64 (x1_1 + 1) + 1)); rw [← hw] at hp_; clear hx0 hx1 hx2 hx3 hx4 hx5 hx6 hx7 hx8 hf0 hf1 hf2 hf3 hf4 hf5 hf6 hf7 hlend; have hB2 : Below w0.heap.size w0 ws2 := (by rw [hw]; exact aa_ HB.out GB6.out); have hK2 : Kept w ws2 (fun k_ => P0_ k_) := Kept.cy_ (S := (fun k_ => P0_ k_)) hp_.2 HK.out (fun k_ e_ => by injection e_ with e_; subst e_; exact .inl GP6.out); have hS2 := hp_.1; rw [hR, List.set_set] at hS2; clear hR; have hR := aw_.rd_set x0_1 x5_1 (⟨t0, t1, wrap64 (wrap64 (x1_1 + 1) + 1), ⟨(ab_ x0_1 x5_1).f3.f0, (ab_ x0_1 x5_1).f3.f1, (ab_ x0_1 x5_1).f3.f2⟩, (ab_ x0_1 x5_1).f4, (ab_ x0_1 x5_1).f5, (ab_ x0_1 x5_1).f6⟩ : S43) (by omega); clear hp_ hw HO_0 HB HK; have HO_0 := Aside0.mk hS2; have HB := Aside0.mk hB2; have HK := Aside0.mk hK2; clear hS2 hB2 hK2; obtain ⟨vI, A3, c3_, ev3, hx0, hx1, hx2, hx3, hx4, hx5, hx6, hx7, hx8, hf0, hf1, hf2, hf3, hf4, hf5, hf6, hf7, hlend⟩ := aw_.cells HO_0.out x5_1 c5 c3; subst ev3) | ((with_reducible refine af_ (f := 21) rfl ?_); refine aJ_ (some 38) rfl rfl Tryz.func21 (by kernel_rfl) rfl #[.int .i64 (wrap64 (wrap64 (wrap64 (x1_1 + 1) + 1) + 1))] rfl (by first | rfl | (simp only [lma_, lmc_, lmn_]; first | done | rfl)) ?_; (with_reducible refine (aK_.calls k1 (wrap64 (wrap64 (wrap64 (x1_1 + 1) + 1) + 1)) t3 _ A4_3.out).mono ?_); rintro e wt3 ⟨rfl, hb⟩; refine ⟨_, rfl, ?_⟩; clear hx0 hx1 hx2 hx3 hx4 hx5 hx6 hx7 hx8 hf0 hf1 hf2 hf3 hf4 hf5 hf6 hf7 hlend; replace HO_0 := Aside0.mk (Kd.bO_ (sz HO_0.out) hb); replace HK := Aside0.mk (Kept.below (S := (fun k_ => P0_ k_)) (hz HK.out) hb); replace HB := Aside0.mk (ac_ (bz HB.out) hb); (try clear hb); obtain ⟨vI, A3, c3_, ev3, hx0, hx1, hx2, hx3, hx4, hx5, hx6, hx7, hx8, hf0, hf1, hf2, hf3, hf4, hf5, hf6, hf7, hlend⟩ := aw_.cells HO_0.out x5_1 c5 c3; subst ev3) | ((with_reducible refine bJ_ (t := 9) (p := 41) rfl ?_); refine by_ (t := 9) (p := 41) (v := ?vo_4) (w1 := (wt3.setCell ⟨go6, (x5_1 : Int).toNat * 9 + 3, none⟩ (.string t3))) ?hg ?ho ?hn ?hr ?_; (case ho => rfl); (case hg => rfl); (case hn => rfl); (case hr => (go_simp; try rfl)); intro ws3 hw; have hp_ := (aw_.put HO_0.out x5_1 c5 c3).2.2.2.1 t3; rw [← hw] at hp_; clear hx0 hx1 hx2 hx3 hx4 hx5 hx6 hx7 hx8 hf0 hf1 hf2 hf3 hf4 hf5 hf6 hf7 hlend; have hB2 : Below w0.heap.size w0 ws3 := (by rw [hw]; exact aa_ HB.out GB6.out); have hK2 : Kept w ws3 (fun k_ => P0_ k_) := Kept.cy_ (S := (fun k_ => P0_ k_)) hp_.2 HK.out (fun k_ e_ => by injection e_ with e_; subst e_; exact .inl GP6.out); have hS2 := hp_.1; rw [hR, List.set_set] at hS2; clear hR; have hR := aw_.rd_set x0_1 x5_1 (⟨t0, t1, wrap64 (wrap64 (x1_1 + 1) + 1), ⟨t3, (ab_ x0_1 x5_1).f3.f1, (ab_ x0_1 x5_1).f3.f2⟩, (ab_ x0_1 x5_1).f4, (ab_ x0_1 x5_1).f5, (ab_ x0_1 x5_1).f6⟩ : S43) (by omega); clear hp_ hw HO_0 HB HK; have HO_0 := Aside0.mk hS2; have HB := Aside0.mk hB2; have HK := Aside0.mk hK2; clear hS2 hB2 hK2; obtain ⟨vI, A3, c3_, ev3, hx0, hx1, hx2, hx3, hx4, hx5, hx6, hx7, hx8, hf0, hf1, hf2, hf3, hf4, hf5, hf6, hf7, hlend⟩ := aw_.cells HO_0.out x5_1 c5 c3; subst ev3) | ((with_reducible refine bJ_ (t := 2) (p := 49) rfl ?_); refine by_ (t := 2) (p := 49) (v := ?vo_5) (w1 := (ws3.setCell ⟨go6, (x5_1 : Int).toNat * 9 + 4, none⟩ (.int .i64 (wrap64 (wrap64 (wrap64 (wrap64 (x1_1 + 1) + 1) + 1) + 1))))) ?hg ?ho ?hn ?hr ?_; (case ho => rfl); (case hg => rfl); (case hn => rfl); (case hr => (go_simp; try rfl)); intro ws4 hw; have hp_ := (aw_.put HO_0.out x5_1 c5 c3).2.2.2.2.1 (wrap64 (wrap64 (wrap64 (wrap64 (x1_1 + 1) + 1) + 1) + 1)); rw [← hw] at hp_; clear hx0 hx1 hx2 hx3 hx4 hx5 hx6 hx7 hx8 hf0 hf1 hf2 hf3 hf4 hf5 hf6 hf7 hlend; have hB2 : Below w0.heap.size w0 ws4 := (by rw [hw]; exact aa_ HB.out GB6.out); have hK2 : Kept w ws4 (fun k_ => P0_ k_) := Kept.cy_ (S := (fun k_ => P0_ k_)) hp_.2 HK.out (fun k_ e_ => by injection e_ with e_; subst e_; exact .inl GP6.out); have hS2 := hp_.1; rw [hR, List.set_set] at hS2; clear hR; have hR := aw_.rd_set x0_1 x5_1 (⟨t0, t1, wrap64 (wrap64 (x1_1 + 1) + 1), ⟨t3, wrap64 (wrap64 (wrap64 (wrap64 (x1_1 + 1) + 1) + 1) + 1), (ab_ x0_1 x5_1).f3.f2⟩, (ab_ x0_1 x5_1).f4, (ab_ x0_1 x5_1).f5, (ab_ x0_1 x5_1).f6⟩ : S43) (by omega); clear hp_ hw HO_0 HB HK; have HO_0 := Aside0.mk hS2; have HB := Aside0.mk hB2; have HK := Aside0.mk hK2; clear hS2 hB2 hK2; obtain ⟨vI, A3, c3_, ev3, hx0, hx1, hx2, hx3, hx4, hx5, hx6, hx7, hx8, hf0, hf1, hf2, hf3, hf4, hf5, hf6, hf7, hlend⟩ := aw_.cells HO_0.out x5_1 c5 c3; subst ev3) | ((with_reducible refine bJ_ (t := 2) (p := 57) rfl ?_); refine by_ (t := 2) (p := 57) (v := ?vo_6) (w1 := (ws4.setCell ⟨go6, (x5_1 : Int).toNat * 9 + 5, none⟩ (.int .i64 (wrap64 (wrap64 (wrap64 (wrap64 (wrap64 (x1_1 + 1) + 1) + 1) + 1) + 1))))) ?hg ?ho ?hn ?hr ?_; (case ho => rfl); (case hg => rfl); (case hn => rfl); (case hr => (go_simp; try rfl)); intro ws5 hw; have hp_ := (aw_.put HO_0.out x5_1 c5 c3).2.2.2.2.2.1 (wrap64 (wrap64 (wrap64 (wrap64 (wrap64 (x1_1 + 1) + 1) + 1) + 1) + 1)); rw [← hw] at hp_; clear hx0 hx1 hx2 hx3 hx4 hx5 hx6 hx7 hx8 hf0 hf1 hf2 hf3 hf4 hf5 hf6 hf7 hlend; have hB2 : Below w0.heap.size w0 ws5 := (by rw [hw]; exact aa_ HB.out GB6.out); have hK2 : Kept w ws5 (fun k_ => P0_ k_) := Kept.cy_ (S := (fun k_ => P0_ k_)) hp_.2 HK.out (fun k_ e_ => by injection e_ with e_; subst e_; exact .inl GP6.out); have hS2 := hp_.1; rw [hR, List.set_set] at hS2; clear hR; have hR := aw_.rd_set x0_1 x5_1 (⟨t0, t1, wrap64 (wrap64 (x1_1 + 1) + 1), ⟨t3, wrap64 (wrap64 (wrap64 (wrap64 (x1_1 + 1) + 1) + 1) + 1), wrap64 (wrap64 (wrap64 (wrap64 (wrap64 (x1_1 + 1) + 1) + 1) + 1) + 1)⟩, (ab_ x0_1 x5_1).f4, (ab_ x0_1 x5_1).f5, (ab_ x0_1 x5_1).f6⟩ : S43) (by omega); clear hp_ hw HO_0 HB HK; have HO_0 := Aside0.mk hS2; have HB := Aside0.mk hB2; have HK := Aside0.mk hK2; clear hS2 hB2 hK2; obtain ⟨vI, A3, c3_, ev3, hx0, hx1, hx2, hx3, hx4, hx5, hx6, hx7, hx8, hf0, hf1, hf2, hf3, hf4, hf5, hf6, hf7, hlend⟩ := aw_.cells HO_0.out x5_1 c5 c3; subst ev3) | ((with_reducible refine bJ_ (t := 2) (p := 64) rfl ?_); refine by_ (t := 2) (p := 64) (v := ?vo_7) (w1 := (ws5.setCell ⟨go6, (x5_1 : Int).toNat * 9 + 6, none⟩ (.int .i64 (wrap64 (wrap64 (wrap64 (wrap64 (wrap64 (wrap64 (x1_1 + 1) + 1) + 1) + 1) + 1) + 1))))) ?hg ?ho ?hn ?hr ?_; (case ho => rfl); (case hg => rfl); (case hn => rfl); (case hr => (go_simp; try rfl)); intro ws6 hw; have hp_ := (aw_.put HO_0.out x5_1 c5 c3).2.2.2.2.2.2.1 (wrap64 (wrap64 (wrap64 (wrap64 (wrap64 (wrap64 (x1_1 + 1) + 1) + 1) + 1) + 1) + 1)); rw [← hw] at hp_; clear hx0 hx1 hx2 hx3 hx4 hx5 hx6 hx7 hx8 hf0 hf1 hf2 hf3 hf4 hf5 hf6 hf7 hlend; have hB2 : Below w0.heap.size w0 ws6 := (by rw [hw]; exact aa_ HB.out GB6.out); have hK2 : Kept w ws6 (fun k_ => P0_ k_) := Kept.cy_ (S := (fun k_ => P0_ k_)) hp_.2 HK.out (fun k_ e_ => by injection e_ with e_; subst e_; exact .inl GP6.out); have hS2 := hp_.1; rw [hR, List.set_set] at hS2; clear hR; have hR := aw_.rd_set x0_1 x5_1 (⟨t0, t1, wrap64 (wrap64 (x1_1 + 1) + 1), ⟨t3, wrap64 (wrap64 (wrap64 (wrap64 (x1_1 + 1) + 1) + 1) + 1), wrap64 (wrap64 (wrap64 (wrap64 (wrap64 (x1_1 + 1) + 1) + 1) + 1) + 1)⟩, wrap64 (wrap64 (wrap64 (wrap64 (wrap64 (wrap64 (x1_1 + 1) + 1) + 1) + 1) + 1) + 1), (ab_ x0_1 x5_1).f5, (ab_ x0_1 x5_1).f6⟩ : S43) (by omega); clear hp_ hw HO_0 HB HK; have HO_0 := Aside0.mk hS2; have HB := Aside0.mk hB2; have HK := Aside0.mk hK2; clear hS2 hB2 hK2; obtain ⟨vI, A3, c3_, ev3, hx0, hx1, hx2, hx3, hx4, hx5, hx6, hx7, hx8, hf0, hf1, hf2, hf3, hf4, hf5, hf6, hf7, hlend⟩ := aw_.cells HO_0.out x5_1 c5 c3; subst ev3) | ((with_reducible refine bJ_ (t := 2) (p := 71) rfl ?_); refine by_ (t := 2) (p := 71) (v := ?vo_8) (w1 := (ws6.setCell ⟨go6, (x5_1 : Int).toNat * 9 + 7, none⟩ (.int .i64 (wrap64 (wrap64 (wrap64 (wrap64 (wrap64 (wrap64 (wrap64 (x1_1 + 1) + 1) + 1) + 1) + 1) + 1) + 1))))) ?hg ?ho ?hn ?hr ?_; (case ho => rfl); (case hg => rfl); (case hn => rfl); (case hr => (go_simp; try rfl)); intro ws7 hw; have hp_ := (aw_.put HO_0.out x5_1 c5 c3).2.2.2.2.2.2.2.1 (wrap64 (wrap64 (wrap64 (wrap64 (wrap64 (wrap64 (wrap64 (x1_1 + 1) + 1) + 1) + 1) + 1) + 1) + 1)); rw [← hw] at hp_; clear hx0 hx1 hx2 hx3 hx4 hx5 hx6 hx7 hx8 hf0 hf1 hf2 hf3 hf4 hf5 hf6 hf7 hlend; have hB2 : Below w0.heap.size w0 ws7 := (by rw [hw]; exact aa_ HB.out GB6.out); have hK2 : Kept w ws7 (fun k_ => P0_ k_) := Kept.cy_ (S := (fun k_ => P0_ k_)) hp_.2 HK.out (fun k_ e_ => by injection e_ with e_; subst e_; exact .inl GP6.out); have hS2 := hp_.1; rw [hR, List.set_set] at hS2; clear hR; have hR := aw_.rd_set x0_1 x5_1 (⟨t0, t1, wrap64 (wrap64 (x1_1 + 1) + 1), ⟨t3, wrap64 (wrap64 (wrap64 (wrap64 (x1_1 + 1) + 1) + 1) + 1), wrap64 (wrap64 (wrap64 (wrap64 (wrap64 (x1_1 + 1) + 1) + 1) + 1) + 1)⟩, wrap64 (wrap64 (wrap64 (wrap64 (wrap64 (wrap64 (x1_1 + 1) + 1) + 1) + 1) + 1) + 1), wrap64 (wrap64 (wrap64 (wrap64 (wrap64 (wrap64 (wrap64 (x1_1 + 1) + 1) + 1) + 1) + 1) + 1) + 1), (ab_ x0_1 x5_1).f6⟩ : S43) (by omega); clear hp_ hw HO_0 HB HK; have HO_0 := Aside0.mk hS2; have HB := Aside0.mk hB2; have HK := Aside0.mk hK2; clear hS2 hB2 hK2; obtain ⟨vI, A3, c3_, ev3, hx0, hx1, hx2, hx3, hx4, hx5, hx6, hx7, hx8, hf0, hf1, hf2, hf3, hf4, hf5, hf6, hf7, hlend⟩ := aw_.cells HO_0.out x5_1 c5 c3; rw [hR] at hlend ev3; subst ev3) | ((with_reducible refine af_ (f := 22) rfl ?_); refine aJ_ (some 80) rfl rfl Tryz.func22 (by kernel_rfl) rfl #[.slice A3 (ab_ x0_1 x5_1).f6.length c3_, .int .i64 (wrap64 (wrap64 (wrap64 (wrap64 (wrap64 (wrap64 (wrap64 (wrap64 (x1_1 + 1) + 1) + 1) + 1) + 1) + 1) + 1) + 1))] rfl (by first | rfl | (simp only [lma_, lmc_, lmn_]; first | done | rfl)) ?_; obtain ⟨oki, hoki, hv, hback⟩ := hlend; (with_reducible refine (bq_.calls k1 (fun k_ => some k_ = (.slice A3 (ab_ x0_1 x5_1).f6.length c3_ : Value).ownBlock) (.slice A3 (ab_ x0_1 x5_1).f6.length c3_) (ab_ x0_1 x5_1).f6 (wrap64 (wrap64 (wrap64 (wrap64 (wrap64 (wrap64 (wrap64 (wrap64 (x1_1 + 1) + 1) + 1) + 1) + 1) + 1) + 1) + 1)) m1 ys w0 _ ?zide1 ?zide2 A5.out).mono ?_); (case zide1 => exact bz HB.out); (case zide2 => exact Kd.R_tight rfl hv); rintro e we ⟨rfl, hy0, hb, hkp⟩; refine ⟨_, rfl, ?_⟩; have hk2 := hkp.mono (S' := oki) (fun k hk => hv.1 k hk.symm); have hS2 := hback we ys hk2 (Kd.R_reok rfl hy0 (fun k hk => hv.1 k hk)); rw [List.set_set, ← N2.out] at hS2; have hK2 : Kept w we (fun k_ => P0_ k_) := Kept.then_ HK.out hk2 (fun k hk => .inl (hoki k hk)); clear HO_0 HK HB hback hkp hy0 hk2 hv hoki; have HO_0 := Aside0.mk hS2; have HK := Aside0.mk hK2; have HB := Aside0.mk hb; clear hS2 hK2 hb))
   go_roundg k1
   case measure => have := HK1.out; omega
   case rel => exact ⟨x2, m1, (wrap64 (x5_1 + 1)), (by first | rfl | (simp; done) | (simp [*]; done)), (by first | rfl | (simp; done) | (simp [*]; done)), H', ⟨by have := HK1.out; omega⟩, ⟨sz HO_0.out⟩, ⟨hz HK.out⟩, ⟨bz HB.out⟩⟩
def bC_.l0 : Nat → List (S66) → Int → Int → Option (Int)
 | 0, _, _, _ => none
 | k + 1, x0, x1, x5 => if x5 < (x0.length : Int) then (if 0 ≤ x5 then (if ((al_ x0 x5).f0) = x1 then (if ((al_ x0 x5).f1) = (wrap64 (x1 + 1)) then (if ((al_ x0 x5).f2) = (wrap64 ((wrap64 (x1 + 1)) + 1)) then (if ((al_ x0 x5).f3) = (wrap64 ((wrap64 ((wrap64 (x1 + 1)) + 1)) + 1)) then (bC_.l0 k x0 (wrap64 ((wrap64 ((wrap64 ((wrap64 (x1 + 1)) + 1)) + 1)) + 1)) (wrap64 (x5 + 1))) else (some (-1))) else (some (-1))) else (some (-1))) else (some (-1))) else (none)) else (some x1)
def bC_.f (k : Nat) (l0 : List (S66)) (a1 : Int) : Option (Int) := bC_.l0 k l0 a1 0
set_option maxHeartbeats 8000000 in
set_option maxRecDepth 100000 in
theorem bC_.calls (k : Nat) (A0 : Option Addr) (c0 : Nat) (l0 : List (S66)) (a1 : Int) (r : Int) (w : World) (hr0 : Kd.C k66 w A0 l0.length l0) (hc0 : l0.length ≤ c0) (h : bC_.f k l0 a1 = some r) :
  Calls Tryz.prog 23 #[.slice A0 l0.length c0, .int .i64 a1] w fun e w' => e = .returned (.int .i64 r) ∧ ap_ w w' := by
 have HR0 := Aside0.mk hr0
 have HC0 := Aside0.mk hc0
 clear hr0 hc0
 have H : (bC_.l0 k l0 a1 0) = some r := h
 clear h
 have H' := Aside0.mk H
 clear H
 go_enter Tryz.func23, Tryz.ntmps23
 go_wp2
 (try simp only [Act.put, lsa_, ls0_, ls1_])
 go_loopg [1, 5] k (fun kq v1 v5 w' => ∃ (x1_1 : Int) (x5_1 : Int), v1 = .int .i64 x1_1 ∧ v5 = .int .i64 x5_1 ∧ Aside0 (bC_.l0 kq l0 x1_1 x5_1 = some r) ∧ Aside0 (kq ≤ k) ∧ ap_ w w')
 case atStart => exact ⟨(a1), (0), (by first | rfl | (simp; done) | (simp [*]; done)), (by first | rfl | (simp; done) | (simp [*]; done)), H', ⟨Nat.le_refl _⟩, by repeat (first | exact ap_.refl _ | apply ap_.step)⟩
 case round =>
  clear H'
  obtain ⟨x1_1, x5_1, rfl, rfl, HA, HK1, ⟨m1, rfl⟩⟩ := hrel
  cases gk with
  | zero => exact absurd HA.out (by simp [bC_.l0])
  | succ k1 =>
   have H := HA.out
   clear HA
   simp only [bC_.l0] at H
   by_cases c3 : x5_1 < (l0.length : Int)
   rotate_left
   ·rw [if_neg c3] at H
    have c3b0 : decide (x5_1 < (l0.length : Int)) = false := decide_eq_false c3
    clear c3
    obtain rfl := Option.some.inj H
    go_wp2
    go_ret
    exact ⟨by first | rfl | (simp; done) | (simp [*]; done), by repeat (first | exact ap_.refl _ | apply ap_.step)⟩
   rw [if_pos c3] at H
   have c3b0 : decide (x5_1 < (l0.length : Int)) = true := decide_eq_true c3
   clear c3
   by_cases c4 : 0 ≤ x5_1
   rotate_left
   ·rw [if_neg c4] at H
    exact absurd H (by simp)
   rw [if_pos c4] at H
   have c4b0 : decide (0 ≤ x5_1) = true := decide_eq_true c4
   clear c4
   by_cases c5 : ((al_ l0 x5_1).f0) = x1_1
   rotate_left
   ·rw [if_neg c5] at H
    have c5b0 : (((al_ l0 x5_1).f0) == x1_1) = false := beq_eq_false_iff_ne.mpr c5
    have c5b1 : (((al_ l0 x5_1).f0) != x1_1) = true := bne_iff_ne.mpr c5
    obtain rfl := Option.some.inj H
    have p101 : 0 ≤ (x5_1 : Int) := of_decide_eq_true (by assumption)
    have q101 : x5_1 < (l0.length : Int) := of_decide_eq_true (by assumption)
    obtain ⟨ad101, e101, hx101_0, hx101_1, hx101_2, hx101_3⟩ := ck_ HR0.out x5_1 p101 q101
    cases e101
    replace p101 := eq_true p101
    replace q101 := eq_true q101
    go_wp2
    go_ret
    exact ⟨by first | rfl | (simp; done) | (simp [*]; done), by repeat (first | exact ap_.refl _ | apply ap_.step)⟩
   rw [if_pos c5] at H
   have c5b0 : (((al_ l0 x5_1).f0) == x1_1) = true := beq_iff_eq.mpr c5
   have c5b1 : (((al_ l0 x5_1).f0) != x1_1) = false := bne_eq_false_iff_eq.mpr c5
   clear c5
   by_cases c6 : ((al_ l0 x5_1).f1) = (wrap64 (x1_1 + 1))
   rotate_left
   ·rw [if_neg c6] at H
    have c6b0 : (((al_ l0 x5_1).f1) == (wrap64 (x1_1 + 1))) = false := beq_eq_false_iff_ne.mpr c6
    have c6b1 : (((al_ l0 x5_1).f1) != (wrap64 (x1_1 + 1))) = true := bne_iff_ne.mpr c6
    obtain rfl := Option.some.inj H
    have p101 : 0 ≤ (x5_1 : Int) := of_decide_eq_true (by assumption)
    have q101 : x5_1 < (l0.length : Int) := of_decide_eq_true (by assumption)
    obtain ⟨ad101, e101, hx101_0, hx101_1, hx101_2, hx101_3⟩ := ck_ HR0.out x5_1 p101 q101
    cases e101
    replace p101 := eq_true p101
    replace q101 := eq_true q101
    have p102 : 0 ≤ (x5_1 : Int) := of_decide_eq_true (by assumption)
    have q102 : x5_1 < (l0.length : Int) := of_decide_eq_true (by assumption)
    obtain ⟨ad102, e102, hx102_0, hx102_1, hx102_2, hx102_3⟩ := ck_ HR0.out x5_1 p102 q102
    obtain rfl : ad101 = ad102 := (by injection e102)
    replace p102 := eq_true p102
    replace q102 := eq_true q102
    go_wp2
    go_ret
    exact ⟨by first | rfl | (simp; done) | (simp [*]; done), by repeat (first | exact ap_.refl _ | apply ap_.step)⟩
   rw [if_pos c6] at H
   have c6b0 : (((al_ l0 x5_1).f1) == (wrap64 (x1_1 + 1))) = true := beq_iff_eq.mpr c6
   have c6b1 : (((al_ l0 x5_1).f1) != (wrap64 (x1_1 + 1))) = false := bne_eq_false_iff_eq.mpr c6
   clear c6
   by_cases c7 : ((al_ l0 x5_1).f2) = (wrap64 ((wrap64 (x1_1 + 1)) + 1))
   rotate_left
   ·rw [if_neg c7] at H
    have c7b0 : (((al_ l0 x5_1).f2) == (wrap64 ((wrap64 (x1_1 + 1)) + 1))) = false := beq_eq_false_iff_ne.mpr c7
    have c7b1 : (((al_ l0 x5_1).f2) != (wrap64 ((wrap64 (x1_1 + 1)) + 1))) = true := bne_iff_ne.mpr c7
    obtain rfl := Option.some.inj H
    have p101 : 0 ≤ (x5_1 : Int) := of_decide_eq_true (by assumption)
    have q101 : x5_1 < (l0.length : Int) := of_decide_eq_true (by assumption)
    obtain ⟨ad101, e101, hx101_0, hx101_1, hx101_2, hx101_3⟩ := ck_ HR0.out x5_1 p101 q101
    cases e101
    replace p101 := eq_true p101
    replace q101 := eq_true q101
    have p102 : 0 ≤ (x5_1 : Int) := of_decide_eq_true (by assumption)
    have q102 : x5_1 < (l0.length : Int) := of_decide_eq_true (by assumption)
    obtain ⟨ad102, e102, hx102_0, hx102_1, hx102_2, hx102_3⟩ := ck_ HR0.out x5_1 p102 q102
    obtain rfl : ad101 = ad102 := (by injection e102)
    replace p102 := eq_true p102
    replace q102 := eq_true q102
    have p103 : 0 ≤ (x5_1 : Int) := of_decide_eq_true (by assumption)
    have q103 : x5_1 < (l0.length : Int) := of_decide_eq_true (by assumption)
    obtain ⟨ad103, e103, hx103_0, hx103_1, hx103_2, hx103_3⟩ := ck_ HR0.out x5_1 p103 q103
    obtain rfl : ad101 = ad103 := (by injection e103)
    replace p103 := eq_true p103
    replace q103 := eq_true q103
    go_wp2
    go_ret
    exact ⟨by first | rfl | (simp; done) | (simp [*]; done), by repeat (first | exact ap_.refl _ | apply ap_.step)⟩
   rw [if_pos c7] at H
   have c7b0 : (((al_ l0 x5_1).f2) == (wrap64 ((wrap64 (x1_1 + 1)) + 1))) = true := beq_iff_eq.mpr c7
   have c7b1 : (((al_ l0 x5_1).f2) != (wrap64 ((wrap64 (x1_1 + 1)) + 1))) = false := bne_eq_false_iff_eq.mpr c7
   clear c7
   by_cases c8 : ((al_ l0 x5_1).f3) = (wrap64 ((wrap64 ((wrap64 (x1_1 + 1)) + 1)) + 1))
   rotate_left
   ·rw [if_neg c8] at H
    have c8b0 : (((al_ l0 x5_1).f3) == (wrap64 ((wrap64 ((wrap64 (x1_1 + 1)) + 1)) + 1))) = false := beq_eq_false_iff_ne.mpr c8
    have c8b1 : (((al_ l0 x5_1).f3) != (wrap64 ((wrap64 ((wrap64 (x1_1 + 1)) + 1)) + 1))) = true := bne_iff_ne.mpr c8
    obtain rfl := Option.some.inj H
    have p101 : 0 ≤ (x5_1 : Int) := of_decide_eq_true (by assumption)
    have q101 : x5_1 < (l0.length : Int) := of_decide_eq_true (by assumption)
    obtain ⟨ad101, e101, hx101_0, hx101_1, hx101_2, hx101_3⟩ := ck_ HR0.out x5_1 p101 q101
    cases e101
    replace p101 := eq_true p101
    replace q101 := eq_true q101
    have p102 : 0 ≤ (x5_1 : Int) := of_decide_eq_true (by assumption)
    have q102 : x5_1 < (l0.length : Int) := of_decide_eq_true (by assumption)
    obtain ⟨ad102, e102, hx102_0, hx102_1, hx102_2, hx102_3⟩ := ck_ HR0.out x5_1 p102 q102
    obtain rfl : ad101 = ad102 := (by injection e102)
    replace p102 := eq_true p102
    replace q102 := eq_true q102
    have p103 : 0 ≤ (x5_1 : Int) := of_decide_eq_true (by assumption)
    have q103 : x5_1 < (l0.length : Int) := of_decide_eq_true (by assumption)
    obtain ⟨ad103, e103, hx103_0, hx103_1, hx103_2, hx103_3⟩ := ck_ HR0.out x5_1 p103 q103
    obtain rfl : ad101 = ad103 := (by injection e103)
    replace p103 := eq_true p103
    replace q103 := eq_true q103
    have p104 : 0 ≤ (x5_1 : Int) := of_decide_eq_true (by assumption)
    have q104 : x5_1 < (l0.length : Int) := of_decide_eq_true (by assumption)
    obtain ⟨ad104, e104, hx104_0, hx104_1, hx104_2, hx104_3⟩ := ck_ HR0.out x5_1 p104 q104
    obtain rfl : ad101 = ad104 := (by injection e104)
    replace p104 := eq_true p104
    replace q104 := eq_true q104
    go_wp2
    go_ret
    exact ⟨by first | rfl | (simp; done) | (simp [*]; done), by repeat (first | exact ap_.refl _ | apply ap_.step)⟩
   rw [if_pos c8] at H
   have c8b0 : (((al_ l0 x5_1).f3) == (wrap64 ((wrap64 ((wrap64 (x1_1 + 1)) + 1)) + 1))) = true := beq_iff_eq.mpr c8
   have c8b1 : (((al_ l0 x5_1).f3) != (wrap64 ((wrap64 ((wrap64 (x1_1 + 1)) + 1)) + 1))) = false := bne_eq_false_iff_eq.mpr c8
   clear c8
   have H' := Aside0.mk H
   clear H
   have p101 : 0 ≤ (x5_1 : Int) := of_decide_eq_true (by assumption)
   have q101 : x5_1 < (l0.length : Int) := of_decide_eq_true (by assumption)
   obtain ⟨ad101, e101, hx101_0, hx101_1, hx101_2, hx101_3⟩ := ck_ HR0.out x5_1 p101 q101
   cases e101
   replace p101 := eq_true p101
   replace q101 := eq_true q101
   have p102 : 0 ≤ (x5_1 : Int) := of_decide_eq_true (by assumption)
   have q102 : x5_1 < (l0.length : Int) := of_decide_eq_true (by assumption)
   obtain ⟨ad102, e102, hx102_0, hx102_1, hx102_2, hx102_3⟩ := ck_ HR0.out x5_1 p102 q102
   obtain rfl : ad101 = ad102 := (by injection e102)
   replace p102 := eq_true p102
   replace q102 := eq_true q102
   have p103 : 0 ≤ (x5_1 : Int) := of_decide_eq_true (by assumption)
   have q103 : x5_1 < (l0.length : Int) := of_decide_eq_true (by assumption)
   obtain ⟨ad103, e103, hx103_0, hx103_1, hx103_2, hx103_3⟩ := ck_ HR0.out x5_1 p103 q103
   obtain rfl : ad101 = ad103 := (by injection e103)
   replace p103 := eq_true p103
   replace q103 := eq_true q103
   have p104 : 0 ≤ (x5_1 : Int) := of_decide_eq_true (by assumption)
   have q104 : x5_1 < (l0.length : Int) := of_decide_eq_true (by assumption)
   obtain ⟨ad104, e104, hx104_0, hx104_1, hx104_2, hx104_3⟩ := ck_ HR0.out x5_1 p104 q104
   obtain rfl : ad101 = ad104 := (by injection e104)
   replace p104 := eq_true p104
   replace q104 := eq_true q104
   go_wp2
   go_roundg k1
   case measure => have := HK1.out; omega
   case rel => exact ⟨(wrap64 ((wrap64 ((wrap64 ((wrap64 (x1_1 + 1)) + 1)) + 1)) + 1)), (wrap64 (x5_1 + 1)), (by first | rfl | (simp; done) | (simp [*]; done)), (by first | rfl | (simp; done) | (simp [*]; done)), H', ⟨by have := HK1.out; omega⟩, by repeat (first | exact ap_.refl _ | apply ap_.step)⟩
def ay_.l0 : Nat → List (S43) → Int → Int → Option (Int)
 | 0, _, _, _ => none
 | k + 1, x0, x1, x5 => if x5 < (x0.length : Int) then (if 0 ≤ x5 then ((aK_.f k x1).bind fun t102 => (if ((ab_ x0 x5).f0).toList = t102.toList then ((aK_.f k (wrap64 (x1 + 1))).bind fun t104 => (if ((ab_ x0 x5).f1).toList = t104.toList then (if ((ab_ x0 x5).f2) = (wrap64 ((wrap64 (x1 + 1)) + 1)) then ((aK_.f k (wrap64 ((wrap64 ((wrap64 (x1 + 1)) + 1)) + 1))).bind fun t107 => (if ((ab_ x0 x5).f3.f0).toList = t107.toList then (if ((ab_ x0 x5).f3.f1) = (wrap64 ((wrap64 ((wrap64 ((wrap64 (x1 + 1)) + 1)) + 1)) + 1)) then (if ((ab_ x0 x5).f3.f2) = (wrap64 ((wrap64 ((wrap64 ((wrap64 ((wrap64 (x1 + 1)) + 1)) + 1)) + 1)) + 1)) then (if ((ab_ x0 x5).f4) = (wrap64 ((wrap64 ((wrap64 ((wrap64 ((wrap64 ((wrap64 (x1 + 1)) + 1)) + 1)) + 1)) + 1)) + 1)) then (if ((ab_ x0 x5).f5) = (wrap64 ((wrap64 ((wrap64 ((wrap64 ((wrap64 ((wrap64 ((wrap64 (x1 + 1)) + 1)) + 1)) + 1)) + 1)) + 1)) + 1)) then ((bC_.f k ((ab_ x0 x5).f6) (wrap64 ((wrap64 ((wrap64 ((wrap64 ((wrap64 ((wrap64 ((wrap64 ((wrap64 (x1 + 1)) + 1)) + 1)) + 1)) + 1)) + 1)) + 1)) + 1))).bind fun t113 => (if t113 < 0 then (some (-1)) else (ay_.l0 k x0 t113 (wrap64 (x5 + 1))))) else (some (-1))) else (some (-1))) else (some (-1))) else (some (-1))) else (some (-1)))) else (some (-1))) else (some (-1)))) else (some (-1)))) else (none)) else (some x1)
def ay_.f (k : Nat) (l0 : List (S43)) (a1 : Int) : Option (Int) := ay_.l0 k l0 a1 0
def ay_.T4 : Bool × List (List Nat × List Nat) := (true, [([], []), ([], []), ([0, 1], [0, 1]), ([2], [2]), ([3], [3]), ([], []), ([5], [5]), ([4, 6], [4, 6])])
def ay_.B4 : List Nat := [0, 0, 3, 7, 15, 0, 32, 127]
theorem ay_.tab4 : rtab .any (opsOf Tryz.f12 4) = ay_.T4 := by kernel_rfl
theorem ay_.bits4 : cC_ ay_.T4.2 ay_.B4 = true := by kernel_rfl
def ay_.T7 : Bool × List (List Nat × List Nat) := (true, [([], []), ([], []), ([0, 1], [0, 1]), ([2], [2]), ([3], [3]), ([], []), ([5], [5]), ([4, 6], [4, 6])])
def ay_.B7 : List Nat := [0, 0, 3, 7, 15, 0, 32, 127]
theorem ay_.tab7 : rtab .any (opsOf Tryz.f12 7) = ay_.T7 := by kernel_rfl
theorem ay_.bits7 : cC_ ay_.T7.2 ay_.B7 = true := by kernel_rfl
def ay_.T13 : Bool × List (List Nat × List Nat) := (true, [([], []), ([], []), ([0, 1], [0, 1]), ([2], [2]), ([3], [3]), ([4], [4]), ([], []), ([6], [6]), ([5, 7], [5, 7])])
def ay_.B13 : List Nat := [0, 0, 3, 7, 15, 31, 0, 64, 255]
theorem ay_.tab13 : rtab .any (opsOf Tryz.f12 13) = ay_.T13 := by kernel_rfl
theorem ay_.bits13 : cC_ ay_.T13.2 ay_.B13 = true := by kernel_rfl
set_option maxHeartbeats 8000000 in
set_option maxRecDepth 100000 in
theorem ay_.calls (k : Nat) (A0 : Option Addr) (c0 : Nat) (l0 : List (S43)) (a1 : Int) (r : Int) (w : World) (hr0 : Kd.C k43 w A0 l0.length l0) (hc0 : l0.length ≤ c0) (h : ay_.f k l0 a1 = some r) :
  Calls Tryz.prog 12 #[.slice A0 l0.length c0, .int .i64 a1] w fun e w' => e = .returned (.int .i64 r) ∧ Below w.heap.size w w' := by
 have HR0 := Aside0.mk hr0
 have HC0 := Aside0.mk hc0
 clear hr0 hc0
 have HB := Aside0.mk (Below.refl w.heap.size w)
 have H : (ay_.l0 k l0 a1 0) = some r := h
 clear h
 have H' := Aside0.mk H
 clear H
 go_enter Tryz.func12, Tryz.ntmps12
 go_wp2
 (try simp only [Act.put, lsa_, ls0_, ls1_])
 go_loopg [1, 5] k (fun kq v1 v5 w' => ∃ (x1_1 : Int) (x5_1 : Int), v1 = .int .i64 x1_1 ∧ v5 = .int .i64 x5_1 ∧ Aside0 (ay_.l0 kq l0 x1_1 x5_1 = some r) ∧ Aside0 (kq ≤ k) ∧ Aside0 (Below w.heap.size w w'))
 case atStart => exact ⟨(a1), (0), (by first | rfl | (simp; done) | (simp [*]; done)), (by first | rfl | (simp; done) | (simp [*]; done)), H', ⟨Nat.le_refl _⟩, ⟨bz HB.out⟩⟩
 case round =>
  clear H'
  obtain ⟨x1_1, x5_1, rfl, rfl, HA, HK1, HB⟩ := hrel
  cases gk with
  | zero => exact absurd HA.out (by simp [ay_.l0])
  | succ k1 =>
   have H := HA.out
   clear HA
   simp only [ay_.l0] at H
   by_cases c3 : x5_1 < (l0.length : Int)
   rotate_left
   ·rw [if_neg c3] at H
    have c3b0 : decide (x5_1 < (l0.length : Int)) = false := decide_eq_false c3
    clear c3
    obtain rfl := Option.some.inj H
    go_wp2
    go_ret
    exact ⟨by first | rfl | (simp [*, ai_, ah_] <;> rfl), bz HB.out⟩
   rw [if_pos c3] at H
   have c3b0 : decide (x5_1 < (l0.length : Int)) = true := decide_eq_true c3
   clear c3
   by_cases c4 : 0 ≤ x5_1
   rotate_left
   ·rw [if_neg c4] at H
    exact absurd H (by simp)
   rw [if_pos c4] at H
   have c4b0 : decide (0 ≤ x5_1) = true := decide_eq_true c4
   clear c4
   replace H := Option.bind_eq_some_iff.mp H
   obtain ⟨t102, A50, H⟩ := H
   (try dsimp only at H)
   have A5 := Aside0.mk A50
   clear A50
   have HC6 := Aside0.mk H
   clear H
   try go_wp2
   have n0_ := Aside0.mk (bD_ HB.out)
   clear HB
   have HB := n0_
   clear n0_
   have p101 : 0 ≤ (x5_1 : Int) := of_decide_eq_true (by assumption)
   have q101 : x5_1 < (l0.length : Int) := of_decide_eq_true (by assumption)
   obtain ⟨ad101, A101_8, c101_8, e101, hx101_0, hx101_1, hx101_2, hx101_3, hx101_4, hx101_5, hx101_6, hx101_7, hx101_8, hl101_8, hi101_8⟩ := bS_ HR0.out x5_1 p101 q101
   have hw101_8 := hx101_8
   have hw101_7 := hx101_7
   have hw101_6 := hx101_6
   have hw101_5 := hx101_5
   have hw101_4 := hx101_4
   have hw101_3 := hx101_3
   have hw101_2 := hx101_2
   have hw101_1 := hx101_1
   have hw101_0 := hx101_0
   cases e101
   replace hx101_0 := bu_ HB.out hx101_0
   replace hx101_1 := bu_ HB.out hx101_1
   replace hx101_2 := bu_ HB.out hx101_2
   replace hx101_3 := bu_ HB.out hx101_3
   replace hx101_4 := bu_ HB.out hx101_4
   replace hx101_5 := bu_ HB.out hx101_5
   replace hx101_6 := bu_ HB.out hx101_6
   replace hx101_7 := bu_ HB.out hx101_7
   replace hx101_8 := bu_ HB.out hx101_8
   have HR101_8 := Aside0.mk hi101_8
   have HC101_8 := Aside0.mk hl101_8
   clear hi101_8 hl101_8
   replace p101 := eq_true p101
   replace q101 := eq_true q101
   refine start_ (n := 8) (S := fun w' => w'.cell? (ad101.add ((x5_1).toNat * 9)) = some (.string ((ab_ l0 x5_1).f0)) ∧ w'.cell? ⟨(ad101.add ((x5_1).toNat * 9)).block, (ad101.add ((x5_1).toNat * 9)).off + 1, none⟩ = some (.string ((ab_ l0 x5_1).f1)) ∧ w'.cell? ⟨(ad101.add ((x5_1).toNat * 9)).block, (ad101.add ((x5_1).toNat * 9)).off + 2, none⟩ = some (.int .i64 ((ab_ l0 x5_1).f2)) ∧ w'.cell? ⟨(ad101.add ((x5_1).toNat * 9)).block, (ad101.add ((x5_1).toNat * 9)).off + 3, none⟩ = some (.string ((ab_ l0 x5_1).f3.f0)) ∧ w'.cell? ⟨(ad101.add ((x5_1).toNat * 9)).block, (ad101.add ((x5_1).toNat * 9)).off + 4, none⟩ = some (.int .i64 ((ab_ l0 x5_1).f3.f1)) ∧ w'.cell? ⟨(ad101.add ((x5_1).toNat * 9)).block, (ad101.add ((x5_1).toNat * 9)).off + 5, none⟩ = some (.int .i64 ((ab_ l0 x5_1).f3.f2)) ∧ w'.cell? ⟨(ad101.add ((x5_1).toNat * 9)).block, (ad101.add ((x5_1).toNat * 9)).off + 6, none⟩ = some (.int .i64 ((ab_ l0 x5_1).f4)) ∧ w'.cell? ⟨(ad101.add ((x5_1).toNat * 9)).block, (ad101.add ((x5_1).toNat * 9)).off + 7, none⟩ = some (.int .i64 ((ab_ l0 x5_1).f5)) ∧ w'.cell? ⟨(ad101.add ((x5_1).toNat * 9)).block, (ad101.add ((x5_1).toNat * 9)).off + 8, none⟩ = some (.slice A101_8 ((ab_ l0 x5_1).f6).length c101_8)) (ds := []) #[f_,f_,f_,f_,f_,f_,f_,f_] (by kernel_rfl) rfl rfl ⟨(bu_ HB.out hw101_0), (bu_ HB.out hw101_1), (bu_ HB.out hw101_2), (bu_ HB.out hw101_3), (bu_ HB.out hw101_4), (bu_ HB.out hw101_5), (bu_ HB.out hw101_6), (bu_ HB.out hw101_7), (bu_ HB.out hw101_8)⟩ (fun hHeld => ?_); refine cl_ ay_.tab4 ay_.bits4 (fun HT_ HW_ => ?_)
   generalize wr.drew = w7 at HB HR101_8 hx101_0 hx101_1 hx101_2 hx101_3 hx101_4 hx101_5 hx101_6 hx101_7 hx101_8 hHeld ⊢
   refine pure_ (i := 0) (N := some 12) (v := ?_) (a' := ?_) #[t_,f_,f_,f_,f_,f_,f_,f_] rfl rfl (aH_ HT_.out (by kernel_rfl)) (fun _ _ _ h => h) (Or.inl ⟨by rfl, ?_⟩) ?_ ?_
   rotate_left
   ·intro w'
    go_simp
    with_reducible rfl
   rotate_left
   ·simp only [Act.put, lsa_, ls0_, ls1_, i64_w, i32_w]
    rfl
   refine pure_ (i := 1) (N := some 13) (v := ?_) (a' := ?_) #[t_,t_,f_,f_,f_,f_,f_,f_] rfl rfl (aH_ HT_.out (by kernel_rfl)) (fun _ _ _ h => h) (Or.inl ⟨by rfl, ?_⟩) ?_ ?_
   rotate_left
   ·intro w'
    go_simp
    with_reducible rfl
   rotate_left
   ·simp only [Act.put, lsa_, ls0_, ls1_, i64_w, i32_w]
    rfl
   refine pure_ (i := 2) (N := some 14) (v := ?_) (a' := ?_) #[t_,t_,t_,f_,f_,f_,f_,f_] rfl rfl (aH_ HT_.out (by kernel_rfl)) (fun _ _ _ h => h) (Or.inl ⟨by rfl, ?_⟩) ?_ ?_
   rotate_left
   ·intro w'
    go_simp
    with_reducible rfl
   rotate_left
   ·simp only [Act.put, lsa_, ls0_, ls1_, i64_w, i32_w]
    rfl
   refine pure_ (i := 3) (N := some 15) (v := ?_) (a' := ?_) #[t_,t_,t_,t_,f_,f_,f_,f_] rfl rfl (aH_ HT_.out (by kernel_rfl)) (fun _ _ _ h => h) (Or.inl ⟨by rfl, ?_⟩) ?_ ?_
   rotate_left
   ·intro w'
    go_simp
    with_reducible rfl
   rotate_left
   ·simp only [Act.put, lsa_, ls0_, ls1_, i64_w, i32_w]
    rfl
   refine pure_ (i := 5) (N := some 17) (v := ?_) (a' := ?_) #[t_,t_,t_,t_,f_,t_,f_,f_] rfl rfl (aH_ HT_.out (by kernel_rfl)) (fun _ _ _ h => h) (Or.inl ⟨by rfl, ?_⟩) ?_ ?_
   rotate_left
   ·intro w'
    go_simp
    with_reducible rfl
   rotate_left
   ·simp only [Act.put, lsa_, ls0_, ls1_, i64_w, i32_w]
    rfl
   refine take_ (i := 4) (N := some 16) (v := ?_) (a' := ?_) #[t_,t_,t_,t_,t_,t_,f_,f_] rfl rfl (bt_ HT_.out HW_.out (by kernel_rfl)) (fun _ _ _ h => h) (Or.inl ⟨by rfl, ?_⟩) hHeld ?_ ?_
   rotate_left
   ·rintro w' ⟨s0, s1, s2, s3, s4, s5, s6, s7, s8⟩
    go_simp
    with_reducible rfl
   rotate_left
   ·simp only [Act.put, lsa_, ls0_, ls1_, i64_w, i32_w]
    rfl
   refine one_ (i := 6) (N := some 18) #[t_,t_,t_,t_,t_,t_,t_,f_] rfl rfl (ct_ HT_.out (by kernel_rfl)) (by decide) (fun K hK => ?_)
   (first | refine goes_ Tryz.func21 (by kernel_rfl) rfl #[.int .i64 x1_1] (by rfl) rfl rfl (by first | rfl | (simp only [lma_, lmc_, lmn_]; first | done | rfl)) ?_ | refine RPW.df_ Tryz.func21 (by kernel_rfl) rfl #[.int .i64 x1_1] (by rfl) rfl rfl rfl (by first | rfl | (simp only [lma_, lmc_, lmn_]; first | done | rfl)) ?_ | refine RPW.dg_ Tryz.func21 (by kernel_rfl) rfl #[.int .i64 x1_1] (by rfl) rfl rfl rfl (by first | rfl | (simp only [lma_, lmc_, lmn_]; first | done | rfl)) ?_)
   with_reducible refine (aK_.calls k1 x1_1 t102 _ A5.out).mono ?_
   rintro e w8 ⟨rfl, hb⟩
   refine ⟨_, rfl, ?_⟩
   have n0_ := Aside0.mk (ac_ (bz HB.out) hb)
   clear HB
   have HB := n0_
   clear n0_
   (try clear hb)
   refine hK.out _ _ ⟨(bu_ HB.out hw101_0), (bu_ HB.out hw101_1), (bu_ HB.out hw101_2), (bu_ HB.out hw101_3), (bu_ HB.out hw101_4), (bu_ HB.out hw101_5), (bu_ HB.out hw101_6), (bu_ HB.out hw101_7), (bu_ HB.out hw101_8)⟩ (fun hHeld => ?_)
   clear hK K
   refine norm_ (a' := ?_) ?_ ?_
   rotate_left
   ·show Act.put _ (some 18) _ = _
    simp only [Act.put, lsa_, ls0_, ls1_, i64_w, i32_w]
    rfl
   refine pure_ (i := 7) (N := some 19) (v := ?_) (a' := ?_) #[t_,t_,t_,t_,t_,t_,t_,t_] rfl rfl (aH_ HT_.out (by kernel_rfl)) (fun _ _ _ h => h) (Or.inl ⟨by rfl, ?_⟩) ?_ ?_
   rotate_left
   ·intro w'
    go_simp
    with_reducible rfl
   rotate_left
   ·simp only [Act.put, lsa_, ls0_, ls1_, i64_w, i32_w]
    rfl
   refine done_ (cN_ HT_.out (by kernel_rfl)) ?_
   go_upto_if 19 with (fail)
   have H := HC6.out
   clear HC6
   by_cases c9 : ((ab_ l0 x5_1).f0).toList = t102.toList
   rotate_left
   ·rw [if_neg c9] at H
    have c9b0 : (((ab_ l0 x5_1).f0).toList == t102.toList) = false := beq_eq_false_iff_ne.mpr c9
    have c9b1 : (((ab_ l0 x5_1).f0).toList != t102.toList) = true := bne_iff_ne.mpr c9
    (first | rw [c9b0] | (simp only [i64_w, i32_w]; rw [c9b0]) | (simp only [c9b1, Bool.not_true, Bool.not_false]) | (simp only [c9b0, Bool.not_true, Bool.not_false]) | skip)
    obtain rfl := Option.some.inj H
    go_wp2
    go_ret
    exact ⟨by first | rfl | (simp [*, ai_, ah_] <;> rfl), bz HB.out⟩
   rw [if_pos c9] at H
   have c9b0 : (((ab_ l0 x5_1).f0).toList == t102.toList) = true := beq_iff_eq.mpr c9
   have c9b1 : (((ab_ l0 x5_1).f0).toList != t102.toList) = false := bne_eq_false_iff_eq.mpr c9
   clear c9
   (first | rw [c9b0] | (simp only [i64_w, i32_w]; rw [c9b0]) | (simp only [c9b1, Bool.not_true, Bool.not_false]) | (simp only [c9b0, Bool.not_true, Bool.not_false]) | skip)
   replace H := Option.bind_eq_some_iff.mp H
   obtain ⟨t104, A100, H⟩ := H
   (try dsimp only at H)
   have A10 := Aside0.mk A100
   clear A100
   have HC11 := Aside0.mk H
   clear H
   try go_wp2
   (try (rw [bm_ w8]; generalize hq_ : World.drewN w8 _ = w8; replace HB := Aside0.mk (rqH hq_ HB.out); clear hq_))
   have n0_ := Aside0.mk (bD_ HB.out)
   clear HB
   have HB := n0_
   clear n0_
   have p103 : 0 ≤ (x5_1 : Int) := of_decide_eq_true (by assumption)
   have q103 : x5_1 < (l0.length : Int) := of_decide_eq_true (by assumption)
   obtain ⟨ad103, A103_8, c103_8, e103, hx103_0, hx103_1, hx103_2, hx103_3, hx103_4, hx103_5, hx103_6, hx103_7, hx103_8, hl103_8, hi103_8⟩ := bS_ HR0.out x5_1 p103 q103
   have hw103_8 := hx103_8
   have hw103_7 := hx103_7
   have hw103_6 := hx103_6
   have hw103_5 := hx103_5
   have hw103_4 := hx103_4
   have hw103_3 := hx103_3
   have hw103_2 := hx103_2
   have hw103_1 := hx103_1
   have hw103_0 := hx103_0
   obtain rfl : ad101 = ad103 := (by injection e103)
   (try (obtain ⟨rfl, rfl⟩ := RPW.sl_eq hw101_8 hx103_8))
   (try (obtain ⟨rfl, rfl⟩ := RPW.sl_eq hw103_8 hx103_8))
   replace hx103_0 := bu_ HB.out hx103_0
   replace hx103_1 := bu_ HB.out hx103_1
   replace hx103_2 := bu_ HB.out hx103_2
   replace hx103_3 := bu_ HB.out hx103_3
   replace hx103_4 := bu_ HB.out hx103_4
   replace hx103_5 := bu_ HB.out hx103_5
   replace hx103_6 := bu_ HB.out hx103_6
   replace hx103_7 := bu_ HB.out hx103_7
   replace hx103_8 := bu_ HB.out hx103_8
   have HR103_8 := Aside0.mk hi103_8
   have HC103_8 := Aside0.mk hl103_8
   clear hi103_8 hl103_8
   replace p103 := eq_true p103
   replace q103 := eq_true q103
   refine start_ (n := 8) (S := fun w' => w'.cell? (ad101.add ((x5_1).toNat * 9)) = some (.string ((ab_ l0 x5_1).f0)) ∧ w'.cell? ⟨(ad101.add ((x5_1).toNat * 9)).block, (ad101.add ((x5_1).toNat * 9)).off + 1, none⟩ = some (.string ((ab_ l0 x5_1).f1)) ∧ w'.cell? ⟨(ad101.add ((x5_1).toNat * 9)).block, (ad101.add ((x5_1).toNat * 9)).off + 2, none⟩ = some (.int .i64 ((ab_ l0 x5_1).f2)) ∧ w'.cell? ⟨(ad101.add ((x5_1).toNat * 9)).block, (ad101.add ((x5_1).toNat * 9)).off + 3, none⟩ = some (.string ((ab_ l0 x5_1).f3.f0)) ∧ w'.cell? ⟨(ad101.add ((x5_1).toNat * 9)).block, (ad101.add ((x5_1).toNat * 9)).off + 4, none⟩ = some (.int .i64 ((ab_ l0 x5_1).f3.f1)) ∧ w'.cell? ⟨(ad101.add ((x5_1).toNat * 9)).block, (ad101.add ((x5_1).toNat * 9)).off + 5, none⟩ = some (.int .i64 ((ab_ l0 x5_1).f3.f2)) ∧ w'.cell? ⟨(ad101.add ((x5_1).toNat * 9)).block, (ad101.add ((x5_1).toNat * 9)).off + 6, none⟩ = some (.int .i64 ((ab_ l0 x5_1).f4)) ∧ w'.cell? ⟨(ad101.add ((x5_1).toNat * 9)).block, (ad101.add ((x5_1).toNat * 9)).off + 7, none⟩ = some (.int .i64 ((ab_ l0 x5_1).f5)) ∧ w'.cell? ⟨(ad101.add ((x5_1).toNat * 9)).block, (ad101.add ((x5_1).toNat * 9)).off + 8, none⟩ = some (.slice A103_8 ((ab_ l0 x5_1).f6).length c103_8)) (ds := []) #[f_,f_,f_,f_,f_,f_,f_,f_] (by kernel_rfl) rfl rfl ⟨(bu_ HB.out hw103_0), (bu_ HB.out hw103_1), (bu_ HB.out hw103_2), (bu_ HB.out hw103_3), (bu_ HB.out hw103_4), (bu_ HB.out hw103_5), (bu_ HB.out hw103_6), (bu_ HB.out hw103_7), (bu_ HB.out hw103_8)⟩ (fun hHeld => ?_); refine cl_ ay_.tab7 ay_.bits7 (fun HT_ HW_ => ?_)
   generalize w8.drew = w12 at HB HR103_8 hx103_0 hx103_1 hx103_2 hx103_3 hx103_4 hx103_5 hx103_6 hx103_7 hx103_8 hHeld ⊢
   refine pure_ (i := 0) (N := some 22) (v := ?_) (a' := ?_) #[t_,f_,f_,f_,f_,f_,f_,f_] rfl rfl (aH_ HT_.out (by kernel_rfl)) (fun _ _ _ h => h) (Or.inl ⟨by rfl, ?_⟩) ?_ ?_
   rotate_left
   ·intro w'
    go_simp
    with_reducible rfl
   rotate_left
   ·simp only [Act.put, lsa_, ls0_, ls1_, i64_w, i32_w]
    rfl
   refine pure_ (i := 1) (N := some 23) (v := ?_) (a' := ?_) #[t_,t_,f_,f_,f_,f_,f_,f_] rfl rfl (aH_ HT_.out (by kernel_rfl)) (fun _ _ _ h => h) (Or.inl ⟨by rfl, ?_⟩) ?_ ?_
   rotate_left
   ·intro w'
    go_simp
    with_reducible rfl
   rotate_left
   ·simp only [Act.put, lsa_, ls0_, ls1_, i64_w, i32_w]
    rfl
   refine pure_ (i := 2) (N := some 24) (v := ?_) (a' := ?_) #[t_,t_,t_,f_,f_,f_,f_,f_] rfl rfl (aH_ HT_.out (by kernel_rfl)) (fun _ _ _ h => h) (Or.inl ⟨by rfl, ?_⟩) ?_ ?_
   rotate_left
   ·intro w'
    go_simp
    with_reducible rfl
   rotate_left
   ·simp only [Act.put, lsa_, ls0_, ls1_, i64_w, i32_w]
    rfl
   refine pure_ (i := 3) (N := some 25) (v := ?_) (a' := ?_) #[t_,t_,t_,t_,f_,f_,f_,f_] rfl rfl (aH_ HT_.out (by kernel_rfl)) (fun _ _ _ h => h) (Or.inl ⟨by rfl, ?_⟩) ?_ ?_
   rotate_left
   ·intro w'
    go_simp
    with_reducible rfl
   rotate_left
   ·simp only [Act.put, lsa_, ls0_, ls1_, i64_w, i32_w]
    rfl
   refine pure_ (i := 5) (N := some 27) (v := ?_) (a' := ?_) #[t_,t_,t_,t_,f_,t_,f_,f_] rfl rfl (aH_ HT_.out (by kernel_rfl)) (fun _ _ _ h => h) (Or.inl ⟨by rfl, ?_⟩) ?_ ?_
   rotate_left
   ·intro w'
    go_simp
    with_reducible rfl
   rotate_left
   ·simp only [Act.put, lsa_, ls0_, ls1_, i64_w, i32_w]
    rfl
   refine take_ (i := 4) (N := some 26) (v := ?_) (a' := ?_) #[t_,t_,t_,t_,t_,t_,f_,f_] rfl rfl (bt_ HT_.out HW_.out (by kernel_rfl)) (fun _ _ _ h => h) (Or.inl ⟨by rfl, ?_⟩) hHeld ?_ ?_
   rotate_left
   ·rintro w' ⟨s0, s1, s2, s3, s4, s5, s6, s7, s8⟩
    go_simp
    with_reducible rfl
   rotate_left
   ·simp only [Act.put, lsa_, ls0_, ls1_, i64_w, i32_w]
    rfl
   refine one_ (i := 6) (N := some 28) #[t_,t_,t_,t_,t_,t_,t_,f_] rfl rfl (ct_ HT_.out (by kernel_rfl)) (by decide) (fun K hK => ?_)
   (first | refine goes_ Tryz.func21 (by kernel_rfl) rfl #[.int .i64 (wrap64 (x1_1 + 1))] (by rfl) rfl rfl (by first | rfl | (simp only [lma_, lmc_, lmn_]; first | done | rfl)) ?_ | refine RPW.df_ Tryz.func21 (by kernel_rfl) rfl #[.int .i64 (wrap64 (x1_1 + 1))] (by rfl) rfl rfl rfl (by first | rfl | (simp only [lma_, lmc_, lmn_]; first | done | rfl)) ?_ | refine RPW.dg_ Tryz.func21 (by kernel_rfl) rfl #[.int .i64 (wrap64 (x1_1 + 1))] (by rfl) rfl rfl rfl (by first | rfl | (simp only [lma_, lmc_, lmn_]; first | done | rfl)) ?_)
   with_reducible refine (aK_.calls k1 (wrap64 (x1_1 + 1)) t104 _ A10.out).mono ?_
   rintro e w13 ⟨rfl, hb⟩
   refine ⟨_, rfl, ?_⟩
   have n0_ := Aside0.mk (ac_ (bz HB.out) hb)
   clear HB
   have HB := n0_
   clear n0_
   (try clear hb)
   refine hK.out _ _ ⟨(bu_ HB.out hw103_0), (bu_ HB.out hw103_1), (bu_ HB.out hw103_2), (bu_ HB.out hw103_3), (bu_ HB.out hw103_4), (bu_ HB.out hw103_5), (bu_ HB.out hw103_6), (bu_ HB.out hw103_7), (bu_ HB.out hw103_8)⟩ (fun hHeld => ?_)
   clear hK K
   refine norm_ (a' := ?_) ?_ ?_
   rotate_left
   ·show Act.put _ (some 28) _ = _
    simp only [Act.put, lsa_, ls0_, ls1_, i64_w, i32_w]
    rfl
   refine pure_ (i := 7) (N := some 29) (v := ?_) (a' := ?_) #[t_,t_,t_,t_,t_,t_,t_,t_] rfl rfl (aH_ HT_.out (by kernel_rfl)) (fun _ _ _ h => h) (Or.inl ⟨by rfl, ?_⟩) ?_ ?_
   rotate_left
   ·intro w'
    go_simp
    with_reducible rfl
   rotate_left
   ·simp only [Act.put, lsa_, ls0_, ls1_, i64_w, i32_w]
    rfl
   refine done_ (cN_ HT_.out (by kernel_rfl)) ?_
   go_upto_if 29 with (fail)
   have H := HC11.out
   clear HC11
   by_cases c14 : ((ab_ l0 x5_1).f1).toList = t104.toList
   rotate_left
   ·rw [if_neg c14] at H
    have c14b0 : (((ab_ l0 x5_1).f1).toList == t104.toList) = false := beq_eq_false_iff_ne.mpr c14
    have c14b1 : (((ab_ l0 x5_1).f1).toList != t104.toList) = true := bne_iff_ne.mpr c14
    (first | rw [c14b0] | (simp only [i64_w, i32_w]; rw [c14b0]) | (simp only [c14b1, Bool.not_true, Bool.not_false]) | (simp only [c14b0, Bool.not_true, Bool.not_false]) | skip)
    obtain rfl := Option.some.inj H
    go_wp2
    go_ret
    exact ⟨by first | rfl | (simp [*, ai_, ah_] <;> rfl), bz HB.out⟩
   rw [if_pos c14] at H
   have c14b0 : (((ab_ l0 x5_1).f1).toList == t104.toList) = true := beq_iff_eq.mpr c14
   have c14b1 : (((ab_ l0 x5_1).f1).toList != t104.toList) = false := bne_eq_false_iff_eq.mpr c14
   clear c14
   (first | rw [c14b0] | (simp only [i64_w, i32_w]; rw [c14b0]) | (simp only [c14b1, Bool.not_true, Bool.not_false]) | (simp only [c14b0, Bool.not_true, Bool.not_false]) | skip)
   by_cases c15 : ((ab_ l0 x5_1).f2) = (wrap64 ((wrap64 (x1_1 + 1)) + 1))
   rotate_left
   ·rw [if_neg c15] at H
    have c15b0 : (((ab_ l0 x5_1).f2) == (wrap64 ((wrap64 (x1_1 + 1)) + 1))) = false := beq_eq_false_iff_ne.mpr c15
    have c15b1 : (((ab_ l0 x5_1).f2) != (wrap64 ((wrap64 (x1_1 + 1)) + 1))) = true := bne_iff_ne.mpr c15
    obtain rfl := Option.some.inj H
    have p105 : 0 ≤ (x5_1 : Int) := of_decide_eq_true (by assumption)
    have q105 : x5_1 < (l0.length : Int) := of_decide_eq_true (by assumption)
    obtain ⟨ad105, A105_8, c105_8, e105, hx105_0, hx105_1, hx105_2, hx105_3, hx105_4, hx105_5, hx105_6, hx105_7, hx105_8, hl105_8, hi105_8⟩ := bS_ HR0.out x5_1 p105 q105
    obtain rfl : ad101 = ad105 := (by injection e105)
    (try (obtain ⟨rfl, rfl⟩ := RPW.sl_eq hw101_8 hx105_8))
    (try (obtain ⟨rfl, rfl⟩ := RPW.sl_eq hw103_8 hx105_8))
    (try (obtain ⟨rfl, rfl⟩ := RPW.sl_eq hw105_8 hx105_8))
    (try (obtain ⟨rfl, rfl⟩ := RPW.sl_eq hw106_8 hx105_8))
    (try (obtain ⟨rfl, rfl⟩ := RPW.sl_eq hw108_8 hx105_8))
    (try (obtain ⟨rfl, rfl⟩ := RPW.sl_eq hw109_8 hx105_8))
    (try (obtain ⟨rfl, rfl⟩ := RPW.sl_eq hw110_8 hx105_8))
    (try (obtain ⟨rfl, rfl⟩ := RPW.sl_eq hw111_8 hx105_8))
    (try (obtain ⟨rfl, rfl⟩ := RPW.sl_eq hw112_8 hx105_8))
    replace hx105_0 := bu_ HB.out hx105_0
    replace hx105_1 := bu_ HB.out hx105_1
    replace hx105_2 := bu_ HB.out hx105_2
    replace hx105_3 := bu_ HB.out hx105_3
    replace hx105_4 := bu_ HB.out hx105_4
    replace hx105_5 := bu_ HB.out hx105_5
    replace hx105_6 := bu_ HB.out hx105_6
    replace hx105_7 := bu_ HB.out hx105_7
    replace hx105_8 := bu_ HB.out hx105_8
    have HR105_8 := Aside0.mk hi105_8
    have HC105_8 := Aside0.mk hl105_8
    clear hi105_8 hl105_8
    replace p105 := eq_true p105
    replace q105 := eq_true q105
    go_wp2
    go_ret
    exact ⟨by first | rfl | (simp [*, ai_, ah_] <;> rfl), bz HB.out⟩
   rw [if_pos c15] at H
   have c15b0 : (((ab_ l0 x5_1).f2) == (wrap64 ((wrap64 (x1_1 + 1)) + 1))) = true := beq_iff_eq.mpr c15
   have c15b1 : (((ab_ l0 x5_1).f2) != (wrap64 ((wrap64 (x1_1 + 1)) + 1))) = false := bne_eq_false_iff_eq.mpr c15
   clear c15
   replace H := Option.bind_eq_some_iff.mp H
   obtain ⟨t107, A160, H⟩ := H
   (try dsimp only at H)
   have A16 := Aside0.mk A160
   clear A160
   have HC17 := Aside0.mk H
   clear H
   have p105 : 0 ≤ (x5_1 : Int) := of_decide_eq_true (by assumption)
   have q105 : x5_1 < (l0.length : Int) := of_decide_eq_true (by assumption)
   obtain ⟨ad105, A105_8, c105_8, e105, hx105_0, hx105_1, hx105_2, hx105_3, hx105_4, hx105_5, hx105_6, hx105_7, hx105_8, hl105_8, hi105_8⟩ := bS_ HR0.out x5_1 p105 q105
   obtain rfl : ad101 = ad105 := (by injection e105)
   (try (obtain ⟨rfl, rfl⟩ := RPW.sl_eq hw101_8 hx105_8))
   (try (obtain ⟨rfl, rfl⟩ := RPW.sl_eq hw103_8 hx105_8))
   (try (obtain ⟨rfl, rfl⟩ := RPW.sl_eq hw105_8 hx105_8))
   replace hx105_0 := bu_ HB.out hx105_0
   replace hx105_1 := bu_ HB.out hx105_1
   replace hx105_2 := bu_ HB.out hx105_2
   replace hx105_3 := bu_ HB.out hx105_3
   replace hx105_4 := bu_ HB.out hx105_4
   replace hx105_5 := bu_ HB.out hx105_5
   replace hx105_6 := bu_ HB.out hx105_6
   replace hx105_7 := bu_ HB.out hx105_7
   replace hx105_8 := bu_ HB.out hx105_8
   have HR105_8 := Aside0.mk hi105_8
   have HC105_8 := Aside0.mk hl105_8
   clear hi105_8 hl105_8
   replace p105 := eq_true p105
   replace q105 := eq_true q105
   try go_wp2
   (try (rw [bm_ w13]; generalize hq_ : World.drewN w13 _ = w13; replace HB := Aside0.mk (rqH hq_ HB.out); clear hq_))
   have n0_ := Aside0.mk (bD_ HB.out)
   clear HB
   have HB := n0_
   clear n0_
   have p106 : 0 ≤ (x5_1 : Int) := of_decide_eq_true (by assumption)
   have q106 : x5_1 < (l0.length : Int) := of_decide_eq_true (by assumption)
   obtain ⟨ad106, A106_8, c106_8, e106, hx106_0, hx106_1, hx106_2, hx106_3, hx106_4, hx106_5, hx106_6, hx106_7, hx106_8, hl106_8, hi106_8⟩ := bS_ HR0.out x5_1 p106 q106
   have hw106_8 := hx106_8
   have hw106_7 := hx106_7
   have hw106_6 := hx106_6
   have hw106_5 := hx106_5
   have hw106_4 := hx106_4
   have hw106_3 := hx106_3
   have hw106_2 := hx106_2
   have hw106_1 := hx106_1
   have hw106_0 := hx106_0
   obtain rfl : ad101 = ad106 := (by injection e106)
   (try (obtain ⟨rfl, rfl⟩ := RPW.sl_eq hw101_8 hx106_8))
   (try (obtain ⟨rfl, rfl⟩ := RPW.sl_eq hw103_8 hx106_8))
   (try (obtain ⟨rfl, rfl⟩ := RPW.sl_eq hw105_8 hx106_8))
   (try (obtain ⟨rfl, rfl⟩ := RPW.sl_eq hw106_8 hx106_8))
   replace hx106_0 := bu_ HB.out hx106_0
   replace hx106_1 := bu_ HB.out hx106_1
   replace hx106_2 := bu_ HB.out hx106_2
   replace hx106_3 := bu_ HB.out hx106_3
   replace hx106_4 := bu_ HB.out hx106_4
   replace hx106_5 := bu_ HB.out hx106_5
   replace hx106_6 := bu_ HB.out hx106_6
   replace hx106_7 := bu_ HB.out hx106_7
   replace hx106_8 := bu_ HB.out hx106_8
   have HR106_8 := Aside0.mk hi106_8
   have HC106_8 := Aside0.mk hl106_8
   clear hi106_8 hl106_8
   replace p106 := eq_true p106
   replace q106 := eq_true q106
   refine start_ (n := 9) (S := fun w' => w'.cell? (ad101.add ((x5_1).toNat * 9)) = some (.string ((ab_ l0 x5_1).f0)) ∧ w'.cell? ⟨(ad101.add ((x5_1).toNat * 9)).block, (ad101.add ((x5_1).toNat * 9)).off + 1, none⟩ = some (.string ((ab_ l0 x5_1).f1)) ∧ w'.cell? ⟨(ad101.add ((x5_1).toNat * 9)).block, (ad101.add ((x5_1).toNat * 9)).off + 2, none⟩ = some (.int .i64 ((ab_ l0 x5_1).f2)) ∧ w'.cell? ⟨(ad101.add ((x5_1).toNat * 9)).block, (ad101.add ((x5_1).toNat * 9)).off + 3, none⟩ = some (.string ((ab_ l0 x5_1).f3.f0)) ∧ w'.cell? ⟨(ad101.add ((x5_1).toNat * 9)).block, (ad101.add ((x5_1).toNat * 9)).off + 4, none⟩ = some (.int .i64 ((ab_ l0 x5_1).f3.f1)) ∧ w'.cell? ⟨(ad101.add ((x5_1).toNat * 9)).block, (ad101.add ((x5_1).toNat * 9)).off + 5, none⟩ = some (.int .i64 ((ab_ l0 x5_1).f3.f2)) ∧ w'.cell? ⟨(ad101.add ((x5_1).toNat * 9)).block, (ad101.add ((x5_1).toNat * 9)).off + 6, none⟩ = some (.int .i64 ((ab_ l0 x5_1).f4)) ∧ w'.cell? ⟨(ad101.add ((x5_1).toNat * 9)).block, (ad101.add ((x5_1).toNat * 9)).off + 7, none⟩ = some (.int .i64 ((ab_ l0 x5_1).f5)) ∧ w'.cell? ⟨(ad101.add ((x5_1).toNat * 9)).block, (ad101.add ((x5_1).toNat * 9)).off + 8, none⟩ = some (.slice A106_8 ((ab_ l0 x5_1).f6).length c106_8)) (ds := []) #[f_,f_,f_,f_,f_,f_,f_,f_,f_] (by kernel_rfl) rfl rfl ⟨(bu_ HB.out hw106_0), (bu_ HB.out hw106_1), (bu_ HB.out hw106_2), (bu_ HB.out hw106_3), (bu_ HB.out hw106_4), (bu_ HB.out hw106_5), (bu_ HB.out hw106_6), (bu_ HB.out hw106_7), (bu_ HB.out hw106_8)⟩ (fun hHeld => ?_); refine cl_ ay_.tab13 ay_.bits13 (fun HT_ HW_ => ?_)
   generalize w13.drew = w18 at HB HR106_8 hx106_0 hx106_1 hx106_2 hx106_3 hx106_4 hx106_5 hx106_6 hx106_7 hx106_8 hHeld ⊢
   refine pure_ (i := 0) (N := some 41) (v := ?_) (a' := ?_) #[t_,f_,f_,f_,f_,f_,f_,f_,f_] rfl rfl (aH_ HT_.out (by kernel_rfl)) (fun _ _ _ h => h) (Or.inl ⟨by rfl, ?_⟩) ?_ ?_
   rotate_left
   ·intro w'
    go_simp
    with_reducible rfl
   rotate_left
   ·simp only [Act.put, lsa_, ls0_, ls1_, i64_w, i32_w]
    rfl
   refine pure_ (i := 1) (N := some 42) (v := ?_) (a' := ?_) #[t_,t_,f_,f_,f_,f_,f_,f_,f_] rfl rfl (aH_ HT_.out (by kernel_rfl)) (fun _ _ _ h => h) (Or.inl ⟨by rfl, ?_⟩) ?_ ?_
   rotate_left
   ·intro w'
    go_simp
    with_reducible rfl
   rotate_left
   ·simp only [Act.put, lsa_, ls0_, ls1_, i64_w, i32_w]
    rfl
   refine pure_ (i := 2) (N := some 43) (v := ?_) (a' := ?_) #[t_,t_,t_,f_,f_,f_,f_,f_,f_] rfl rfl (aH_ HT_.out (by kernel_rfl)) (fun _ _ _ h => h) (Or.inl ⟨by rfl, ?_⟩) ?_ ?_
   rotate_left
   ·intro w'
    go_simp
    with_reducible rfl
   rotate_left
   ·simp only [Act.put, lsa_, ls0_, ls1_, i64_w, i32_w]
    rfl
   refine pure_ (i := 3) (N := some 44) (v := ?_) (a' := ?_) #[t_,t_,t_,t_,f_,f_,f_,f_,f_] rfl rfl (aH_ HT_.out (by kernel_rfl)) (fun _ _ _ h => h) (Or.inl ⟨by rfl, ?_⟩) ?_ ?_
   rotate_left
   ·intro w'
    go_simp
    with_reducible rfl
   rotate_left
   ·simp only [Act.put, lsa_, ls0_, ls1_, i64_w, i32_w]
    rfl
   refine pure_ (i := 4) (N := some 45) (v := ?_) (a' := ?_) #[t_,t_,t_,t_,t_,f_,f_,f_,f_] rfl rfl (aH_ HT_.out (by kernel_rfl)) (fun _ _ _ h => h) (Or.inl ⟨by rfl, ?_⟩) ?_ ?_
   rotate_left
   ·intro w'
    go_simp
    with_reducible rfl
   rotate_left
   ·simp only [Act.put, lsa_, ls0_, ls1_, i64_w, i32_w]
    rfl
   refine pure_ (i := 6) (N := some 47) (v := ?_) (a' := ?_) #[t_,t_,t_,t_,t_,f_,t_,f_,f_] rfl rfl (aH_ HT_.out (by kernel_rfl)) (fun _ _ _ h => h) (Or.inl ⟨by rfl, ?_⟩) ?_ ?_
   rotate_left
   ·intro w'
    go_simp
    with_reducible rfl
   rotate_left
   ·simp only [Act.put, lsa_, ls0_, ls1_, i64_w, i32_w]
    rfl
   refine take_ (i := 5) (N := some 46) (v := ?_) (a' := ?_) #[t_,t_,t_,t_,t_,t_,t_,f_,f_] rfl rfl (bt_ HT_.out HW_.out (by kernel_rfl)) (fun _ _ _ h => h) (Or.inl ⟨by rfl, ?_⟩) hHeld ?_ ?_
   rotate_left
   ·rintro w' ⟨s0, s1, s2, s3, s4, s5, s6, s7, s8⟩
    go_simp
    with_reducible rfl
   rotate_left
   ·simp only [Act.put, lsa_, ls0_, ls1_, i64_w, i32_w]
    rfl
   refine one_ (i := 7) (N := some 48) #[t_,t_,t_,t_,t_,t_,t_,t_,f_] rfl rfl (ct_ HT_.out (by kernel_rfl)) (by decide) (fun K hK => ?_)
   (first | refine goes_ Tryz.func21 (by kernel_rfl) rfl #[.int .i64 (wrap64 ((wrap64 ((wrap64 (x1_1 + 1)) + 1)) + 1))] (by rfl) rfl rfl (by first | rfl | (simp only [lma_, lmc_, lmn_]; first | done | rfl)) ?_ | refine RPW.df_ Tryz.func21 (by kernel_rfl) rfl #[.int .i64 (wrap64 ((wrap64 ((wrap64 (x1_1 + 1)) + 1)) + 1))] (by rfl) rfl rfl rfl (by first | rfl | (simp only [lma_, lmc_, lmn_]; first | done | rfl)) ?_ | refine RPW.dg_ Tryz.func21 (by kernel_rfl) rfl #[.int .i64 (wrap64 ((wrap64 ((wrap64 (x1_1 + 1)) + 1)) + 1))] (by rfl) rfl rfl rfl (by first | rfl | (simp only [lma_, lmc_, lmn_]; first | done | rfl)) ?_)
   with_reducible refine (aK_.calls k1 (wrap64 ((wrap64 ((wrap64 (x1_1 + 1)) + 1)) + 1)) t107 _ A16.out).mono ?_
   rintro e w19 ⟨rfl, hb⟩
   refine ⟨_, rfl, ?_⟩
   have n0_ := Aside0.mk (ac_ (bz HB.out) hb)
   clear HB
   have HB := n0_
   clear n0_
   (try clear hb)
   refine hK.out _ _ ⟨(bu_ HB.out hw106_0), (bu_ HB.out hw106_1), (bu_ HB.out hw106_2), (bu_ HB.out hw106_3), (bu_ HB.out hw106_4), (bu_ HB.out hw106_5), (bu_ HB.out hw106_6), (bu_ HB.out hw106_7), (bu_ HB.out hw106_8)⟩ (fun hHeld => ?_)
   clear hK K
   refine norm_ (a' := ?_) ?_ ?_
   rotate_left
   ·show Act.put _ (some 48) _ = _
    simp only [Act.put, lsa_, ls0_, ls1_, i64_w, i32_w]
    rfl
   refine pure_ (i := 8) (N := some 49) (v := ?_) (a' := ?_) #[t_,t_,t_,t_,t_,t_,t_,t_,t_] rfl rfl (aH_ HT_.out (by kernel_rfl)) (fun _ _ _ h => h) (Or.inl ⟨by rfl, ?_⟩) ?_ ?_
   rotate_left
   ·intro w'
    go_simp
    with_reducible rfl
   rotate_left
   ·simp only [Act.put, lsa_, ls0_, ls1_, i64_w, i32_w]
    rfl
   refine done_ (cN_ HT_.out (by kernel_rfl)) ?_
   go_upto_if 49 with (fail)
   have H := HC17.out
   clear HC17
   by_cases c20 : ((ab_ l0 x5_1).f3.f0).toList = t107.toList
   rotate_left
   ·rw [if_neg c20] at H
    have c20b0 : (((ab_ l0 x5_1).f3.f0).toList == t107.toList) = false := beq_eq_false_iff_ne.mpr c20
    have c20b1 : (((ab_ l0 x5_1).f3.f0).toList != t107.toList) = true := bne_iff_ne.mpr c20
    (first | rw [c20b0] | (simp only [i64_w, i32_w]; rw [c20b0]) | (simp only [c20b1, Bool.not_true, Bool.not_false]) | (simp only [c20b0, Bool.not_true, Bool.not_false]) | skip)
    obtain rfl := Option.some.inj H
    go_wp2
    go_ret
    exact ⟨by first | rfl | (simp [*, ai_, ah_] <;> rfl), bz HB.out⟩
   rw [if_pos c20] at H
   have c20b0 : (((ab_ l0 x5_1).f3.f0).toList == t107.toList) = true := beq_iff_eq.mpr c20
   have c20b1 : (((ab_ l0 x5_1).f3.f0).toList != t107.toList) = false := bne_eq_false_iff_eq.mpr c20
   clear c20
   (first | rw [c20b0] | (simp only [i64_w, i32_w]; rw [c20b0]) | (simp only [c20b1, Bool.not_true, Bool.not_false]) | (simp only [c20b0, Bool.not_true, Bool.not_false]) | skip)
   by_cases c21 : ((ab_ l0 x5_1).f3.f1) = (wrap64 ((wrap64 ((wrap64 ((wrap64 (x1_1 + 1)) + 1)) + 1)) + 1))
   rotate_left
   ·rw [if_neg c21] at H
    have c21b0 : (((ab_ l0 x5_1).f3.f1) == (wrap64 ((wrap64 ((wrap64 ((wrap64 (x1_1 + 1)) + 1)) + 1)) + 1))) = false := beq_eq_false_iff_ne.mpr c21
    have c21b1 : (((ab_ l0 x5_1).f3.f1) != (wrap64 ((wrap64 ((wrap64 ((wrap64 (x1_1 + 1)) + 1)) + 1)) + 1))) = true := bne_iff_ne.mpr c21
    obtain rfl := Option.some.inj H
    have p108 : 0 ≤ (x5_1 : Int) := of_decide_eq_true (by assumption)
    have q108 : x5_1 < (l0.length : Int) := of_decide_eq_true (by assumption)
    obtain ⟨ad108, A108_8, c108_8, e108, hx108_0, hx108_1, hx108_2, hx108_3, hx108_4, hx108_5, hx108_6, hx108_7, hx108_8, hl108_8, hi108_8⟩ := bS_ HR0.out x5_1 p108 q108
    obtain rfl : ad101 = ad108 := (by injection e108)
    (try (obtain ⟨rfl, rfl⟩ := RPW.sl_eq hw101_8 hx108_8))
    (try (obtain ⟨rfl, rfl⟩ := RPW.sl_eq hw103_8 hx108_8))
    (try (obtain ⟨rfl, rfl⟩ := RPW.sl_eq hw105_8 hx108_8))
    (try (obtain ⟨rfl, rfl⟩ := RPW.sl_eq hw106_8 hx108_8))
    (try (obtain ⟨rfl, rfl⟩ := RPW.sl_eq hw108_8 hx108_8))
    (try (obtain ⟨rfl, rfl⟩ := RPW.sl_eq hw109_8 hx108_8))
    (try (obtain ⟨rfl, rfl⟩ := RPW.sl_eq hw110_8 hx108_8))
    (try (obtain ⟨rfl, rfl⟩ := RPW.sl_eq hw111_8 hx108_8))
    (try (obtain ⟨rfl, rfl⟩ := RPW.sl_eq hw112_8 hx108_8))
    replace hx108_0 := bu_ HB.out hx108_0
    replace hx108_1 := bu_ HB.out hx108_1
    replace hx108_2 := bu_ HB.out hx108_2
    replace hx108_3 := bu_ HB.out hx108_3
    replace hx108_4 := bu_ HB.out hx108_4
    replace hx108_5 := bu_ HB.out hx108_5
    replace hx108_6 := bu_ HB.out hx108_6
    replace hx108_7 := bu_ HB.out hx108_7
    replace hx108_8 := bu_ HB.out hx108_8
    have HR108_8 := Aside0.mk hi108_8
    have HC108_8 := Aside0.mk hl108_8
    clear hi108_8 hl108_8
    replace p108 := eq_true p108
    replace q108 := eq_true q108
    go_wp2
    go_ret
    exact ⟨by first | rfl | (simp [*, ai_, ah_] <;> rfl), bz HB.out⟩
   rw [if_pos c21] at H
   have c21b0 : (((ab_ l0 x5_1).f3.f1) == (wrap64 ((wrap64 ((wrap64 ((wrap64 (x1_1 + 1)) + 1)) + 1)) + 1))) = true := beq_iff_eq.mpr c21
   have c21b1 : (((ab_ l0 x5_1).f3.f1) != (wrap64 ((wrap64 ((wrap64 ((wrap64 (x1_1 + 1)) + 1)) + 1)) + 1))) = false := bne_eq_false_iff_eq.mpr c21
   clear c21
   by_cases c22 : ((ab_ l0 x5_1).f3.f2) = (wrap64 ((wrap64 ((wrap64 ((wrap64 ((wrap64 (x1_1 + 1)) + 1)) + 1)) + 1)) + 1))
   rotate_left
   ·rw [if_neg c22] at H
    have c22b0 : (((ab_ l0 x5_1).f3.f2) == (wrap64 ((wrap64 ((wrap64 ((wrap64 ((wrap64 (x1_1 + 1)) + 1)) + 1)) + 1)) + 1))) = false := beq_eq_false_iff_ne.mpr c22
    have c22b1 : (((ab_ l0 x5_1).f3.f2) != (wrap64 ((wrap64 ((wrap64 ((wrap64 ((wrap64 (x1_1 + 1)) + 1)) + 1)) + 1)) + 1))) = true := bne_iff_ne.mpr c22
    obtain rfl := Option.some.inj H
    have p108 : 0 ≤ (x5_1 : Int) := of_decide_eq_true (by assumption)
    have q108 : x5_1 < (l0.length : Int) := of_decide_eq_true (by assumption)
    obtain ⟨ad108, A108_8, c108_8, e108, hx108_0, hx108_1, hx108_2, hx108_3, hx108_4, hx108_5, hx108_6, hx108_7, hx108_8, hl108_8, hi108_8⟩ := bS_ HR0.out x5_1 p108 q108
    obtain rfl : ad101 = ad108 := (by injection e108)
    (try (obtain ⟨rfl, rfl⟩ := RPW.sl_eq hw101_8 hx108_8))
    (try (obtain ⟨rfl, rfl⟩ := RPW.sl_eq hw103_8 hx108_8))
    (try (obtain ⟨rfl, rfl⟩ := RPW.sl_eq hw105_8 hx108_8))
    (try (obtain ⟨rfl, rfl⟩ := RPW.sl_eq hw106_8 hx108_8))
    (try (obtain ⟨rfl, rfl⟩ := RPW.sl_eq hw108_8 hx108_8))
    (try (obtain ⟨rfl, rfl⟩ := RPW.sl_eq hw109_8 hx108_8))
    (try (obtain ⟨rfl, rfl⟩ := RPW.sl_eq hw110_8 hx108_8))
    (try (obtain ⟨rfl, rfl⟩ := RPW.sl_eq hw111_8 hx108_8))
    (try (obtain ⟨rfl, rfl⟩ := RPW.sl_eq hw112_8 hx108_8))
    replace hx108_0 := bu_ HB.out hx108_0
    replace hx108_1 := bu_ HB.out hx108_1
    replace hx108_2 := bu_ HB.out hx108_2
    replace hx108_3 := bu_ HB.out hx108_3
    replace hx108_4 := bu_ HB.out hx108_4
    replace hx108_5 := bu_ HB.out hx108_5
    replace hx108_6 := bu_ HB.out hx108_6
    replace hx108_7 := bu_ HB.out hx108_7
    replace hx108_8 := bu_ HB.out hx108_8
    have HR108_8 := Aside0.mk hi108_8
    have HC108_8 := Aside0.mk hl108_8
    clear hi108_8 hl108_8
    replace p108 := eq_true p108
    replace q108 := eq_true q108
    have p109 : 0 ≤ (x5_1 : Int) := of_decide_eq_true (by assumption)
    have q109 : x5_1 < (l0.length : Int) := of_decide_eq_true (by assumption)
    obtain ⟨ad109, A109_8, c109_8, e109, hx109_0, hx109_1, hx109_2, hx109_3, hx109_4, hx109_5, hx109_6, hx109_7, hx109_8, hl109_8, hi109_8⟩ := bS_ HR0.out x5_1 p109 q109
    obtain rfl : ad101 = ad109 := (by injection e109)
    replace hx109_0 := bu_ HB.out hx109_0
    replace hx109_1 := bu_ HB.out hx109_1
    replace hx109_2 := bu_ HB.out hx109_2
    replace hx109_3 := bu_ HB.out hx109_3
    replace hx109_4 := bu_ HB.out hx109_4
    replace hx109_5 := bu_ HB.out hx109_5
    replace hx109_6 := bu_ HB.out hx109_6
    replace hx109_7 := bu_ HB.out hx109_7
    replace hx109_8 := bu_ HB.out hx109_8
    have HR109_8 := Aside0.mk hi109_8
    have HC109_8 := Aside0.mk hl109_8
    clear hi109_8 hl109_8
    replace p109 := eq_true p109
    replace q109 := eq_true q109
    have ea_ := Option.some.inj (hx108_8.symm.trans hx109_8)
    injection ea_ with ea_ en_ ec_
    (try subst ea_)
    (try subst ec_)
    (try clear ea_ ec_)
    clear en_
    go_wp2
    go_ret
    exact ⟨by first | rfl | (simp [*, ai_, ah_] <;> rfl), bz HB.out⟩
   rw [if_pos c22] at H
   have c22b0 : (((ab_ l0 x5_1).f3.f2) == (wrap64 ((wrap64 ((wrap64 ((wrap64 ((wrap64 (x1_1 + 1)) + 1)) + 1)) + 1)) + 1))) = true := beq_iff_eq.mpr c22
   have c22b1 : (((ab_ l0 x5_1).f3.f2) != (wrap64 ((wrap64 ((wrap64 ((wrap64 ((wrap64 (x1_1 + 1)) + 1)) + 1)) + 1)) + 1))) = false := bne_eq_false_iff_eq.mpr c22
   clear c22
   by_cases c23 : ((ab_ l0 x5_1).f4) = (wrap64 ((wrap64 ((wrap64 ((wrap64 ((wrap64 ((wrap64 (x1_1 + 1)) + 1)) + 1)) + 1)) + 1)) + 1))
   rotate_left
   ·rw [if_neg c23] at H
    have c23b0 : (((ab_ l0 x5_1).f4) == (wrap64 ((wrap64 ((wrap64 ((wrap64 ((wrap64 ((wrap64 (x1_1 + 1)) + 1)) + 1)) + 1)) + 1)) + 1))) = false := beq_eq_false_iff_ne.mpr c23
    have c23b1 : (((ab_ l0 x5_1).f4) != (wrap64 ((wrap64 ((wrap64 ((wrap64 ((wrap64 ((wrap64 (x1_1 + 1)) + 1)) + 1)) + 1)) + 1)) + 1))) = true := bne_iff_ne.mpr c23
    obtain rfl := Option.some.inj H
    have p108 : 0 ≤ (x5_1 : Int) := of_decide_eq_true (by assumption)
    have q108 : x5_1 < (l0.length : Int) := of_decide_eq_true (by assumption)
    obtain ⟨ad108, A108_8, c108_8, e108, hx108_0, hx108_1, hx108_2, hx108_3, hx108_4, hx108_5, hx108_6, hx108_7, hx108_8, hl108_8, hi108_8⟩ := bS_ HR0.out x5_1 p108 q108
    obtain rfl : ad101 = ad108 := (by injection e108)
    (try (obtain ⟨rfl, rfl⟩ := RPW.sl_eq hw101_8 hx108_8))
    (try (obtain ⟨rfl, rfl⟩ := RPW.sl_eq hw103_8 hx108_8))
    (try (obtain ⟨rfl, rfl⟩ := RPW.sl_eq hw105_8 hx108_8))
    (try (obtain ⟨rfl, rfl⟩ := RPW.sl_eq hw106_8 hx108_8))
    (try (obtain ⟨rfl, rfl⟩ := RPW.sl_eq hw108_8 hx108_8))
    (try (obtain ⟨rfl, rfl⟩ := RPW.sl_eq hw109_8 hx108_8))
    (try (obtain ⟨rfl, rfl⟩ := RPW.sl_eq hw110_8 hx108_8))
    (try (obtain ⟨rfl, rfl⟩ := RPW.sl_eq hw111_8 hx108_8))
    (try (obtain ⟨rfl, rfl⟩ := RPW.sl_eq hw112_8 hx108_8))
    replace hx108_0 := bu_ HB.out hx108_0
    replace hx108_1 := bu_ HB.out hx108_1
    replace hx108_2 := bu_ HB.out hx108_2
    replace hx108_3 := bu_ HB.out hx108_3
    replace hx108_4 := bu_ HB.out hx108_4
    replace hx108_5 := bu_ HB.out hx108_5
    replace hx108_6 := bu_ HB.out hx108_6
    replace hx108_7 := bu_ HB.out hx108_7
    replace hx108_8 := bu_ HB.out hx108_8
    have HR108_8 := Aside0.mk hi108_8
    have HC108_8 := Aside0.mk hl108_8
    clear hi108_8 hl108_8
    replace p108 := eq_true p108
    replace q108 := eq_true q108
    have p109 : 0 ≤ (x5_1 : Int) := of_decide_eq_true (by assumption)
    have q109 : x5_1 < (l0.length : Int) := of_decide_eq_true (by assumption)
    obtain ⟨ad109, A109_8, c109_8, e109, hx109_0, hx109_1, hx109_2, hx109_3, hx109_4, hx109_5, hx109_6, hx109_7, hx109_8, hl109_8, hi109_8⟩ := bS_ HR0.out x5_1 p109 q109
    obtain rfl : ad101 = ad109 := (by injection e109)
    replace hx109_0 := bu_ HB.out hx109_0
    replace hx109_1 := bu_ HB.out hx109_1
    replace hx109_2 := bu_ HB.out hx109_2
    replace hx109_3 := bu_ HB.out hx109_3
    replace hx109_4 := bu_ HB.out hx109_4
    replace hx109_5 := bu_ HB.out hx109_5
    replace hx109_6 := bu_ HB.out hx109_6
    replace hx109_7 := bu_ HB.out hx109_7
    replace hx109_8 := bu_ HB.out hx109_8
    have HR109_8 := Aside0.mk hi109_8
    have HC109_8 := Aside0.mk hl109_8
    clear hi109_8 hl109_8
    replace p109 := eq_true p109
    replace q109 := eq_true q109
    have ea_ := Option.some.inj (hx108_8.symm.trans hx109_8)
    injection ea_ with ea_ en_ ec_
    (try subst ea_)
    (try subst ec_)
    (try clear ea_ ec_)
    clear en_
    have p110 : 0 ≤ (x5_1 : Int) := of_decide_eq_true (by assumption)
    have q110 : x5_1 < (l0.length : Int) := of_decide_eq_true (by assumption)
    obtain ⟨ad110, A110_8, c110_8, e110, hx110_0, hx110_1, hx110_2, hx110_3, hx110_4, hx110_5, hx110_6, hx110_7, hx110_8, hl110_8, hi110_8⟩ := bS_ HR0.out x5_1 p110 q110
    obtain rfl : ad101 = ad110 := (by injection e110)
    replace hx110_0 := bu_ HB.out hx110_0
    replace hx110_1 := bu_ HB.out hx110_1
    replace hx110_2 := bu_ HB.out hx110_2
    replace hx110_3 := bu_ HB.out hx110_3
    replace hx110_4 := bu_ HB.out hx110_4
    replace hx110_5 := bu_ HB.out hx110_5
    replace hx110_6 := bu_ HB.out hx110_6
    replace hx110_7 := bu_ HB.out hx110_7
    replace hx110_8 := bu_ HB.out hx110_8
    have HR110_8 := Aside0.mk hi110_8
    have HC110_8 := Aside0.mk hl110_8
    clear hi110_8 hl110_8
    replace p110 := eq_true p110
    replace q110 := eq_true q110
    have ea_ := Option.some.inj (hx108_8.symm.trans hx110_8)
    injection ea_ with ea_ en_ ec_
    (try subst ea_)
    (try subst ec_)
    (try clear ea_ ec_)
    clear en_
    go_wp2
    go_ret
    exact ⟨by first | rfl | (simp [*, ai_, ah_] <;> rfl), bz HB.out⟩
   rw [if_pos c23] at H
   have c23b0 : (((ab_ l0 x5_1).f4) == (wrap64 ((wrap64 ((wrap64 ((wrap64 ((wrap64 ((wrap64 (x1_1 + 1)) + 1)) + 1)) + 1)) + 1)) + 1))) = true := beq_iff_eq.mpr c23
   have c23b1 : (((ab_ l0 x5_1).f4) != (wrap64 ((wrap64 ((wrap64 ((wrap64 ((wrap64 ((wrap64 (x1_1 + 1)) + 1)) + 1)) + 1)) + 1)) + 1))) = false := bne_eq_false_iff_eq.mpr c23
   clear c23
   by_cases c24 : ((ab_ l0 x5_1).f5) = (wrap64 ((wrap64 ((wrap64 ((wrap64 ((wrap64 ((wrap64 ((wrap64 (x1_1 + 1)) + 1)) + 1)) + 1)) + 1)) + 1)) + 1))
   rotate_left
   ·rw [if_neg c24] at H
    have c24b0 : (((ab_ l0 x5_1).f5) == (wrap64 ((wrap64 ((wrap64 ((wrap64 ((wrap64 ((wrap64 ((wrap64 (x1_1 + 1)) + 1)) + 1)) + 1)) + 1)) + 1)) + 1))) = false := beq_eq_false_iff_ne.mpr c24
    have c24b1 : (((ab_ l0 x5_1).f5) != (wrap64 ((wrap64 ((wrap64 ((wrap64 ((wrap64 ((wrap64 ((wrap64 (x1_1 + 1)) + 1)) + 1)) + 1)) + 1)) + 1)) + 1))) = true := bne_iff_ne.mpr c24
    obtain rfl := Option.some.inj H
    have p108 : 0 ≤ (x5_1 : Int) := of_decide_eq_true (by assumption)
    have q108 : x5_1 < (l0.length : Int) := of_decide_eq_true (by assumption)
    obtain ⟨ad108, A108_8, c108_8, e108, hx108_0, hx108_1, hx108_2, hx108_3, hx108_4, hx108_5, hx108_6, hx108_7, hx108_8, hl108_8, hi108_8⟩ := bS_ HR0.out x5_1 p108 q108
    obtain rfl : ad101 = ad108 := (by injection e108)
    (try (obtain ⟨rfl, rfl⟩ := RPW.sl_eq hw101_8 hx108_8))
    (try (obtain ⟨rfl, rfl⟩ := RPW.sl_eq hw103_8 hx108_8))
    (try (obtain ⟨rfl, rfl⟩ := RPW.sl_eq hw105_8 hx108_8))
    (try (obtain ⟨rfl, rfl⟩ := RPW.sl_eq hw106_8 hx108_8))
    (try (obtain ⟨rfl, rfl⟩ := RPW.sl_eq hw108_8 hx108_8))
    (try (obtain ⟨rfl, rfl⟩ := RPW.sl_eq hw109_8 hx108_8))
    (try (obtain ⟨rfl, rfl⟩ := RPW.sl_eq hw110_8 hx108_8))
    (try (obtain ⟨rfl, rfl⟩ := RPW.sl_eq hw111_8 hx108_8))
    (try (obtain ⟨rfl, rfl⟩ := RPW.sl_eq hw112_8 hx108_8))
    replace hx108_0 := bu_ HB.out hx108_0
    replace hx108_1 := bu_ HB.out hx108_1
    replace hx108_2 := bu_ HB.out hx108_2
    replace hx108_3 := bu_ HB.out hx108_3
    replace hx108_4 := bu_ HB.out hx108_4
    replace hx108_5 := bu_ HB.out hx108_5
    replace hx108_6 := bu_ HB.out hx108_6
    replace hx108_7 := bu_ HB.out hx108_7
    replace hx108_8 := bu_ HB.out hx108_8
    have HR108_8 := Aside0.mk hi108_8
    have HC108_8 := Aside0.mk hl108_8
    clear hi108_8 hl108_8
    replace p108 := eq_true p108
    replace q108 := eq_true q108
    have p109 : 0 ≤ (x5_1 : Int) := of_decide_eq_true (by assumption)
    have q109 : x5_1 < (l0.length : Int) := of_decide_eq_true (by assumption)
    obtain ⟨ad109, A109_8, c109_8, e109, hx109_0, hx109_1, hx109_2, hx109_3, hx109_4, hx109_5, hx109_6, hx109_7, hx109_8, hl109_8, hi109_8⟩ := bS_ HR0.out x5_1 p109 q109
    obtain rfl : ad101 = ad109 := (by injection e109)
    replace hx109_0 := bu_ HB.out hx109_0
    replace hx109_1 := bu_ HB.out hx109_1
    replace hx109_2 := bu_ HB.out hx109_2
    replace hx109_3 := bu_ HB.out hx109_3
    replace hx109_4 := bu_ HB.out hx109_4
    replace hx109_5 := bu_ HB.out hx109_5
    replace hx109_6 := bu_ HB.out hx109_6
    replace hx109_7 := bu_ HB.out hx109_7
    replace hx109_8 := bu_ HB.out hx109_8
    have HR109_8 := Aside0.mk hi109_8
    have HC109_8 := Aside0.mk hl109_8
    clear hi109_8 hl109_8
    replace p109 := eq_true p109
    replace q109 := eq_true q109
    have ea_ := Option.some.inj (hx108_8.symm.trans hx109_8)
    injection ea_ with ea_ en_ ec_
    (try subst ea_)
    (try subst ec_)
    (try clear ea_ ec_)
    clear en_
    have p110 : 0 ≤ (x5_1 : Int) := of_decide_eq_true (by assumption)
    have q110 : x5_1 < (l0.length : Int) := of_decide_eq_true (by assumption)
    obtain ⟨ad110, A110_8, c110_8, e110, hx110_0, hx110_1, hx110_2, hx110_3, hx110_4, hx110_5, hx110_6, hx110_7, hx110_8, hl110_8, hi110_8⟩ := bS_ HR0.out x5_1 p110 q110
    obtain rfl : ad101 = ad110 := (by injection e110)
    replace hx110_0 := bu_ HB.out hx110_0
    replace hx110_1 := bu_ HB.out hx110_1
    replace hx110_2 := bu_ HB.out hx110_2
    replace hx110_3 := bu_ HB.out hx110_3
    replace hx110_4 := bu_ HB.out hx110_4
    replace hx110_5 := bu_ HB.out hx110_5
    replace hx110_6 := bu_ HB.out hx110_6
    replace hx110_7 := bu_ HB.out hx110_7
    replace hx110_8 := bu_ HB.out hx110_8
    have HR110_8 := Aside0.mk hi110_8
    have HC110_8 := Aside0.mk hl110_8
    clear hi110_8 hl110_8
    replace p110 := eq_true p110
    replace q110 := eq_true q110
    have ea_ := Option.some.inj (hx108_8.symm.trans hx110_8)
    injection ea_ with ea_ en_ ec_
    (try subst ea_)
    (try subst ec_)
    (try clear ea_ ec_)
    clear en_
    have p111 : 0 ≤ (x5_1 : Int) := of_decide_eq_true (by assumption)
    have q111 : x5_1 < (l0.length : Int) := of_decide_eq_true (by assumption)
    obtain ⟨ad111, A111_8, c111_8, e111, hx111_0, hx111_1, hx111_2, hx111_3, hx111_4, hx111_5, hx111_6, hx111_7, hx111_8, hl111_8, hi111_8⟩ := bS_ HR0.out x5_1 p111 q111
    obtain rfl : ad101 = ad111 := (by injection e111)
    replace hx111_0 := bu_ HB.out hx111_0
    replace hx111_1 := bu_ HB.out hx111_1
    replace hx111_2 := bu_ HB.out hx111_2
    replace hx111_3 := bu_ HB.out hx111_3
    replace hx111_4 := bu_ HB.out hx111_4
    replace hx111_5 := bu_ HB.out hx111_5
    replace hx111_6 := bu_ HB.out hx111_6
    replace hx111_7 := bu_ HB.out hx111_7
    replace hx111_8 := bu_ HB.out hx111_8
    have HR111_8 := Aside0.mk hi111_8
    have HC111_8 := Aside0.mk hl111_8
    clear hi111_8 hl111_8
    replace p111 := eq_true p111
    replace q111 := eq_true q111
    have ea_ := Option.some.inj (hx108_8.symm.trans hx111_8)
    injection ea_ with ea_ en_ ec_
    (try subst ea_)
    (try subst ec_)
    (try clear ea_ ec_)
    clear en_
    go_wp2
    go_ret
    exact ⟨by first | rfl | (simp [*, ai_, ah_] <;> rfl), bz HB.out⟩
   rw [if_pos c24] at H
   have c24b0 : (((ab_ l0 x5_1).f5) == (wrap64 ((wrap64 ((wrap64 ((wrap64 ((wrap64 ((wrap64 ((wrap64 (x1_1 + 1)) + 1)) + 1)) + 1)) + 1)) + 1)) + 1))) = true := beq_iff_eq.mpr c24
   have c24b1 : (((ab_ l0 x5_1).f5) != (wrap64 ((wrap64 ((wrap64 ((wrap64 ((wrap64 ((wrap64 ((wrap64 (x1_1 + 1)) + 1)) + 1)) + 1)) + 1)) + 1)) + 1))) = false := bne_eq_false_iff_eq.mpr c24
   clear c24
   replace H := Option.bind_eq_some_iff.mp H
   obtain ⟨t113, A250, H⟩ := H
   (try dsimp only at H)
   have A25 := Aside0.mk A250
   clear A250
   have HC26 := Aside0.mk H
   clear H
   have p108 : 0 ≤ (x5_1 : Int) := of_decide_eq_true (by assumption)
   have q108 : x5_1 < (l0.length : Int) := of_decide_eq_true (by assumption)
   obtain ⟨ad108, A108_8, c108_8, e108, hx108_0, hx108_1, hx108_2, hx108_3, hx108_4, hx108_5, hx108_6, hx108_7, hx108_8, hl108_8, hi108_8⟩ := bS_ HR0.out x5_1 p108 q108
   obtain rfl : ad101 = ad108 := (by injection e108)
   (try (obtain ⟨rfl, rfl⟩ := RPW.sl_eq hw101_8 hx108_8))
   (try (obtain ⟨rfl, rfl⟩ := RPW.sl_eq hw103_8 hx108_8))
   (try (obtain ⟨rfl, rfl⟩ := RPW.sl_eq hw105_8 hx108_8))
   (try (obtain ⟨rfl, rfl⟩ := RPW.sl_eq hw106_8 hx108_8))
   (try (obtain ⟨rfl, rfl⟩ := RPW.sl_eq hw108_8 hx108_8))
   replace hx108_0 := bu_ HB.out hx108_0
   replace hx108_1 := bu_ HB.out hx108_1
   replace hx108_2 := bu_ HB.out hx108_2
   replace hx108_3 := bu_ HB.out hx108_3
   replace hx108_4 := bu_ HB.out hx108_4
   replace hx108_5 := bu_ HB.out hx108_5
   replace hx108_6 := bu_ HB.out hx108_6
   replace hx108_7 := bu_ HB.out hx108_7
   replace hx108_8 := bu_ HB.out hx108_8
   have HR108_8 := Aside0.mk hi108_8
   have HC108_8 := Aside0.mk hl108_8
   clear hi108_8 hl108_8
   replace p108 := eq_true p108
   replace q108 := eq_true q108
   have p109 : 0 ≤ (x5_1 : Int) := of_decide_eq_true (by assumption)
   have q109 : x5_1 < (l0.length : Int) := of_decide_eq_true (by assumption)
   obtain ⟨ad109, A109_8, c109_8, e109, hx109_0, hx109_1, hx109_2, hx109_3, hx109_4, hx109_5, hx109_6, hx109_7, hx109_8, hl109_8, hi109_8⟩ := bS_ HR0.out x5_1 p109 q109
   obtain rfl : ad101 = ad109 := (by injection e109)
   replace hx109_0 := bu_ HB.out hx109_0
   replace hx109_1 := bu_ HB.out hx109_1
   replace hx109_2 := bu_ HB.out hx109_2
   replace hx109_3 := bu_ HB.out hx109_3
   replace hx109_4 := bu_ HB.out hx109_4
   replace hx109_5 := bu_ HB.out hx109_5
   replace hx109_6 := bu_ HB.out hx109_6
   replace hx109_7 := bu_ HB.out hx109_7
   replace hx109_8 := bu_ HB.out hx109_8
   have HR109_8 := Aside0.mk hi109_8
   have HC109_8 := Aside0.mk hl109_8
   clear hi109_8 hl109_8
   replace p109 := eq_true p109
   replace q109 := eq_true q109
   have ea_ := Option.some.inj (hx108_8.symm.trans hx109_8)
   injection ea_ with ea_ en_ ec_
   (try subst ea_)
   (try subst ec_)
   (try clear ea_ ec_)
   clear en_
   have p110 : 0 ≤ (x5_1 : Int) := of_decide_eq_true (by assumption)
   have q110 : x5_1 < (l0.length : Int) := of_decide_eq_true (by assumption)
   obtain ⟨ad110, A110_8, c110_8, e110, hx110_0, hx110_1, hx110_2, hx110_3, hx110_4, hx110_5, hx110_6, hx110_7, hx110_8, hl110_8, hi110_8⟩ := bS_ HR0.out x5_1 p110 q110
   obtain rfl : ad101 = ad110 := (by injection e110)
   replace hx110_0 := bu_ HB.out hx110_0
   replace hx110_1 := bu_ HB.out hx110_1
   replace hx110_2 := bu_ HB.out hx110_2
   replace hx110_3 := bu_ HB.out hx110_3
   replace hx110_4 := bu_ HB.out hx110_4
   replace hx110_5 := bu_ HB.out hx110_5
   replace hx110_6 := bu_ HB.out hx110_6
   replace hx110_7 := bu_ HB.out hx110_7
   replace hx110_8 := bu_ HB.out hx110_8
   have HR110_8 := Aside0.mk hi110_8
   have HC110_8 := Aside0.mk hl110_8
   clear hi110_8 hl110_8
   replace p110 := eq_true p110
   replace q110 := eq_true q110
   have ea_ := Option.some.inj (hx108_8.symm.trans hx110_8)
   injection ea_ with ea_ en_ ec_
   (try subst ea_)
   (try subst ec_)
   (try clear ea_ ec_)
   clear en_
   have p111 : 0 ≤ (x5_1 : Int) := of_decide_eq_true (by assumption)
   have q111 : x5_1 < (l0.length : Int) := of_decide_eq_true (by assumption)
   obtain ⟨ad111, A111_8, c111_8, e111, hx111_0, hx111_1, hx111_2, hx111_3, hx111_4, hx111_5, hx111_6, hx111_7, hx111_8, hl111_8, hi111_8⟩ := bS_ HR0.out x5_1 p111 q111
   obtain rfl : ad101 = ad111 := (by injection e111)
   replace hx111_0 := bu_ HB.out hx111_0
   replace hx111_1 := bu_ HB.out hx111_1
   replace hx111_2 := bu_ HB.out hx111_2
   replace hx111_3 := bu_ HB.out hx111_3
   replace hx111_4 := bu_ HB.out hx111_4
   replace hx111_5 := bu_ HB.out hx111_5
   replace hx111_6 := bu_ HB.out hx111_6
   replace hx111_7 := bu_ HB.out hx111_7
   replace hx111_8 := bu_ HB.out hx111_8
   have HR111_8 := Aside0.mk hi111_8
   have HC111_8 := Aside0.mk hl111_8
   clear hi111_8 hl111_8
   replace p111 := eq_true p111
   replace q111 := eq_true q111
   have ea_ := Option.some.inj (hx108_8.symm.trans hx111_8)
   injection ea_ with ea_ en_ ec_
   (try subst ea_)
   (try subst ec_)
   (try clear ea_ ec_)
   clear en_
   have p112 : 0 ≤ (x5_1 : Int) := of_decide_eq_true (by assumption)
   have q112 : x5_1 < (l0.length : Int) := of_decide_eq_true (by assumption)
   obtain ⟨ad112, A112_8, c112_8, e112, hx112_0, hx112_1, hx112_2, hx112_3, hx112_4, hx112_5, hx112_6, hx112_7, hx112_8, hl112_8, hi112_8⟩ := bS_ HR0.out x5_1 p112 q112
   obtain rfl : ad101 = ad112 := (by injection e112)
   replace hx112_0 := bu_ HB.out hx112_0
   replace hx112_1 := bu_ HB.out hx112_1
   replace hx112_2 := bu_ HB.out hx112_2
   replace hx112_3 := bu_ HB.out hx112_3
   replace hx112_4 := bu_ HB.out hx112_4
   replace hx112_5 := bu_ HB.out hx112_5
   replace hx112_6 := bu_ HB.out hx112_6
   replace hx112_7 := bu_ HB.out hx112_7
   replace hx112_8 := bu_ HB.out hx112_8
   have HR112_8 := Aside0.mk hi112_8
   have HC112_8 := Aside0.mk hl112_8
   clear hi112_8 hl112_8
   replace p112 := eq_true p112
   replace q112 := eq_true q112
   have ea_ := Option.some.inj (hx108_8.symm.trans hx112_8)
   injection ea_ with ea_ en_ ec_
   (try subst ea_)
   (try subst ec_)
   (try clear ea_ ec_)
   clear en_
   go_upto_if 98 with (first | ((with_reducible refine af_ (f := 23) rfl ?_); refine aJ_ (some 96) rfl rfl Tryz.func23 (by kernel_rfl) rfl #[.slice A108_8 ((ab_ l0 x5_1).f6).length c108_8, .int .i64 (wrap64 ((wrap64 ((wrap64 ((wrap64 ((wrap64 ((wrap64 ((wrap64 ((wrap64 (x1_1 + 1)) + 1)) + 1)) + 1)) + 1)) + 1)) + 1)) + 1))] rfl (by first | rfl | (simp only [lma_, lmc_, lmn_]; first | done | rfl)) ?_; (with_reducible refine (bC_.calls k1 _ _ ((ab_ l0 x5_1).f6) (wrap64 ((wrap64 ((wrap64 ((wrap64 ((wrap64 ((wrap64 ((wrap64 ((wrap64 (x1_1 + 1)) + 1)) + 1)) + 1)) + 1)) + 1)) + 1)) + 1)) t113 _ ?side1 ?side2 A25.out).mono ?_); (case side1 => exact cz (Kd.bU_ HR112_8.out HB.out)); (case side2 => exact HC112_8.out); rintro e w' ⟨rfl, ⟨nd, rfl⟩⟩; refine ⟨_, rfl, ?_⟩; (try (rw [bm_ w19]; generalize hq_ : World.drewN w19 _ = w19; replace HB := Aside0.mk (rqH hq_ HB.out); clear hq_))))
   (try simp only [Act.put, lsa_, ls0_, ls1_])
   have H := HC26.out
   clear HC26
   by_cases c27 : t113 < 0
   rotate_left
   ·rw [if_neg c27] at H
    have c27b0 : decide (t113 < 0) = false := decide_eq_false c27
    clear c27
    (first | rw [c27b0] | (simp only [i64_w, i32_w]; rw [c27b0]) | (simp only [c27b1, Bool.not_true, Bool.not_false]) | (simp only [c27b0, Bool.not_true, Bool.not_false]) | skip)
    have H' := Aside0.mk H
    clear H
    go_wp2
    go_roundg k1
    case measure => have := HK1.out; omega
    case rel => exact ⟨(t113), (wrap64 (x5_1 + 1)), (by first | rfl | (simp; done) | (simp [*]; done)), (by first | rfl | (simp; done) | (simp [*]; done)), H', ⟨by have := HK1.out; omega⟩, ⟨bz HB.out⟩⟩
   rw [if_pos c27] at H
   have c27b0 : decide (t113 < 0) = true := decide_eq_true c27
   clear c27
   (first | rw [c27b0] | (simp only [i64_w, i32_w]; rw [c27b0]) | (simp only [c27b1, Bool.not_true, Bool.not_false]) | (simp only [c27b0, Bool.not_true, Bool.not_false]) | skip)
   obtain rfl := Option.some.inj H
   go_wp2
   go_ret
   exact ⟨by first | rfl | (simp [*, ai_, ah_] <;> rfl), bz HB.out⟩
mutual
def ae_.j0 : Nat → List (S36) → List (S43) → Int → List (S38) → List (S43) → Int → Bool → Option (Bool)
 | 0, _, _, _, _, _, _, _ => none
 | k + 1, x0, x4, x5, x6, x7, x8, x40 => if x40 = true then (some false) else ((aX_.f k x0).bind fun t117 => ((aZ_.f k x6 t117).bind fun t120 => (if t120 = true then ((bb_.f k x6 1).bind fun bt121 => (if bt121.1 < 0 then (ae_.j1 k x0 x4 x5 x7 true) else ((aQ_.f k x7 x4).bind fun t123 => (if t123 = true then (ae_.j1 k x0 x4 x5 x7 (x8 != x5)) else (ae_.j1 k x0 x4 x5 x7 true))))) else (some false))))
def ae_.j1 : Nat → List (S36) → List (S43) → Int → List (S43) → Bool → Option (Bool)
 | 0, _, _, _, _, _ => none
 | k + 1, x0, x4, x5, x7, x61 => if x61 = true then (some false) else ((aw_.f k x7 1).bind fun bt124 => ((ay_.f k bt124.2 1).bind fun t126 => (if t126 < 0 then (some false) else (if t126 = bt124.1 then ((aX_.f k x0).bind fun t127 => ((aB_.f k t127).bind fun bt130 => ((aQ_.f k bt130.1 x4).bind fun t134 => (if t134 = true then (ae_.j2 k bt124.2 bt124.1 (bt130.2 != x5)) else (ae_.j2 k bt124.2 bt124.1 true))))) else (some false)))))
def ae_.j2 : Nat → List (S43) → Int → Bool → Option (Bool)
 | 0, _, _, _ => none
 | k + 1, x7, x10, x87 => if x87 = true then (some false) else ((ay_.f k x7 1).bind fun t135 => (if t135 < 0 then (some false) else (if t135 = x10 then (some true) else (some false))))
end
def ae_.f (k : Nat) (l0 : List (S36)) : Option (Bool) := (bx_.f k l0 1048576).bind fun t101 => (if t101 < 0 then (some true) else ((aX_.f k l0).bind fun t102 => ((aF_.f k t102).bind fun bt105 => ((aX_.f k l0).bind fun t109 => ((aB_.f k t109).bind fun bt112 => ((aQ_.f k bt112.1 bt105.1).bind fun t116 => (if t116 = true then (ae_.j0 k l0 bt105.1 bt105.2 t109 bt112.1 bt112.2 (bt112.2 != bt105.2)) else (ae_.j0 k l0 bt105.1 bt105.2 t109 bt112.1 bt112.2 true))))))))
set_option maxHeartbeats 8000000 in
set_option maxRecDepth 100000 in
theorem ae_.calls (k : Nat) (A0 : Option Addr) (c0 : Nat) (l0 : List (S36)) (r : Bool) (w : World) (hr0 : Kd.C k36 w A0 l0.length l0) (hc0 : l0.length ≤ c0) (hTab_ : Tab_ w) (h : ae_.f k l0 = some r) :
  Calls Tryz.prog 3 #[.slice A0 l0.length c0] w fun e w' => e = .returned (.bool r) ∧ Below w.heap.size w w' := by
 have HTab_ := Aside0.mk hTab_
 clear hTab_
 have HR0 := Aside0.mk hr0
 have HC0 := Aside0.mk hc0
 clear hr0 hc0
 have HB := Aside0.mk (Below.refl w.heap.size w)
 have H : ((bx_.f k l0 1048576).bind fun t101 => (if t101 < 0 then (some true) else ((aX_.f k l0).bind fun t102 => ((aF_.f k t102).bind fun bt105 => ((aX_.f k l0).bind fun t109 => ((aB_.f k t109).bind fun bt112 => ((aQ_.f k bt112.1 bt105.1).bind fun t116 => (if t116 = true then (ae_.j0 k l0 bt105.1 bt105.2 t109 bt112.1 bt112.2 (bt112.2 != bt105.2)) else (ae_.j0 k l0 bt105.1 bt105.2 t109 bt112.1 bt112.2 true))))))))) = some r := h
 clear h
 replace H := Option.bind_eq_some_iff.mp H
 obtain ⟨t101, A20, H⟩ := H
 (try dsimp only at H)
 have A2 := Aside0.mk A20
 clear A20
 have HC3 := Aside0.mk H
 clear H
 go_enter Tryz.func3, Tryz.ntmps3
 go_upto_if 18 with (first | ((with_reducible refine af_ (f := 4) rfl ?_); refine aJ_ (some 16) rfl rfl Tryz.func4 (by kernel_rfl) rfl #[.slice A0 l0.length c0, .int .i64 1048576] rfl (by first | rfl | (simp only [lma_, lmc_, lmn_]; first | done | rfl)) ?_; (with_reducible refine (bx_.calls k _ _ l0 1048576 t101 _ ?side1 ?side2 A2.out).mono ?_); (case side1 => exact cz HR0.out); (case side2 => exact HC0.out); rintro e w4 ⟨rfl, hb⟩; refine ⟨_, rfl, ?_⟩; replace HB := Aside0.mk (ac_ (bz HB.out) hb); (try clear hb)))
 (try simp only [Act.put, lsa_, ls0_, ls1_])
 have H := HC3.out
 clear HC3
 by_cases c5 : t101 < 0
 rotate_left
 ·rw [if_neg c5] at H
  have c5b0 : decide (t101 < 0) = false := decide_eq_false c5
  clear c5
  (first | rw [c5b0] | (simp only [i64_w, i32_w]; rw [c5b0]) | (simp only [c5b1, Bool.not_true, Bool.not_false]) | (simp only [c5b0, Bool.not_true, Bool.not_false]) | skip)
  replace H := Option.bind_eq_some_iff.mp H
  obtain ⟨t102, A60, H⟩ := H
  (try dsimp only at H)
  have A6 := Aside0.mk A60
  clear A60
  replace H := Option.bind_eq_some_iff.mp H
  obtain ⟨⟨t105, t106⟩, A70, H⟩ := H
  (try dsimp only at H)
  have A7 := Aside0.mk A70
  clear A70
  replace H := Option.bind_eq_some_iff.mp H
  obtain ⟨t109, A80, H⟩ := H
  (try dsimp only at H)
  have A8 := Aside0.mk A80
  clear A80
  replace H := Option.bind_eq_some_iff.mp H
  obtain ⟨⟨t112, t113⟩, A90, H⟩ := H
  (try dsimp only at H)
  have A9 := Aside0.mk A90
  clear A90
  have HC10 := Aside0.mk H
  clear H
  go_upto_region 8 with (first | ((with_reducible refine af_ (f := 6) rfl ?_); refine aJ_ (some 21) rfl rfl Tryz.func6 (by kernel_rfl) rfl #[.slice A0 l0.length c0] rfl (by first | rfl | (simp only [lma_, lmc_, lmn_]; first | done | rfl)) ?_; (with_reducible refine (aX_.calls k _ _ l0 t102 _ ?side1 ?side2 A6.out).mono ?_); (case side1 => exact cz (Kd.bU_ HR0.out HB.out)); (case side2 => exact HC0.out); rintro e w11 ⟨v103, rfl, ho0, hb⟩; refine ⟨_, rfl, ?_⟩; have HO104 := Aside0.mk (Kd.bz_ ho0 (ad_ (bz HB.out))); replace HB := Aside0.mk (ac_ (bz HB.out) hb); (try clear hb); (try clear ho0); obtain ⟨Ao12, co12, eo12⟩ := Kd.bv_ HO104.out; subst eo12) | ((with_reducible refine af_ (f := 5) rfl ?_); refine aJ_ (some 22) rfl rfl Tryz.func5 (by kernel_rfl) rfl #[.slice Ao12 t102.length co12] rfl (by first | rfl | (simp only [lma_, lmc_, lmn_]; first | done | rfl)) ?_; (with_reducible refine (aF_.calls k _ _ t102 t105 t106 _ ?side1 ?side2 A7.out).mono ?_); (case side1 => exact cz (Kd.av_ HO104.out).2.2); (case side2 => exact (Kd.av_ HO104.out).2.1); rintro e w13 ⟨v107, rfl, ho0, hb⟩; refine ⟨_, rfl, ?_⟩; obtain ⟨BxHO108, hBxHO108⟩ := RPW.ivB hb; replace HO104 := Aside0.mk (Kd.aV_ (rz HO104.out) hb); have HO108 := Aside0.mk (Kd.S_lower (Kd.bY_ (ok' := fun k_ => (BxHO108 ≤ k_)) (Kd.S_bound ho0) (fun k_ hk_ => (by have h1_ := hk_.2.1; omega))) (ad_ (bz HB.out))); replace HB := Aside0.mk (ac_ (bz HB.out) hb); (try clear hb); (try clear ho0)) | ((with_reducible refine af_ (f := 6) rfl ?_); refine aJ_ (some 26) rfl rfl Tryz.func6 (by kernel_rfl) rfl #[.slice A0 l0.length c0] rfl (by first | rfl | (simp only [lma_, lmc_, lmn_]; first | done | rfl)) ?_; (with_reducible refine (aX_.calls k _ _ l0 t109 _ ?side1 ?side2 A8.out).mono ?_); (case side1 => exact cz (Kd.bU_ HR0.out HB.out)); (case side2 => exact HC0.out); rintro e w14 ⟨v110, rfl, ho0, hb⟩; refine ⟨_, rfl, ?_⟩; replace HO108 := Aside0.mk (Kd.bO_ (sz HO108.out) hb); have HO111 := Aside0.mk (Kd.bz_ (Kd.bP_ ho0 (Kd.R_lt (rz HO104.out))) (ad_ (bz HB.out))); replace HO104 := Aside0.mk (Kd.bi_ (rz HO104.out) (Kd.bI_ ho0) hb); replace HB := Aside0.mk (ac_ (bz HB.out) hb); (try clear hb); (try clear ho0); obtain ⟨Ao15, co15, eo15⟩ := Kd.bv_ HO111.out; subst eo15) | ((with_reducible refine af_ (f := 7) rfl ?_); refine aJ_ (some 29) rfl rfl Tryz.func7 (by kernel_rfl) rfl #[.slice Ao15 t109.length co15] rfl (by first | rfl | (simp only [lma_, lmc_, lmn_]; first | done | rfl)) ?_; (with_reducible refine (aB_.calls k _ _ t109 t112 t113 _ ?side1 ?side2 ?side3 A9.out).mono ?_); (case side1 => exact cz (Kd.av_ HO111.out).2.2); (case side2 => exact (Kd.av_ HO111.out).2.1); (case side3 => exact bc_ HTab_.out (bz HB.out)); rintro e w16 ⟨v114, rfl, ho0, hb⟩; refine ⟨_, rfl, ?_⟩; obtain ⟨BxHO115, hBxHO115⟩ := RPW.ivB hb; replace HO104 := Aside0.mk (Kd.aV_ (rz HO104.out) hb); replace HO111 := Aside0.mk (Kd.aV_ (rz HO111.out) hb); have HO115 := Aside0.mk (Kd.S_lower (Kd.bY_ (ok' := fun k_ => (BxHO115 ≤ k_) ∧ some k_ ≠ (v107 : Value).ownBlock) (Kd.S_bound ho0) (fun k_ hk_ => ⟨(by have h1_ := hk_.2.1; omega), (Kd.fresh' (Kd.S_lt (sz HO108.out)) k_ hk_.2.1)⟩)) (ad_ (bz HB.out))); replace HO108 := Aside0.mk (Kd.bY_ (ok' := fun k_ => (BxHO108 ≤ k_ ∧ k_ < BxHO115) ∧ some k_ ≠ (v114 : Value).ownBlock) (Kd.S_old (HO108.out) hb) (fun k_ hk_ => ⟨(by have h1_ := hk_.1; have h2_ := hk_.2; omega), fun e_ => Nat.not_le.2 hk_.2 (Kd.S_base ho0 k_ e_.symm)⟩)); replace HB := Aside0.mk (ac_ (bz HB.out) hb); (try clear hb); (try clear ho0)))
  (try simp only [Act.put, lsa_, ls0_, ls1_])
  go_cut [40] (fun v40 wc => ∃ (kq : Nat) (x40_9 : Bool), v40 = .bool x40_9 ∧ Aside0 (ae_.j0 kq l0 t105 t106 t109 t112 t113 x40_9 = some r) ∧ Aside0 (kq ≤ k) ∧ Aside0 (Kd.S k43 43 wc w.heap.size (fun k_ => (BxHO108 ≤ k_ ∧ k_ < BxHO115) ∧ some k_ ≠ (v114 : Value).ownBlock) v107 t105) ∧ Aside0 (Kd.R k38 38 wc w.heap.size (fun _ => True) (.slice Ao15 t109.length co15) t109) ∧ Aside0 (Kd.S k43 43 wc w.heap.size (fun k_ => (BxHO115 ≤ k_) ∧ some k_ ≠ (v107 : Value).ownBlock) v114 t112) ∧ Aside0 (Below w.heap.size w wc))
  case first =>
   have H := HC10.out
   clear HC10
   replace H := Option.bind_eq_some_iff.mp H
   obtain ⟨t116, A170, H⟩ := H
   (try dsimp only at H)
   have A17 := Aside0.mk A170
   clear A170
   by_cases c18 : t116 = true
   rotate_left
   ·replace c18 := Bool.eq_false_iff.mpr c18
    subst c18
    have H1 : (ae_.j0 k l0 t105 t106 t109 t112 t113 true) = some r := by rw [if_neg (show ¬ (false = true) by decide)] at H; exact H
    clear H
    have H := H1
    clear H1
    have H' := Aside0.mk H
    clear H
    obtain ⟨Ao22, co22, eo22⟩ := Kd.cA_ HO115.out
    subst eo22
    obtain ⟨Ao23, co23, eo23⟩ := Kd.cA_ HO108.out
    subst eo23
    go_wp2_with (first | ((with_reducible refine af_ (f := 8) rfl ?_); refine aJ_ (some 34) rfl rfl Tryz.func8 (by kernel_rfl) rfl #[.slice Ao22 t112.length co22, .slice Ao23 t105.length co23] rfl (by first | rfl | (simp only [lma_, lmc_, lmn_]; first | done | rfl)) ?_; (with_reducible refine (aQ_.calls k _ _ t112 _ _ t105 false _ ?side1 ?side2 ?side3 ?side4 A17.out).mono ?_); (case side1 => exact cz (Kd.bG_ HO115.out).2.2); (case side2 => exact (Kd.bG_ HO115.out).2.1); (case side3 => exact cz (Kd.bG_ HO108.out).2.2); (case side4 => exact (Kd.bG_ HO108.out).2.1); rintro e w24 ⟨rfl, hb⟩; refine ⟨_, rfl, ?_⟩; replace HO104 := Aside0.mk (Kd.aV_ (rz HO104.out) hb); replace HO108 := Aside0.mk (Kd.bO_ (sz HO108.out) hb); replace HO111 := Aside0.mk (Kd.aV_ (rz HO111.out) hb); replace HO115 := Aside0.mk (Kd.bO_ (sz HO115.out) hb); replace HB := Aside0.mk (ac_ (bz HB.out) hb); (try clear hb)))
    go_meet
    case rel => exact ⟨_, (true), (by first | rfl | (simp; done) | (simp [*]; done)), H', ⟨by first | omega | exact Nat.le_refl _⟩, ⟨sz (Kd.bY_ HO108.out (fun _ hk => ⟨(by have h_ := hk.1; omega), hk.2⟩))⟩, ⟨rz (Kd.bg_ HO111.out (fun _ hk => trivial))⟩, ⟨sz (Kd.bY_ HO115.out (fun _ hk => ⟨(by have h_ := hk.1; omega), hk.2⟩))⟩, ⟨bz HB.out⟩⟩
   subst c18
   have H1 : (ae_.j0 k l0 t105 t106 t109 t112 t113 (t113 != t106)) = some r := by rw [if_pos rfl] at H; exact H
   clear H
   have H := H1
   clear H1
   have H' := Aside0.mk H
   clear H
   obtain ⟨Ao19, co19, eo19⟩ := Kd.cA_ HO115.out
   subst eo19
   obtain ⟨Ao20, co20, eo20⟩ := Kd.cA_ HO108.out
   subst eo20
   go_wp2_with (first | ((with_reducible refine af_ (f := 8) rfl ?_); refine aJ_ (some 34) rfl rfl Tryz.func8 (by kernel_rfl) rfl #[.slice Ao19 t112.length co19, .slice Ao20 t105.length co20] rfl (by first | rfl | (simp only [lma_, lmc_, lmn_]; first | done | rfl)) ?_; (with_reducible refine (aQ_.calls k _ _ t112 _ _ t105 true _ ?side1 ?side2 ?side3 ?side4 A17.out).mono ?_); (case side1 => exact cz (Kd.bG_ HO115.out).2.2); (case side2 => exact (Kd.bG_ HO115.out).2.1); (case side3 => exact cz (Kd.bG_ HO108.out).2.2); (case side4 => exact (Kd.bG_ HO108.out).2.1); rintro e w21 ⟨rfl, hb⟩; refine ⟨_, rfl, ?_⟩; replace HO104 := Aside0.mk (Kd.aV_ (rz HO104.out) hb); replace HO108 := Aside0.mk (Kd.bO_ (sz HO108.out) hb); replace HO111 := Aside0.mk (Kd.aV_ (rz HO111.out) hb); replace HO115 := Aside0.mk (Kd.bO_ (sz HO115.out) hb); replace HB := Aside0.mk (ac_ (bz HB.out) hb); (try clear hb)))
   go_meet
   case rel => exact ⟨_, ((t113 != t106)), (by first | rfl | (simp; done) | (simp [*]; done)), H', ⟨by first | omega | exact Nat.le_refl _⟩, ⟨sz (Kd.bY_ HO108.out (fun _ hk => ⟨(by have h_ := hk.1; omega), hk.2⟩))⟩, ⟨rz (Kd.bg_ HO111.out (fun _ hk => trivial))⟩, ⟨sz (Kd.bY_ HO115.out (fun _ hk => ⟨(by have h_ := hk.1; omega), hk.2⟩))⟩, ⟨bz HB.out⟩⟩
  case rest =>
   clear HC10
   obtain ⟨kq, x40_9, rfl, HA, HJ9, HO_4, HO_6, HO_7, HB⟩ := hcut
   cases kq with
   | zero => exact absurd HA.out (by simp [ae_.j0])
   | succ kj9 =>
    have H := HA.out
    clear HA
    simp only [ae_.j0] at H
    by_cases c25 : x40_9 = true
    rotate_left
    ·replace c25 := Bool.eq_false_iff.mpr c25
     subst c25
     have H1 : ((aX_.f kj9 l0).bind fun t117 => ((aZ_.f kj9 t109 t117).bind fun t120 => (if t120 = true then ((bb_.f kj9 t109 1).bind fun bt121 => (if bt121.1 < 0 then (ae_.j1 kj9 l0 t105 t106 t112 true) else ((aQ_.f kj9 t112 t105).bind fun t123 => (if t123 = true then (ae_.j1 kj9 l0 t105 t106 t112 (t113 != t106)) else (ae_.j1 kj9 l0 t105 t106 t112 true))))) else (some false)))) = some r := by rw [if_neg (show ¬ (false = true) by decide)] at H; exact H
     clear H
     have H := H1
     clear H1
     replace H := Option.bind_eq_some_iff.mp H
     obtain ⟨t117, A260, H⟩ := H
     (try dsimp only at H)
     have A26 := Aside0.mk A260
     clear A260
     replace H := Option.bind_eq_some_iff.mp H
     obtain ⟨t120, A270, H⟩ := H
     (try dsimp only at H)
     have A27 := Aside0.mk A270
     clear A270
     have HC28 := Aside0.mk H
     clear H
     go_upto_if 45 with (first | ((with_reducible refine af_ (f := 6) rfl ?_); refine aJ_ (some 43) rfl rfl Tryz.func6 (by kernel_rfl) rfl #[.slice A0 l0.length c0] rfl (by first | rfl | (simp only [lma_, lmc_, lmn_]; first | done | rfl)) ?_; (with_reducible refine (aX_.calls kj9 _ _ l0 t117 _ ?side1 ?side2 A26.out).mono ?_); (case side1 => exact cz (Kd.bU_ HR0.out HB.out)); (case side2 => exact HC0.out); rintro e w29 ⟨v118, rfl, ho0, hb⟩; refine ⟨_, rfl, ?_⟩; replace HO_4 := Aside0.mk (Kd.bO_ (sz HO_4.out) hb); replace HO_7 := Aside0.mk (Kd.bO_ (sz HO_7.out) hb); have HO119 := Aside0.mk (Kd.bz_ (Kd.bP_ ho0 (Kd.R_lt (rz HO_6.out))) (ad_ (bz HB.out))); replace HO_6 := Aside0.mk (Kd.bi_ (rz HO_6.out) (Kd.bI_ ho0) hb); replace HB := Aside0.mk (ac_ (bz HB.out) hb); (try clear hb); (try clear ho0); obtain ⟨Ao30, co30, eo30⟩ := Kd.bv_ HO119.out; subst eo30) | ((with_reducible refine af_ (f := 9) rfl ?_); refine aJ_ (some 44) rfl rfl Tryz.func9 (by kernel_rfl) rfl #[.slice Ao15 t109.length co15, .slice Ao30 t117.length co30] rfl (by first | rfl | (simp only [lma_, lmc_, lmn_]; first | done | rfl)) ?_; (with_reducible refine (aZ_.calls kj9 _ _ t109 _ _ t117 t120 _ ?side1 ?side2 ?side3 ?side4 A27.out).mono ?_); (case side1 => exact cz (Kd.av_ HO_6.out).2.2); (case side2 => exact (Kd.av_ HO_6.out).2.1); (case side3 => exact cz (Kd.av_ HO119.out).2.2); (case side4 => exact (Kd.av_ HO119.out).2.1); rintro e w31 ⟨rfl, hb⟩; refine ⟨_, rfl, ?_⟩; replace HO_4 := Aside0.mk (Kd.bO_ (sz HO_4.out) hb); replace HO_6 := Aside0.mk (Kd.aV_ (rz HO_6.out) hb); replace HO_7 := Aside0.mk (Kd.bO_ (sz HO_7.out) hb); replace HO119 := Aside0.mk (Kd.aV_ (rz HO119.out) hb); replace HB := Aside0.mk (ac_ (bz HB.out) hb); (try clear hb)))
     (try simp only [Act.put, lsa_, ls0_, ls1_])
     have H := HC28.out
     clear HC28
     by_cases c32 : t120 = true
     rotate_left
     ·replace c32 := Bool.eq_false_iff.mpr c32
      subst c32
      have H1 : (some false) = some r := by rw [if_neg (show ¬ (false = true) by decide)] at H; exact H
      clear H
      have H := H1
      clear H1
      obtain rfl := Option.some.inj H
      go_wp2
      go_ret
      exact ⟨by first | rfl | (simp [*, ai_, ah_] <;> rfl), bz HB.out⟩
     subst c32
     have H1 : ((bb_.f kj9 t109 1).bind fun bt121 => (if bt121.1 < 0 then (ae_.j1 kj9 l0 t105 t106 t112 true) else ((aQ_.f kj9 t112 t105).bind fun t123 => (if t123 = true then (ae_.j1 kj9 l0 t105 t106 t112 (t113 != t106)) else (ae_.j1 kj9 l0 t105 t106 t112 true))))) = some r := by rw [if_pos rfl] at H; exact H
     clear H
     have H := H1
     clear H1
     replace H := Option.bind_eq_some_iff.mp H
     obtain ⟨⟨t121, t122⟩, A330, H⟩ := H
     (try dsimp only at H)
     have A33 := Aside0.mk A330
     clear A330
     have HC34 := Aside0.mk H
     clear H
     go_upto_region 14 with (first | ((with_reducible refine af_ (f := 10) rfl ?_); refine aJ_ (some 48) rfl rfl Tryz.func10 (by kernel_rfl) rfl #[.slice Ao15 t109.length co15, .int .i64 1] rfl (by first | rfl | (simp only [lma_, lmc_, lmn_]; first | done | rfl)) ?_; (with_reducible refine (bb_.calls kj9 (fun k_ => some k_ = (.slice Ao15 t109.length co15 : Value).ownBlock) (.slice Ao15 t109.length co15) t109 1 t121 t122 w _ ?side1 ?side2 A33.out).mono ?_); (case side1 => exact bz HB.out); (case side2 => exact Kd.R_tight rfl HO_6.out); rintro e w35 ⟨rfl, hy0, hb, hkp⟩; refine ⟨_, rfl, ?_⟩; replace HO_4 := Aside0.mk (Kd.bY_ (ok' := fun k_ => (BxHO108 ≤ k_ ∧ k_ < BxHO115) ∧ some k_ ≠ (v114 : Value).ownBlock) (Kd.S_keptB ((Kd.S_apart' HO_4.out (Kd.R_typed HO_6.out) (by decide))) hkp (fun k_ hk_ hs_ => (hk_.2) hs_)) (fun k_ hk_ => ⟨(by have h_ := hk_.1.1.1; omega), hk_.1.1.2⟩)); replace HO_7 := Aside0.mk (Kd.bY_ (ok' := fun k_ => (BxHO115 ≤ k_) ∧ some k_ ≠ (v107 : Value).ownBlock) (Kd.S_keptB ((Kd.S_apart' HO_7.out (Kd.R_typed HO_6.out) (by decide))) hkp (fun k_ hk_ hs_ => (hk_.2) hs_)) (fun k_ hk_ => ⟨(by have h_ := hk_.1.1.1; omega), hk_.1.1.2⟩)); replace HO_6 := Aside0.mk (Kd.R_reok rfl hy0 (fun k_ e_ => HO_6.out.1 k_ e_)); replace HO119 := Aside0.mk (Kd.bg_ (ok' := fun k_ => some k_ ≠ (.slice Ao15 t109.length co15 : Value).ownBlock) (Kd.R_keptB (HO119.out) hkp (fun k_ hk_ hs_ => (hk_.2) hs_)) (fun k_ hk_ => hk_.1.2)); replace HB := Aside0.mk (hb); (try clear hb); (try clear hkp); (try clear hy0)))
     (try simp only [Act.put, lsa_, ls0_, ls1_])
     go_cut [61] (fun v61 wc => ∃ (kq : Nat) (x61_33 : Bool), v61 = .bool x61_33 ∧ Aside0 (ae_.j1 kq l0 t105 t106 t112 x61_33 = some r) ∧ Aside0 (kq ≤ kj9) ∧ Aside0 (Kd.S k43 43 wc w.heap.size (fun k_ => (BxHO108 ≤ k_ ∧ k_ < BxHO115) ∧ some k_ ≠ (v114 : Value).ownBlock) v107 t105) ∧ Aside0 (Kd.S k43 43 wc w.heap.size (fun k_ => (BxHO115 ≤ k_) ∧ some k_ ≠ (v107 : Value).ownBlock) v114 t112) ∧ Aside0 (Below w.heap.size w wc))
     case first =>
      have H := HC34.out
      clear HC34
      by_cases c36 : t121 < 0
      rotate_left
      ·rw [if_neg c36] at H
       have c36b0 : decide (t121 < 0) = false := decide_eq_false c36
       clear c36
       (first | rw [c36b0] | (simp only [i64_w, i32_w]; rw [c36b0]) | (simp only [c36b1, Bool.not_true, Bool.not_false]) | (simp only [c36b0, Bool.not_true, Bool.not_false]) | skip)
       replace H := Option.bind_eq_some_iff.mp H
       obtain ⟨t123, A370, H⟩ := H
       (try dsimp only at H)
       have A37 := Aside0.mk A370
       clear A370
       by_cases c38 : t123 = true
       rotate_left
       ·replace c38 := Bool.eq_false_iff.mpr c38
        subst c38
        have H1 : (ae_.j1 kj9 l0 t105 t106 t112 true) = some r := by rw [if_neg (show ¬ (false = true) by decide)] at H; exact H
        clear H
        have H := H1
        clear H1
        have H' := Aside0.mk H
        clear H
        obtain ⟨Ao42, co42, eo42⟩ := Kd.cA_ HO_7.out
        subst eo42
        obtain ⟨Ao43, co43, eo43⟩ := Kd.cA_ HO_4.out
        subst eo43
        go_wp2_with (first | (go_at_call 8; (with_reducible refine (aQ_.calls kj9 _ _ t112 _ _ t105 false _ ?side1 ?side2 ?side3 ?side4 A37.out).mono ?_); (case side1 => exact cz (Kd.bG_ HO_7.out).2.2); (case side2 => exact (Kd.bG_ HO_7.out).2.1); (case side3 => exact cz (Kd.bG_ HO_4.out).2.2); (case side4 => exact (Kd.bG_ HO_4.out).2.1); rintro e w44 ⟨rfl, hb⟩; replace HO_4 := Aside0.mk (Kd.bO_ (sz HO_4.out) hb); replace HO_6 := Aside0.mk (Kd.aV_ (rz HO_6.out) hb); replace HO_7 := Aside0.mk (Kd.bO_ (sz HO_7.out) hb); replace HO119 := Aside0.mk (Kd.aV_ (rz HO119.out) hb); replace HB := Aside0.mk (ac_ (bz HB.out) hb); (try clear hb)))
        go_meet
        case rel => exact ⟨_, (true), (by first | rfl | (simp; done) | (simp [*]; done)), H', ⟨by have := HJ9.out; first | omega | exact Nat.le_refl _⟩, ⟨sz (Kd.bY_ HO_4.out (fun _ hk => ⟨(by have h_ := hk.1; omega), hk.2⟩))⟩, ⟨sz (Kd.bY_ HO_7.out (fun _ hk => ⟨(by have h_ := hk.1; omega), hk.2⟩))⟩, ⟨bz HB.out⟩⟩
       subst c38
       have H1 : (ae_.j1 kj9 l0 t105 t106 t112 (t113 != t106)) = some r := by rw [if_pos rfl] at H; exact H
       clear H
       have H := H1
       clear H1
       have H' := Aside0.mk H
       clear H
       obtain ⟨Ao39, co39, eo39⟩ := Kd.cA_ HO_7.out
       subst eo39
       obtain ⟨Ao40, co40, eo40⟩ := Kd.cA_ HO_4.out
       subst eo40
       go_wp2_with (first | (go_at_call 8; (with_reducible refine (aQ_.calls kj9 _ _ t112 _ _ t105 true _ ?side1 ?side2 ?side3 ?side4 A37.out).mono ?_); (case side1 => exact cz (Kd.bG_ HO_7.out).2.2); (case side2 => exact (Kd.bG_ HO_7.out).2.1); (case side3 => exact cz (Kd.bG_ HO_4.out).2.2); (case side4 => exact (Kd.bG_ HO_4.out).2.1); rintro e w41 ⟨rfl, hb⟩; replace HO_4 := Aside0.mk (Kd.bO_ (sz HO_4.out) hb); replace HO_6 := Aside0.mk (Kd.aV_ (rz HO_6.out) hb); replace HO_7 := Aside0.mk (Kd.bO_ (sz HO_7.out) hb); replace HO119 := Aside0.mk (Kd.aV_ (rz HO119.out) hb); replace HB := Aside0.mk (ac_ (bz HB.out) hb); (try clear hb)))
       go_meet
       case rel => exact ⟨_, ((t113 != t106)), (by first | rfl | (simp; done) | (simp [*]; done)), H', ⟨by have := HJ9.out; first | omega | exact Nat.le_refl _⟩, ⟨sz (Kd.bY_ HO_4.out (fun _ hk => ⟨(by have h_ := hk.1; omega), hk.2⟩))⟩, ⟨sz (Kd.bY_ HO_7.out (fun _ hk => ⟨(by have h_ := hk.1; omega), hk.2⟩))⟩, ⟨bz HB.out⟩⟩
      rw [if_pos c36] at H
      have c36b0 : decide (t121 < 0) = true := decide_eq_true c36
      clear c36
      (first | rw [c36b0] | (simp only [i64_w, i32_w]; rw [c36b0]) | (simp only [c36b1, Bool.not_true, Bool.not_false]) | (simp only [c36b0, Bool.not_true, Bool.not_false]) | skip)
      have H' := Aside0.mk H
      clear H
      go_wp2
      go_meet
      case rel => exact ⟨_, (true), (by first | rfl | (simp; done) | (simp [*]; done)), H', ⟨by have := HJ9.out; first | omega | exact Nat.le_refl _⟩, ⟨sz (Kd.bY_ HO_4.out (fun _ hk => ⟨(by have h_ := hk.1; omega), hk.2⟩))⟩, ⟨sz (Kd.bY_ HO_7.out (fun _ hk => ⟨(by have h_ := hk.1; omega), hk.2⟩))⟩, ⟨bz HB.out⟩⟩
     case rest =>
      clear HC34
      obtain ⟨kq, x61_33, rfl, HA, HJ33, HO_4, HO_7, HB⟩ := hcut
      cases kq with
      | zero => exact absurd HA.out (by simp [ae_.j1])
      | succ kj33 =>
       have H := HA.out
       clear HA
       simp only [ae_.j1] at H
       by_cases c45 : x61_33 = true
       rotate_left
       ·replace c45 := Bool.eq_false_iff.mpr c45
        subst c45
        have H1 : ((aw_.f kj33 t112 1).bind fun bt124 => ((ay_.f kj33 bt124.2 1).bind fun t126 => (if t126 < 0 then (some false) else (if t126 = bt124.1 then ((aX_.f kj33 l0).bind fun t127 => ((aB_.f kj33 t127).bind fun bt130 => ((aQ_.f kj33 bt130.1 t105).bind fun t134 => (if t134 = true then (ae_.j2 kj33 bt124.2 bt124.1 (bt130.2 != t106)) else (ae_.j2 kj33 bt124.2 bt124.1 true))))) else (some false))))) = some r := by rw [if_neg (show ¬ (false = true) by decide)] at H; exact H
        clear H
        have H := H1
        clear H1
        replace H := Option.bind_eq_some_iff.mp H
        obtain ⟨⟨t124, t125⟩, A460, H⟩ := H
        (try dsimp only at H)
        have A46 := Aside0.mk A460
        clear A460
        replace H := Option.bind_eq_some_iff.mp H
        obtain ⟨t126, A470, H⟩ := H
        (try dsimp only at H)
        have A47 := Aside0.mk A470
        clear A470
        have HC48 := Aside0.mk H
        clear H
        obtain ⟨Ao49, co49, eo49⟩ := Kd.cA_ HO_7.out
        subst eo49
        go_upto_if 69 with (first | ((with_reducible refine af_ (f := 11) rfl ?_); refine aJ_ (some 64) rfl rfl Tryz.func11 (by kernel_rfl) rfl #[.slice Ao49 t112.length co49, .int .i64 1] rfl (by first | rfl | (simp only [lma_, lmc_, lmn_]; first | done | rfl)) ?_; (with_reducible refine (aw_.calls kj33 ?PPA46 (.slice Ao49 t112.length co49) t112 1 t124 t125 w _ ?side1 ?side2 A46.out).mono ?_); (case side1 => exact bz HB.out); (case side2 => exact Kd.S_bound HO_7.out); rintro e w50 ⟨rfl, hy0, hb, hkp⟩; refine ⟨_, rfl, ?_⟩; replace HO_4 := Aside0.mk (Kd.bY_ (ok' := fun k_ => (BxHO108 ≤ k_ ∧ k_ < BxHO115) ∧ some k_ ≠ (.slice Ao49 t112.length co49 : Value).ownBlock) (Kd.S_keptB ((Kd.bY_ HO_4.out (fun k_ hk_ => (⟨hk_, fun hs_ => RPW.ivf_ (And.left hs_) (fun h2_ => by have h1_ := hk_.1; have h3_ := h2_.1; omega)⟩ : _ ∧ ¬ (_ ∧ _))))) hkp (fun k_ hk_ hs_ => (hk_.2) hs_)) (fun k_ hk_ => ⟨(by have h_ := hk_.1.1.1; omega), hk_.1.1.2⟩)); replace HO_7 := Aside0.mk ((Kd.bY_ hy0 (fun _ h_ => h_.1))); replace HB := Aside0.mk (hb); (try clear hb); (try clear hkp); (try clear hy0)) | ((with_reducible refine af_ (f := 12) rfl ?_); refine aJ_ (some 67) rfl rfl Tryz.func12 (by kernel_rfl) rfl #[.slice Ao49 t125.length co49, .int .i64 1] rfl (by (try simp only [List.map_toArray, List.map_cons, List.map_nil]); first | done | (rw [show t125.length = t112.length from (Kd.bG_ HO_7.out).1.symm] <;> rfl) | rfl | (simp only [List.length_drop, List.length_take]; rfl)) ?_; (with_reducible refine (ay_.calls kj33 _ _ t125 1 t126 _ ?side1 ?side2 A47.out).mono ?_); (case side1 => exact cz (Kd.bG_ HO_7.out).2.2); (case side2 => rw [show t125.length = t112.length from (Kd.bG_ HO_7.out).1.symm]; exact (Kd.bG_ HO_7.out).2.1); rintro e w51 ⟨rfl, hb⟩; refine ⟨_, rfl, ?_⟩; replace HO_4 := Aside0.mk (Kd.bO_ (sz HO_4.out) hb); replace HO_7 := Aside0.mk (Kd.bO_ (sz HO_7.out) hb); replace HB := Aside0.mk (ac_ (bz HB.out) hb); (try clear hb)))
        (try simp only [Act.put, lsa_, ls0_, ls1_])
        have H := HC48.out
        clear HC48
        by_cases c52 : t126 < 0
        rotate_left
        ·rw [if_neg c52] at H
         have c52b0 : decide (t126 < 0) = false := decide_eq_false c52
         clear c52
         (first | rw [c52b0] | (simp only [i64_w, i32_w]; rw [c52b0]) | (simp only [c52b1, Bool.not_true, Bool.not_false]) | (simp only [c52b0, Bool.not_true, Bool.not_false]) | skip)
         by_cases c53 : t126 = t124
         rotate_left
         ·rw [if_neg c53] at H
          have c53b0 : (t126 == t124) = false := beq_eq_false_iff_ne.mpr c53
          have c53b1 : (t126 != t124) = true := bne_iff_ne.mpr c53
          obtain rfl := Option.some.inj H
          go_wp2
          go_ret
          exact ⟨by first | rfl | (simp [*, ai_, ah_] <;> rfl), bz HB.out⟩
         rw [if_pos c53] at H
         have c53b0 : (t126 == t124) = true := beq_iff_eq.mpr c53
         have c53b1 : (t126 != t124) = false := bne_eq_false_iff_eq.mpr c53
         clear c53
         replace H := Option.bind_eq_some_iff.mp H
         obtain ⟨t127, A540, H⟩ := H
         (try dsimp only at H)
         have A54 := Aside0.mk A540
         clear A540
         replace H := Option.bind_eq_some_iff.mp H
         obtain ⟨⟨t130, t131⟩, A550, H⟩ := H
         (try dsimp only at H)
         have A55 := Aside0.mk A550
         clear A550
         have HC56 := Aside0.mk H
         clear H
         go_upto_region 25 with (first | ((with_reducible refine af_ (f := 6) rfl ?_); refine aJ_ (some 75) rfl rfl Tryz.func6 (by kernel_rfl) rfl #[.slice A0 l0.length c0] rfl (by first | rfl | (simp only [lma_, lmc_, lmn_]; first | done | rfl)) ?_; (with_reducible refine (aX_.calls kj33 _ _ l0 t127 _ ?side1 ?side2 A54.out).mono ?_); (case side1 => exact cz (Kd.bU_ HR0.out HB.out)); (case side2 => exact HC0.out); rintro e w57 ⟨v128, rfl, ho0, hb⟩; refine ⟨_, rfl, ?_⟩; replace HO_4 := Aside0.mk (Kd.bO_ (sz HO_4.out) hb); replace HO_7 := Aside0.mk (Kd.bO_ (sz HO_7.out) hb); have HO129 := Aside0.mk (Kd.bz_ ho0 (ad_ (bz HB.out))); replace HB := Aside0.mk (ac_ (bz HB.out) hb); (try clear hb); (try clear ho0); obtain ⟨Ao58, co58, eo58⟩ := Kd.bv_ HO129.out; subst eo58) | ((with_reducible refine af_ (f := 7) rfl ?_); refine aJ_ (some 76) rfl rfl Tryz.func7 (by kernel_rfl) rfl #[.slice Ao58 t127.length co58] rfl (by first | rfl | (simp only [lma_, lmc_, lmn_]; first | done | rfl)) ?_; (with_reducible refine (aB_.calls kj33 _ _ t127 t130 t131 _ ?side1 ?side2 ?side3 A55.out).mono ?_); (case side1 => exact cz (Kd.av_ HO129.out).2.2); (case side2 => exact (Kd.av_ HO129.out).2.1); (case side3 => exact bc_ HTab_.out (bz HB.out)); rintro e w59 ⟨v132, rfl, ho0, hb⟩; refine ⟨_, rfl, ?_⟩; obtain ⟨BxHO133, hBxHO133⟩ := RPW.ivB hb; replace HO129 := Aside0.mk (Kd.aV_ (rz HO129.out) hb); have HO133 := Aside0.mk (Kd.S_lower (Kd.bY_ (ok' := fun k_ => (BxHO133 ≤ k_) ∧ some k_ ≠ (v107 : Value).ownBlock ∧ some k_ ≠ (.slice Ao49 t112.length co49 : Value).ownBlock) (Kd.S_bound ho0) (fun k_ hk_ => ⟨(by have h1_ := hk_.2.1; omega), (Kd.fresh' (Kd.S_lt (sz HO_4.out)) k_ hk_.2.1), (Kd.fresh' (Kd.S_lt (sz HO_7.out)) k_ hk_.2.1)⟩)) (ad_ (bz HB.out))); replace HO_4 := Aside0.mk (Kd.bY_ (ok' := fun k_ => (BxHO108 ≤ k_ ∧ k_ < BxHO115 ∧ k_ < BxHO133) ∧ some k_ ≠ (.slice Ao49 t112.length co49 : Value).ownBlock ∧ some k_ ≠ (v132 : Value).ownBlock) (Kd.S_old (HO_4.out) hb) (fun k_ hk_ => ⟨(by have h1_ := hk_.1.1; have h2_ := hk_.2; omega), hk_.1.2, fun e_ => Nat.not_le.2 hk_.2 (Kd.S_base ho0 k_ e_.symm)⟩)); replace HO_7 := Aside0.mk (Kd.bY_ (ok' := fun k_ => (BxHO115 ≤ k_ ∧ k_ < BxHO133) ∧ some k_ ≠ (v107 : Value).ownBlock ∧ some k_ ≠ (v132 : Value).ownBlock) (Kd.S_old (HO_7.out) hb) (fun k_ hk_ => ⟨(by have h1_ := hk_.1.1; have h2_ := hk_.2; omega), hk_.1.2, fun e_ => Nat.not_le.2 hk_.2 (Kd.S_base ho0 k_ e_.symm)⟩)); replace HB := Aside0.mk (ac_ (bz HB.out) hb); (try clear hb); (try clear ho0)))
         (try simp only [Act.put, lsa_, ls0_, ls1_])
         go_cut [87] (fun v87 wc => ∃ (kq : Nat) (x87_55 : Bool), v87 = .bool x87_55 ∧ Aside0 (ae_.j2 kq t125 t124 x87_55 = some r) ∧ Aside0 (kq ≤ kj33) ∧ Aside0 (Kd.S k43 43 wc w.heap.size (fun k_ => (BxHO115 ≤ k_ ∧ k_ < BxHO133)) (.slice Ao49 t112.length co49) t125) ∧ Aside0 (Below w.heap.size w wc))
         case first =>
          have H := HC56.out
          clear HC56
          replace H := Option.bind_eq_some_iff.mp H
          obtain ⟨t134, A600, H⟩ := H
          (try dsimp only at H)
          have A60 := Aside0.mk A600
          clear A600
          by_cases c61 : t134 = true
          rotate_left
          ·replace c61 := Bool.eq_false_iff.mpr c61
           subst c61
           have H1 : (ae_.j2 kj33 t125 t124 true) = some r := by rw [if_neg (show ¬ (false = true) by decide)] at H; exact H
           clear H
           have H := H1
           clear H1
           have H' := Aside0.mk H
           clear H
           obtain ⟨Ao65, co65, eo65⟩ := Kd.cA_ HO133.out
           subst eo65
           obtain ⟨Ao66, co66, eo66⟩ := Kd.cA_ HO_4.out
           subst eo66
           go_wp2_with (first | ((with_reducible refine af_ (f := 8) rfl ?_); refine aJ_ (some 81) rfl rfl Tryz.func8 (by kernel_rfl) rfl #[.slice Ao65 t130.length co65, .slice Ao66 t105.length co66] rfl (by first | rfl | (simp only [lma_, lmc_, lmn_]; first | done | rfl)) ?_; (with_reducible refine (aQ_.calls kj33 _ _ t130 _ _ t105 false _ ?side1 ?side2 ?side3 ?side4 A60.out).mono ?_); (case side1 => exact cz (Kd.bG_ HO133.out).2.2); (case side2 => exact (Kd.bG_ HO133.out).2.1); (case side3 => exact cz (Kd.bG_ HO_4.out).2.2); (case side4 => exact (Kd.bG_ HO_4.out).2.1); rintro e w67 ⟨rfl, hb⟩; refine ⟨_, rfl, ?_⟩; replace HO_4 := Aside0.mk (Kd.bO_ (sz HO_4.out) hb); replace HO_7 := Aside0.mk (Kd.bO_ (sz HO_7.out) hb); replace HO129 := Aside0.mk (Kd.aV_ (rz HO129.out) hb); replace HO133 := Aside0.mk (Kd.bO_ (sz HO133.out) hb); replace HB := Aside0.mk (ac_ (bz HB.out) hb); (try clear hb)))
           go_meet
           case rel => exact ⟨_, (true), (by first | rfl | (simp; done) | (simp [*]; done)), H', ⟨by have := HJ9.out; have := HJ33.out; first | omega | exact Nat.le_refl _⟩, ⟨sz (Kd.bY_ HO_7.out (fun _ hk => (by have h_ := hk.1; omega)))⟩, ⟨bz HB.out⟩⟩
          subst c61
          have H1 : (ae_.j2 kj33 t125 t124 (t131 != t106)) = some r := by rw [if_pos rfl] at H; exact H
          clear H
          have H := H1
          clear H1
          have H' := Aside0.mk H
          clear H
          obtain ⟨Ao62, co62, eo62⟩ := Kd.cA_ HO133.out
          subst eo62
          obtain ⟨Ao63, co63, eo63⟩ := Kd.cA_ HO_4.out
          subst eo63
          go_wp2_with (first | ((with_reducible refine af_ (f := 8) rfl ?_); refine aJ_ (some 81) rfl rfl Tryz.func8 (by kernel_rfl) rfl #[.slice Ao62 t130.length co62, .slice Ao63 t105.length co63] rfl (by first | rfl | (simp only [lma_, lmc_, lmn_]; first | done | rfl)) ?_; (with_reducible refine (aQ_.calls kj33 _ _ t130 _ _ t105 true _ ?side1 ?side2 ?side3 ?side4 A60.out).mono ?_); (case side1 => exact cz (Kd.bG_ HO133.out).2.2); (case side2 => exact (Kd.bG_ HO133.out).2.1); (case side3 => exact cz (Kd.bG_ HO_4.out).2.2); (case side4 => exact (Kd.bG_ HO_4.out).2.1); rintro e w64 ⟨rfl, hb⟩; refine ⟨_, rfl, ?_⟩; replace HO_4 := Aside0.mk (Kd.bO_ (sz HO_4.out) hb); replace HO_7 := Aside0.mk (Kd.bO_ (sz HO_7.out) hb); replace HO129 := Aside0.mk (Kd.aV_ (rz HO129.out) hb); replace HO133 := Aside0.mk (Kd.bO_ (sz HO133.out) hb); replace HB := Aside0.mk (ac_ (bz HB.out) hb); (try clear hb)))
          go_meet
          case rel => exact ⟨_, ((t131 != t106)), (by first | rfl | (simp; done) | (simp [*]; done)), H', ⟨by have := HJ9.out; have := HJ33.out; first | omega | exact Nat.le_refl _⟩, ⟨sz (Kd.bY_ HO_7.out (fun _ hk => (by have h_ := hk.1; omega)))⟩, ⟨bz HB.out⟩⟩
         case rest =>
          clear HC56
          obtain ⟨kq, x87_55, rfl, HA, HJ55, HO_7, HB⟩ := hcut
          have hl7_55 := (Kd.bG_ HO_7.out).1
          rw [hl7_55] at HO_7
          (try simp only [hl7_55])
          cases kq with
          | zero => exact absurd HA.out (by simp [ae_.j2])
          | succ kj55 =>
           have H := HA.out
           clear HA
           simp only [ae_.j2] at H
           by_cases c68 : x87_55 = true
           rotate_left
           ·replace c68 := Bool.eq_false_iff.mpr c68
            subst c68
            have H1 : ((ay_.f kj55 t125 1).bind fun t135 => (if t135 < 0 then (some false) else (if t135 = t124 then (some true) else (some false)))) = some r := by rw [if_neg (show ¬ (false = true) by decide)] at H; exact H
            clear H
            have H := H1
            clear H1
            replace H := Option.bind_eq_some_iff.mp H
            obtain ⟨t135, A690, H⟩ := H
            (try dsimp only at H)
            have A69 := Aside0.mk A690
            clear A690
            have HC70 := Aside0.mk H
            clear H
            go_upto_if 92 with (first | ((with_reducible refine af_ (f := 12) rfl ?_); refine aJ_ (some 90) rfl rfl Tryz.func12 (by kernel_rfl) rfl #[.slice Ao49 t125.length co49, .int .i64 1] rfl (by first | rfl | (simp only [lma_, lmc_, lmn_]; first | done | rfl)) ?_; (with_reducible refine (ay_.calls kj55 _ _ t125 1 t135 _ ?side1 ?side2 A69.out).mono ?_); (case side1 => exact cz (Kd.bG_ HO_7.out).2.2); (case side2 => exact (Kd.bG_ HO_7.out).2.1); rintro e w71 ⟨rfl, hb⟩; refine ⟨_, rfl, ?_⟩; replace HO_7 := Aside0.mk (Kd.bO_ (sz HO_7.out) hb); replace HB := Aside0.mk (ac_ (bz HB.out) hb); (try clear hb)))
            (try simp only [Act.put, lsa_, ls0_, ls1_])
            have H := HC70.out
            clear HC70
            by_cases c72 : t135 < 0
            rotate_left
            ·rw [if_neg c72] at H
             have c72b0 : decide (t135 < 0) = false := decide_eq_false c72
             clear c72
             (first | rw [c72b0] | (simp only [i64_w, i32_w]; rw [c72b0]) | (simp only [c72b1, Bool.not_true, Bool.not_false]) | (simp only [c72b0, Bool.not_true, Bool.not_false]) | skip)
             by_cases c73 : t135 = t124
             rotate_left
             ·rw [if_neg c73] at H
              have c73b0 : (t135 == t124) = false := beq_eq_false_iff_ne.mpr c73
              have c73b1 : (t135 != t124) = true := bne_iff_ne.mpr c73
              obtain rfl := Option.some.inj H
              go_wp2
              go_ret
              exact ⟨by first | rfl | (simp [*, ai_, ah_] <;> rfl), bz HB.out⟩
             rw [if_pos c73] at H
             have c73b0 : (t135 == t124) = true := beq_iff_eq.mpr c73
             have c73b1 : (t135 != t124) = false := bne_eq_false_iff_eq.mpr c73
             clear c73
             obtain rfl := Option.some.inj H
             go_wp2
             go_ret
             exact ⟨by first | rfl | (simp [*, ai_, ah_] <;> rfl), bz HB.out⟩
            rw [if_pos c72] at H
            have c72b0 : decide (t135 < 0) = true := decide_eq_true c72
            clear c72
            (first | rw [c72b0] | (simp only [i64_w, i32_w]; rw [c72b0]) | (simp only [c72b1, Bool.not_true, Bool.not_false]) | (simp only [c72b0, Bool.not_true, Bool.not_false]) | skip)
            obtain rfl := Option.some.inj H
            go_wp2
            go_ret
            exact ⟨by first | rfl | (simp [*, ai_, ah_] <;> rfl), bz HB.out⟩
           subst c68
           have H1 : (some false) = some r := by rw [if_pos rfl] at H; exact H
           clear H
           have H := H1
           clear H1
           obtain rfl := Option.some.inj H
           go_wp2
           go_ret
           exact ⟨by first | rfl | (simp [*, ai_, ah_] <;> rfl), bz HB.out⟩
        rw [if_pos c52] at H
        have c52b0 : decide (t126 < 0) = true := decide_eq_true c52
        clear c52
        (first | rw [c52b0] | (simp only [i64_w, i32_w]; rw [c52b0]) | (simp only [c52b1, Bool.not_true, Bool.not_false]) | (simp only [c52b0, Bool.not_true, Bool.not_false]) | skip)
        obtain rfl := Option.some.inj H
        go_wp2
        go_ret
        exact ⟨by first | rfl | (simp [*, ai_, ah_] <;> rfl), bz HB.out⟩
       subst c45
       have H1 : (some false) = some r := by rw [if_pos rfl] at H; exact H
       clear H
       have H := H1
       clear H1
       obtain rfl := Option.some.inj H
       go_wp2
       go_ret
       exact ⟨by first | rfl | (simp [*, ai_, ah_] <;> rfl), bz HB.out⟩
    subst c25
    have H1 : (some false) = some r := by rw [if_pos rfl] at H; exact H
    clear H
    have H := H1
    clear H1
    obtain rfl := Option.some.inj H
    go_wp2
    go_ret
    exact ⟨by first | rfl | (simp [*, ai_, ah_] <;> rfl), bz HB.out⟩
 rw [if_pos c5] at H
 have c5b0 : decide (t101 < 0) = true := decide_eq_true c5
 clear c5
 (first | rw [c5b0] | (simp only [i64_w, i32_w]; rw [c5b0]) | (simp only [c5b1, Bool.not_true, Bool.not_false]) | (simp only [c5b0, Bool.not_true, Bool.not_false]) | skip)
 obtain rfl := Option.some.inj H
 go_wp2
 go_ret
 exact ⟨by first | rfl | (simp [*, ai_, ah_] <;> rfl), bz HB.out⟩
def ae_.Pure : Prop := ∀ (x0 : List (S36)), (x0.length ≤ maxLen ∧ ∀ y0 ∈ x0, W36 y0) → ∃ k, ae_.f k x0 = some true
end Go.Proofs.YtckboiphlhhckaaGreatDoor.Q
namespace Go.Proofs.YtckboiphlhhckaaGreatDoor.Q
open Go.RowKit Go.Proofs.YtckboiphlhhckaaGreatDoorW.PrintWords Go.Proofs.YtckboiphlhhckaaGreatDoorW.PrintLast Go.Proofs.YtckboiphlhhckaaGreatDoorW.PrintMore
theorem wr64 {x : Int} (h0 : -9223372036854775808 ≤ x) (h1 : x < 9223372036854775808) : wrap64 x = x := by unfold wrap64; omega
theorem wr64s (i : Nat) (h : (i : Int) < 9223372036854775807) : wrap64 ((i : Int) + 1) = ((i + 1 : Nat) : Int) := by rw [wr64 (by omega) (by omega)]; omega
theorem be_ {α : Type} {g : Nat → Option α} {r : α} (h : Ev (fun k => g (k + 1)) r) : Ev g r := by
 obtain ⟨K, hK⟩ := h
 refine ⟨K + 1, fun k hk => ?_⟩
 obtain ⟨m, rfl⟩ : ∃ m, k = m + 1 := ⟨k - 1, by omega⟩
 exact hK m (by omega)
theorem Ev_t {α : Type} {c : Prop} [Decidable c] {f g : Nat → Option α} {r : α} (h : c) (k : Ev f r) : Ev (fun n => if c then f n else g n) r := by
 obtain ⟨K, hK⟩ := k
 exact ⟨K, fun n hn => (if_pos h).trans (hK n hn)⟩
theorem Ev_f {α : Type} {c : Prop} [Decidable c] {f g : Nat → Option α} {r : α} (h : ¬ c) (k : Ev g r) : Ev (fun n => if c then f n else g n) r := by
 obtain ⟨K, hK⟩ := k
 exact ⟨K, fun n hn => (if_neg h).trans (hK n hn)⟩
theorem Ev_b {α β : Type} {g : Nat → Option α} {f : Nat → α → Option β} {a : α} {r : β} (h : Ev g a) (k : Ev (fun n => f n a) r) : Ev (fun n => (g n).bind (fun x => f n x)) r := Ev.bind h k
theorem Ev_s {α β : Type} {a : α} {f : Nat → α → Option β} {r : β} (k : Ev (fun n => f n a) r) : Ev (fun n => (some a).bind (fun x => f n x)) r := k
theorem Ev_n {α : Type} {a r : α} (h : a = r) : Ev (fun _ => some a) r := ⟨0, fun _ _ => by rw [h]⟩
theorem Ev_c {α : Type} {o : Option α} {r : α} (h : o = some r) : Ev (fun _ => o) r := ⟨0, fun _ _ => h⟩
theorem Ev_at {α : Type} {g : Nat → Option α} {r r' : α} (h : Ev g r) (e : r = r') : Ev g r' := e ▸ h
def cut (c s : Int) : Int := if s ≤ c then c - s else -1
theorem cut_pos {c s : Int} (h : s ≤ c) : cut c s = c - s := by unfold cut; rw [if_pos h]
theorem cut_neg {c s : Int} (h : ¬ s ≤ c) : cut c s = -1 := by unfold cut; rw [if_neg h]
theorem set_take' {α : Type} (xs : List α) (i : Nat) (m : α) (h : i < xs.length) : (xs.set i m).take (i + 1) = xs.take i ++ [m] := by
 rw [List.take_succ_eq_append_getElem (by simpa using h)]
 congr 1
 ·rw [List.take_set_of_le (Nat.le_refl _)]
 ·simp
theorem getD_in {α : Type} (l : List α) (z : α) (i : Nat) (h : i < l.length) : l.getD ((i : Int).toNat) z = l[i] := by simp [List.getD, h]
theorem getD_at {α : Type} (p q : List α) (z x : α) (i : Nat) (h : p.length = i) : (p ++ x :: q).getD ((i : Int).toNat) z = x := by subst h; simp [List.getD]
theorem set_at {α : Type} (p q : List α) (x y : α) (i : Nat) (h : p.length = i) : (p ++ x :: q).set ((i : Int).toNat) y = p ++ y :: q := by subst h; simp
theorem sum_le {α : Type} (f : α → Nat) : ∀ (l : List α) (x : α), x ∈ l → f x ≤ (l.map f).sum
 | a :: l, x, h => by
  rw [List.map_cons, List.sum_cons]
  rcases List.mem_cons.1 h with rfl | h
  ·omega
  ·have := sum_le f l x h; omega
theorem cX_ (c : Int) (h0 : 0 ≤ c) (h1 : c ≤ 1000000000000000000) : ∃ t, Ev (fun k => aK_.f k c) t := by
 have go : ∀ (d : Nat) (c : Int) (s : ByteArray), 0 ≤ c → c < 10 ^ d → c ≤ 1000000000000000000 → s.size + d ≤ 1000 → ∃ t, Ev (fun k => aK_.l0 k c s) t := by
  intro d
  induction d with
  | zero =>
   intro c s h0 h1 h2 h3
   refine ⟨(⟨#[109]⟩ : ByteArray) ++ s, be_ ?_⟩
   simp only [aK_.l0]
   refine Ev_f (by simp at h1; omega) (Ev_t (by omega) (Ev_n rfl))
  | succ d ih =>
   intro c s h0 h1 h2 h3
   by_cases hc : c > 0
   rotate_left
   ·refine ⟨(⟨#[109]⟩ : ByteArray) ++ s, be_ ?_⟩
    simp only [aK_.l0]
    refine Ev_f hc (Ev_t (by omega) (Ev_n rfl))
   have e1 : (strOfNums [(wrap64 (48 + Int.tmod c 10)) % 256]).size = 1 := rfl
   have e2 : wrap64 (Int.tdiv c 10) = c / 10 := by rw [Int.tdiv_eq_ediv_of_nonneg h0, wr64 (by omega) (by omega)]
   obtain ⟨t, ht⟩ := ih (c / 10) (strOfNums [(wrap64 (48 + Int.tmod c 10)) % 256] ++ s) (by omega) (by rw [Int.pow_succ] at h1; omega) (by omega) (by rw [ByteArray.size_append, e1]; omega)
   refine ⟨t, be_ ?_⟩
   simp only [aK_.l0]
   refine Ev_t hc (Ev_s (Ev_t (by rw [e1]; omega) ?_))
   rw [e2]
   exact ht
 by_cases hc : c ≤ 0
 rotate_left
 ·obtain ⟨t, ht⟩ := go 19 c (⟨#[]⟩ : ByteArray) h0 (by omega) h1 (by simp [ByteArray.size])
  refine ⟨t, ?_⟩
  simp only [aK_.f]
  exact Ev_f hc ht
 refine ⟨(⟨#[109, 48]⟩ : ByteArray), ?_⟩
 simp only [aK_.f]
 exact Ev_t hc (Ev_n rfl)
theorem rdi_Box (l : List S66) (i : Nat) (h : i < l.length) : al_ l (i : Int) = l[i] := by unfold al_; exact getD_in l _ i h
theorem rda_Box (a b : List S66) (x : S66) (i : Nat) (h : a.length = i) : al_ (a ++ x :: b) (i : Int) = x := by unfold al_; exact getD_at a b _ x i h
def E_Box (x : S66) : Prop := True
theorem eq_Box (x : S66) (he : E_Box x) : Ev (fun k => laws_eqBox.f (x.f0) (x.f1) (x.f2) (x.f3) (x.f0) (x.f1) (x.f2) (x.f3)) true := by
 unfold E_Box at he
 simp only [laws_eqBox.f, if_true]
 exact Ev_n rfl
theorem eqS_Box (m : List S66) (hl : (m.length : Int) ≤ 1048576) (he : ∀ y ∈ m, E_Box y) : Ev (fun k => bj_.f k m m) true := by
 have go : ∀ (d i : Nat), i + d = m.length → Ev (fun k => bj_.l0 k m m i) true := by
  intro d
  induction d with
  | zero =>
   intro i q1
   refine be_ ?_
   simp only [bj_.l0]
   exact Ev_f (by omega) (Ev_n rfl)
  | succ d ih =>
   intro i q1
   refine be_ ?_
   simp only [bj_.l0]
   refine Ev_t (by omega) (Ev_t (by omega) (Ev_t (by omega) ?_))
   rw [rdi_Box m i (by omega)]
   refine Ev_b (eq_Box m[i] (he _ (List.getElem_mem _))) ?_
   rw [wr64s i (by omega)]
   exact Ev_t rfl (ih (i + 1) (by omega))
 simp only [bj_.f]
 exact Ev_t (by first | trivial | rfl) (go m.length 0 (by omega))
theorem mk_Box (l : List S66) (c : Int) (h0 : 0 ≤ c) (h1 : c ≤ 1000000000000000) (hl : (l.length : Int) ≤ 1000000000000) : ∃ l', l'.length = l.length ∧ Ev (fun k => bq_.f k l c) (c + 4 * l.length, l') ∧ Ev (fun k => bC_.f k l' c) (c + 4 * l.length) := by
 have go : ∀ (q p : List S66) (i : Nat) (c : Int), p.length = i → 0 ≤ c → c + 4 * q.length ≤ 100000000000000000 → (i : Int) + q.length ≤ 1000000000000 → ∃ q', q'.length = q.length ∧ Ev (fun k => bq_.l0 k (p ++ q) c i) (c + 4 * q.length, p ++ q') ∧ ∀ r : List S66, r.length = i → Ev (fun k => bC_.l0 k (r ++ q') c i) (c + 4 * q.length) := by
  intro q
  induction q with
  | nil =>
   intro p i c q1 q2 q3 q4
   refine ⟨[], rfl, be_ ?_, fun r hr => be_ ?_⟩
   ·simp only [bq_.l0]
    exact Ev_f (by simp; omega) (Ev_n (by simp))
   ·simp only [bC_.l0]
    exact Ev_f (by simp; omega) (Ev_n (by simp))
  | cons x q ih =>
   intro p i c q1 q2 q3 q4
   simp only [List.length_cons] at q3 q4
   have e0 : wrap64 (c + 1) = c + 1 := (wr64 (by omega) (by omega)).trans (by omega)
   have e1 : wrap64 (c + 1 + 1) = c + 2 := (wr64 (by omega) (by omega)).trans (by omega)
   have e2 : wrap64 (c + 2 + 1) = c + 3 := (wr64 (by omega) (by omega)).trans (by omega)
   have e3 : wrap64 (c + 3 + 1) = c + 4 := (wr64 (by omega) (by omega)).trans (by omega)
   obtain ⟨q', hq, hm, hh⟩ := ih (p ++ [(⟨c, c + 1, c + 2, c + 3⟩ : S66)]) (i + 1) (c + 4) (by simp; omega) (by omega) (by omega) (by omega)
   refine ⟨(⟨c, c + 1, c + 2, c + 3⟩ : S66) :: q', by simp [hq], be_ ?_, fun r hr => be_ ?_⟩
   ·simp only [bq_.l0, e0, e1, e2, e3, set_at p q _ _ i q1, rda_Box p q _ i q1]
    refine Ev_t (by simp; omega) ?_
    first | refine Ev_t (by omega) ?_ | skip
    refine Ev_s ?_
    try simp only [e0, e1, e2, e3, set_at p q _ _ i q1, rda_Box p q _ i q1]
    refine Ev_s ?_
    try simp only [e0, e1, e2, e3, set_at p q _ _ i q1, rda_Box p q _ i q1]
    refine Ev_s ?_
    try simp only [e0, e1, e2, e3, set_at p q _ _ i q1, rda_Box p q _ i q1]
    try simp only [e0, e1, e2, e3, set_at p q _ _ i q1, rda_Box p q _ i q1]
    rw [wr64s i (by omega)]
    have hm' := hm
    rw [List.append_assoc, List.singleton_append, List.append_assoc, List.singleton_append] at hm'
    exact Ev_at hm' (by simp only [List.length_cons, Prod.mk.injEq, and_true]; omega)
   ·simp only [bC_.l0, e0, e1, e2, e3, rda_Box r q' _ i hr]
    refine Ev_t (by simp; omega) ?_
    refine Ev_t (by omega) ?_
    refine Ev_t (by first | rfl | exact True.intro | omega) ?_
    refine Ev_t (by first | rfl | exact True.intro | omega) ?_
    refine Ev_t (by first | rfl | exact True.intro | omega) ?_
    refine Ev_t (by first | rfl | exact True.intro | omega) ?_
    rw [wr64s i (by omega)]
    have hh' := hh (r ++ [(⟨c, c + 1, c + 2, c + 3⟩ : S66)]) (by simp; omega)
    rw [List.append_assoc, List.singleton_append] at hh'
    exact Ev_at hh' (by simp only [List.length_cons]; omega)
 obtain ⟨l', e1, e2, e3⟩ := go l [] 0 c rfl h0 (by omega) (by simpa using hl)
 refine ⟨l', e1, ?_, ?_⟩
 ·simp only [bq_.f]; exact e2
 ·simp only [bC_.f]; exact e3 [] rfl
def E_Veneer (x : S40) : Prop := True
theorem eq_Veneer (x : S40) (he : E_Veneer x) : Ev (fun k => cw_.f (x.f0) (x.f1) (x.f2) (x.f0) (x.f1) (x.f2)) true := by
 unfold E_Veneer at he
 simp only [cw_.f, if_true]
 exact Ev_n rfl
theorem rdi_Leaf (l : List S43) (i : Nat) (h : i < l.length) : ab_ l (i : Int) = l[i] := by unfold ab_; exact getD_in l _ i h
theorem rda_Leaf (a b : List S43) (x : S43) (i : Nat) (h : a.length = i) : ab_ (a ++ x :: b) (i : Int) = x := by unfold ab_; exact getD_at a b _ x i h
def E_Leaf (x : S43) : Prop := E_Veneer x.f3 ∧ ((x.f6.length : Int) ≤ 1048576 ∧ ∀ y ∈ x.f6, E_Box y)
theorem eq_Leaf (x : S43) (he : E_Leaf x) : Ev (fun k => cW_.f k (x.f0) (x.f1) (x.f2) (x.f3.f0) (x.f3.f1) (x.f3.f2) (x.f4) (x.f5) (x.f6) (x.f0) (x.f1) (x.f2) (x.f3.f0) (x.f3.f1) (x.f3.f2) (x.f4) (x.f5) (x.f6)) true := by
 unfold E_Leaf at he
 simp only [cW_.f, if_true]
 refine Ev_b (eq_Veneer x.f3 he.1) ?_
 simp only [if_true]
 refine Ev_b (eqS_Box x.f6 he.2.1 he.2.2) ?_
 simp only [if_true]
 exact Ev_n rfl
theorem eqS_Leaf (m : List S43) (hl : (m.length : Int) ≤ 1048576) (he : ∀ y ∈ m, E_Leaf y) : Ev (fun k => aQ_.f k m m) true := by
 have go : ∀ (d i : Nat), i + d = m.length → Ev (fun k => aQ_.l0 k m m i) true := by
  intro d
  induction d with
  | zero =>
   intro i q1
   refine be_ ?_
   simp only [aQ_.l0]
   exact Ev_f (by omega) (Ev_n rfl)
  | succ d ih =>
   intro i q1
   refine be_ ?_
   simp only [aQ_.l0]
   refine Ev_t (by omega) (Ev_t (by omega) (Ev_t (by omega) ?_))
   rw [rdi_Leaf m i (by omega)]
   refine Ev_b (eq_Leaf m[i] (he _ (List.getElem_mem _))) ?_
   rw [wr64s i (by omega)]
   exact Ev_t rfl (ih (i + 1) (by omega))
 simp only [aQ_.f]
 exact Ev_t (by first | trivial | rfl) (go m.length 0 (by omega))
theorem rdl_Block (l : List S36) (i : Nat) (h : i < l.length) : cF_ l (i : Int) = l[i] := by unfold cF_; exact getD_in l _ i h
theorem rdi_Block (l : List S38) (i : Nat) (h : i < l.length) : ag_ l (i : Int) = l[i] := by unfold ag_; exact getD_in l _ i h
theorem rda_Block (a b : List S38) (x : S38) (i : Nat) (h : a.length = i) : ag_ (a ++ x :: b) (i : Int) = x := by unfold ag_; exact getD_at a b _ x i h
def cM_ (x : S36) : Nat := x.f0.size + x.f1.size + x.f2.size
def ZS_Block (l : List S36) : Nat := l.length + (l.map cM_).sum
theorem ZS_in_Block (l : List S36) : l.length ≤ ZS_Block l ∧ ∀ y ∈ l, cM_ y ≤ ZS_Block l := ⟨by unfold ZS_Block; omega, fun y hy => by have := sum_le cM_ l y hy; unfold ZS_Block; omega⟩
theorem sz_Block (x : S36) (hw : W36 x) (c : Int) (h0 : 0 ≤ c) (h1 : c ≤ 1048576) : Ev (fun k => cO_.f (x.f0) (x.f1) (x.f2) c) (cut c (cM_ x)) := by
 have hM : maxLen = 9223372036854775807 := by decide
 unfold W36 at hw
 obtain ⟨w0, w1, w2⟩ := hw
 simp only [cO_.f]
 have b0 : x.f0.size ≤ maxLen := w0
 rw [hM] at b0
 have e0 : wrap64 (c - ((x.f0.size : Nat) : Int)) = c - ((x.f0.size : Nat) : Int) := wr64 (by omega) (by omega)
 simp only [e0]
 by_cases g0 : c - ((x.f0.size : Nat) : Int) < 0
 ·rw [cut_neg (by unfold cM_; omega)]; exact Ev_t g0 (Ev_n rfl)
 refine Ev_f g0 ?_
 obtain ⟨c0, hc0⟩ : ∃ z_, z_ = c - ((x.f0.size : Nat) : Int) := ⟨_, rfl⟩
 simp only [← hc0]
 have b1 : x.f1.size ≤ maxLen := w1
 rw [hM] at b1
 have e1 : wrap64 (c0 - ((x.f1.size : Nat) : Int)) = c0 - ((x.f1.size : Nat) : Int) := wr64 (by omega) (by omega)
 simp only [e1]
 by_cases g1 : c0 - ((x.f1.size : Nat) : Int) < 0
 ·rw [cut_neg (by unfold cM_; omega)]; exact Ev_t g1 (Ev_n rfl)
 refine Ev_f g1 ?_
 obtain ⟨c1, hc1⟩ : ∃ z_, z_ = c0 - ((x.f1.size : Nat) : Int) := ⟨_, rfl⟩
 simp only [← hc1]
 have b2 : x.f2.size ≤ maxLen := w2
 rw [hM] at b2
 have e2 : wrap64 (c1 - ((x.f2.size : Nat) : Int)) = c1 - ((x.f2.size : Nat) : Int) := wr64 (by omega) (by omega)
 simp only [e2]
 by_cases g2 : c1 - ((x.f2.size : Nat) : Int) < 0
 ·rw [cut_neg (by unfold cM_; omega)]; exact Ev_t g2 (Ev_n rfl)
 refine Ev_f g2 ?_
 obtain ⟨c2, hc2⟩ : ∃ z_, z_ = c1 - ((x.f2.size : Nat) : Int) := ⟨_, rfl⟩
 simp only [← hc2]
 rw [cut_pos (by unfold cM_; omega)]
 exact Ev_n (by unfold cM_; omega)
theorem szS_Block (l : List S36) (hl : l.length ≤ maxLen) (hw : ∀ y ∈ l, W36 y) (c : Int) (h0 : 0 ≤ c) (h1 : c ≤ 1048576) : Ev (fun k => bx_.f k l c) (cut c (ZS_Block l)) := by
 have hM : maxLen = 9223372036854775807 := by decide
 rw [hM] at hl
 have go : ∀ (d i : Nat) (c : Int), i + d = l.length → l.length ≤ 1048576 → 0 ≤ c → c ≤ 1048576 → Ev (fun k => bx_.l0 k l c i) (cut c (((l.drop i).map cM_).sum : Nat)) := by
  intro d
  induction d with
  | zero =>
   intro i c q1 q2 q3 q4
   refine be_ ?_
   simp only [bx_.l0]
   rw [List.drop_of_length_le (by omega), cut_pos (by simpa using q3)]
   exact Ev_f (by omega) (Ev_n (by simp))
  | succ d ih =>
   intro i c q1 q2 q3 q4
   refine be_ ?_
   simp only [bx_.l0]
   refine Ev_t (by omega) (Ev_t (by omega) ?_)
   rw [rdl_Block l i (by omega)]
   refine Ev_b (sz_Block l[i] (hw _ (List.getElem_mem _)) c q3 q4) ?_
   rw [List.drop_eq_getElem_cons (show i < l.length by omega), List.map_cons, List.sum_cons]
   by_cases g : ((cM_ l[i] : Nat) : Int) ≤ c
   case neg => rw [cut_neg g, cut_neg (by omega)]; exact Ev_t (by decide) (Ev_n rfl)
   rw [cut_pos g]
   refine Ev_f (by omega) ?_
   rw [wr64s i (by omega)]
   refine Ev_at (ih (i + 1) _ (by omega) q2 (by omega) (by omega)) ?_
   unfold cut
   split <;> split <;> omega
 simp only [bx_.f]
 rw [wr64 (x := c - (l.length : Int)) (by omega) (by omega)]
 by_cases g : c - (l.length : Int) < 0
 rotate_left
 ·refine Ev_f g (Ev_at (go l.length 0 _ (by omega) (by omega) (by omega) (by omega)) ?_)
  rw [List.drop_zero]
  unfold cut ZS_Block
  split <;> split <;> omega
 rw [cut_neg (by unfold ZS_Block; omega)]
 exact Ev_t g (Ev_n rfl)
def cb_ (x : S36) : S38 := ⟨x.f0, x.f1, x.f2⟩
def B_Block (x : S36) : Prop := True
theorem B_of_Block (x : S36) (h : (cM_ x : Int) ≤ 1048576) : B_Block x := by
 unfold cM_ at h
 unfold B_Block
 trivial
theorem to_Block (x : S36) (hb : B_Block x) : Ev (fun k => cQ_.f (x.f0) (x.f1) (x.f2)) ((cb_ x).f0, (cb_ x).f1, (cb_ x).f2) := by
 unfold B_Block at hb
 simp only [cQ_.f]
 exact Ev_n rfl
theorem toS_Block (l : List S36) (hl : (l.length : Int) ≤ 1048576) (hb : ∀ y ∈ l, B_Block y) : Ev (fun k => aX_.f k l) (l.map cb_) := by
 have go : ∀ (d i : Nat) (xs : List S38), i + d = l.length → xs.length = l.length → xs.take i = (l.map cb_).take i → Ev (fun k => aX_.l0 k l xs i) (l.map cb_) := by
  intro d
  induction d with
  | zero =>
   intro i xs q1 q2 q3
   refine be_ ?_
   simp only [aX_.l0]
   rw [List.take_of_length_le (by omega), List.take_of_length_le (by simp; omega)] at q3
   rw [q3]
   exact Ev_f (by omega) (Ev_n rfl)
  | succ d ih =>
   intro i xs q1 q2 q3
   refine be_ ?_
   simp only [aX_.l0]
   refine Ev_t (by omega) (Ev_t (by omega) ?_)
   rw [rdl_Block l i (by omega)]
   refine Ev_b (to_Block l[i] (hb _ (List.getElem_mem _))) ?_
   refine Ev_t (by omega) ?_
   rw [wr64s i (by omega), Int.toNat_natCast]
   refine ih (i + 1) _ (by omega) (by rw [List.length_set]; exact q2) ?_
   rw [set_take' _ _ _ (by omega), q3, List.take_succ_eq_append_getElem (by simp; omega)]
   simp [cb_]
 simp only [aX_.f]
 refine Ev_t (by omega) (Ev_t (by omega) ?_)
 exact go l.length 0 _ (by omega) (by simp) (by simp)
def E_Block (x : S38) : Prop := True
theorem E_of_Block (x : S36) (hb : B_Block x) : E_Block (cb_ x) := by
 unfold B_Block at hb
 unfold E_Block
 exact trivial
theorem eq_Block (x : S38) (he : E_Block x) : Ev (fun k => cP_.f (x.f0) (x.f1) (x.f2) (x.f0) (x.f1) (x.f2)) true := by
 unfold E_Block at he
 simp only [cP_.f, if_true]
 exact Ev_n rfl
theorem eqS_Block (m : List S38) (hl : (m.length : Int) ≤ 1048576) (he : ∀ y ∈ m, E_Block y) : Ev (fun k => aZ_.f k m m) true := by
 have go : ∀ (d i : Nat), i + d = m.length → Ev (fun k => aZ_.l0 k m m i) true := by
  intro d
  induction d with
  | zero =>
   intro i q1
   refine be_ ?_
   simp only [aZ_.l0]
   exact Ev_f (by omega) (Ev_n rfl)
  | succ d ih =>
   intro i q1
   refine be_ ?_
   simp only [aZ_.l0]
   refine Ev_t (by omega) (Ev_t (by omega) (Ev_t (by omega) ?_))
   rw [rdi_Block m i (by omega)]
   refine Ev_b (eq_Block m[i] (he _ (List.getElem_mem _))) ?_
   rw [wr64s i (by omega)]
   exact Ev_t rfl (ih (i + 1) (by omega))
 simp only [aZ_.f]
 exact Ev_t (by first | trivial | rfl) (go m.length 0 (by omega))
theorem ite_and (b c : Bool) : (if b = true then some c else some false) = some (b && c) := by cases b <;> rfl
theorem in_f (a b c : Int) : ao_.f a b c = some (decide (b ≤ a) && decide (a ≤ c)) := by unfold ao_.f; by_cases h : a ≥ b <;> simp [h]
theorem within_f (a b c : Int) : ar_.f a b c = some (decide (b ≤ a) && decide (a ≤ c)) := by unfold ar_.f; by_cases h : a ≥ b <;> simp [h]
theorem w64 {x : Int} (h0 : -9223372036854775808 ≤ x) (h1 : x < 9223372036854775808) : wrap64 x = x := by unfold wrap64; omega
theorem toList_len (x : ByteArray) : x.toList.length = x.size := by
 rw [Go.ByteArray.toList_eq x, Array.length_toList]; rfl
theorem name_round (k : Nat) (x : ByteArray) (i : Int) : aq_.l0 k x i = au_.l0 k x i := by
 induction k generalizing i with
 | zero => rfl
 | succ k ih =>
  simp only [aq_.l0, au_.l0, ih, cf_.f, ce_.f]
  by_cases h1 : i < (x.size : Int)
  rotate_left
  ·rw [if_neg h1, if_neg h1]
  rw [if_pos h1, if_pos h1]
  by_cases h2 : 0 ≤ i
  rotate_left
  ·rw [if_neg h2, if_neg h2]
  rw [if_pos h2, if_pos h2]
  generalize bt x i = c
  by_cases h3 : c < 97
  rotate_left
  ·rw [if_neg h3, if_pos (show c ≥ 97 by omega)]
   by_cases h4 : c > 122
   rotate_left
   ·rw [if_neg h4]; simp [show c ≤ 122 by omega]
   simp [h4, show ¬ c < 48 by omega, show c > 57 by omega, show ¬ c ≤ 122 by omega, show ¬ c ≤ 57 by omega]
  rw [if_pos h3, if_neg (by omega)]
  by_cases h4 : c < 48
  rotate_left
  ·rw [if_neg h4, if_pos (by omega)]
   by_cases h5 : c > 57
   rotate_left
   ·rw [if_neg h5]; simp [show c ≤ 57 by omega]
   rw [if_pos h5]; simp [show ¬ c ≤ 57 by omega]
  rw [if_pos h4, if_neg (by omega)]; simp
theorem name_same (k : Nat) (x : ByteArray) : aq_.f k x = au_.f k x := by
 have hj : ∀ b, aq_.j0 k x b = au_.j0 k x b := by
  intro b
  cases k with
  | zero => rfl
  | succ k => simp only [aq_.j0, au_.j0, name_round]
 unfold aq_.f au_.f cf_.f
 simp only [hj]
 by_cases h0 : x.toList = []
 rotate_left
 ·have : x.size ≠ 0 := by
   intro e; apply h0; apply List.eq_nil_of_length_eq_zero; rw [toList_len, e]
  rw [if_neg h0, if_neg (show ¬ (x.size : Int) < 1 by omega)]
  by_cases h1 : (x.size : Int) > 10
  rotate_left
  ·rw [if_neg h1, if_neg h1, if_pos (show 0 < (x.size : Int) by omega), if_pos (show 0 < (x.size : Int) by omega)]
   generalize bt x 0 = c
   by_cases h3 : c < 97
   rotate_left
   ·rw [if_neg h3, if_pos (show c ≥ 97 by omega)]
    simp only [Option.bind_some]
    congr 1
    by_cases h4 : c > 122
    rotate_left
    ·simp [h4, show c ≤ 122 by omega]
    simp [h4, show ¬ c ≤ 122 by omega]
   rw [if_pos h3, if_neg (show ¬ c ≥ 97 by omega)]; rfl
  rw [if_pos h1, if_pos h1]
 have : x.size = 0 := by rw [← toList_len, h0]; rfl
 rw [if_pos h0, if_pos (by omega)]
theorem name_ev (x : ByteArray) : ∃ b, ∀ k, 12 < k → au_.f k x = some b := by
 have go : ∀ (d : Nat) (i : Int), 0 ≤ i → i + d = x.size → (x.size : Int) ≤ 10 → ∃ b, ∀ k, d < k → au_.l0 k x i = some b := by
  intro d
  induction d with
  | zero =>
   intro i h0 h1 _
   refine ⟨true, fun k hk => ?_⟩
   obtain ⟨k, rfl⟩ : ∃ m, k = m + 1 := ⟨k - 1, by omega⟩
   simp only [au_.l0]
   rw [if_neg (by omega)]
  | succ d ih =>
   intro i h0 h1 h2
   obtain ⟨b, hb⟩ := ih (i + 1) (by omega) (by omega) h2
   by_cases h3 : bt x i < 97
   rotate_left
   ·by_cases h4 : bt x i > 122
    rotate_left
    ·refine ⟨b, fun k hk => ?_⟩
     obtain ⟨k, rfl⟩ : ∃ m, k = m + 1 := ⟨k - 1, by omega⟩
     simp only [au_.l0]
     rw [if_pos (by omega), if_pos h0, if_neg h3, if_neg h4, w64 (by omega) (by omega), hb k (by omega)]
    refine ⟨false, fun k hk => ?_⟩
    obtain ⟨k, rfl⟩ : ∃ m, k = m + 1 := ⟨k - 1, by omega⟩
    simp only [au_.l0]
    rw [if_pos (by omega), if_pos h0, if_neg h3, if_pos h4, if_neg (by omega), if_pos (by omega)]
   by_cases h4 : bt x i < 48
   rotate_left
   ·by_cases h5 : bt x i > 57
    rotate_left
    ·refine ⟨b, fun k hk => ?_⟩
     obtain ⟨k, rfl⟩ : ∃ m, k = m + 1 := ⟨k - 1, by omega⟩
     simp only [au_.l0]
     rw [if_pos (by omega), if_pos h0, if_pos h3, if_neg h4, if_neg h5, w64 (by omega) (by omega), hb k (by omega)]
    refine ⟨false, fun k hk => ?_⟩
    obtain ⟨k, rfl⟩ : ∃ m, k = m + 1 := ⟨k - 1, by omega⟩
    simp only [au_.l0]
    rw [if_pos (by omega), if_pos h0, if_pos h3, if_neg h4, if_pos h5]
   refine ⟨false, fun k hk => ?_⟩
   obtain ⟨k, rfl⟩ : ∃ m, k = m + 1 := ⟨k - 1, by omega⟩
   simp only [au_.l0]
   rw [if_pos (by omega), if_pos h0, if_pos h3, if_pos h4]
 have hj : ∀ (b : Bool), (b = false → (x.size : Int) ≤ 10) → ∃ c, ∀ k, 12 < k → au_.j0 k x b = some c := by
  intro b hs
  cases b with
  | true =>
   refine ⟨false, fun k hk => ?_⟩
   obtain ⟨k, rfl⟩ : ∃ m, k = m + 1 := ⟨k - 1, by omega⟩
   simp only [au_.j0, if_true]
  | false =>
   obtain ⟨c, hc⟩ := go x.size 0 (by omega) (by omega) (hs rfl)
   have := hs rfl
   refine ⟨c, fun k hk => ?_⟩
   obtain ⟨k, rfl⟩ : ∃ m, k = m + 1 := ⟨k - 1, by omega⟩
   simp only [au_.j0]
   rw [if_neg (by decide), hc k (by omega)]
 unfold au_.f
 by_cases h1 : (x.size : Int) < 1
 rotate_left
 ·simp only [if_neg h1]
  by_cases h2 : (x.size : Int) > 10
  rotate_left
  ·simp only [if_neg h2, if_pos (show 0 < (x.size : Int) by omega)]
   by_cases h3 : bt x 0 < 97
   rotate_left
   ·simp only [if_neg h3]; exact hj _ (fun _ => by omega)
   simp only [if_pos h3]; exact hj true (by intro h; cases h)
  simp only [if_pos h2]; exact hj true (by intro h; cases h)
 simp only [if_pos h1]; exact hj true (by intro h; cases h)
def spi (l : List UInt8) : Int := if l = [97, 115, 104] then 0 else if l = [98, 101, 101, 99, 104] then 1 else if l = [98, 105, 114, 99, 104] then 2 else if l = [99, 104, 101, 114, 114, 121] then 3 else if l = [101, 98, 111, 110, 121] then 4 else if l = [104, 111, 108, 108, 121] then 5 else if l = [109, 97, 112, 108, 101] then 6 else if l = [111, 97, 107] then 7 else if l = [114, 111, 115, 101, 119, 111, 111, 100] then 8 else if l = [119, 97, 108, 110, 117, 116] then 9 else -1
def shades : List Int := [20, 35, 15, 50, 95, 5, 10, 40, 80, 70]
theorem sp_cases (l : List UInt8) : (l = [97, 115, 104]) ∨ (l = [98, 101, 101, 99, 104]) ∨ (l = [98, 105, 114, 99, 104]) ∨ (l = [99, 104, 101, 114, 114, 121]) ∨ (l = [101, 98, 111, 110, 121]) ∨ (l = [104, 111, 108, 108, 121]) ∨ (l = [109, 97, 112, 108, 101]) ∨ (l = [111, 97, 107]) ∨ (l = [114, 111, 115, 101, 119, 111, 111, 100]) ∨ (l = [119, 97, 108, 110, 117, 116]) ∨ (¬ l = [97, 115, 104] ∧ ¬ l = [98, 101, 101, 99, 104] ∧ ¬ l = [98, 105, 114, 99, 104] ∧ ¬ l = [99, 104, 101, 114, 114, 121] ∧ ¬ l = [101, 98, 111, 110, 121] ∧ ¬ l = [104, 111, 108, 108, 121] ∧ ¬ l = [109, 97, 112, 108, 101] ∧ ¬ l = [111, 97, 107] ∧ ¬ l = [114, 111, 115, 101, 119, 111, 111, 100] ∧ ¬ l = [119, 97, 108, 110, 117, 116]) := by
 by_cases h0 : l = [97, 115, 104]
 ·exact .inl h0
 by_cases h1 : l = [98, 101, 101, 99, 104]
 ·exact .inr ((.inl h1))
 by_cases h2 : l = [98, 105, 114, 99, 104]
 ·exact .inr (.inr ((.inl h2)))
 by_cases h3 : l = [99, 104, 101, 114, 114, 121]
 ·exact .inr (.inr (.inr ((.inl h3))))
 by_cases h4 : l = [101, 98, 111, 110, 121]
 ·exact .inr (.inr (.inr (.inr ((.inl h4)))))
 by_cases h5 : l = [104, 111, 108, 108, 121]
 ·exact .inr (.inr (.inr (.inr (.inr ((.inl h5))))))
 by_cases h6 : l = [109, 97, 112, 108, 101]
 ·exact .inr (.inr (.inr (.inr (.inr (.inr ((.inl h6)))))))
 by_cases h7 : l = [111, 97, 107]
 ·exact .inr (.inr (.inr (.inr (.inr (.inr (.inr ((.inl h7))))))))
 by_cases h8 : l = [114, 111, 115, 101, 119, 111, 111, 100]
 ·exact .inr (.inr (.inr (.inr (.inr (.inr (.inr (.inr ((.inl h8)))))))))
 by_cases h9 : l = [119, 97, 108, 110, 117, 116]
 ·exact .inr (.inr (.inr (.inr (.inr (.inr (.inr (.inr (.inr ((.inl h9))))))))))
 exact .inr (.inr (.inr (.inr (.inr (.inr (.inr (.inr (.inr (.inr (⟨h0, h1, h2, h3, h4, h5, h6, h7, h8, h9⟩))))))))))
theorem l07Find_f (a : ByteArray) (k : Nat) (hk : 12 ≤ k) : bQ_.f k a = some (spi a.toList) := by
 obtain ⟨k, rfl⟩ : ∃ m, k = m + 12 := ⟨k - 12, by omega⟩
 unfold bQ_.f cG_.f spi
 simp only [Option.bind_some, bQ_.l0, wrap64, rdOf]
 simp (decide := true)
 generalize a.toList = l
 simp only [eq_comm (b := l)]
 rcases sp_cases l with h | h | h | h | h | h | h | h | h | h | h
 all_goals first | (subst h; decide) | (obtain ⟨h0, h1, h2, h3, h4, h5, h6, h7, h8, h9⟩ := h; simp only [h0, h1, h2, h3, h4, h5, h6, h7, h8, h9, if_false])
def vVen (l : List UInt8) (sh gr : Int) : Bool := decide (0 ≤ spi l) && ((decide (0 ≤ sh) && decide (sh ≤ 100)) && ((decide (rd shades (spi l) - 15 ≤ sh) && decide (sh ≤ rd shades (spi l) + 15)) && (decide (0 ≤ gr) && decide (gr ≤ 179))))
theorem spi_range (l : List UInt8) : -1 ≤ spi l ∧ spi l ≤ 9 := by
 rcases sp_cases l with h | h | h | h | h | h | h | h | h | h | h
 all_goals first | (subst h; decide) | (obtain ⟨h0, h1, h2, h3, h4, h5, h6, h7, h8, h9⟩ := h; unfold spi; simp only [h0, h1, h2, h3, h4, h5, h6, h7, h8, h9, if_false]; decide)
theorem shade_of (i : Int) (h0 : 0 ≤ i) (h1 : i ≤ 9) : ∃ t, cx_.f = some t ∧ i < t.length ∧ 0 < (rd_L4 t i).length ∧ rd (rd_L4 t i) 0 = rd shades i ∧ 0 ≤ rd shades i ∧ rd shades i ≤ 100 := by
 refine ⟨_, rfl, ?_⟩
 obtain ⟨n, rfl⟩ := Int.eq_ofNat_of_zero_le h0
 have hn : n ≤ 9 := by omega
 match n, hn with
 | 0, _ => decide
 | 1, _ => decide
 | 2, _ => decide
 | 3, _ => decide
 | 4, _ => decide
 | 5, _ => decide
 | 6, _ => decide
 | 7, _ => decide
 | 8, _ => decide
 | 9, _ => decide
theorem iShade_f (a : ByteArray) : bK_.f a = some (if 0 ≤ spi a.toList then (rd shades (spi a.toList), true) else (0, false)) := by
 unfold bK_.f cn_.f spi
 generalize a.toList = l
 rcases sp_cases l with h | h | h | h | h | h | h | h | h | h | h
 all_goals first | (subst h; decide) | (obtain ⟨h0, h1, h2, h3, h4, h5, h6, h7, h8, h9⟩ := h; simp only [h0, h1, h2, h3, h4, h5, h6, h7, h8, h9, if_false]; decide)
theorem l07Ok_f (x : S40) (k : Nat) (hk : 12 ≤ k) : bp_.f k [x] = some (vVen x.f0.toList x.f1 x.f2) := by
 obtain ⟨k, rfl⟩ : ∃ m, k = m + 1 := ⟨k - 1, by omega⟩
 have hrd : cL_ [x] 0 = x := rfl
 unfold bp_.f vVen
 rw [if_pos (by simp), hrd, l07Find_f _ _ hk]
 simp only [Option.bind_some]
 have hr := spi_range x.f0.toList
 by_cases h : spi x.f0.toList < 0
 rotate_left
 ·rw [if_neg h, in_f, show decide (0 ≤ spi x.f0.toList) = true from decide_eq_true (by omega)]
  obtain ⟨t, ht, h1, h2, h3, h4, h5⟩ := shade_of (spi x.f0.toList) (by omega) (by omega)
  simp only [Option.bind_some, bp_.j0]
  cases hs : (decide (0 ≤ x.f1) && decide (x.f1 ≤ 100))
  ·simp
  ·rw [if_neg (by simp), ht]
   simp only [Option.bind_some]
   rw [if_pos (by omega), if_pos h1, if_pos (by omega), if_pos (by simp), hrd, h3, in_f, w64 (by omega) (by omega), w64 (by omega) (by omega)]
   simp only [Option.bind_some, cz_.f, in_f]
   rw [ite_and]
   simp
 rw [if_pos h]
 simp only [bp_.j0, if_true]
 rw [show decide (0 ≤ spi x.f0.toList) = false from decide_eq_false (by omega)]
 rfl
theorem iValidVeneer_f (a : ByteArray) (sh gr : Int) : bh_.f a sh gr = some (vVen a.toList sh gr) := by
 unfold bh_.f vVen
 rw [iShade_f]
 simp only [Option.bind_some]
 have hr := spi_range a.toList
 by_cases h : 0 ≤ spi a.toList
 rotate_left
 ·rw [if_neg h, show decide (0 ≤ spi a.toList) = false from decide_eq_false h]
  simp
 rw [if_pos h]
 obtain ⟨t, ht, h1, h2, h3, h4, h5⟩ := shade_of (spi a.toList) h (by omega)
 simp only [if_true, within_f, Option.bind_some]
 rw [show decide (0 ≤ spi a.toList) = true from decide_eq_true h]
 cases hs : (decide (0 ≤ sh) && decide (sh ≤ 100))
 ·simp
 ·have hs' : 0 ≤ sh ∧ sh ≤ 100 := by simpa using hs
  rw [w64 (by omega) (by omega)]
  simp only [if_true, ite_and, Bool.true_and]
  congr 2
  rw [Bool.eq_iff_iff]
  simp only [Bool.and_eq_true, decide_eq_true_eq]
  omega
abbrev Lf := S43
abbrev Bx := S66
theorem nameE_ev (x : ByteArray) : ∃ b, Ev (fun k => au_.f k x) b ∧ Ev (fun k => aq_.f k x) b := by
 obtain ⟨b, hb⟩ := name_ev x
 exact ⟨b, ⟨13, fun k hk => hb k (by omega)⟩, ⟨13, fun k hk => (name_same k x).trans (hb k (by omega))⟩⟩
theorem iw (a b c : Int) : ar_.f a b c = ao_.f a b c := (within_f a b c).trans (in_f a b c).symm
def bOk (b : Bx) (w h : Int) : Prop := 0 ≤ b.f0 ∧ b.f0 ≤ w ∧ 0 ≤ b.f1 ∧ b.f1 ≤ h ∧ 1 ≤ b.f2 ∧ b.f2 ≤ 20000 ∧ 1 ≤ b.f3 ∧ b.f3 ≤ 20000
theorem box_ev (b : Bx) (w h : Int) : ∃ v, cB_.f [b] w h = some v ∧ cr_.f b.f0 b.f1 b.f2 b.f3 w h = some v ∧ (v = true → 10 ≤ w → w ≤ 20000 → 10 ≤ h → h ≤ 20000 → bOk b w h) := by
 have r0 : al_ [b] 0 = b := rfl
 unfold cB_.f cr_.f
 rw [r0, if_pos (by simp)]
 simp only [iw, in_f, Option.bind_some]
 by_cases c1 : (decide ((0 : Int) ≤ b.f0) && decide (b.f0 ≤ w)) = true
 case neg => exact ⟨false, if_neg c1, if_neg c1, fun h => by cases h⟩
 rw [if_pos c1]
 by_cases c2 : (decide ((0 : Int) ≤ b.f1) && decide (b.f1 ≤ h)) = true
 case neg => exact ⟨false, if_neg c2, if_neg c2, fun h => by cases h⟩
 rw [if_pos c2]
 by_cases c3 : (decide ((1 : Int) ≤ b.f2) && decide (b.f2 ≤ wrap64 (w - b.f0))) = true
 case neg => exact ⟨false, if_neg c3, if_neg c3, fun h => by cases h⟩
 rw [if_pos c3]
 refine ⟨_, rfl, rfl, fun c4 w0 w1 h0 h1 => ?_⟩
 simp only [Bool.and_eq_true, decide_eq_true_eq] at c1 c2 c3 c4
 rw [wr64 (by omega) (by omega)] at c3 c4
 unfold bOk
 omega
def lOk (x : Lf) : Prop := (0 ≤ x.f2 ∧ x.f2 ≤ 999) ∧ vVen x.f3.f0.toList x.f3.f1 x.f3.f2 = true ∧ (10 ≤ x.f4 ∧ x.f4 ≤ 20000) ∧ (10 ≤ x.f5 ∧ x.f5 ≤ 20000) ∧ x.f6.length ≤ 6 ∧ ∀ b ∈ x.f6, bOk b x.f4 x.f5
theorem leaf_ev (x : Lf) (hl : (x.f6.length : Int) ≤ 1048576) : ∃ v, Ev (fun k => as_.f k [x]) v ∧ Ev (fun k => aG_.f k x.f0 x.f1 x.f2 x.f3.f0 x.f3.f1 x.f3.f2 x.f4 x.f5 x.f6) v ∧ (v = true → lOk x) := by
 have r0 : ab_ [x] 0 = x := rfl
 have sj : Ev (fun k => as_.j0 k [x] true) false := by
  refine be_ ?_; simp only [as_.j0]; exact Ev_t True.intro (Ev_n rfl)
 have ij : Ev (fun k => aG_.j0 k true x.f0 x.f1 x.f2 x.f3.f0 x.f3.f1 x.f3.f2 x.f4 x.f5 x.f6) false := by
  refine be_ ?_; simp only [aG_.j0]; exact Ev_t True.intro (Ev_n rfl)
 have sj1 : Ev (fun k => as_.j1 k [x] true) false := by
  refine be_ ?_; simp only [as_.j1]; exact Ev_t True.intro (Ev_n rfl)
 simp only [as_.f, aG_.f, r0]
 obtain ⟨n1, a1, a2⟩ := nameE_ev x.f0
 cases n1 with
 | false => exact ⟨false, Ev_t (by simp) (Ev_b a2 (Ev_f (by decide) sj)), Ev_b a1 (Ev_f (by decide) ij), fun h => by cases h⟩
 | true =>
 obtain ⟨n2, b1, b2⟩ := nameE_ev x.f1
 cases n2 with
 | false => exact ⟨false, Ev_t (by simp) (Ev_b a2 (Ev_t rfl (Ev_b b2 (Ev_f (by decide) sj)))), Ev_b a1 (Ev_t rfl (Ev_b b1 (Ev_f (by decide) ij))), fun h => by cases h⟩
 | true =>
 have n3 := in_f x.f2 0 999
 have n3' := within_f x.f2 0 999
 by_cases c3 : (decide ((0 : Int) ≤ x.f2) && decide (x.f2 ≤ 999)) = true
 case neg => exact ⟨false, Ev_t (by simp) (Ev_b a2 (Ev_t rfl (Ev_b b2 (Ev_t rfl (Ev_b (Ev_c n3) (Ev_f c3 sj)))))), Ev_b a1 (Ev_t rfl (Ev_b b1 (Ev_t rfl (Ev_b (Ev_c n3') (Ev_f c3 ij))))), fun h => by cases h⟩
 have v1 : Ev (fun k => bp_.f k [x.f3]) (vVen x.f3.f0.toList x.f3.f1 x.f3.f2) := ⟨12, fun k hk => l07Ok_f x.f3 k hk⟩
 have v2 := iValidVeneer_f x.f3.f0 x.f3.f1 x.f3.f2
 by_cases c4 : vVen x.f3.f0.toList x.f3.f1 x.f3.f2 = true
 case neg =>
  have c4' : vVen x.f3.f0.toList x.f3.f1 x.f3.f2 = false := by simpa using c4
  rw [c4'] at v1 v2
  exact ⟨false, Ev_t (by simp) (Ev_b a2 (Ev_t rfl (Ev_b b2 (Ev_t rfl (Ev_b (Ev_c n3) (Ev_t c3 (Ev_b v1 sj))))))), Ev_b a1 (Ev_t rfl (Ev_b b1 (Ev_t rfl (Ev_b (Ev_c n3') (Ev_t c3 (Ev_b (Ev_c v2) ij)))))), fun h => by cases h⟩
 rw [c4] at v1 v2
 have w5 := in_f x.f4 10 20000
 have w5' := within_f x.f4 10 20000
 have w6 := in_f x.f5 10 20000
 have w6' := within_f x.f5 10 20000
 suffices hs : ∃ v, Ev (fun k => as_.j0 k [x] false) v ∧ Ev (fun k => aG_.j0 k false x.f0 x.f1 x.f2 x.f3.f0 x.f3.f1 x.f3.f2 x.f4 x.f5 x.f6) v ∧ (v = true → (10 ≤ x.f4 ∧ x.f4 ≤ 20000) ∧ (10 ≤ x.f5 ∧ x.f5 ≤ 20000) ∧ x.f6.length ≤ 6 ∧ ∀ b ∈ x.f6, bOk b x.f4 x.f5) by
  obtain ⟨v, h1, h2, h3⟩ := hs
  refine ⟨v, Ev_t (by simp) (Ev_b a2 (Ev_t rfl (Ev_b b2 (Ev_t rfl (Ev_b (Ev_c n3) (Ev_t c3 (Ev_b v1 h1))))))), Ev_b a1 (Ev_t rfl (Ev_b b1 (Ev_t rfl (Ev_b (Ev_c n3') (Ev_t c3 (Ev_b (Ev_c v2) h2)))))), fun h => ?_⟩
  simp only [Bool.and_eq_true, decide_eq_true_eq] at c3
  exact ⟨c3, c4, h3 h⟩
 by_cases c5 : (decide ((10 : Int) ≤ x.f4) && decide (x.f4 ≤ 20000)) = true
 case neg =>
  refine ⟨false, be_ ?_, be_ ?_, fun h => by cases h⟩
  ·simp only [as_.j0, r0]; exact Ev_f (by decide) (Ev_t (by simp) (Ev_b (Ev_c w5) (Ev_f c5 sj1)))
  ·simp only [aG_.j0]; exact Ev_f (by decide) (Ev_b (Ev_c w5') (Ev_f c5 (Ev_n rfl)))
 by_cases c6 : (decide ((10 : Int) ≤ x.f5) && decide (x.f5 ≤ 20000)) = true
 case neg =>
  refine ⟨false, be_ ?_, be_ ?_, fun h => by cases h⟩
  ·simp only [as_.j0, r0]; exact Ev_f (by decide) (Ev_t (by simp) (Ev_b (Ev_c w5) (Ev_t c5 (Ev_b (Ev_c w6) (Ev_f c6 sj1)))))
  ·simp only [aG_.j0]; exact Ev_f (by decide) (Ev_b (Ev_c w5') (Ev_t c5 (Ev_b (Ev_c w6') (Ev_f c6 (Ev_n rfl)))))
 by_cases c7 : (x.f6.length : Int) > 6
 ·refine ⟨false, be_ ?_, be_ ?_, fun h => by cases h⟩
  ·simp only [as_.j0, r0]
   rw [decide_eq_true c7]
   exact Ev_f (by decide) (Ev_t (by simp) (Ev_b (Ev_c w5) (Ev_t c5 (Ev_b (Ev_c w6) (Ev_t c6 sj1)))))
  ·simp only [aG_.j0]; exact Ev_f (by decide) (Ev_b (Ev_c w5') (Ev_t c5 (Ev_b (Ev_c w6') (Ev_t c6 (Ev_t c7 (Ev_n rfl))))))
 have e5 := c5
 have e6 := c6
 simp only [Bool.and_eq_true, decide_eq_true_eq] at e5 e6
 have go : ∀ (d i : Nat), i + d = x.f6.length → ∃ v r, Ev (fun k => as_.l0 k [x] i) v ∧ Ev (fun k => bL_.l0 k x.f6 (x.f6.length : Int) i [(⟨x.f0, x.f1, x.f2, ⟨x.f3.f0, x.f3.f1, x.f3.f2⟩, x.f4, x.f5, x.f6⟩ : Lf)]) r ∧ (!decide (r ≥ 0)) = v ∧ (v = true → ∀ b ∈ x.f6.drop i, bOk b x.f4 x.f5) := by
  intro d
  induction d with
  | zero =>
   intro i h
   refine ⟨true, -1, be_ ?_, be_ ?_, by decide, fun _ b hb => by rw [List.drop_eq_nil_of_le (by omega)] at hb; cases hb⟩
   ·simp only [as_.l0, r0]; exact Ev_t (by simp) (Ev_f (by omega) (Ev_n rfl))
   ·simp only [bL_.l0]; exact Ev_f (by omega) (Ev_n rfl)
  | succ d ih =>
   intro i h
   have hi : i < x.f6.length := by omega
   have hr : al_ x.f6 (i : Int) = x.f6[i] := by unfold al_; exact getD_in x.f6 _ i hi
   obtain ⟨u, u1, u2, u3⟩ := box_ev x.f6[i] x.f4 x.f5
   have cl : cm_.f x.f6[i].f0 x.f6[i].f1 x.f6[i].f2 x.f6[i].f3 [(⟨x.f0, x.f1, x.f2, ⟨x.f3.f0, x.f3.f1, x.f3.f2⟩, x.f4, x.f5, x.f6⟩ : Lf)] = some (!u) := by
    unfold cm_.f
    rw [if_pos (by simp)]
    have e : ab_ [(⟨x.f0, x.f1, x.f2, ⟨x.f3.f0, x.f3.f1, x.f3.f2⟩, x.f4, x.f5, x.f6⟩ : Lf)] 0 = x := rfl
    rw [e, u2]
    rfl
   cases u with
   | false =>
    refine ⟨false, i, be_ ?_, be_ ?_, by simp, fun h => by cases h⟩
    ·simp only [as_.l0, r0]
     rw [hr]
     exact Ev_t (by simp) (Ev_t (by omega) (Ev_t (by omega) (Ev_b (Ev_c u1) (Ev_f (by decide) (Ev_n rfl)))))
    ·simp only [bL_.l0]
     rw [hr]
     exact Ev_t (by omega) (Ev_t (by omega) (Ev_t (by omega) (Ev_b (Ev_c cl) (Ev_t rfl (Ev_n rfl)))))
   | true =>
    obtain ⟨v, r, g1, g2, g3, g4⟩ := ih (i + 1) (by omega)
    refine ⟨v, r, be_ ?_, be_ ?_, g3, fun hv b hb => ?_⟩
    ·simp only [as_.l0, r0]
     rw [hr, wr64s i (by omega)]
     exact Ev_t (by simp) (Ev_t (by omega) (Ev_t (by omega) (Ev_b (Ev_c u1) (Ev_t rfl g1))))
    ·simp only [bL_.l0]
     rw [hr, wr64s i (by omega)]
     exact Ev_t (by omega) (Ev_t (by omega) (Ev_t (by omega) (Ev_b (Ev_c cl) (Ev_f (by decide) g2))))
    ·rw [List.drop_eq_getElem_cons hi] at hb
     rcases List.mem_cons.1 hb with rfl | hb
     ·exact u3 rfl e5.1 e5.2 e6.1 e6.2
     ·exact g4 hv b hb
 obtain ⟨v, r, g1, g2, g3, g4⟩ := go x.f6.length 0 (by omega)
 refine ⟨v, be_ ?_, be_ ?_, fun hv => ⟨e5, e6, by omega, fun b hb => g4 hv b (by simpa using hb)⟩⟩
 ·simp only [as_.j0, r0]
  rw [decide_eq_false c7]
  refine Ev_f (by decide) (Ev_t (by simp) (Ev_b (Ev_c w5) (Ev_t c5 (Ev_b (Ev_c w6) (Ev_t c6 (be_ ?_))))))
  simp only [as_.j1]
  exact Ev_f (by decide) g1
 ·simp only [aG_.j0]
  refine Ev_f (by decide) (Ev_b (Ev_c w5') (Ev_t c5 (Ev_b (Ev_c w6') (Ev_t c6 (Ev_f c7 (Ev_b (a := decide (r ≥ 0)) ?_ (Ev_n g3)))))))
  simp only [cE_.f, bL_.f]
  exact Ev_b g2 (Ev_n rfl)
def noNl : List UInt8 → Bool
 | [] => true
 | x :: l => if x = 10 then false else noNl l
theorem noNl_index : ∀ l : List UInt8, (!decide (0 ≤ Go.Lib.indexByte l 10)) = noNl l
 | [] => by decide
 | x :: l => by
  have ih := noNl_index l
  have hg := Go.Lib.indexByte_ge l 10
  unfold noNl Go.Lib.indexByte
  by_cases h : x = 10
  rotate_left
  ·have hb : (x == 10) = false := by simpa using h
   rw [if_neg (by rw [hb]; decide), if_neg h, ← ih]
   by_cases h2 : Go.Lib.indexByte l 10 = -1
   rotate_left
   ·have hb2 : (Go.Lib.indexByte l 10 == -1) = false := by simpa using h2
    rw [if_neg (by rw [hb2]; decide)]
    simp [show 0 ≤ Go.Lib.indexByte l 10 by omega, show 0 ≤ Go.Lib.indexByte l 10 + 1 by omega]
   simp [h2]
  simp [h]
theorem bt_get (s : ByteArray) (i : Nat) (h : i < s.data.toList.length) : (bt s (i : Int) = 10) = (s.data.toList[i] = 10) := by
 have hs : i < s.size := by rw [Array.length_toList] at h; exact h
 unfold bt
 rw [dif_pos (show (i : Int).toNat < s.size from hs)]
 have e : s[(i : Int).toNat]'hs = s.data.toList[i] := by simp; rfl
 rw [e]
 apply propext
 constructor
 ·intro he; apply UInt8.toNat_inj.1; have : (s.data.toList[i].toNat : Int) = ((10 : UInt8).toNat : Int) := he; exact Int.ofNat_inj.1 this
 ·intro he; rw [he]; rfl
theorem oneB_loop (x : S38) (hx : (x.f2.size : Int) ≤ 1048576) (na nb : Bool) (ha : ∀ k, 12 < k → au_.f k x.f0 = some na) (hb : ∀ k, 12 < k → au_.f k x.f1 = some nb) : ∀ (d i : Nat), i + d = x.f2.size → ∀ k, d + 20 < k → br_.l0 k [x] i = some (noNl (x.f2.data.toList.drop i) && (na && (nb && decide ((x.f2.size : Int) ≤ 400)))) := by
 have hrd : ag_ [x] 0 = x := rfl
 have hsz : x.f2.data.toList.length = x.f2.size := by rw [Array.length_toList]; rfl
 have g0 : (0 < (([x] : List S38).length : Int)) = True := eq_true (by simp)
 intro d
 induction d with
 | zero =>
  intro i h k hk
  obtain ⟨k, rfl⟩ : ∃ m, k = m + 1 := ⟨k - 1, by omega⟩
  have g1 : ((i : Int) < (x.f2.size : Int)) = False := eq_false (by omega)
  simp only [br_.l0, hrd, g0, g1, if_true, if_false, name_same, ha k (by omega), hb k (by omega), Option.bind_some]
  rw [List.drop_of_length_le (by omega)]
  cases na <;> cases nb <;> simp [noNl]
 | succ d ih =>
  intro i h k hk
  obtain ⟨k, rfl⟩ : ∃ m, k = m + 1 := ⟨k - 1, by omega⟩
  have g1 : ((i : Int) < (x.f2.size : Int)) = True := eq_true (by omega)
  have g2 : (0 ≤ (i : Int)) = True := eq_true (by omega)
  have g4 : wrap64 ((i : Int) + 1) = ((i + 1 : Nat) : Int) := by rw [w64 (by omega) (by omega)]; omega
  have hi : i < x.f2.data.toList.length := by omega
  simp only [br_.l0, hrd, g0, g1, g2, g4, if_true]
  rw [List.drop_eq_getElem_cons hi]
  unfold noNl
  by_cases hc : x.f2.data.toList[i] = 10
  rotate_left
  ·rw [if_neg (by rw [bt_get x.f2 i hi]; exact hc), if_neg hc, ih (i + 1) (by omega) k (by omega)]
  rw [if_pos ((bt_get x.f2 i hi).symm ▸ hc), if_pos hc]; rfl
theorem validB_ev (x : S38) (hx : (x.f2.size : Int) ≤ 1048576) : ∃ b, ∀ k, 2000000 < k → br_.f k [x] = some b ∧ ca_.f k x.f0 x.f1 x.f2 = some b := by
 obtain ⟨na, ha⟩ := name_ev x.f0
 obtain ⟨nb, hb⟩ := name_ev x.f1
 refine ⟨noNl x.f2.data.toList && (na && (nb && decide ((x.f2.size : Int) ≤ 400))), fun k hk => ⟨?_, ?_⟩⟩
 ·have := oneB_loop x hx na nb ha hb x.f2.size 0 (by omega) k (by omega)
  unfold br_.f
  simpa using this
 ·unfold ca_.f strings_Contains.f
  rw [ha k (by omega), hb k (by omega)]
  have hn := noNl_index x.f2.data.toList
  cases na
  ·simp
  ·cases nb
   ·simp
   ·by_cases h4 : (x.f2.size : Int) ≤ 400
    ·simp only [Option.bind_some, if_true, h4]
     rw [hn]; simp
    ·simp [h4]
theorem rd_B (l : List S38) (i : Nat) (h : i < l.length) : ag_ l (i : Int) = l[i] := by unfold ag_; simp [List.getD, h]
theorem cmp_lt : ∀ l m : List UInt8, (Go.Lib.compareBytes l m < 0 ↔ Op.bytesLess l m = true) ∧ (Go.Lib.compareBytes l m = 0 ↔ l = m)
 | [], [] => by simp [Go.Lib.compareBytes, Op.bytesLess]
 | [], _ :: _ => by simp [Go.Lib.compareBytes, Op.bytesLess]
 | _ :: _, [] => by simp [Go.Lib.compareBytes, Op.bytesLess]
 | a :: x, b :: y => by
  obtain ⟨h1, h2⟩ := cmp_lt x y
  unfold Go.Lib.compareBytes Op.bytesLess
  by_cases hab : a < b
  rotate_left
  ·by_cases hba : b < a
   rotate_left
   ·have he : a = b := UInt8.le_antisymm (UInt8.not_lt.1 hba) (UInt8.not_lt.1 hab)
    subst he
    simp only [hab, if_false, h1, h2]
    simp
   have hne : a ≠ b := fun e => by subst e; exact absurd hba (UInt8.lt_irrefl _)
   simp [hab, hba, hne]
  have hne : a ≠ b := fun e => by subst e; exact absurd hab (UInt8.lt_irrefl _)
  simp [hab, hne]
theorem before_ev (x y : S38) : ∃ c, bZ_.f [x] [y] = some (!decide (c ≥ (0 : Int))) ∧ bV_.f x.f0 x.f1 x.f2 y.f0 y.f1 y.f2 = some c := by
 have h1 : ag_ [x] 0 = x := rfl
 have h2 : ag_ [y] 0 = y := rfl
 unfold bZ_.f bV_.f strings_Compare.f
 simp only [h1, h2, Option.bind_some, Go.ByteArray.toList_eq]
 rw [if_pos (by simp), if_pos (by simp)]
 obtain ⟨a1, a2⟩ := cmp_lt x.f0.data.toList y.f0.data.toList
 obtain ⟨b1, _⟩ := cmp_lt x.f1.data.toList y.f1.data.toList
 by_cases hz : Go.Lib.compareBytes x.f0.data.toList y.f0.data.toList = 0
 rotate_left
 ·refine ⟨Go.Lib.compareBytes x.f0.data.toList y.f0.data.toList, ?_, by rw [if_neg hz]⟩
  by_cases hl : Op.bytesLess x.f0.data.toList y.f0.data.toList = true
  rotate_left
  ·have : ¬ Go.Lib.compareBytes x.f0.data.toList y.f0.data.toList < 0 := fun e => hl (a1.1 e)
   rw [if_neg hl, if_neg (fun e => hz (a2.2 e))]
   simp [show Go.Lib.compareBytes x.f0.data.toList y.f0.data.toList ≥ 0 by omega]
  have := a1.2 hl
  rw [if_pos hl]
  simp [show ¬ Go.Lib.compareBytes x.f0.data.toList y.f0.data.toList ≥ 0 by omega]
 refine ⟨Go.Lib.compareBytes x.f1.data.toList y.f1.data.toList, ?_, by rw [if_pos hz]⟩
 have hn : ¬ Op.bytesLess x.f0.data.toList y.f0.data.toList = true := fun e => by have := a1.2 e; omega
 rw [if_neg hn, if_pos (a2.1 hz)]
 congr 1
 cases hb : Op.bytesLess x.f1.data.toList y.f1.data.toList with
 | true => have := b1.2 hb; simp [show ¬ Go.Lib.compareBytes x.f1.data.toList y.f1.data.toList ≥ 0 by omega]
 | false =>
  have : ¬ Go.Lib.compareBytes x.f1.data.toList y.f1.data.toList < 0 := fun e => by rw [b1.1 e] at hb; cases hb
  simp [show Go.Lib.compareBytes x.f1.data.toList y.f1.data.toList ≥ 0 by omega]
theorem validBS_ev (m : List S38) (hl : (m.length : Int) ≤ 1048576) (hw : ∀ y ∈ m, (y.f2.size : Int) ≤ 1048576) : ∃ b, ∀ k, 4000000 < k → bs_.f k m = some b ∧ aA_.f k m = some b := by
 have go : ∀ (d i : Nat), i + d = m.length → ∃ b, ∀ k, d + 2000001 < k → bs_.l0 k m i = some b ∧ aA_.l0 k m m (m.length : Int) i = some b := by
  intro d
  induction d with
  | zero =>
   intro i h1
   have g1 : ((i : Int) < (m.length : Int)) = False := eq_false (by omega)
   refine ⟨decide ((m.length : Int) ≤ 32), fun k hk => ?_⟩
   obtain ⟨k, rfl⟩ : ∃ m, k = m + 1 := ⟨k - 1, by omega⟩
   simp only [bs_.l0, aA_.l0, g1, if_false]
   exact ⟨trivial, trivial⟩
  | succ d ih =>
   intro i h1
   obtain ⟨b, hv⟩ := validB_ev m[i] (hw _ (List.getElem_mem _))
   have e1 : ∀ k, 2000000 < k → br_.f k [m[i]] = some b := fun k h => (hv k h).1
   have e2 : ∀ k, 2000000 < k → ca_.f k m[i].f0 m[i].f1 m[i].f2 = some b := fun k h => (hv k h).2
   obtain ⟨c, hk0⟩ := ih (i + 1) (by omega)
   have g1 : ((i : Int) < (m.length : Int)) = True := eq_true (by omega)
   have g2 : (0 ≤ (i : Int)) = True := eq_true (by omega)
   have g3 := rd_B m i (by omega)
   have g4 : wrap64 ((i : Int) + 1) = ((i + 1 : Nat) : Int) := by rw [w64 (by omega) (by omega)]; omega
   have gf : (false = true) = False := by simp
   cases b with
   | false =>
    refine ⟨false, fun k hk => ?_⟩
    obtain ⟨k, rfl⟩ : ∃ m, k = m + 1 := ⟨k - 1, by omega⟩
    simp only [bs_.l0, aA_.l0, g1, g2, g3, if_true, e1 k (by omega), e2 k (by omega), Option.bind_some, gf, if_false]
    exact ⟨trivial, trivial⟩
   | true =>
    by_cases hi : i = 0
    rotate_left
    ·have g5 : ((i : Int) > 0) = True := eq_true (by omega)
     have g6 : wrap64 ((i : Int) - 1) = (i : Int) - 1 := w64 (by omega) (by omega)
     have g7 : (0 ≤ (i : Int) - 1) = True := eq_true (by omega)
     have g8 : ((i : Int) - 1 < (m.length : Int)) = True := eq_true (by omega)
     obtain ⟨t, t1, t2⟩ := before_ev (ag_ m ((i : Int) - 1)) m[i]
     by_cases ht : t ≥ 0
     rotate_left
     ·have ht1 : (t ≥ 0) = False := eq_false ht
      rw [show (!decide (t ≥ 0)) = true by simp; omega] at t1
      refine ⟨c, fun k hk => ?_⟩
      obtain ⟨k, rfl⟩ : ∃ m, k = m + 1 := ⟨k - 1, by omega⟩
      obtain ⟨f1, f2⟩ := hk0 k (by omega)
      simp only [bs_.l0, aA_.l0, g1, g2, g3, if_true, e1 k (by omega), e2 k (by omega), Option.bind_some, g5, g6, g7, g8, t1, t2, ht1, if_false, g4]
      exact ⟨f1, f2⟩
     have ht1 : (t ≥ 0) = True := eq_true ht
     rw [show (!decide (t ≥ 0)) = false by simp; omega] at t1
     refine ⟨false, fun k hk => ?_⟩
     obtain ⟨k, rfl⟩ : ∃ m, k = m + 1 := ⟨k - 1, by omega⟩
     simp only [bs_.l0, aA_.l0, g1, g2, g3, if_true, e1 k (by omega), e2 k (by omega), Option.bind_some, g5, g6, g7, g8, t1, t2, ht1, gf, if_false]
     exact ⟨trivial, trivial⟩
    have g5 : ((i : Int) > 0) = False := eq_false (by omega)
    refine ⟨c, fun k hk => ?_⟩
    obtain ⟨k, rfl⟩ : ∃ m, k = m + 1 := ⟨k - 1, by omega⟩
    obtain ⟨f1, f2⟩ := hk0 k (by omega)
    simp only [bs_.l0, aA_.l0, g1, g2, g3, if_true, e1 k (by omega), e2 k (by omega), Option.bind_some, g5, if_false, g4]
    exact ⟨f1, f2⟩
 obtain ⟨b, hk0⟩ := go m.length 0 (by omega)
 exact ⟨b, fun k hk => hk0 k (by omega)⟩
abbrev Bs (l : List UInt8) : ByteArray := ⟨l.toArray⟩
theorem Bs_app (a b : List UInt8) : Bs a ++ Bs b = Bs (a ++ b) := by
 apply ByteArray.ext
 simp
theorem bR_ (l : List UInt8) : (Bs l).size = l.length := by simp [ByteArray.size]
theorem de_ (s : ByteArray) : Bs s.data.toList = s := by cases s; rfl
theorem dd_ (l : List UInt8) : (Bs l).data.toList = l := by simp
def its (n : Int) : ByteArray := Bs (Go.Lib.itoa n)
theorem cZ_ (n : Int) (h0 : -9223372036854775808 ≤ n) (h1 : n ≤ 9223372036854775807) : ba_.f n = some (its n) := by
 unfold ba_.f bT_.f
 rw [if_pos ⟨rfl, h0, h1⟩]
 rfl
def icat : List (List UInt8) → List UInt8
 | [] => []
 | [x] => x
 | x :: y :: r => x ++ 44 :: icat (y :: r)
theorem icat_eq : ∀ xs, Go.Lib.join xs [44] = icat xs
 | [] => rfl
 | [x] => by simp [Go.Lib.join, icat, List.intercalate]
 | x :: y :: r => by
  have := icat_eq (y :: r)
  rw [icat, ← this]
  simp [Go.Lib.join, List.intercalate]
theorem icat_len (n : Nat) : ∀ xs : List (List UInt8), (∀ x ∈ xs, x.length ≤ n) → (icat xs).length ≤ xs.length * (n + 1)
 | [], _ => by simp [icat]
 | [x], h => by
  have := h x (by simp)
  simp only [icat, List.length_cons, List.length_nil]
  omega
 | x :: y :: r, h => by
  have h1 := h x (by simp)
  have h2 := icat_len n (y :: r) (fun z hz => h z (List.mem_cons_of_mem _ hz))
  simp only [icat, List.length_append, List.length_cons] at h2 ⊢
  rw [Nat.add_mul (r.length + 1) 1]
  omega
def nmOk (x : Int) : Prop := -1000000000000 ≤ x ∧ x ≤ 1000000000000
def itl (l : List Int) : List (List UInt8) := l.map Go.Lib.itoa
def LT_ (l : List Int) : ByteArray := if l = [] then Bs [45] else Bs (icat (itl l))
theorem itoa_short (n : Int) (h : nmOk n) : (Go.Lib.itoa n).length ≤ 21 := Go.Lib.itoa_length_le n (by unfold nmOk at h; omega) (by unfold nmOk at h; omega)
theorem itl_len (l : List Int) (hl : l.length ≤ 64) (hb : ∀ x ∈ l, nmOk x) : (icat (itl l)).length ≤ 1408 := by
 have := icat_len 21 (itl l) (fun x hx => by
  obtain ⟨n, hn, rfl⟩ := List.mem_map.1 hx
  exact itoa_short n (hb n hn))
 have e : (itl l).length = l.length := by simp [itl]
 rw [e] at this
 omega
theorem rdi_in (l : List Int) (i : Nat) (h : i < l.length) : rd l (i : Int) = l[i] := by unfold rd; exact getD_in l _ i h
theorem okW (x : Int) (h : nmOk x) : ar_.f x (-1000000000000) 1000000000000 = some true := by
 unfold nmOk at h
 rw [within_f]
 simp [h.1, h.2]
theorem list_impl (l : List Int) (hl : l.length ≤ 64) (hb : ∀ x ∈ l, nmOk x) : Ev (fun k => aS_.f k l) (LT_ l) := by
 simp only [aS_.f]
 refine Ev_f (by omega) ?_
 have fin : Ev (fun k => aS_.l1 k [] l (l.length : Int) 0) (Bs (icat (itl l))) := by
  have go : ∀ (d i : Nat), i + d = l.length → Ev (fun k => aS_.l1 k ((l.take i).map its) l (l.length : Int) i) (Bs (icat (itl l))) := by
   intro d
   induction d with
   | zero =>
    intro i h
    refine be_ ?_
    simp only [aS_.l1]
    refine Ev_f (by omega) (Ev_b (Ev_c ?_) (Ev_n rfl))
    unfold strings_Join.f
    rw [List.take_of_length_le (by omega)]
    have e : (l.map its).map (fun x : ByteArray => x.data.toList) = itl l := by
     unfold itl
     rw [List.map_map]
     apply List.map_congr_left
     intro x _
     simp [its]
    have e2 : (⟨#[44]⟩ : ByteArray).data.toList = [44] := rfl
    rw [e, e2, icat_eq]
    have := itl_len l hl hb
    rw [if_pos ⟨by simp; omega, by omega⟩]
   | succ d ih =>
    intro i h
    have hx := hb l[i] (List.getElem_mem _)
    have hx2 := hx
    unfold nmOk at hx2
    refine be_ ?_
    simp only [aS_.l1]
    rw [rdi_in l i (by omega)]
    refine Ev_t (by omega) (Ev_t (by omega) (Ev_t (by omega) (Ev_b (Ev_c (cZ_ l[i] (by omega) (by omega))) (Ev_t (by simp; omega) ?_))))
    rw [wr64s i (by omega)]
    have := ih (i + 1) (by omega)
    rw [List.take_succ_eq_append_getElem (by omega), List.map_append] at this
    exact this
  exact go l.length 0 (by omega)
 have go : ∀ (d i : Nat), i + d = l.length → Ev (fun k => aS_.l0 k l l (l.length : Int) i) (LT_ l) := by
  intro d
  induction d with
  | zero =>
   intro i h
   refine be_ ?_
   simp only [aS_.l0]
   refine Ev_f (by omega) ?_
   unfold LT_
   by_cases h0 : l = []
   rotate_left
   ·have hn0 : l.length ≠ 0 := fun h => h0 (List.eq_nil_of_length_eq_zero h)
    rw [if_neg h0]
    exact Ev_f (by omega) fin
   subst h0
   rw [if_pos rfl]
   exact Ev_t (by simp) (Ev_n rfl)
  | succ d ih =>
   intro i h
   refine be_ ?_
   simp only [aS_.l0]
   rw [rdi_in l i (by omega)]
   refine Ev_t (by omega) (Ev_t (by omega) (Ev_t (by omega) (Ev_b (Ev_c (okW _ (hb l[i] (List.getElem_mem _)))) (Ev_t rfl ?_))))
   rw [wr64s i (by omega)]
   exact ih (i + 1) (by omega)
 exact go l.length 0 (by omega)
theorem bt_in (l : List UInt8) (i : Nat) (h : i < l.length) : bt (Bs l) (i : Int) = (l[i].toNat : Int) := by
 unfold bt
 have hs : (i : Int).toNat < (Bs l).size := by rw [bR_]; simpa using h
 rw [dif_pos hs]
 simp
 rfl
theorem u8_eq (c : UInt8) (n : Nat) (hn : n < 256) : ((c.toNat : Int) = (n : Int)) ↔ c = UInt8.ofNat n := by
 constructor
 ·intro h
  apply UInt8.toNat.inj
  rw [UInt8.toNat_ofNat_of_lt' hn]
  omega
 ·rintro rfl
  rw [UInt8.toNat_ofNat_of_lt' hn]
def isD (c : UInt8) : Prop := 48 ≤ c.toNat ∧ c.toNat ≤ 57
instance (c : UInt8) : Decidable (isD c) := inferInstanceAs (Decidable (_ ∧ _))
def dstep (n : Nat) (c : UInt8) : Nat := n * 10 + (c.toNat - 48)
def dval (n : Nat) (l : List UInt8) : Nat := l.foldl dstep n
theorem dval_nil (n : Nat) : dval n [] = n := rfl
theorem dval_cons (n : Nat) (c : UInt8) (l : List UInt8) : dval n (c :: l) = dval (n * 10 + (c.toNat - 48)) l := by unfold dval; rw [List.foldl_cons, dstep]
theorem dval_snoc (c : UInt8) (l : List UInt8) (n : Nat) : dval n (l ++ [c]) = dval n l * 10 + (c.toNat - 48) := by
 unfold dval
 rw [List.foldl_append, List.foldl_cons, List.foldl_nil, dstep]
theorem dval_lt (k : Nat) : ∀ (l : List UInt8) (n : Nat), (∀ c ∈ l, isD c) → n < 10 ^ k → dval n l < 10 ^ (k + l.length)
 | [], n, _, h => by rw [dval_nil, List.length_nil, Nat.add_zero]; exact h
 | a :: l, n, hd, h => by
  have ha := hd a (List.mem_cons_self ..)
  unfold isD at ha
  have := dval_lt (k + 1) l (n * 10 + (a.toNat - 48)) (fun c hc => hd c (List.mem_cons_of_mem _ hc)) (by rw [Nat.pow_succ]; omega)
  rw [dval_cons, List.length_cons, show k + (l.length + 1) = k + 1 + l.length by omega]
  exact this
theorem dig_of (c : UInt8) (h : isD c) : UInt8.ofNat (48 + (c.toNat - 48)) = c := by
 unfold isD at h
 apply UInt8.toNat.inj
 rw [UInt8.toNat_ofNat_of_lt' (show 48 + (c.toNat - 48) < 256 by omega)]
 omega
theorem dec_dval : ∀ (n : Nat) (l : List UInt8), l.length = n → (∀ c ∈ l, isD c) → (∀ c, l.head? = some c → c.toNat ≠ 48) → l ≠ [] → Go.Lib.decDigits (dval 0 l) = l ∧ dval 0 l ≠ 0
 | 0, l, hl, _, _, h0 => absurd (List.eq_nil_of_length_eq_zero hl) h0
 | n + 1, l, hl, hd, hh, h0 => by
  obtain ⟨p, c, rfl⟩ : ∃ p c, l = p ++ [c] := ⟨l.dropLast, l.getLast h0, (List.dropLast_concat_getLast h0).symm⟩
  have hc := hd c (by simp)
  have hc2 := hc
  unfold isD at hc2
  have hlp : p.length = n := by simp at hl; omega
  rw [dval_snoc]
  by_cases hp : p = []
  rotate_left
  ·obtain ⟨h1, h2⟩ := dec_dval n p hlp (fun x hx => hd x (List.mem_append_left _ hx)) (fun x hx => hh x (by
    cases p with
    | nil => exact absurd rfl hp
    | cons a p => exact hx)) hp
   refine ⟨?_, by omega⟩
   rw [Go.Lib.decDigits, dif_neg (by omega), show (dval 0 p * 10 + (c.toNat - 48)) / 10 = dval 0 p by omega, show (dval 0 p * 10 + (c.toNat - 48)) % 10 = c.toNat - 48 by omega, h1, dig_of c hc]
  subst hp
  have hne := hh c rfl
  have e : dval 0 [] * 10 + (c.toNat - 48) = c.toNat - 48 := by rw [dval_nil]; omega
  rw [e, Go.Lib.decDigits, dif_pos (by omega), dig_of c hc]
  exact ⟨rfl, by omega⟩
theorem dec_head : ∀ u : Nat, u ≠ 0 → ∀ c, (Go.Lib.decDigits u).head? = some c → c.toNat ≠ 48 := by
 intro u
 induction u using Nat.strongRecOn with
 | _ u ih =>
  intro h c hc
  rw [Go.Lib.decDigits] at hc
  by_cases h10 : u < 10
  rotate_left
  ·rw [dif_neg h10] at hc
   refine ih (u / 10) (by omega) (by omega) c ?_
   cases hd : Go.Lib.decDigits (u / 10) with
   | nil =>
    have := Go.Lib.decDigits_length (u / 10)
    rw [hd] at this
    have := Go.Lib.nDigits_pos (u / 10)
    simp at *
    omega
   | cons a r => rw [hd] at hc; simpa using hc
  rw [dif_pos h10] at hc
  have : UInt8.ofNat (48 + u) = c := by simpa using hc
  rw [← this, UInt8.toNat_ofNat_of_lt' (show 48 + u < 256 by omega)]
  omega
theorem dec_zero : Go.Lib.decDigits 0 = [48] := by rw [Go.Lib.decDigits, dif_pos (by decide)]; rfl
def rdv (neg : Bool) (l : List UInt8) : Int × Bool :=
 if 1 ≤ l.length ∧ l.length ≤ 18 ∧ (∀ c ∈ l, isD c) ∧ (l.head? = some 48 → neg = false ∧ l.length = 1) then (if neg then -(dval 0 l : Int) else (dval 0 l : Int), true) else (0, false)
def rdl : List UInt8 → Int × Bool
 | c :: l => if c = 45 then rdv true l else rdv false (c :: l)
 | [] => rdv false []
def rdec (s : ByteArray) : Int × Bool := rdl s.data.toList
theorem pow18 : (10 : Nat) ^ 18 = 1000000000000000000 := by decide
theorem its_eq (n : Int) (l : List UInt8) : ((its n).toList = (Bs l).toList) ↔ Go.Lib.itoa n = l := by
 unfold its
 rw [ByteArray.toList_eq, ByteArray.toList_eq, dd_, dd_]
theorem itoa_pos (u : Nat) : Go.Lib.itoa (u : Int) = Go.Lib.decDigits u := Go.Lib.itoa_nonneg u
theorem impl_digits (s l : List UInt8) (hl : 1 ≤ l.length ∧ l.length ≤ 18) (neg : Bool) (hs : s = if neg then 45 :: l else l) : Ev (fun k => ak_.l0 k (Bs s) (Bs l) 0 0) (rdv neg l) := by
 have hsz : (((Bs l).size : Int) < ((Bs s).size : Int)) ↔ neg = true := by
  rw [bR_, bR_, hs]
  cases neg
  ·simp
  ·simp only [if_true, List.length_cons]
   exact ⟨fun _ => trivial, fun _ => by omega⟩
 have go : ∀ (q p : List UInt8), l = p ++ q → (∀ c ∈ p, isD c) → Ev (fun k => ak_.l0 k (Bs s) (Bs l) ((dval 0 p : Nat) : Int) (p.length : Int)) (rdv neg l) := by
  intro q
  induction q with
  | nil =>
   intro p hp hd
   rw [List.append_nil] at hp
   subst hp
   have hv : dval 0 l < 10 ^ (0 + l.length) := dval_lt 0 l 0 hd (by decide)
   have hv2 : dval 0 l < 1000000000000000000 := Nat.lt_of_lt_of_le hv (by rw [← pow18]; exact Nat.pow_le_pow_right (by decide) (by omega))
   refine be_ ?_
   simp only [ak_.l0]
   refine Ev_f (by rw [bR_]; omega) ?_
   have h0 : l ≠ [] := fun h => by rw [h] at hl; simp at hl
   cases neg with
   | true =>
    refine Ev_t (hsz.2 rfl) ?_
    rw [wr64 (x := -((dval 0 l : Nat) : Int)) (by omega) (by omega)]
    refine Ev_b (Ev_c (cZ_ _ (by omega) (by omega))) ?_
    have hs' : s = 45 :: l := hs
    by_cases hz : l.head? = some 48
    rotate_left
    ·have hd2 := dec_dval l.length l rfl hd (fun c hc e => hz (by rw [hc]; congr 1; exact UInt8.toNat.inj (by rw [e]; rfl))) h0
     have : (its (-((dval 0 l : Nat) : Int))).toList = (Bs s).toList := by
      rw [its_eq, hs', Go.Lib.itoa_neg _ (by omega), hd2.1]
     refine Ev_t this (Ev_n ?_)
     unfold rdv
     rw [if_pos ⟨hl.1, hl.2, hd, fun h => absurd h hz⟩]
     rfl
    have : ¬ (its (-((dval 0 l : Nat) : Int))).toList = (Bs s).toList := by
     rw [its_eq, hs']
     intro e
     by_cases hv0 : dval 0 l = 0
     rotate_left
     ·rw [Go.Lib.itoa_neg _ (by omega)] at e
      have e2 := List.cons.inj e
      have := dec_head _ hv0 48 (by rw [e2.2]; exact hz)
      exact this rfl
     rw [hv0] at e
     have : Go.Lib.itoa 0 = [48] := (itoa_pos 0).trans dec_zero
     rw [show (-((0 : Nat) : Int)) = 0 by rfl, this] at e
     cases e
    refine Ev_f this (Ev_n ?_)
    unfold rdv
    rw [if_neg (fun h => by have := (h.2.2.2 hz).1; cases this)]
   | false =>
    refine Ev_f (fun h => by have := hsz.1 h; cases this) ?_
    refine Ev_b (Ev_c (cZ_ _ (by omega) (by omega))) ?_
    have hs' : s = l := hs
    by_cases hz : l.head? = some 48
    rotate_left
    ·have hd2 := dec_dval l.length l rfl hd (fun c hc e => hz (by rw [hc]; congr 1; exact UInt8.toNat.inj (by rw [e]; rfl))) h0
     have : (its ((dval 0 l : Nat) : Int)).toList = (Bs s).toList := by
      rw [its_eq, hs', itoa_pos, hd2.1]
     refine Ev_t this (Ev_n ?_)
     unfold rdv
     rw [if_pos ⟨hl.1, hl.2, hd, fun h => absurd h hz⟩]
     rfl
    by_cases h1 : l.length = 1
    rotate_left
    ·have : ¬ (its ((dval 0 l : Nat) : Int)).toList = (Bs s).toList := by
      rw [its_eq, hs', itoa_pos]
      intro e
      by_cases hv0 : dval 0 l = 0
      rotate_left
      ·have := dec_head _ hv0 48 (by rw [e]; exact hz)
       exact this rfl
      rw [hv0, dec_zero] at e
      rw [← e] at h1
      exact h1 rfl
     refine Ev_f this (Ev_n ?_)
     unfold rdv
     rw [if_neg (fun h => h1 (h.2.2.2 hz).2)]
    have hl1 : l = [48] := by
     cases l with
     | nil => simp at h1
     | cons a r =>
      have : r = [] := by simpa using h1
      subst this
      have : a = 48 := by simpa using hz
      rw [this]
    have : (its ((dval 0 l : Nat) : Int)).toList = (Bs s).toList := by
     rw [its_eq, hs', itoa_pos, hl1]
     exact dec_zero
    refine Ev_t this (Ev_n ?_)
    unfold rdv
    rw [if_pos ⟨hl.1, hl.2, hd, fun _ => ⟨rfl, h1⟩⟩]
    rfl
  | cons c q ih =>
   intro p hp hd
   have hlen : p.length < l.length := by rw [hp]; simp
   have hc : bt (Bs l) (p.length : Int) = (c.toNat : Int) := by
    rw [bt_in l p.length hlen]
    congr 2
    simp [hp]
   have hv : dval 0 p < 10 ^ (0 + p.length) := dval_lt 0 p 0 hd (by decide)
   have hv2 : dval 0 p < 100000000000000000 := Nat.lt_of_lt_of_le hv (by rw [show (100000000000000000 : Nat) = 10 ^ 17 by decide]; exact Nat.pow_le_pow_right (by decide) (by omega))
   have hnd : ¬ isD c → rdv neg l = (0, false) := fun h => by
    unfold rdv
    rw [if_neg (fun h2 => h (h2.2.2.1 c (by rw [hp]; simp)))]
   refine be_ ?_
   simp only [ak_.l0]
   rw [hc]
   refine Ev_t (by rw [bR_]; omega) (Ev_t (by omega) ?_)
   by_cases h1 : c.toNat < 48
   ·exact Ev_t (by omega) (Ev_n (hnd (by unfold isD; omega)).symm)
   refine Ev_f (by omega) ?_
   by_cases h2 : 57 < c.toNat
   ·exact Ev_t (by omega) (Ev_n (hnd (by unfold isD; omega)).symm)
   refine Ev_f (by omega) ?_
   have := ih (p ++ [c]) (by rw [hp]; simp) (fun x hx => by
    rcases List.mem_append.1 hx with h | h
    ·exact hd x h
    ·have : x = c := by simpa using h
     subst this
     unfold isD
     omega)
   rw [dval_snoc] at this
   rw [wr64 (x := ((dval 0 p : Nat) : Int) * 10) (by omega) (by omega), wr64s p.length (by omega), wr64 (x := ((dval 0 p : Nat) : Int) * 10 + _) (by omega) (by omega), show ((dval 0 p : Nat) : Int) * 10 + ((c.toNat : Int) - 48) % 256 = ((dval 0 p * 10 + (c.toNat - 48) : Nat) : Int) by omega]
   simpa using this
 exact go l [] rfl (fun _ h => by cases h)
theorem prefix_f (s : List UInt8) : strings_HasPrefix.f (Bs s) (⟨#[45]⟩ : ByteArray) = some (decide (s.head? = some 45)) := by
 unfold strings_HasPrefix.f stringslite_HasPrefix.f
 have h1 : (⟨#[45]⟩ : ByteArray).size = 1 := rfl
 rw [h1, bR_]
 cases s with
 | nil => rw [if_neg (by simp)]; rfl
 | cons c r =>
  rw [List.length_cons, if_pos (by omega), if_pos (by omega), if_pos (by omega)]
  have e : ((Bs (c :: r)).extract 0 (((1 : Nat) : Int)).toNat).toList = [c] := by
   rw [ByteArray.toList_eq, Go.Lib.extract_from_zero]
   simp
  have e2 : (⟨#[45]⟩ : ByteArray).toList = [45] := by rw [ByteArray.toList_eq]
  rw [e, e2]
  simp only [Option.bind_some, Option.some.injEq, List.head?_cons]
  by_cases hc : c = 45
  rotate_left
  ·simp [hc]
  subst hc; rfl
theorem da_ (s : ByteArray) : Ev (fun k => ak_.f k s) (rdec s) := by
 rw [← de_ s]
 obtain ⟨l, hl⟩ : ∃ l, l = s.data.toList := ⟨_, rfl⟩
 rw [← hl]
 have core : ∀ (neg : Bool) (d : List UInt8), (l = if neg then 45 :: d else d) → Ev (fun k => ak_.j0 k (Bs l) (Bs d)) (rdv neg d) := by
  intro neg d hd
  have bad : ¬ (1 ≤ d.length ∧ d.length ≤ 18) → rdv neg d = (0, false) := fun h => by
   unfold rdv
   rw [if_neg (fun h2 => h ⟨h2.1, h2.2.1⟩)]
  refine be_ ?_
  simp only [ak_.j0]
  by_cases h1 : ((Bs d).size : Int) < 1
  rotate_left
  ·refine Ev_f h1 (be_ ?_)
   simp only [ak_.j1]
   rw [bR_] at h1
   by_cases h2 : 18 < d.length
   rotate_left
   ·exact Ev_f (by rw [bR_]; simp; omega) (impl_digits l d ⟨by omega, by omega⟩ neg hd)
   exact Ev_t (by rw [bR_]; simp; omega) (Ev_n (bad (by omega)).symm)
  refine Ev_t h1 (be_ ?_)
  simp only [ak_.j1]
  rw [bR_] at h1
  exact Ev_t (by simp) (Ev_n (bad (by omega)).symm)
 simp only [ak_.f]
 rw [prefix_f]
 rw [show rdec (Bs l) = rdl l by unfold rdec; rw [dd_]]
 refine Ev_s ?_
 cases l with
 | nil => exact Ev_f (by simp) (core false [] rfl)
 | cons c r =>
  by_cases hc : c = 45
  rotate_left
  ·rw [rdl, if_neg hc]
   exact Ev_f (by simpa using hc) (core false (c :: r) rfl)
  subst hc
  refine Ev_t (by simp) (Ev_t (by rw [bR_, List.length_cons]; omega) ?_)
  rw [rdl, if_pos rfl]
  have : (Bs (45 :: r)).extract 1 (Bs (45 :: r)).size = Bs r := by
   rw [← de_ ((Bs (45 :: r)).extract 1 (Bs (45 :: r)).size), Go.Lib.extract_to_end]
   simp
  rw [this]
  exact core true r rfl
theorem digit_f (c : UInt8) : ce_.f (c.toNat : Int) = some (decide (isD c)) := by
 unfold ce_.f
 by_cases h : (c.toNat : Int) ≥ 48
 rotate_left
 ·rw [if_neg h]
  congr 1
  symm
  rw [decide_eq_false_iff_not]
  unfold isD
  omega
 rw [if_pos h]
 congr 1
 rw [decide_eq_decide]
 unfold isD
 omega
theorem spec_digits (neg : Bool) (l : List UInt8) (hl : 1 ≤ l.length ∧ l.length ≤ 18) (hz : l.head? = some 48 → neg = false ∧ l.length = 1) (a : Int) (ha : a = if neg then 1 else 0) : Ev (fun k => aj_.l0 k (Bs (if neg then 45 :: l else l)) a 0 a) (rdv neg l) := by
 obtain ⟨s, hs⟩ : ∃ s, s = (if neg then 45 :: l else l) := ⟨_, rfl⟩
 obtain ⟨an, hn⟩ : ∃ an : Nat, an = (if neg then 1 else 0) := ⟨_, rfl⟩
 have han : a = (an : Int) := by rw [ha, hn]; cases neg <;> rfl
 have hsl : s.length = an + l.length := by rw [hs, hn]; cases neg <;> simp <;> omega
 have hsd : s.drop an = l := by rw [hs, hn]; cases neg <;> rfl
 rw [← hs, han]
 have go : ∀ (q p : List UInt8), l = p ++ q → (∀ c ∈ p, isD c) → Ev (fun k => aj_.l0 k (Bs s) (an : Int) ((dval 0 p : Nat) : Int) ((an + p.length : Nat) : Int)) (rdv neg l) := by
  intro q
  induction q with
  | nil =>
   intro p hp hd
   rw [List.append_nil] at hp
   subst hp
   have hv : dval 0 l < 10 ^ (0 + l.length) := dval_lt 0 l 0 hd (by decide)
   have hv2 : dval 0 l < 1000000000000000000 := Nat.lt_of_lt_of_le hv (by rw [← pow18]; exact Nat.pow_le_pow_right (by decide) (by omega))
   refine be_ ?_
   simp only [aj_.l0]
   refine Ev_f (by rw [bR_, hsl]; omega) ?_
   have e : rdv neg l = (if neg then -(dval 0 l : Int) else (dval 0 l : Int), true) := by unfold rdv; rw [if_pos ⟨hl.1, hl.2, hd, hz⟩]
   rw [e]
   cases neg with
   | true =>
    have : an = 1 := hn
    refine Ev_t (by omega) (Ev_n ?_)
    rw [wr64 (by omega) (by omega)]
    rfl
   | false =>
    have : an = 0 := hn
    exact Ev_f (by omega) (Ev_n rfl)
  | cons c q ih =>
   intro p hp hd
   have hlen : p.length < l.length := by rw [hp]; simp
   have hc : bt (Bs s) ((an + p.length : Nat) : Int) = (c.toNat : Int) := by
    rw [bt_in s (an + p.length) (by omega)]
    congr 2
    have h1 : s[an + p.length]'(by omega) = (s.drop an)[p.length]'(by rw [hsd]; exact hlen) := by rw [List.getElem_drop]
    rw [h1]
    simp [hsd, hp]
   have hv : dval 0 p < 10 ^ (0 + p.length) := dval_lt 0 p 0 hd (by decide)
   have hv2 : dval 0 p < 100000000000000000 := Nat.lt_of_lt_of_le hv (by rw [show (100000000000000000 : Nat) = 10 ^ 17 by decide]; exact Nat.pow_le_pow_right (by decide) (by omega))
   refine be_ ?_
   simp only [aj_.l0]
   rw [hc]
   refine Ev_t (by rw [bR_, hsl]; omega) (Ev_t (by omega) (Ev_b (Ev_c (digit_f c)) ?_))
   by_cases h1 : isD c
   rotate_left
   ·refine Ev_f (by simpa using h1) (Ev_n ?_)
    unfold rdv
    rw [if_neg (fun h2 => h1 (h2.2.2.1 c (by rw [hp]; simp)))]
   refine Ev_t (by simpa using h1) ?_
   have h2 := h1
   unfold isD at h2
   have := ih (p ++ [c]) (by rw [hp]; simp) (fun x hx => by
    rcases List.mem_append.1 hx with h | h
    ·exact hd x h
    ·have : x = c := by simpa using h
     subst this
     exact h1)
   rw [dval_snoc] at this
   rw [wr64 (x := 10 * ((dval 0 p : Nat) : Int)) (by omega) (by omega), wr64s (an + p.length) (by omega), wr64 (x := 10 * ((dval 0 p : Nat) : Int) + _) (by omega) (by omega), show 10 * ((dval 0 p : Nat) : Int) + ((c.toNat : Int) - 48) % 256 = ((dval 0 p * 10 + (c.toNat - 48) : Nat) : Int) by omega]
   simpa [Nat.add_assoc] using this
 have := go l [] rfl (fun _ h => by cases h)
 simpa [dval_nil] using this
theorem read_spec (s : ByteArray) (hs : (s.size : Int) ≤ 1048576) : Ev (fun k => aj_.f k s) (rdec s) := by
 rw [← de_ s] at hs ⊢
 obtain ⟨l, hl⟩ : ∃ l, l = s.data.toList := ⟨_, rfl⟩
 rw [← hl] at hs ⊢
 rw [bR_] at hs
 have core : ∀ (neg : Bool) (d : List UInt8), (l = if neg then 45 :: d else d) → Ev (fun k => aj_.j1 k (Bs l) (if neg then 1 else 0)) (rdv neg d) := by
  intro neg d hd
  have hll : l.length = (if neg then 1 else 0) + d.length := by rw [hd]; cases neg <;> simp <;> omega
  obtain ⟨an, hn⟩ : ∃ an : Nat, an = (if neg then 1 else 0) := ⟨_, rfl⟩
  have han : (if neg then (1 : Int) else 0) = (an : Int) := by rw [hn]; cases neg <;> rfl
  rw [← hn] at hll
  have bad : ¬ (1 ≤ d.length ∧ d.length ≤ 18) → rdv neg d = (0, false) := fun h => by
   unfold rdv
   rw [if_neg (fun h2 => h ⟨h2.1, h2.2.1⟩)]
  have no : rdv neg d = (0, false) → Ev (fun k => aj_.j2 k (Bs l) (an : Int) true) (rdv neg d) := fun h => by
   refine be_ ?_
   simp only [aj_.j2]
   exact Ev_t (by simp) (Ev_n h.symm)
  rw [han]
  refine be_ ?_
  simp only [aj_.j1]
  rw [bR_]
  by_cases h1 : (l.length : Int) = (an : Int)
  ·exact Ev_t h1 (no (bad (by omega)))
  refine Ev_f h1 ?_
  rw [wr64 (by omega) (by omega)]
  by_cases h2 : 18 < d.length
  ·exact Ev_t (by omega) (no (bad (by omega)))
  refine Ev_f (by omega) (Ev_t (by omega) (Ev_t (by omega) ?_))
  have hb : bt (Bs l) (an : Int) = ((d[0]'(by omega)).toNat : Int) := by
   rw [bt_in l an (by omega)]
   congr 2
   cases neg with
   | true =>
    have : an = 1 := hn
    subst this
    simp [hd]
   | false =>
    have : an = 0 := hn
    subst this
    simp [hd]
  rw [hb]
  have hh : d.head? = some (d[0]'(by omega)) := by
   cases d with
   | nil => simp at hll; omega
   | cons a r => rfl
  have fin : (d.head? = some 48 → neg = false ∧ d.length = 1) → Ev (fun k => aj_.j2 k (Bs l) (an : Int) false) (rdv neg d) := fun hz => by
   refine be_ ?_
   simp only [aj_.j2]
   refine Ev_f (by simp) ?_
   have := spec_digits neg d ⟨by omega, by omega⟩ hz (an : Int) han.symm
   rw [← hd] at this
   exact this
  by_cases h3 : d[0]'(by omega) = 48
  rotate_left
  ·refine Ev_f (fun e => h3 ?_) (fin (fun e => absurd (by rw [hh] at e; exact Option.some.inj e) h3))
   exact (u8_eq _ 48 (by decide)).1 e
  have h48 : d.head? = some 48 := by rw [hh, h3]
  refine Ev_t (by rw [h3]; rfl) ?_
  by_cases h4 : (l.length : Int) > 1
  rotate_left
  ·rw [decide_eq_false h4]
   refine fin (fun _ => ?_)
   cases neg with
   | true =>
    have : an = 1 := hn
    omega
   | false =>
    have : an = 0 := hn
    exact ⟨rfl, by omega⟩
  rw [decide_eq_true h4]
  refine no ?_
  unfold rdv
  rw [if_neg (fun h => by
   obtain ⟨e1, e2⟩ := h.2.2.2 h48
   subst e1
   have : an = 0 := hn
   omega)]
 simp only [aj_.f]
 rw [show rdec (Bs l) = rdl l by unfold rdec; rw [dd_]]
 have j : ∀ b : Bool, Ev (fun k => aj_.j1 k (Bs l) (if b then 1 else 0)) (rdl l) → Ev (fun k => aj_.j0 k (Bs l) 0 b) (rdl l) := fun b h => by
  refine be_ ?_
  simp only [aj_.j0]
  cases b with
  | true => exact Ev_t rfl h
  | false => exact Ev_f (by decide) h
 cases l with
 | nil => exact Ev_f (by simp [bR_]) (j false (core false [] rfl))
 | cons c r =>
  refine Ev_t (by rw [bR_, List.length_cons]; omega) (Ev_t (by rw [bR_, List.length_cons]; omega) ?_)
  have hb : bt (Bs (c :: r)) 0 = (c.toNat : Int) := bt_in (c :: r) 0 (by simp)
  rw [hb]
  by_cases hc : c = 45
  rotate_left
  ·have : ((c.toNat : Int) == 45) = false := by
    rw [beq_eq_false_iff_ne]
    intro e
    exact hc ((u8_eq c 45 (by decide)).1 e)
   rw [this]
   refine j false ?_
   rw [rdl, if_neg hc]
   exact core false (c :: r) rfl
  subst hc
  have : (((45 : UInt8).toNat : Int) == 45) = true := rfl
  rw [this]
  refine j true ?_
  rw [rdl, if_pos rfl]
  exact core true r rfl
def spl (c : UInt8) : List UInt8 → List (List UInt8)
 | [] => [[]]
 | b :: l => if b = c then [] :: spl c l else match spl c l with
  | h :: t => (b :: h) :: t
  | [] => [[b]]
def glue (p : List UInt8) : List (List UInt8) → List (List UInt8)
 | h :: t => (p ++ h) :: t
 | [] => [p]
theorem spl_ne (c : UInt8) : ∀ l, spl c l ≠ []
 | [] => by simp [spl]
 | b :: l => by
  rw [spl]
  split
  ·simp
  ·split <;> simp
theorem spl_len (c : UInt8) : ∀ l, (spl c l).length ≤ l.length + 1
 | [] => by simp [spl]
 | b :: l => by
  have := spl_len c l
  rw [spl]
  split
  ·simp only [List.length_cons]; omega
  ·split
   ·rename_i h t e
    rw [e] at this
    simp only [List.length_cons] at this ⊢
    omega
   ·simp
theorem glue_nil (xs : List (List UInt8)) (h : xs ≠ []) : glue [] xs = xs := by
 cases xs with
 | nil => exact absurd rfl h
 | cons a t => rfl
theorem glue_cons (p : List UInt8) (b c : UInt8) (l : List UInt8) (h : b ≠ c) : glue p (spl c (b :: l)) = glue (p ++ [b]) (spl c l) := by
 rw [spl, if_neg h]
 cases hs : spl c l with
 | nil => exact absurd hs (spl_ne c l)
 | cons a t => simp [glue]
theorem splitK_eq (c : UInt8) : ∀ s : List UInt8, Go.Lib.splitK [c] 0 (Go.Lib.count s [c]) s = spl c s
 | [] => by
  rw [Go.Lib.count_miss (by simp [Go.Lib.index])]
  rfl
 | b :: l => by
  have ih := splitK_eq c l
  by_cases h : b = c
  rotate_left
  ·rw [Go.Lib.count_cons_ne b c l h]
   have hp : ([c] : List UInt8).isPrefixOf (b :: l) = false := by simp [List.isPrefixOf, Ne.symm h]
   have hix : Go.Lib.index (b :: l) [c] = if Go.Lib.index l [c] == -1 then -1 else Go.Lib.index l [c] + 1 := by rw [Go.Lib.index, hp]; simp
   rw [spl, if_neg h]
   by_cases hm : Go.Lib.index l [c] = -1
   rotate_left
   ·have hge := Go.Lib.index_ge l [c]
    obtain ⟨j, hj⟩ : ∃ j : Nat, Go.Lib.index l [c] = j := ⟨(Go.Lib.index l [c]).toNat, by omega⟩
    have hk : ∃ k, Go.Lib.count l [c] = k + 1 := ⟨Go.Lib.count (l.drop (j + 1)) [c], by rw [Go.Lib.count_hit (by simp) hj]; simp; omega⟩
    obtain ⟨k, hk⟩ := hk
    rw [hk] at ih ⊢
    have hne : ¬ (Go.Lib.index l [c] == -1) = true := fun e => hm (beq_iff_eq.1 e)
    have hix2 : Go.Lib.index (b :: l) [c] = ((j + 1 : Nat) : Int) := by rw [hix, if_neg hne, hj]; omega
    have hne2 : ¬ (Go.Lib.index (b :: l) [c] == -1) = true := fun e => by have := beq_iff_eq.1 e; omega
    rw [Go.Lib.splitK, if_neg hne, hj] at ih
    rw [Go.Lib.splitK, if_neg hne2, hix2, ← ih]
    simp
   rw [Go.Lib.count_miss hm] at ih ⊢
   have e : spl c l = [l] := ih.symm
   rw [e]
   rfl
  subst h
  rw [Go.Lib.count_cons_eq, Nat.add_comm, spl, if_pos rfl, ← ih]
  have hix : Go.Lib.index (b :: l) [b] = 0 := by rw [Go.Lib.index]; simp [List.isPrefixOf]
  rw [Go.Lib.splitK, hix]
  rfl
theorem split_f (s : ByteArray) (hs : (s.size : Int) ≤ 1048576) (c : UInt8) : strings_Split.f s (Bs [c]) = some ((spl c s.data.toList).map Bs) := by
 unfold strings_Split.f
 rw [if_pos ⟨by omega, by rw [bR_]; simp⟩]
 congr 1
 have h := Go.Lib.splitB_data (Bs [c]) 0 (Go.Lib.countB s (Bs [c])) s
 have e : (Bs [c]).data.toList = [c] := dd_ _
 unfold Go.Lib.countB at h
 rw [e, splitK_eq] at h
 rw [← h, List.map_map]
 unfold Go.Lib.countB
 rw [e]
 conv => lhs; rw [← List.map_id (Go.Lib.splitB (Bs [c]) 0 (Go.Lib.count s.data.toList [c]) s)]
 apply List.map_congr_left
 intro x _
 exact (de_ x).symm
theorem split_spec (L : List UInt8) (hL : (L.length : Int) ≤ 1048576) (c : UInt8) : Ev (fun k => aP_.f k (Bs L) (c.toNat : Int)) ((spl c L).map Bs) := by
 have ex : ∀ (a p q : List UInt8) (n m : Nat), L = a ++ p ++ q → a.length = n → n + p.length = m → (Bs L).extract n m = Bs p := fun a p q n m h1 h2 h3 => by
  rw [← de_ ((Bs L).extract n m), Go.Lib.extract_data, dd_, h1]
  congr 1
  subst h2 h3
  simp
 have go : ∀ (q p a : List UInt8) (x5 : List ByteArray), L = a ++ p ++ q → x5.length ≤ a.length → Ev (fun k => aP_.l0 k (Bs L) (c.toNat : Int) x5 (a.length : Int) ((a.length + p.length : Nat) : Int)) (x5 ++ (glue p (spl c q)).map Bs) := by
  intro q
  induction q with
  | nil =>
   intro p a x5 h h5
   have hl : L.length = a.length + p.length := by rw [h]; simp
   refine be_ ?_
   simp only [aP_.l0]
   rw [bR_]
   refine Ev_f (by omega) (Ev_t (by omega) (Ev_t (by omega) (Ev_t (by omega) (Ev_n ?_))))
   rw [Int.toNat_natCast, ex a p [] a.length L.length h rfl hl.symm]
   simp [spl, glue]
  | cons b q ih =>
   intro p a x5 h h5
   have hl : L.length = a.length + p.length + (q.length + 1) := by rw [h]; simp; omega
   have hb : bt (Bs L) ((a.length + p.length : Nat) : Int) = (b.toNat : Int) := by
    rw [bt_in L (a.length + p.length) (by omega)]
    congr 2
    simp [h]
   refine be_ ?_
   simp only [aP_.l0]
   rw [hb, bR_]
   refine Ev_t (by omega) (Ev_t (by omega) ?_)
   by_cases hc : b = c
   rotate_left
   ·refine Ev_f (fun e => hc ?_) ?_
    ·apply UInt8.toNat.inj
     omega
    ·rw [wr64s (a.length + p.length) (by omega), glue_cons p b c q hc]
     have := ih (p ++ [b]) a x5 (by rw [h]; simp) h5
     simpa [Nat.add_assoc] using this
   subst hc
   refine Ev_t rfl (Ev_t (by omega) (Ev_t (by omega) (Ev_t (by omega) (Ev_t (by omega) ?_))))
   rw [Int.toNat_natCast, Int.toNat_natCast, ex a p (b :: q) a.length (a.length + p.length) h rfl rfl, wr64s (a.length + p.length) (by omega)]
   have := ih [] (a ++ p ++ [b]) (x5 ++ [Bs p]) (by rw [h]; simp) (by simp; omega)
   rw [glue_nil _ (spl_ne b q)] at this
   rw [spl, if_pos rfl]
   simpa [glue, Nat.add_assoc] using this
 have := go L [] [] [] rfl (by simp)
 rw [glue_nil _ (spl_ne c L)] at this
 simp only [aP_.f]
 simpa using this
instance (x : Int) : Decidable (nmOk x) := inferInstanceAs (Decidable (_ ∧ _))
def rds : List ByteArray → Option (List Int)
 | [] => some []
 | s :: r => if (rdec s).2 = true ∧ nmOk (rdec s).1 then (rds r).map ((rdec s).1 :: ·) else none
theorem rds_len : ∀ (l : List ByteArray) (q : List Int), rds l = some q → q.length = l.length
 | [], q, h => by
  have : q = [] := (Option.some.inj h).symm
  rw [this]; rfl
 | s :: r, q, h => by
  rw [rds] at h
  split at h
  ·obtain ⟨x, hx, rfl⟩ := Option.map_eq_some_iff.1 h
   simp [rds_len r x hx]
  ·cases h
theorem rds_ok : ∀ (l : List ByteArray) (q : List Int), rds l = some q → ∀ x ∈ q, nmOk x
 | [], q, h => by
  have : q = [] := (Option.some.inj h).symm
  rw [this]; simp
 | s :: r, q, h => by
  rw [rds] at h
  split at h
  ·rename_i hc
   obtain ⟨x, hx, rfl⟩ := Option.map_eq_some_iff.1 h
   intro y hy
   rcases List.mem_cons.1 hy with rfl | hy
   ·exact hc.2
   ·exact rds_ok r x hx y hy
  ·cases h
def RL (L : List UInt8) : List Int × Bool := if L = [45] then ([], true) else match rds ((spl 44 L).map Bs) with
 | some q => if 64 < q.length then ([], false) else (q, true)
 | none => ([], false)
theorem RL_ok (L : List UInt8) : (RL L).1.length ≤ 64 ∧ ∀ x ∈ (RL L).1, nmOk x := by
 unfold RL
 split
 ·simp
 ·split
  ·rename_i q hq
   split
   ·simp
   ·exact ⟨by simp only []; omega, rds_ok _ q hq⟩
  ·simp
theorem rdO_in (l : List ByteArray) (i : Nat) (h : i < l.length) : rdOf ByteArray.empty l (i : Int) = l[i] := by unfold rdOf; exact getD_in l _ i h
theorem nm_f (x : Int) : ar_.f x (-1000000000000) 1000000000000 = some (decide (nmOk x)) ∧ ao_.f x (-1000000000000) 1000000000000 = some (decide (nmOk x)) := by
 rw [within_f, in_f]
 have : (decide (-1000000000000 ≤ x) && decide (x ≤ 1000000000000)) = decide (nmOk x) := by
  by_cases h : nmOk x
  rotate_left
  ·rw [decide_eq_false h]
   by_cases h1 : -1000000000000 ≤ x
   rotate_left
   ·rw [decide_eq_false h1, Bool.false_and]
   rw [decide_eq_false (fun h2 => h ⟨h1, h2⟩), Bool.and_false]
  have h2 := h
  unfold nmOk at h2
  rw [decide_eq_true h, decide_eq_true h2.1, decide_eq_true h2.2]
  rfl
 rw [this]
 exact ⟨rfl, rfl⟩
theorem readlist_ev (s : ByteArray) (hs : (s.size : Int) ≤ 1048576) : Ev (fun k => bn_.f k s) (RL s.data.toList) ∧ Ev (fun k => bk_.f k s) (RL s.data.toList) := by
 obtain ⟨L, hL⟩ : ∃ L, L = s.data.toList := ⟨_, rfl⟩
 have hs2 := hs
 rw [← de_ s, ← hL, bR_] at hs2
 rw [← hL]
 have hsB : s = Bs L := by rw [hL, de_]
 simp only [bn_.f, bk_.f]
 have e0 : s.toList = L := by rw [ByteArray.toList_eq, hL]
 rw [e0]
 by_cases c : L = [45]
 ·unfold RL
  rw [if_pos c]
  exact ⟨Ev_t c (Ev_n rfl), Ev_t c (Ev_n rfl)⟩
 obtain ⟨P, hP⟩ : ∃ P, P = (spl 44 L).map Bs := ⟨_, rfl⟩
 have hPl : P.length ≤ L.length + 1 := by rw [hP, List.length_map]; exact spl_len 44 L
 have hsz : ∀ x ∈ P, (x.size : Int) ≤ 1048576 := by
  have : ∀ (l : List UInt8), ∀ x ∈ spl 44 l, x.length ≤ l.length := by
   intro l
   induction l with
   | nil => intro x hx; simp [spl] at hx; simp [hx]
   | cons b l ih =>
    intro x hx
    rw [spl] at hx
    split at hx
    ·rcases List.mem_cons.1 hx with rfl | hx
     ·simp
     ·have := ih x hx; simp; omega
    ·split at hx
     ·rename_i h t e
      rcases List.mem_cons.1 hx with rfl | hx
      ·have := ih h (by rw [e]; simp); simp; omega
      ·have := ih x (by rw [e]; simp [hx]); simp; omega
     ·have : x = [b] := by simpa using hx
      subst this
      simp
  intro x hx
  rw [hP] at hx
  obtain ⟨y, hy, rfl⟩ := List.mem_map.1 hx
  have := this L y hy
  rw [bR_]
  omega
 have hsplit : strings_Split.f s (⟨#[44]⟩ : ByteArray) = some P := by
  have := split_f s hs 44
  rw [← hL, ← hP] at this
  exact this
 have hspec : Ev (fun k => aP_.f k s 44) P := by
  rw [hsB, hP]
  exact split_spec L hs2 44
 have eRL : RL L = match rds P with
   | some q => if 64 < q.length then ([], false) else (q, true)
   | none => ([], false) := by unfold RL; rw [if_neg c, ← hP]
 refine ⟨Ev_f c (Ev_b hspec ?_), Ev_f c (Ev_b (Ev_c hsplit) ?_)⟩
 ·by_cases h64 : (P.length : Int) > 64
  ·refine Ev_t h64 (Ev_n ?_)
   rw [eRL]
   cases hr : rds P with
   | none => rfl
   | some q =>
    have := rds_len P q hr
    simp only []
    rw [if_pos (by omega)]
  ·refine Ev_f h64 ?_
   have go : ∀ (d i : Nat) (acc : List Int), i + d = P.length → acc.length = i → Ev (fun k => bn_.l0 k P acc i) (match rds (P.drop i) with | some q => (acc ++ q, true) | none => ([], false)) := by
    intro d
    induction d with
    | zero =>
     intro i acc h1 h2
     refine be_ ?_
     simp only [bn_.l0]
     rw [List.drop_of_length_le (by omega)]
     exact Ev_f (by omega) (Ev_n (by simp [rds]))
    | succ d ih =>
     intro i acc h1 h2
     have hi : i < P.length := by omega
     refine be_ ?_
     simp only [bn_.l0]
     rw [rdO_in P i hi, List.drop_eq_getElem_cons hi, rds]
     refine Ev_t (by omega) (Ev_t (by omega) (Ev_b (read_spec P[i] (hsz _ (List.getElem_mem _))) ?_))
     by_cases c1 : (rdec P[i]).2 = true
     rotate_left
     ·refine Ev_f c1 (Ev_n ?_)
      rw [if_neg (fun h => c1 h.1)]
     refine Ev_t c1 (Ev_b (Ev_c (nm_f _).2) ?_)
     by_cases c2 : nmOk (rdec P[i]).1
     rotate_left
     ·refine Ev_f (by simpa using c2) (Ev_n ?_)
      rw [if_neg (fun h => c2 h.2)]
     refine Ev_t (by simpa using c2) (Ev_t (by omega) ?_)
     rw [wr64s i (by omega), if_pos ⟨c1, c2⟩]
     have := ih (i + 1) (acc ++ [(rdec P[i]).1]) (by omega) (by simp [h2])
     refine Ev_at this ?_
     cases rds (P.drop (i + 1)) with
     | none => rfl
     | some q => simp
   have := go P.length 0 [] (by omega) rfl
   rw [List.drop_zero] at this
   refine Ev_at this ?_
   rw [eRL]
   cases hr : rds P with
   | none => rfl
   | some q =>
    have := rds_len P q hr
    simp only [List.nil_append]
    rw [if_neg (by omega)]
 ·have go : ∀ (d i : Nat) (acc : List Int), i + d = P.length → acc.length = i → Ev (fun k => bk_.l0 k acc P (P.length : Int) i) (match rds (P.drop i) with | some q => if 64 < (acc ++ q).length then ([], false) else (acc ++ q, true) | none => ([], false)) := by
   intro d
   induction d with
   | zero =>
    intro i acc h1 h2
    refine be_ ?_
    simp only [bk_.l0]
    rw [List.drop_of_length_le (by omega)]
    refine Ev_f (by omega) ?_
    simp only [rds, List.append_nil]
    by_cases c64 : 64 < acc.length
    rotate_left
    ·rw [if_neg c64]; exact Ev_f (by omega) (Ev_n rfl)
    rw [if_pos c64]; exact Ev_t (by omega) (Ev_n rfl)
   | succ d ih =>
    intro i acc h1 h2
    have hi : i < P.length := by omega
    refine be_ ?_
    simp only [bk_.l0]
    rw [rdO_in P i hi, List.drop_eq_getElem_cons hi, rds]
    refine Ev_t (by omega) (Ev_t (by omega) (Ev_t (by omega) (Ev_b (da_ P[i]) ?_)))
    by_cases c1 : (rdec P[i]).2 = true
    rotate_left
    ·refine Ev_f c1 (Ev_n ?_)
     rw [if_neg (fun h => c1 h.1)]
    refine Ev_t c1 (Ev_b (Ev_c (nm_f _).1) ?_)
    by_cases c2 : nmOk (rdec P[i]).1
    rotate_left
    ·refine Ev_f (by simpa using c2) (Ev_n ?_)
     rw [if_neg (fun h => c2 h.2)]
    refine Ev_t (by simpa using c2) (Ev_t (by omega) ?_)
    rw [wr64s i (by omega), if_pos ⟨c1, c2⟩]
    have := ih (i + 1) (acc ++ [(rdec P[i]).1]) (by omega) (by simp [h2])
    refine Ev_at this ?_
    cases rds (P.drop (i + 1)) with
    | none => rfl
    | some q => simp
  have := go P.length 0 [] (by omega) rfl
  rw [List.drop_zero] at this
  refine Ev_at this ?_
  rw [eRL]
  cases hr : rds P with
  | none => rfl
  | some q => simp
theorem join_one (c : UInt8) (x : List UInt8) : Go.Lib.join [x] [c] = x := by simp [Go.Lib.join, List.intercalate]
theorem join_two (c : UInt8) (x y : List UInt8) (r : List (List UInt8)) : Go.Lib.join (x :: y :: r) [c] = x ++ c :: Go.Lib.join (y :: r) [c] := by simp [Go.Lib.join, List.intercalate]
theorem join_spl (c : UInt8) : ∀ L : List UInt8, Go.Lib.join (spl c L) [c] = L
 | [] => by rw [spl, join_one]
 | b :: l => by
  have ih := join_spl c l
  rw [spl]
  split
  ·rename_i h
   cases hs : spl c l with
   | nil => exact absurd hs (spl_ne c l)
   | cons a t => rw [join_two, ← hs, ih, h]; rfl
  ·cases hs : spl c l with
   | nil => exact absurd hs (spl_ne c l)
   | cons a t =>
    rw [hs] at ih
    simp only []
    cases t with
    | nil => rw [join_one] at ih ⊢; rw [ih]
    | cons y r => rw [join_two] at ih ⊢; rw [← ih]; rfl
theorem spl_short (c : UInt8) : ∀ l : List UInt8, ∀ x ∈ spl c l, x.length ≤ l.length := by
 intro l
 induction l with
 | nil => intro x hx; simp [spl] at hx; simp [hx]
 | cons b l ih =>
  intro x hx
  rw [spl] at hx
  split at hx
  ·rcases List.mem_cons.1 hx with rfl | hx
   ·simp
   ·have := ih x hx; simp; omega
  ·split at hx
   ·rename_i h t e
    rcases List.mem_cons.1 hx with rfl | hx
    ·have := ih h (by rw [e]; simp); simp; omega
    ·have := ih x (by rw [e]; simp [hx]); simp; omega
   ·have : x = [b] := by simpa using hx
    subst this
    simp
theorem rd_its (x : ByteArray) (h : (rdec x).2 = true) : its (rdec x).1 = x := by
 have core : ∀ (neg : Bool) (l : List UInt8), (rdv neg l).2 = true → Go.Lib.itoa (rdv neg l).1 = if neg then 45 :: l else l := by
  intro neg l h
  unfold rdv at h ⊢
  split at h
  ·rename_i hc
   rw [if_pos hc]
   obtain ⟨h1, h2, hd, hz⟩ := hc
   have h0 : l ≠ [] := fun e => by rw [e] at h1; simp at h1
   simp only []
   by_cases hh : l.head? = some 48
   rotate_left
   ·have hd2 := dec_dval l.length l rfl hd (fun c hc e => hh (by rw [hc]; congr 1; exact UInt8.toNat.inj (by rw [e]; rfl))) h0
    cases neg with
    | true => rw [if_pos rfl, if_pos rfl, Go.Lib.itoa_neg _ (by have := hd2.2; omega), hd2.1]
    | false => rw [if_neg (by decide), if_neg (by decide), itoa_pos, hd2.1]
   obtain ⟨hn, hl⟩ := hz hh
   subst hn
   have hl1 : l = [48] := by
    cases l with
    | nil => simp at hl
    | cons a r =>
     have : r = [] := by simpa using hl
     subst this
     have : a = 48 := by simpa using hh
     rw [this]
   subst hl1
   rw [if_neg (by decide), if_neg (by decide), itoa_pos]
   exact dec_zero
  ·cases h
 unfold its
 have : Go.Lib.itoa (rdec x).1 = x.data.toList := by
  unfold rdec at h ⊢
  cases hx : x.data.toList with
  | nil => rw [hx, rdl] at h; have := core false [] h; rw [rdl, this]; rfl
  | cons c l =>
   rw [hx, rdl] at h
   rw [rdl]
   by_cases hc : c = 45
   rotate_left
   ·rw [if_neg hc] at h ⊢
    rw [core false (c :: l) h]; rfl
   rw [if_pos hc] at h ⊢
   rw [core true l h, hc]; rfl
 rw [this, de_]
theorem rdec_bad (l : List UInt8) (b : UInt8) (hb : b ∈ l) (h1 : ¬ isD b) (h2 : b ≠ 45) : (rdec (Bs l)).2 = false := by
 have hv : ∀ (neg : Bool) (l : List UInt8), b ∈ l → (rdv neg l).2 = false := by
  intro neg l hb
  unfold rdv
  rw [if_neg (fun h => h1 (h.2.2.1 b hb))]
 unfold rdec
 rw [dd_]
 cases l with
 | nil => cases hb
 | cons c r =>
  rw [rdl]
  by_cases hc : c = 45
  rotate_left
  ·rw [if_neg hc]
   exact hv false (c :: r) hb
  rw [if_pos hc]
  rcases List.mem_cons.1 hb with h | h
  ·exact absurd (h.trans hc) h2
  ·exact hv true r h
theorem spl_miss (c : UInt8) (L : List UInt8) (h : Go.Lib.index L [c] = -1) : spl c L = [L] := by
 rw [← splitK_eq, Go.Lib.count_miss h]
 rfl
theorem spl_hit (c : UInt8) (L : List UInt8) (j : Nat) (h : Go.Lib.index L [c] = j) : spl c L = L.take j :: spl c (L.drop (j + 1)) := by
 rw [← splitK_eq, Go.Lib.count_hit (by simp) h, ← splitK_eq c (L.drop (j + 1))]
 rw [show [c].length = 1 from rfl, Nat.add_comm, Go.Lib.splitK, h]
 rfl
theorem spl_none (c : UInt8) : ∀ L : List UInt8, c ∉ L → spl c L = [L]
 | [], _ => rfl
 | b :: l, h => by
  have h1 : b ≠ c := fun e => h (by rw [e]; exact List.mem_cons_self ..)
  rw [spl, if_neg h1, spl_none c l (fun h2 => h (List.mem_cons_of_mem _ h2))]
theorem size_ev (s : ByteArray) (hs : (s.size : Int) ≤ 1048576) : ∃ a b a' b' u, Ev (fun k => cc_.f k s) (a, b, u) ∧ Ev (fun k => cp_.f k s) (a', b', u) ∧ (u = true → a = a' ∧ b = b' ∧ (its a ++ (⟨#[120]⟩ : ByteArray)) ++ its b = s) := by
 obtain ⟨L, hL⟩ : ∃ L, L = s.data.toList := ⟨_, rfl⟩
 have hsB : s = Bs L := by rw [hL, de_]
 subst hsB
 rw [bR_] at hs
 have hsplit : Ev (fun k => aP_.f k (Bs L) 120) ((spl 120 L).map Bs) := split_spec L hs 120
 have hcut : strings_Cut.f (Bs L) (⟨#[120]⟩ : ByteArray) = some (Bs (Go.Lib.cut L [120]).1, Bs (Go.Lib.cut L [120]).2.1, (Go.Lib.cut L [120]).2.2) := by
  unfold strings_Cut.f
  rw [if_pos (by rw [bR_]; omega), dd_, show (⟨#[120]⟩ : ByteArray).data.toList = [120] from rfl]
 simp only [cc_.f, cp_.f]
 rw [hcut]
 have sfail : (spl 120 L).length ≠ 2 → Ev (fun k => (aP_.f k (Bs L) 120).bind fun t101 => (if (t101.length : Int) = 2 then (if 0 < (t101.length : Int) then ((aj_.f k (rdOf ByteArray.empty t101 0)).bind fun bt105 => (if 1 < (t101.length : Int) then ((aj_.f k (rdOf ByteArray.empty t101 1)).bind fun bt108 => (if bt105.2 = true then (some (bt105.1, bt108.1, bt108.2)) else (some (bt105.1, bt108.1, false)))) else (none))) else (none)) else (some ((0 : Int), (0 : Int), false)))) (0, 0, false) := fun h =>
  Ev_b hsplit (Ev_f (by rw [List.length_map]; omega) (Ev_n rfl))
 have hge := Go.Lib.index_ge L [120]
 by_cases hm : Go.Lib.index L [120] = -1
 ·have h1 := spl_miss 120 L hm
  have hc : Go.Lib.cut L [120] = (L, [], false) := by unfold Go.Lib.cut; rw [if_neg (by omega)]
  rw [hc]
  exact ⟨_, _, _, _, false, sfail (by rw [h1]; simp), Ev_s (Ev_b (da_ _) (Ev_b (da_ _) (Ev_f (by simp) (Ev_n rfl)))), fun h => by cases h⟩
 obtain ⟨j, hj⟩ : ∃ j : Nat, Go.Lib.index L [120] = j := ⟨(Go.Lib.index L [120]).toNat, by omega⟩
 have h1 := spl_hit 120 L j hj
 have hc : Go.Lib.cut L [120] = (L.take j, L.drop (j + 1), true) := by
  unfold Go.Lib.cut
  rw [if_pos (by omega), hj]
  simp
 rw [hc]
 obtain ⟨A, hA⟩ : ∃ A, A = L.take j := ⟨_, rfl⟩
 obtain ⟨B, hB⟩ : ∃ B, B = L.drop (j + 1) := ⟨_, rfl⟩
 have hAl : (A.length : Int) ≤ 1048576 := by rw [hA, List.length_take]; omega
 have hBl : (B.length : Int) ≤ 1048576 := by rw [hB, List.length_drop]; omega
 rw [← hA, ← hB] at h1
 simp only [← hA, ← hB]
 have im : ∀ v, v = (if (rdec (Bs A)).2 = true then ((rdec (Bs A)).1, (rdec (Bs B)).1, (rdec (Bs B)).2) else ((rdec (Bs A)).1, (rdec (Bs B)).1, false)) → Ev (fun k => (some (Bs A, Bs B, true)).bind fun bt101 => ((ak_.f k bt101.1).bind fun bt104 => ((ak_.f k bt101.2.1).bind fun bt106 => (if bt101.2.2 = true then (if bt104.2 = true then (some (bt104.1, bt106.1, bt106.2)) else (some (bt104.1, bt106.1, false))) else (some (bt104.1, bt106.1, false)))))) v := by
  intro v hv
  refine Ev_s (Ev_b (da_ _) (Ev_b (da_ _) (Ev_t rfl ?_)))
  by_cases c : (rdec (Bs A)).2 = true
  rotate_left
  ·rw [if_neg c] at hv; exact Ev_f c (Ev_n hv.symm)
  rw [if_pos c] at hv; exact Ev_t c (Ev_n hv.symm)
 by_cases h2 : (120 : UInt8) ∈ B
 rotate_left
 ·rw [spl_none 120 B h2] at h1
  have hP : (spl 120 L).map Bs = [Bs A, Bs B] := by rw [h1]; rfl
  rw [hP] at hsplit
  have r0 : rdOf ByteArray.empty [Bs A, Bs B] 0 = Bs A := rfl
  have r1 : rdOf ByteArray.empty [Bs A, Bs B] 1 = Bs B := rfl
  have e1 := read_spec (Bs A) (by rw [bR_]; exact hAl)
  have e2 := read_spec (Bs B) (by rw [bR_]; exact hBl)
  by_cases c : (rdec (Bs A)).2 = true
  rotate_left
  ·refine ⟨(rdec (Bs A)).1, (rdec (Bs B)).1, (rdec (Bs A)).1, (rdec (Bs B)).1, false, ?_, im _ (by rw [if_neg c]), fun h => by cases h⟩
   refine Ev_b hsplit (Ev_t (by simp) (Ev_t (by simp) ?_))
   rw [r0, r1]
   exact Ev_b e1 (Ev_t (by simp) (Ev_b e2 (Ev_f c (Ev_n rfl))))
  refine ⟨(rdec (Bs A)).1, (rdec (Bs B)).1, (rdec (Bs A)).1, (rdec (Bs B)).1, (rdec (Bs B)).2, ?_, im _ (by rw [if_pos c]), fun h => ⟨rfl, rfl, ?_⟩⟩
  ·refine Ev_b hsplit (Ev_t (by simp) (Ev_t (by simp) ?_))
   rw [r0, r1]
   exact Ev_b e1 (Ev_t (by simp) (Ev_b e2 (Ev_t c (Ev_n rfl))))
  ·rw [rd_its _ c, rd_its _ h]
   have hj := join_spl 120 L
   rw [h1, join_two, join_one] at hj
   rw [show (⟨#[120]⟩ : ByteArray) = Bs [120] from rfl, Bs_app, Bs_app, ← hj]
   simp
 have h3 : (rdec (Bs B)).2 = false := rdec_bad B 120 h2 (by unfold isD; decide) (by decide)
 refine ⟨0, 0, (rdec (Bs A)).1, (rdec (Bs B)).1, false, sfail ?_, im _ ?_, fun h => by cases h⟩
 ·intro hlen
  have h5 : (spl 120 B).length = 1 := by rw [h1] at hlen; simpa using hlen
  cases hs : spl 120 B with
  | nil => exact spl_ne _ _ hs
  | cons x t =>
   have : t = [] := by rw [hs] at h5; simpa using h5
   subst this
   have hj := join_spl 120 B
   rw [hs, join_one] at hj
   subst hj
   have : ∀ (l : List UInt8), ∀ y ∈ spl 120 l, (120 : UInt8) ∉ y := by
    intro l
    induction l with
    | nil => intro y hy; simp [spl] at hy; simp [hy]
    | cons b l ih =>
     intro y hy
     rw [spl] at hy
     split at hy
     ·rcases List.mem_cons.1 hy with rfl | hy
      ·simp
      ·exact ih y hy
     ·rename_i hb
      cases hs : spl 120 l with
      | nil => exact absurd hs (spl_ne _ _)
      | cons a t =>
       rw [hs] at hy
       rcases List.mem_cons.1 hy with rfl | hy
       ·intro h
        rcases List.mem_cons.1 h with h | h
        ·exact hb h.symm
        ·exact ih a (by rw [hs]; exact List.mem_cons_self ..) h
       ·exact ih y (by rw [hs]; exact List.mem_cons_of_mem _ hy)
   exact this x x (by rw [hs]; exact List.mem_cons_self ..) h2
 ·rw [h3]; split <;> rfl
def vtx (a : ByteArray) (m n : Int) : ByteArray := (((a ++ (⟨#[32]⟩ : ByteArray)) ++ its m) ++ (⟨#[32]⟩ : ByteArray)) ++ its n
theorem Bs_inj {a b : List UInt8} (h : Bs a = Bs b) : a = b := by
 have := congrArg (fun s : ByteArray => s.data.toList) h
 simpa using this
theorem ven_ev (s : ByteArray) (hs : (s.size : Int) ≤ 1048576) : ∃ v : ByteArray × Int × Int × Bool, Ev (fun k => cv_.f k s) v ∧ Ev (fun k => ch_.f k s) v ∧ (v.2.2.2 = true → vVen v.1.toList v.2.1 v.2.2.1 = true ∧ vtx v.1 v.2.1 v.2.2.1 = s) := by
 obtain ⟨L, hL⟩ : ∃ L, L = s.data.toList := ⟨_, rfl⟩
 have hsB : s = Bs L := by rw [hL, de_]
 subst hsB
 rw [bR_] at hs
 have hsplit : Ev (fun k => aP_.f k (Bs L) 32) ((spl 32 L).map Bs) := split_spec L hs 32
 have hspl : strings_Split.f (Bs L) (⟨#[32]⟩ : ByteArray) = some ((spl 32 L).map Bs) := by
  have := split_f (Bs L) (by rw [bR_]; exact hs) 32
  rw [dd_] at this
  exact this
 simp only [cv_.f, ch_.f]
 rw [hspl]
 by_cases h3 : (spl 32 L).length = 3
 case neg => exact ⟨(⟨#[]⟩, 0, 0, false), Ev_b hsplit (Ev_f (by rw [List.length_map]; omega) (Ev_n rfl)), Ev_s (Ev_f (by rw [List.length_map]; omega) (Ev_n rfl)), fun h => by cases h⟩
 have hj := join_spl 32 L
 have hsz : ∀ x ∈ spl 32 L, x.length ≤ L.length := spl_short 32 L
 cases hs1 : spl 32 L with
 | nil => rw [hs1] at h3; simp at h3
 | cons a t =>
 cases t with
 | nil => rw [hs1] at h3; simp at h3
 | cons b t =>
 cases t with
 | nil => rw [hs1] at h3; simp at h3
 | cons c t =>
 have ht : t = [] := by rw [hs1] at h3; simpa using h3
 subst ht
 rw [hs1] at hsplit hj hsz
 rw [join_two, join_two, join_one] at hj
 have hP : [a, b, c].map Bs = [Bs a, Bs b, Bs c] := rfl
 rw [hP] at hsplit ⊢
 have r0 : rdOf ByteArray.empty [Bs a, Bs b, Bs c] 0 = Bs a := rfl
 have r1 : rdOf ByteArray.empty [Bs a, Bs b, Bs c] 1 = Bs b := rfl
 have r2 : rdOf ByteArray.empty [Bs a, Bs b, Bs c] 2 = Bs c := rfl
 have e1 := read_spec (Bs b) (by have := hsz b (by simp); rw [bR_]; omega)
 have e2 := read_spec (Bs c) (by have := hsz c (by simp); rw [bR_]; omega)
 have i1 := da_ (Bs b)
 have i2 := da_ (Bs c)
 by_cases c1 : (rdec (Bs b)).2 = true
 case neg =>
  refine ⟨(⟨#[]⟩, 0, 0, false), Ev_b hsplit (Ev_t (by simp) (Ev_t (by simp) ?_)), Ev_s (Ev_t (by simp) (Ev_t (by simp) ?_)), fun h => by cases h⟩
  ·rw [r1, r2]; exact Ev_b e1 (Ev_t (by simp) (Ev_b e2 (Ev_t (by simp) (Ev_f c1 (Ev_n rfl)))))
  ·rw [r1, r2]; exact Ev_b i1 (Ev_t (by simp) (Ev_b i2 (Ev_t (by simp) (Ev_f c1 (Ev_n rfl)))))
 by_cases c2 : (rdec (Bs c)).2 = true
 case neg =>
  refine ⟨(⟨#[]⟩, 0, 0, false), Ev_b hsplit (Ev_t (by simp) (Ev_t (by simp) ?_)), Ev_s (Ev_t (by simp) (Ev_t (by simp) ?_)), fun h => by cases h⟩
  ·rw [r1, r2]; exact Ev_b e1 (Ev_t (by simp) (Ev_b e2 (Ev_t (by simp) (Ev_t c1 (Ev_f c2 (Ev_n rfl))))))
  ·rw [r1, r2]; exact Ev_b i1 (Ev_t (by simp) (Ev_b i2 (Ev_t (by simp) (Ev_t c1 (Ev_f c2 (Ev_n rfl))))))
 have v1 : Ev (fun k => bp_.f k [(⟨Bs a, (rdec (Bs b)).1, (rdec (Bs c)).1⟩ : S40)]) (vVen (Bs a).toList (rdec (Bs b)).1 (rdec (Bs c)).1) := ⟨12, fun k hk => l07Ok_f _ k hk⟩
 have v2 := iValidVeneer_f (Bs a) (rdec (Bs b)).1 (rdec (Bs c)).1
 cases hv : vVen (Bs a).toList (rdec (Bs b)).1 (rdec (Bs c)).1 with
 | false =>
  rw [hv] at v1 v2
  refine ⟨(⟨#[]⟩, 0, 0, false), Ev_b hsplit (Ev_t (by simp) (Ev_t (by simp) ?_)), Ev_s (Ev_t (by simp) (Ev_t (by simp) ?_)), fun h => by cases h⟩
  ·rw [r1, r2, r0]; exact Ev_b e1 (Ev_t (by simp) (Ev_b e2 (Ev_t (by simp) (Ev_t c1 (Ev_t c2 (Ev_b v1 (Ev_f (by decide) (Ev_n rfl))))))))
  ·rw [r1, r2, r0]; exact Ev_b i1 (Ev_t (by simp) (Ev_b i2 (Ev_t (by simp) (Ev_t c1 (Ev_t c2 (Ev_b (Ev_c v2) (Ev_f (by decide) (Ev_n rfl))))))))
 | true =>
  rw [hv] at v1 v2
  refine ⟨(Bs a, (rdec (Bs b)).1, (rdec (Bs c)).1, true), Ev_b hsplit (Ev_t (by simp) (Ev_t (by simp) ?_)), Ev_s (Ev_t (by simp) (Ev_t (by simp) ?_)), fun h => ⟨hv, ?_⟩⟩
  ·rw [r1, r2, r0]; exact Ev_b e1 (Ev_t (by simp) (Ev_b e2 (Ev_t (by simp) (Ev_t c1 (Ev_t c2 (Ev_b v1 (Ev_t rfl (Ev_n rfl))))))))
  ·rw [r1, r2, r0]; exact Ev_b i1 (Ev_t (by simp) (Ev_b i2 (Ev_t (by simp) (Ev_t c1 (Ev_t c2 (Ev_b (Ev_c v2) (Ev_t rfl (Ev_n rfl))))))))
  ·unfold vtx
   simp only []
   rw [rd_its _ c1, rd_its _ c2, show (⟨#[32]⟩ : ByteArray) = Bs [32] from rfl, Bs_app, Bs_app, Bs_app, Bs_app, ← hj]
   simp
theorem itl_rds : ∀ (P : List (List UInt8)) (q : List Int), rds (P.map Bs) = some q → itl q = P
 | [], q, h => by
  have : q = [] := (Option.some.inj h).symm
  rw [this]; rfl
 | x :: P, q, h => by
  rw [List.map_cons, rds] at h
  split at h
  ·rename_i hc
   obtain ⟨r, hr, rfl⟩ := Option.map_eq_some_iff.1 h
   have ih := itl_rds P r hr
   have h1 := rd_its (Bs x) hc.1
   unfold itl at ih ⊢
   rw [List.map_cons, ih]
   congr 1
   exact Bs_inj h1
  ·cases h
theorem RL_text (L : List UInt8) (h : (RL L).2 = true) : LT_ (RL L).1 = Bs L := by
 unfold RL at h ⊢
 split
 ·rename_i hc; rw [hc]; rfl
 ·rename_i hc
  rw [if_neg hc] at h
  split
  ·rename_i q hq
   rw [hq] at h
   simp only [] at h
   split at h
   ·cases h
   ·rename_i h64
    rw [if_neg h64]
    have h1 := itl_rds _ q hq
    have hn : q ≠ [] := fun e => by
     rw [e] at h1
     exact spl_ne 44 L h1.symm
    unfold LT_
    simp only []
    rw [if_neg hn, h1, ← icat_eq, join_spl]
  ·rename_i hq
   rw [hq] at h
   cases h
def rb (s : ByteArray) : Option Bx := if (RL s.data.toList).2 = true ∧ (RL s.data.toList).1.length = 4 then some ⟨rd (RL s.data.toList).1 0, rd (RL s.data.toList).1 1, rd (RL s.data.toList).1 2, rd (RL s.data.toList).1 3⟩ else none
def rbs : List ByteArray → Option (List Bx)
 | [] => some []
 | s :: r => match rb s with
  | some b => (rbs r).map (b :: ·)
  | none => none
def bLi (b : Bx) : List Int := [b.f0, b.f1, b.f2, b.f3]
theorem rb_text (s : ByteArray) (b : Bx) (h : rb s = some b) : LT_ (bLi b) = s ∧ ∀ n ∈ bLi b, nmOk n := by
 unfold rb at h
 split at h
 ·rename_i hc
  have e : bLi b = (RL s.data.toList).1 := by
   have hb := (Option.some.inj h).symm
   subst hb
   unfold bLi
   cases hq : (RL s.data.toList).1 with
   | nil => rw [hq] at hc; simp at hc
   | cons x q =>
   cases q with
   | nil => rw [hq] at hc; simp at hc
   | cons y q =>
   cases q with
   | nil => rw [hq] at hc; simp at hc
   | cons z q =>
   cases q with
   | nil => rw [hq] at hc; simp at hc
   | cons w q =>
   have : q = [] := by have := hc.2; rw [hq] at this; simpa using this
   subst this
   rfl
  rw [e]
  refine ⟨?_, (RL_ok _).2⟩
  rw [RL_text _ hc.1, de_]
 ·cases h
theorem rbs_len : ∀ (l : List ByteArray) (q : List Bx), rbs l = some q → q.length = l.length
 | [], q, h => by
  have : q = [] := (Option.some.inj h).symm
  rw [this]; rfl
 | s :: r, q, h => by
  rw [rbs] at h
  split at h
  ·obtain ⟨x, hx, rfl⟩ := Option.map_eq_some_iff.1 h
   simp [rbs_len r x hx]
  ·cases h
theorem rbs_text : ∀ (l : List ByteArray) (q : List Bx), rbs l = some q → q.map (fun b => LT_ (bLi b)) = l ∧ ∀ b ∈ q, ∀ n ∈ bLi b, nmOk n
 | [], q, h => by
  have : q = [] := (Option.some.inj h).symm
  rw [this]; exact ⟨rfl, by simp⟩
 | s :: r, q, h => by
  rw [rbs] at h
  split at h
  ·rename_i b hb
   obtain ⟨x, hx, rfl⟩ := Option.map_eq_some_iff.1 h
   obtain ⟨h1, h2⟩ := rbs_text r x hx
   obtain ⟨h3, h4⟩ := rb_text s b hb
   refine ⟨by rw [List.map_cons, h1, h3], fun y hy => ?_⟩
   rcases List.mem_cons.1 hy with rfl | hy
   ·exact h4
   ·exact h2 y hy
  ·cases h
end Go.Proofs.YtckboiphlhhckaaGreatDoor.Q
