/- For all arguments that the law's sizes let in, the program's BlocksOfLeaves gives what the reference gives. This text holds the last walks, the plain law and the row. -/
import Derived.Lib.ItoaLen
import Derived.Lib.SplitLaws
import Derived.Lib.IndexBytes
import Derived.HandedShaped
import Derived.Test.YtckboiphlhhckaaDoorRows
import Derived.Test.YtckboiphlhhckaaDoorCards
import Derived.Test.YtckboiphlhhckaaDoorTie
import Derived.Stop.LaidErr
import Derived.LaidMore
import Derived.Lay
import Derived.SevenTiedAt
import Derived.Stop.Joined
import Derived.Lib.LaidTab
import Derived.WalkKit
import Derived.ProofKit
import Derived.OpenShut
import Derived.ShutString
import Derived.ChangeOld
import Derived.Below
import Derived.SizedLaws
import Derived.Carry
import Derived.Test.YtckboiphlhhckaaDoorKFnExactBlocksOfLeavesa
import Derived.Test.YtckboiphlhhckaaDoorKFnExactBlocksOfLeavese
import Derived.Test.YtckboiphlhhckaaDoorKFnExactBlocksOfLeavesc
import Derived.Test.YtckboiphlhhckaaDoorKFnExactBlocksOfLeavesd
import Derived.Test.YtckboiphlhhckaaDoorKFnExactBlocksOfLeavesb
set_option linter.unusedVariables false
set_option linter.unusedSimpArgs false
namespace Go.Proofs.YtckboiphlhhckaaDoor.Q
open Go.RowKit Go.Proofs.YtckboiphlhhckaaDoorW.PrintWords Go.Proofs.YtckboiphlhhckaaDoorW.PrintLast Go.Proofs.YtckboiphlhhckaaDoorW.PrintMore
attribute [local go_sem] max2_int min2_int max_two min_two max_three min_three max_four min_four
set_option linter.unusedVariables false
set_option linter.unusedSimpArgs false
theorem deep_R {α β : Type} {d : Kd α} {dA : Kd β} {e eA base baseA : Nat} {ok okA : Nat → Prop} {W : World} {u : Value} {xs : List α} (h : d.R e W base ok u xs) (ht : ∀ q, q ∈ e :: d.E → ∀ q2, q2 ∈ eA :: dA.E → q ≠ q2) :
  d.R e W base (fun k => ok k ∧ ¬ (okA k ∧ baseA ≤ k ∧ k < W.heap.size ∧ ∃ q, q ∈ eA :: dA.E ∧ ∃ cells, W.heap[k]? = some (.cells cells q (0, 0)))) u xs := by
 refine Kd.R_mono (Kd.R_bound h) (fun k hk => ⟨hk.1, fun hp => ?_⟩)
 obtain ⟨_, _, _, q, hq, c1, h1⟩ := hk
 obtain ⟨_, _, _, q2, hq2, c2, h2⟩ := hp
 rw [h1] at h2
 injection h2 with h2
 injection h2 with h3 h4
 exact ht q hq q2 hq2 h4
theorem laws_markLeafS.cells {W : World} {base g n cap : Nat} {ok : Nat → Prop} {xs : List S69} (h : Kd.S k69 69 W base ok (.slice (some ⟨g, 0, none⟩) n cap) xs) (i : Int) (h0 : 0 ≤ i) (h1 : i < n) :
  ∃ vI A c, vI = Value.slice A (rd_T69 xs i).f6.length c ∧ W.cell? ⟨g, i.toNat * 9, none⟩ = some (.string ((rd_T69 xs i).f0)) ∧ W.cell? ⟨g, i.toNat * 9 + 1, none⟩ = some (.string ((rd_T69 xs i).f1)) ∧ W.cell? ⟨g, i.toNat * 9 + 2, none⟩ = some (.int .i64 ((rd_T69 xs i).f2)) ∧ W.cell? ⟨g, i.toNat * 9 + 3, none⟩ = some (.string ((rd_T69 xs i).f3.f0)) ∧ W.cell? ⟨g, i.toNat * 9 + 4, none⟩ = some (.int .i64 ((rd_T69 xs i).f3.f1)) ∧ W.cell? ⟨g, i.toNat * 9 + 5, none⟩ = some (.int .i64 ((rd_T69 xs i).f3.f2)) ∧ W.cell? ⟨g, i.toNat * 9 + 6, none⟩ = some (.int .i64 ((rd_T69 xs i).f4)) ∧ W.cell? ⟨g, i.toNat * 9 + 7, none⟩ = some (.int .i64 ((rd_T69 xs i).f5)) ∧ W.cell? ⟨g, i.toNat * 9 + 8, none⟩ = some vI ∧ W.frozen? ⟨g, i.toNat * 9, none⟩ = false ∧ W.frozen? ⟨g, i.toNat * 9 + 1, none⟩ = false ∧ W.frozen? ⟨g, i.toNat * 9 + 2, none⟩ = false ∧ W.frozen? ⟨g, i.toNat * 9 + 3, none⟩ = false ∧ W.frozen? ⟨g, i.toNat * 9 + 4, none⟩ = false ∧ W.frozen? ⟨g, i.toNat * 9 + 5, none⟩ = false ∧ W.frozen? ⟨g, i.toNat * 9 + 6, none⟩ = false ∧ W.frozen? ⟨g, i.toNat * 9 + 7, none⟩ = false ∧
   (∃ oki : Nat → Prop, (∀ k, oki k → ok k) ∧ Kd.R k92 92 W base oki vI (rd_T69 xs i).f6 ∧ ∀ (W2 : World) (ys : List S92), Kept W W2 oki → Kd.R k92 92 W2 base oki vI ys → Kd.S k69 69 W2 base ok (.slice (some ⟨g, 0, none⟩) n cap) (xs.set i.toNat ⟨(rd_T69 xs i).f0, (rd_T69 xs i).f1, (rd_T69 xs i).f2, ⟨(rd_T69 xs i).f3.f0, (rd_T69 xs i).f3.f1, (rd_T69 xs i).f3.f2⟩, (rd_T69 xs i).f4, (rd_T69 xs i).f5, ys⟩)) := by
 obtain ⟨oki, c, hcl, hM, hcc, hfr, hoki, hH⟩ := Kd.S_elem h z69 i h0 h1
 obtain ⟨vI, rfl, hv⟩ := k69_openM hM
 obtain ⟨A, cc, rfl⟩ := Kd.R_slice hv
 refine ⟨_, A, cc, rfl, hcc 0 _ rfl, hcc 1 _ rfl, hcc 2 _ rfl, hcc 3 _ rfl, hcc 4 _ rfl, hcc 5 _ rfl, hcc 6 _ rfl, hcc 7 _ rfl, hcc 8 _ rfl, hfr 0, hfr 1, hfr 2, hfr 3, hfr 4, hfr 5, hfr 6, hfr 7, oki, fun k hk => (hoki k hk).1, hv, fun W2 ys hK hR => ?_⟩
 have hH2 := Kd.H_step hH (w1 := W2) (fun k _ hn hlt => hK.2 k hlt hn)
 exact Kd.H_back hH2 (x' := ⟨(rd_T69 xs i).f0, (rd_T69 xs i).f1, (rd_T69 xs i).f2, ⟨(rd_T69 xs i).f3.f0, (rd_T69 xs i).f3.f1, (rd_T69 xs i).f3.f2⟩, (rd_T69 xs i).f4, (rd_T69 xs i).f5, ys⟩) (k69_mkM _ _ _ (⟨(rd_T69 xs i).f0, (rd_T69 xs i).f1, (rd_T69 xs i).f2, ⟨(rd_T69 xs i).f3.f0, (rd_T69 xs i).f3.f1, (rd_T69 xs i).f3.f2⟩, (rd_T69 xs i).f4, (rd_T69 xs i).f5, ys⟩ : S69) hR) (fun _ hk => hk)
theorem laws_markLeafS.put {W : World} {base g n cap : Nat} {ok : Nat → Prop} {xs : List S69} (h : Kd.S k69 69 W base ok (.slice (some ⟨g, 0, none⟩) n cap) xs) (i : Int) (h0 : 0 ≤ i) (h1 : i < n) :
  (∀ x : ByteArray, Kd.S k69 69 (W.setCell ⟨g, i.toNat * 9, none⟩ (.string x)) base ok (.slice (some ⟨g, 0, none⟩) n cap) (xs.set i.toNat ⟨x, (rd_T69 xs i).f1, (rd_T69 xs i).f2, ⟨(rd_T69 xs i).f3.f0, (rd_T69 xs i).f3.f1, (rd_T69 xs i).f3.f2⟩, (rd_T69 xs i).f4, (rd_T69 xs i).f5, (rd_T69 xs i).f6⟩) ∧ W.grownBy (W.setCell ⟨g, i.toNat * 9, none⟩ (.string x)) (some g)) ∧ (∀ x : ByteArray, Kd.S k69 69 (W.setCell ⟨g, i.toNat * 9 + 1, none⟩ (.string x)) base ok (.slice (some ⟨g, 0, none⟩) n cap) (xs.set i.toNat ⟨(rd_T69 xs i).f0, x, (rd_T69 xs i).f2, ⟨(rd_T69 xs i).f3.f0, (rd_T69 xs i).f3.f1, (rd_T69 xs i).f3.f2⟩, (rd_T69 xs i).f4, (rd_T69 xs i).f5, (rd_T69 xs i).f6⟩) ∧ W.grownBy (W.setCell ⟨g, i.toNat * 9 + 1, none⟩ (.string x)) (some g)) ∧ (∀ x : Int, Kd.S k69 69 (W.setCell ⟨g, i.toNat * 9 + 2, none⟩ (.int .i64 (x))) base ok (.slice (some ⟨g, 0, none⟩) n cap) (xs.set i.toNat ⟨(rd_T69 xs i).f0, (rd_T69 xs i).f1, x, ⟨(rd_T69 xs i).f3.f0, (rd_T69 xs i).f3.f1, (rd_T69 xs i).f3.f2⟩, (rd_T69 xs i).f4, (rd_T69 xs i).f5, (rd_T69 xs i).f6⟩) ∧ W.grownBy (W.setCell ⟨g, i.toNat * 9 + 2, none⟩ (.int .i64 (x))) (some g)) ∧ (∀ x : ByteArray, Kd.S k69 69 (W.setCell ⟨g, i.toNat * 9 + 3, none⟩ (.string x)) base ok (.slice (some ⟨g, 0, none⟩) n cap) (xs.set i.toNat ⟨(rd_T69 xs i).f0, (rd_T69 xs i).f1, (rd_T69 xs i).f2, ⟨x, (rd_T69 xs i).f3.f1, (rd_T69 xs i).f3.f2⟩, (rd_T69 xs i).f4, (rd_T69 xs i).f5, (rd_T69 xs i).f6⟩) ∧ W.grownBy (W.setCell ⟨g, i.toNat * 9 + 3, none⟩ (.string x)) (some g)) ∧ (∀ x : Int, Kd.S k69 69 (W.setCell ⟨g, i.toNat * 9 + 4, none⟩ (.int .i64 (x))) base ok (.slice (some ⟨g, 0, none⟩) n cap) (xs.set i.toNat ⟨(rd_T69 xs i).f0, (rd_T69 xs i).f1, (rd_T69 xs i).f2, ⟨(rd_T69 xs i).f3.f0, x, (rd_T69 xs i).f3.f2⟩, (rd_T69 xs i).f4, (rd_T69 xs i).f5, (rd_T69 xs i).f6⟩) ∧ W.grownBy (W.setCell ⟨g, i.toNat * 9 + 4, none⟩ (.int .i64 (x))) (some g)) ∧ (∀ x : Int, Kd.S k69 69 (W.setCell ⟨g, i.toNat * 9 + 5, none⟩ (.int .i64 (x))) base ok (.slice (some ⟨g, 0, none⟩) n cap) (xs.set i.toNat ⟨(rd_T69 xs i).f0, (rd_T69 xs i).f1, (rd_T69 xs i).f2, ⟨(rd_T69 xs i).f3.f0, (rd_T69 xs i).f3.f1, x⟩, (rd_T69 xs i).f4, (rd_T69 xs i).f5, (rd_T69 xs i).f6⟩) ∧ W.grownBy (W.setCell ⟨g, i.toNat * 9 + 5, none⟩ (.int .i64 (x))) (some g)) ∧ (∀ x : Int, Kd.S k69 69 (W.setCell ⟨g, i.toNat * 9 + 6, none⟩ (.int .i64 (x))) base ok (.slice (some ⟨g, 0, none⟩) n cap) (xs.set i.toNat ⟨(rd_T69 xs i).f0, (rd_T69 xs i).f1, (rd_T69 xs i).f2, ⟨(rd_T69 xs i).f3.f0, (rd_T69 xs i).f3.f1, (rd_T69 xs i).f3.f2⟩, x, (rd_T69 xs i).f5, (rd_T69 xs i).f6⟩) ∧ W.grownBy (W.setCell ⟨g, i.toNat * 9 + 6, none⟩ (.int .i64 (x))) (some g)) ∧ (∀ x : Int, Kd.S k69 69 (W.setCell ⟨g, i.toNat * 9 + 7, none⟩ (.int .i64 (x))) base ok (.slice (some ⟨g, 0, none⟩) n cap) (xs.set i.toNat ⟨(rd_T69 xs i).f0, (rd_T69 xs i).f1, (rd_T69 xs i).f2, ⟨(rd_T69 xs i).f3.f0, (rd_T69 xs i).f3.f1, (rd_T69 xs i).f3.f2⟩, (rd_T69 xs i).f4, x, (rd_T69 xs i).f6⟩) ∧ W.grownBy (W.setCell ⟨g, i.toNat * 9 + 7, none⟩ (.int .i64 (x))) (some g)) ∧ True := by
 obtain ⟨oki, c, hcl, hM, hcc, hfr, hoki, hH⟩ := Kd.S_elem h z69 i h0 h1
 obtain ⟨vI, rfl, hv⟩ := k69_openM hM
 refine ⟨fun x => ?_, fun x => ?_, fun x => ?_, fun x => ?_, fun x => ?_, fun x => ?_, fun x => ?_, fun x => ?_, True.intro⟩
 ·exact Kd.S_seg0 hH h0 h1 (seg := [.string x]) (j := 0) (show 1 ≤ 9 by decide) (x' := ⟨x, (rd_T69 xs i).f1, (rd_T69 xs i).f2, ⟨(rd_T69 xs i).f3.f0, (rd_T69 xs i).f3.f1, (rd_T69 xs i).f3.f2⟩, (rd_T69 xs i).f4, (rd_T69 xs i).f5, (rd_T69 xs i).f6⟩) (k69_mkM _ _ _ (⟨x, (rd_T69 xs i).f1, (rd_T69 xs i).f2, ⟨(rd_T69 xs i).f3.f0, (rd_T69 xs i).f3.f1, (rd_T69 xs i).f3.f2⟩, (rd_T69 xs i).f4, (rd_T69 xs i).f5, (rd_T69 xs i).f6⟩ : S69) hv) (fun _ hk => hk)
 ·exact Kd.S_seg0 hH h0 h1 (seg := [.string x]) (j := 1) (show 2 ≤ 9 by decide) (x' := ⟨(rd_T69 xs i).f0, x, (rd_T69 xs i).f2, ⟨(rd_T69 xs i).f3.f0, (rd_T69 xs i).f3.f1, (rd_T69 xs i).f3.f2⟩, (rd_T69 xs i).f4, (rd_T69 xs i).f5, (rd_T69 xs i).f6⟩) (k69_mkM _ _ _ (⟨(rd_T69 xs i).f0, x, (rd_T69 xs i).f2, ⟨(rd_T69 xs i).f3.f0, (rd_T69 xs i).f3.f1, (rd_T69 xs i).f3.f2⟩, (rd_T69 xs i).f4, (rd_T69 xs i).f5, (rd_T69 xs i).f6⟩ : S69) hv) (fun _ hk => hk)
 ·exact Kd.S_seg0 hH h0 h1 (seg := [.int .i64 (x)]) (j := 2) (show 3 ≤ 9 by decide) (x' := ⟨(rd_T69 xs i).f0, (rd_T69 xs i).f1, x, ⟨(rd_T69 xs i).f3.f0, (rd_T69 xs i).f3.f1, (rd_T69 xs i).f3.f2⟩, (rd_T69 xs i).f4, (rd_T69 xs i).f5, (rd_T69 xs i).f6⟩) (k69_mkM _ _ _ (⟨(rd_T69 xs i).f0, (rd_T69 xs i).f1, x, ⟨(rd_T69 xs i).f3.f0, (rd_T69 xs i).f3.f1, (rd_T69 xs i).f3.f2⟩, (rd_T69 xs i).f4, (rd_T69 xs i).f5, (rd_T69 xs i).f6⟩ : S69) hv) (fun _ hk => hk)
 ·exact Kd.S_seg0 hH h0 h1 (seg := [.string x]) (j := 3) (show 4 ≤ 9 by decide) (x' := ⟨(rd_T69 xs i).f0, (rd_T69 xs i).f1, (rd_T69 xs i).f2, ⟨x, (rd_T69 xs i).f3.f1, (rd_T69 xs i).f3.f2⟩, (rd_T69 xs i).f4, (rd_T69 xs i).f5, (rd_T69 xs i).f6⟩) (k69_mkM _ _ _ (⟨(rd_T69 xs i).f0, (rd_T69 xs i).f1, (rd_T69 xs i).f2, ⟨x, (rd_T69 xs i).f3.f1, (rd_T69 xs i).f3.f2⟩, (rd_T69 xs i).f4, (rd_T69 xs i).f5, (rd_T69 xs i).f6⟩ : S69) hv) (fun _ hk => hk)
 ·exact Kd.S_seg0 hH h0 h1 (seg := [.int .i64 (x)]) (j := 4) (show 5 ≤ 9 by decide) (x' := ⟨(rd_T69 xs i).f0, (rd_T69 xs i).f1, (rd_T69 xs i).f2, ⟨(rd_T69 xs i).f3.f0, x, (rd_T69 xs i).f3.f2⟩, (rd_T69 xs i).f4, (rd_T69 xs i).f5, (rd_T69 xs i).f6⟩) (k69_mkM _ _ _ (⟨(rd_T69 xs i).f0, (rd_T69 xs i).f1, (rd_T69 xs i).f2, ⟨(rd_T69 xs i).f3.f0, x, (rd_T69 xs i).f3.f2⟩, (rd_T69 xs i).f4, (rd_T69 xs i).f5, (rd_T69 xs i).f6⟩ : S69) hv) (fun _ hk => hk)
 ·exact Kd.S_seg0 hH h0 h1 (seg := [.int .i64 (x)]) (j := 5) (show 6 ≤ 9 by decide) (x' := ⟨(rd_T69 xs i).f0, (rd_T69 xs i).f1, (rd_T69 xs i).f2, ⟨(rd_T69 xs i).f3.f0, (rd_T69 xs i).f3.f1, x⟩, (rd_T69 xs i).f4, (rd_T69 xs i).f5, (rd_T69 xs i).f6⟩) (k69_mkM _ _ _ (⟨(rd_T69 xs i).f0, (rd_T69 xs i).f1, (rd_T69 xs i).f2, ⟨(rd_T69 xs i).f3.f0, (rd_T69 xs i).f3.f1, x⟩, (rd_T69 xs i).f4, (rd_T69 xs i).f5, (rd_T69 xs i).f6⟩ : S69) hv) (fun _ hk => hk)
 ·exact Kd.S_seg0 hH h0 h1 (seg := [.int .i64 (x)]) (j := 6) (show 7 ≤ 9 by decide) (x' := ⟨(rd_T69 xs i).f0, (rd_T69 xs i).f1, (rd_T69 xs i).f2, ⟨(rd_T69 xs i).f3.f0, (rd_T69 xs i).f3.f1, (rd_T69 xs i).f3.f2⟩, x, (rd_T69 xs i).f5, (rd_T69 xs i).f6⟩) (k69_mkM _ _ _ (⟨(rd_T69 xs i).f0, (rd_T69 xs i).f1, (rd_T69 xs i).f2, ⟨(rd_T69 xs i).f3.f0, (rd_T69 xs i).f3.f1, (rd_T69 xs i).f3.f2⟩, x, (rd_T69 xs i).f5, (rd_T69 xs i).f6⟩ : S69) hv) (fun _ hk => hk)
 ·exact Kd.S_seg0 hH h0 h1 (seg := [.int .i64 (x)]) (j := 7) (show 8 ≤ 9 by decide) (x' := ⟨(rd_T69 xs i).f0, (rd_T69 xs i).f1, (rd_T69 xs i).f2, ⟨(rd_T69 xs i).f3.f0, (rd_T69 xs i).f3.f1, (rd_T69 xs i).f3.f2⟩, (rd_T69 xs i).f4, x, (rd_T69 xs i).f6⟩) (k69_mkM _ _ _ (⟨(rd_T69 xs i).f0, (rd_T69 xs i).f1, (rd_T69 xs i).f2, ⟨(rd_T69 xs i).f3.f0, (rd_T69 xs i).f3.f1, (rd_T69 xs i).f3.f2⟩, (rd_T69 xs i).f4, x, (rd_T69 xs i).f6⟩ : S69) hv) (fun _ hk => hk)
theorem laws_markLeafS.rd_set (xs : List S69) (i : Int) (x : S69) (h : i.toNat < xs.length) : rd_T69 (xs.set i.toNat x) i = x := by
 unfold rd_T69
 rw [List.getD_eq_getElem?_getD, List.getElem?_set_self h]
 rfl
def laws_markLeafS.l0 : Nat → List S69 → Int → Int → Option (Int × List S69)
 | 0, _, _, _ => none
 | k + 1, x0, x1, x5 => if x5 < (x0.length : Int) then (((laws_markText.f k x1).bind fun t0 => ((laws_markText.f k (wrap64 (x1 + 1))).bind fun t1 => ((laws_markText.f k (wrap64 (wrap64 (wrap64 (x1 + 1) + 1) + 1))).bind fun t3 => ((laws_markBoxS.f k (rd_T69 x0 x5).f6 (wrap64 (wrap64 (wrap64 (wrap64 (wrap64 (wrap64 (wrap64 (wrap64 (x1 + 1) + 1) + 1) + 1) + 1) + 1) + 1) + 1))).bind fun p => (if 0 ≤ x5 then (laws_markLeafS.l0 k (x0.set x5.toNat ⟨t0, t1, wrap64 (wrap64 (x1 + 1) + 1), ⟨t3, wrap64 (wrap64 (wrap64 (wrap64 (x1 + 1) + 1) + 1) + 1), wrap64 (wrap64 (wrap64 (wrap64 (wrap64 (x1 + 1) + 1) + 1) + 1) + 1)⟩, wrap64 (wrap64 (wrap64 (wrap64 (wrap64 (wrap64 (x1 + 1) + 1) + 1) + 1) + 1) + 1), wrap64 (wrap64 (wrap64 (wrap64 (wrap64 (wrap64 (wrap64 (x1 + 1) + 1) + 1) + 1) + 1) + 1) + 1), p.2⟩) p.1 (wrap64 (x5 + 1))) else (none))))))) else (some (x1, x0))
def laws_markLeafS.f (k : Nat) (l0 : List S69) (a1 : Int) : Option (Int × List S69) := laws_markLeafS.l0 k l0 a1 0
set_option maxHeartbeats 8000000 in
set_option maxRecDepth 100000 in
theorem laws_markLeafS.calls (k : Nat) (P0_ : Nat → Prop) (u9000_ : Value) (l0 : List (S69)) (a1 : Int) (r1 : Int) (r2 : List (S69)) (w0 w : World) (hB : Below w0.heap.size w0 w) (ho0 : Kd.S k69 69 w w0.heap.size P0_ u9000_ l0) (h : laws_markLeafS.f k l0 a1 = some (r1, r2)) :
  Calls Tryd.prog 15 #[u9000_, .int .i64 a1] w fun e w' => e = .returned (.int .i64 r1) ∧ Kd.S k69 69 w' w0.heap.size P0_ u9000_ r2 ∧ Below w0.heap.size w0 w' ∧ Kept w w' (fun k_ => P0_ k_) := by
 have HO0 := Aside0.mk ho0
 have HK := Aside0.mk (Kept.refl w (fun k_ => P0_ k_))
 have HB := Aside0.mk hB
 clear hB ho0
 have H : (laws_markLeafS.l0 k l0 a1 0) = some (r1, r2) := h
 clear h
 have H' := Aside0.mk H
 clear H
 go_enter Tryd.func15, Tryd.ntmps15
 go_wp2
 go_loopg [1, 5] k (fun kq v1 v5 w' => ∃ (x0_1 : List (S69)) (x1_1 : Int) (x5_1 : Int), v1 = .int .i64 x1_1 ∧ v5 = .int .i64 x5_1 ∧ Aside0 (laws_markLeafS.l0 kq x0_1 x1_1 x5_1 = some (r1, r2)) ∧ Aside0 (kq ≤ k) ∧ Aside0 (Kd.S k69 69 w' w0.heap.size P0_ u9000_ x0_1) ∧ Aside0 (Kept w w' (fun k_ => P0_ k_)) ∧ Aside0 (Below w0.heap.size w0 w'))
 case atStart => exact ⟨(l0), (a1), (0), (by first | rfl | (simp; done) | (simp [*]; done)), (by first | rfl | (simp; done) | (simp [*]; done)), H', ⟨Nat.le_refl _⟩, ⟨by (with_reducible repeat (first | apply Kd.S_alloc | apply Kd.S_drewN | apply Kd.S_drew)); exact HO0.out⟩, ⟨by repeat (first | (with_reducible first | exact HK.out | apply Kept.alloc | apply Kept.drewN | apply Kept.drew) | exact HK.out)⟩, ⟨by repeat (first | (with_reducible first | exact HB.out | apply bA_ | apply bN_ | apply bD_))⟩⟩
 case round =>
  clear H'
  obtain ⟨x0_1, x1_1, x5_1, rfl, rfl, HA, HK1, HO_0, HK, HB⟩ := hrel
  cases gk with
  | zero => exact absurd HA.out (by simp [laws_markLeafS.l0])
  | succ k1 =>
   have H := HA.out
   clear HA
   simp only [laws_markLeafS.l0] at H
   by_cases c3 : x5_1 < (x0_1.length : Int)
   rotate_left
   ·rw [if_neg c3] at H
    have c3b0 : decide (x5_1 < (x0_1.length : Int)) = false := decide_eq_false c3
    clear c3
    simp only [Option.some.injEq, Prod.mk.injEq] at H
    obtain ⟨rfl, rfl⟩ := H
    obtain ⟨Ao22, co22, eo22⟩ := Kd.S_slice HO_0.out
    subst eo22
    go_wp2
    go_ret
    exact ⟨by first | rfl | (simp; done), by (with_reducible repeat (first | apply Kd.S_alloc | apply Kd.S_drewN | apply Kd.S_drew)); exact HO_0.out, by repeat (first | (with_reducible first | exact HB.out | apply bA_ | apply bN_ | apply bD_)), by repeat (first | (with_reducible first | exact HK.out | apply Kept.alloc | apply Kept.drewN | apply Kept.drew) | exact HK.out)⟩
   rw [if_pos c3] at H
   have c3b0 : decide (x5_1 < (x0_1.length : Int)) = true := decide_eq_true c3
   replace H := Option.bind_eq_some_iff.mp H
   obtain ⟨t0, A4_00, H⟩ := H
   have A4_0 := Aside0.mk A4_00
   clear A4_00
   replace H := Option.bind_eq_some_iff.mp H
   obtain ⟨t1, A4_10, H⟩ := H
   have A4_1 := Aside0.mk A4_10
   clear A4_10
   replace H := Option.bind_eq_some_iff.mp H
   obtain ⟨t3, A4_30, H⟩ := H
   have A4_3 := Aside0.mk A4_30
   clear A4_30
   replace H := Option.bind_eq_some_iff.mp H
   obtain ⟨⟨m1, ys⟩, A50, H⟩ := H
   have A5 := Aside0.mk A50
   clear A50
   by_cases c5 : 0 ≤ x5_1
   rotate_left
   ·rw [if_neg c5] at H
    exact absurd H (by simp)
   rw [if_pos c5] at H
   obtain ⟨x2, hx2⟩ : ∃ x2, x2 = x0_1.set x5_1.toNat ⟨t0, t1, wrap64 (wrap64 (x1_1 + 1) + 1), ⟨t3, wrap64 (wrap64 (wrap64 (wrap64 (x1_1 + 1) + 1) + 1) + 1), wrap64 (wrap64 (wrap64 (wrap64 (wrap64 (x1_1 + 1) + 1) + 1) + 1) + 1)⟩, wrap64 (wrap64 (wrap64 (wrap64 (wrap64 (wrap64 (x1_1 + 1) + 1) + 1) + 1) + 1) + 1), wrap64 (wrap64 (wrap64 (wrap64 (wrap64 (wrap64 (wrap64 (x1_1 + 1) + 1) + 1) + 1) + 1) + 1) + 1), ys⟩ := ⟨_, rfl⟩
   have N2 := Aside0.mk hx2
   replace H : laws_markLeafS.l0 k1 x2 m1 (wrap64 (x5_1 + 1)) = some (r1, r2) := by rw [hx2]; exact H
   clear hx2
   have H' := Aside0.mk H
   clear H
   obtain ⟨go6, co6, eo6, gb6, _, _⟩ := Kd.S_form HO_0.out (by omega)
   subst eo6
   have GB6 := Aside0.mk gb6
   have GP6 := Aside0.mk (show P0_ go6 from (Kd.S_R HO_0.out).1 _ rfl)
   clear gb6
   have c5b := decide_eq_true c5
   obtain ⟨vI, A3, c3_, ev3, hx0, hx1, hx2, hx3, hx4, hx5, hx6, hx7, hx8, hf0, hf1, hf2, hf3, hf4, hf5, hf6, hf7, hlend⟩ := laws_markLeafS.cells HO_0.out x5_1 c5 c3
   subst ev3
   go_wp2_with (first | ((with_reducible refine gate_callee (f := 35) rfl ?_); refine goesL_ (some 15) rfl rfl Tryd.func35 (by kernel_rfl) rfl #[.int .i64 x1_1] rfl (by first | rfl | (simp only [List.map_toArray, List.map_cons, List.map_nil]; first | done | rfl)) ?_; (with_reducible refine (laws_markText.calls k1 x1_1 t0 _ A4_0.out).mono ?_); rintro e wt0 ⟨rfl, hb⟩; refine ⟨_, rfl, ?_⟩; clear hx0 hx1 hx2 hx3 hx4 hx5 hx6 hx7 hx8 hf0 hf1 hf2 hf3 hf4 hf5 hf6 hf7 hlend; have n0_ := Aside0.mk (Kd.S_below (by (with_reducible repeat (first | apply Kd.S_alloc | apply Kd.S_drewN | apply Kd.S_drew)); exact HO_0.out) hb); have n1_ := Aside0.mk (Kept.below (S := (fun k_ => P0_ k_)) (by repeat (first | (with_reducible first | exact HK.out | apply Kept.alloc | apply Kept.drewN | apply Kept.drew) | exact HK.out)) hb); have n2_ := Aside0.mk (below_step (by repeat (first | (with_reducible first | exact HB.out | apply bA_ | apply bN_ | apply bD_))) hb); clear HO_0; clear HK; clear HB; have HO_0 := n0_; have HK := n1_; have HB := n2_; clear n0_ n1_ n2_; (try clear hb); obtain ⟨vI, A3, c3_, ev3, hx0, hx1, hx2, hx3, hx4, hx5, hx6, hx7, hx8, hf0, hf1, hf2, hf3, hf4, hf5, hf6, hf7, hlend⟩ := laws_markLeafS.cells HO_0.out x5_1 c5 c3; subst ev3) | ((with_reducible refine gate_store (t := 9) (p := 17) rfl ?_); refine store_event (t := 9) (p := 17) (v := ?vo_1) (w1 := (wt0.setCell ⟨go6, (x5_1 : Int).toNat * 9, none⟩ (.string t0))) ?hg ?ho ?hn ?hr ?_; (case ho => rfl); (case hg => rfl); (case hn => rfl); (case hr => (go_simp; try rfl)); intro ws0 hw; have hp_ := (laws_markLeafS.put HO_0.out x5_1 c5 c3).1 t0; rw [← hw] at hp_; clear hx0 hx1 hx2 hx3 hx4 hx5 hx6 hx7 hx8 hf0 hf1 hf2 hf3 hf4 hf5 hf6 hf7 hlend; have hB2 : Below w0.heap.size w0 ws0 := (by rw [hw]; exact below_set HB.out GB6.out); have hK2 : Kept w ws0 (fun k_ => P0_ k_) := Kept.of_grown (S := (fun k_ => P0_ k_)) hp_.2 HK.out (fun k_ e_ => by injection e_ with e_; subst e_; exact .inl GP6.out); have hS2 := hp_.1; have hR := laws_markLeafS.rd_set x0_1 x5_1 (⟨t0, (rd_T69 x0_1 x5_1).f1, (rd_T69 x0_1 x5_1).f2, ⟨(rd_T69 x0_1 x5_1).f3.f0, (rd_T69 x0_1 x5_1).f3.f1, (rd_T69 x0_1 x5_1).f3.f2⟩, (rd_T69 x0_1 x5_1).f4, (rd_T69 x0_1 x5_1).f5, (rd_T69 x0_1 x5_1).f6⟩ : S69) (by omega); clear hp_ hw HO_0 HB HK; have HO_0 := Aside0.mk hS2; have HB := Aside0.mk hB2; have HK := Aside0.mk hK2; clear hS2 hB2 hK2; obtain ⟨vI, A3, c3_, ev3, hx0, hx1, hx2, hx3, hx4, hx5, hx6, hx7, hx8, hf0, hf1, hf2, hf3, hf4, hf5, hf6, hf7, hlend⟩ := laws_markLeafS.cells HO_0.out x5_1 c5 c3; subst ev3) | ((with_reducible refine gate_callee (f := 35) rfl ?_); refine goesL_ (some 23) rfl rfl Tryd.func35 (by kernel_rfl) rfl #[.int .i64 (wrap64 (x1_1 + 1))] rfl (by first | rfl | (simp only [List.map_toArray, List.map_cons, List.map_nil]; first | done | rfl)) ?_; (with_reducible refine (laws_markText.calls k1 (wrap64 (x1_1 + 1)) t1 _ A4_1.out).mono ?_); rintro e wt1 ⟨rfl, hb⟩; refine ⟨_, rfl, ?_⟩; clear hx0 hx1 hx2 hx3 hx4 hx5 hx6 hx7 hx8 hf0 hf1 hf2 hf3 hf4 hf5 hf6 hf7 hlend; have n0_ := Aside0.mk (Kd.S_below (by (with_reducible repeat (first | apply Kd.S_alloc | apply Kd.S_drewN | apply Kd.S_drew)); exact HO_0.out) hb); have n1_ := Aside0.mk (Kept.below (S := (fun k_ => P0_ k_)) (by repeat (first | (with_reducible first | exact HK.out | apply Kept.alloc | apply Kept.drewN | apply Kept.drew) | exact HK.out)) hb); have n2_ := Aside0.mk (below_step (by repeat (first | (with_reducible first | exact HB.out | apply bA_ | apply bN_ | apply bD_))) hb); clear HO_0; clear HK; clear HB; have HO_0 := n0_; have HK := n1_; have HB := n2_; clear n0_ n1_ n2_; (try clear hb); obtain ⟨vI, A3, c3_, ev3, hx0, hx1, hx2, hx3, hx4, hx5, hx6, hx7, hx8, hf0, hf1, hf2, hf3, hf4, hf5, hf6, hf7, hlend⟩ := laws_markLeafS.cells HO_0.out x5_1 c5 c3; subst ev3) | ((with_reducible refine gate_store (t := 9) (p := 25) rfl ?_); refine store_event (t := 9) (p := 25) (v := ?vo_2) (w1 := (wt1.setCell ⟨go6, (x5_1 : Int).toNat * 9 + 1, none⟩ (.string t1))) ?hg ?ho ?hn ?hr ?_; (case ho => rfl); (case hg => rfl); (case hn => rfl); (case hr => (go_simp; try rfl)); intro ws1 hw; have hp_ := (laws_markLeafS.put HO_0.out x5_1 c5 c3).2.1 t1; rw [← hw] at hp_; clear hx0 hx1 hx2 hx3 hx4 hx5 hx6 hx7 hx8 hf0 hf1 hf2 hf3 hf4 hf5 hf6 hf7 hlend; have hB2 : Below w0.heap.size w0 ws1 := (by rw [hw]; exact below_set HB.out GB6.out); have hK2 : Kept w ws1 (fun k_ => P0_ k_) := Kept.of_grown (S := (fun k_ => P0_ k_)) hp_.2 HK.out (fun k_ e_ => by injection e_ with e_; subst e_; exact .inl GP6.out); have hS2 := hp_.1; rw [hR, List.set_set] at hS2; clear hR; have hR := laws_markLeafS.rd_set x0_1 x5_1 (⟨t0, t1, (rd_T69 x0_1 x5_1).f2, ⟨(rd_T69 x0_1 x5_1).f3.f0, (rd_T69 x0_1 x5_1).f3.f1, (rd_T69 x0_1 x5_1).f3.f2⟩, (rd_T69 x0_1 x5_1).f4, (rd_T69 x0_1 x5_1).f5, (rd_T69 x0_1 x5_1).f6⟩ : S69) (by omega); clear hp_ hw HO_0 HB HK; have HO_0 := Aside0.mk hS2; have HB := Aside0.mk hB2; have HK := Aside0.mk hK2; clear hS2 hB2 hK2; obtain ⟨vI, A3, c3_, ev3, hx0, hx1, hx2, hx3, hx4, hx5, hx6, hx7, hx8, hf0, hf1, hf2, hf3, hf4, hf5, hf6, hf7, hlend⟩ := laws_markLeafS.cells HO_0.out x5_1 c5 c3; subst ev3) | ((with_reducible refine gate_store (t := 2) (p := 32) rfl ?_); refine store_event (t := 2) (p := 32) (v := ?vo_3) (w1 := (ws1.setCell ⟨go6, (x5_1 : Int).toNat * 9 + 2, none⟩ (.int .i64 (wrap64 (wrap64 (x1_1 + 1) + 1))))) ?hg ?ho ?hn ?hr ?_; (case ho => rfl); (case hg => rfl); (case hn => rfl); (case hr => (go_simp; try rfl)); intro ws2 hw; have hp_ := (laws_markLeafS.put HO_0.out x5_1 c5 c3).2.2.1 (wrap64 (wrap64 (x1_1 + 1) + 1)); rw [← hw] at hp_; clear hx0 hx1 hx2 hx3 hx4 hx5 hx6 hx7 hx8 hf0 hf1 hf2 hf3 hf4 hf5 hf6 hf7 hlend; have hB2 : Below w0.heap.size w0 ws2 := (by rw [hw]; exact below_set HB.out GB6.out); have hK2 : Kept w ws2 (fun k_ => P0_ k_) := Kept.of_grown (S := (fun k_ => P0_ k_)) hp_.2 HK.out (fun k_ e_ => by injection e_ with e_; subst e_; exact .inl GP6.out); have hS2 := hp_.1; rw [hR, List.set_set] at hS2; clear hR; have hR := laws_markLeafS.rd_set x0_1 x5_1 (⟨t0, t1, wrap64 (wrap64 (x1_1 + 1) + 1), ⟨(rd_T69 x0_1 x5_1).f3.f0, (rd_T69 x0_1 x5_1).f3.f1, (rd_T69 x0_1 x5_1).f3.f2⟩, (rd_T69 x0_1 x5_1).f4, (rd_T69 x0_1 x5_1).f5, (rd_T69 x0_1 x5_1).f6⟩ : S69) (by omega); clear hp_ hw HO_0 HB HK; have HO_0 := Aside0.mk hS2; have HB := Aside0.mk hB2; have HK := Aside0.mk hK2; clear hS2 hB2 hK2; obtain ⟨vI, A3, c3_, ev3, hx0, hx1, hx2, hx3, hx4, hx5, hx6, hx7, hx8, hf0, hf1, hf2, hf3, hf4, hf5, hf6, hf7, hlend⟩ := laws_markLeafS.cells HO_0.out x5_1 c5 c3; subst ev3) | ((with_reducible refine gate_callee (f := 35) rfl ?_); refine goesL_ (some 38) rfl rfl Tryd.func35 (by kernel_rfl) rfl #[.int .i64 (wrap64 (wrap64 (wrap64 (x1_1 + 1) + 1) + 1))] rfl (by first | rfl | (simp only [List.map_toArray, List.map_cons, List.map_nil]; first | done | rfl)) ?_; (with_reducible refine (laws_markText.calls k1 (wrap64 (wrap64 (wrap64 (x1_1 + 1) + 1) + 1)) t3 _ A4_3.out).mono ?_); rintro e wt3 ⟨rfl, hb⟩; refine ⟨_, rfl, ?_⟩; clear hx0 hx1 hx2 hx3 hx4 hx5 hx6 hx7 hx8 hf0 hf1 hf2 hf3 hf4 hf5 hf6 hf7 hlend; have n0_ := Aside0.mk (Kd.S_below (by (with_reducible repeat (first | apply Kd.S_alloc | apply Kd.S_drewN | apply Kd.S_drew)); exact HO_0.out) hb); have n1_ := Aside0.mk (Kept.below (S := (fun k_ => P0_ k_)) (by repeat (first | (with_reducible first | exact HK.out | apply Kept.alloc | apply Kept.drewN | apply Kept.drew) | exact HK.out)) hb); have n2_ := Aside0.mk (below_step (by repeat (first | (with_reducible first | exact HB.out | apply bA_ | apply bN_ | apply bD_))) hb); clear HO_0; clear HK; clear HB; have HO_0 := n0_; have HK := n1_; have HB := n2_; clear n0_ n1_ n2_; (try clear hb); obtain ⟨vI, A3, c3_, ev3, hx0, hx1, hx2, hx3, hx4, hx5, hx6, hx7, hx8, hf0, hf1, hf2, hf3, hf4, hf5, hf6, hf7, hlend⟩ := laws_markLeafS.cells HO_0.out x5_1 c5 c3; subst ev3) | ((with_reducible refine gate_store (t := 9) (p := 41) rfl ?_); refine store_event (t := 9) (p := 41) (v := ?vo_4) (w1 := (wt3.setCell ⟨go6, (x5_1 : Int).toNat * 9 + 3, none⟩ (.string t3))) ?hg ?ho ?hn ?hr ?_; (case ho => rfl); (case hg => rfl); (case hn => rfl); (case hr => (go_simp; try rfl)); intro ws3 hw; have hp_ := (laws_markLeafS.put HO_0.out x5_1 c5 c3).2.2.2.1 t3; rw [← hw] at hp_; clear hx0 hx1 hx2 hx3 hx4 hx5 hx6 hx7 hx8 hf0 hf1 hf2 hf3 hf4 hf5 hf6 hf7 hlend; have hB2 : Below w0.heap.size w0 ws3 := (by rw [hw]; exact below_set HB.out GB6.out); have hK2 : Kept w ws3 (fun k_ => P0_ k_) := Kept.of_grown (S := (fun k_ => P0_ k_)) hp_.2 HK.out (fun k_ e_ => by injection e_ with e_; subst e_; exact .inl GP6.out); have hS2 := hp_.1; rw [hR, List.set_set] at hS2; clear hR; have hR := laws_markLeafS.rd_set x0_1 x5_1 (⟨t0, t1, wrap64 (wrap64 (x1_1 + 1) + 1), ⟨t3, (rd_T69 x0_1 x5_1).f3.f1, (rd_T69 x0_1 x5_1).f3.f2⟩, (rd_T69 x0_1 x5_1).f4, (rd_T69 x0_1 x5_1).f5, (rd_T69 x0_1 x5_1).f6⟩ : S69) (by omega); clear hp_ hw HO_0 HB HK; have HO_0 := Aside0.mk hS2; have HB := Aside0.mk hB2; have HK := Aside0.mk hK2; clear hS2 hB2 hK2; obtain ⟨vI, A3, c3_, ev3, hx0, hx1, hx2, hx3, hx4, hx5, hx6, hx7, hx8, hf0, hf1, hf2, hf3, hf4, hf5, hf6, hf7, hlend⟩ := laws_markLeafS.cells HO_0.out x5_1 c5 c3; subst ev3) | ((with_reducible refine gate_store (t := 2) (p := 49) rfl ?_); refine store_event (t := 2) (p := 49) (v := ?vo_5) (w1 := (ws3.setCell ⟨go6, (x5_1 : Int).toNat * 9 + 4, none⟩ (.int .i64 (wrap64 (wrap64 (wrap64 (wrap64 (x1_1 + 1) + 1) + 1) + 1))))) ?hg ?ho ?hn ?hr ?_; (case ho => rfl); (case hg => rfl); (case hn => rfl); (case hr => (go_simp; try rfl)); intro ws4 hw; have hp_ := (laws_markLeafS.put HO_0.out x5_1 c5 c3).2.2.2.2.1 (wrap64 (wrap64 (wrap64 (wrap64 (x1_1 + 1) + 1) + 1) + 1)); rw [← hw] at hp_; clear hx0 hx1 hx2 hx3 hx4 hx5 hx6 hx7 hx8 hf0 hf1 hf2 hf3 hf4 hf5 hf6 hf7 hlend; have hB2 : Below w0.heap.size w0 ws4 := (by rw [hw]; exact below_set HB.out GB6.out); have hK2 : Kept w ws4 (fun k_ => P0_ k_) := Kept.of_grown (S := (fun k_ => P0_ k_)) hp_.2 HK.out (fun k_ e_ => by injection e_ with e_; subst e_; exact .inl GP6.out); have hS2 := hp_.1; rw [hR, List.set_set] at hS2; clear hR; have hR := laws_markLeafS.rd_set x0_1 x5_1 (⟨t0, t1, wrap64 (wrap64 (x1_1 + 1) + 1), ⟨t3, wrap64 (wrap64 (wrap64 (wrap64 (x1_1 + 1) + 1) + 1) + 1), (rd_T69 x0_1 x5_1).f3.f2⟩, (rd_T69 x0_1 x5_1).f4, (rd_T69 x0_1 x5_1).f5, (rd_T69 x0_1 x5_1).f6⟩ : S69) (by omega); clear hp_ hw HO_0 HB HK; have HO_0 := Aside0.mk hS2; have HB := Aside0.mk hB2; have HK := Aside0.mk hK2; clear hS2 hB2 hK2; obtain ⟨vI, A3, c3_, ev3, hx0, hx1, hx2, hx3, hx4, hx5, hx6, hx7, hx8, hf0, hf1, hf2, hf3, hf4, hf5, hf6, hf7, hlend⟩ := laws_markLeafS.cells HO_0.out x5_1 c5 c3; subst ev3) | ((with_reducible refine gate_store (t := 2) (p := 57) rfl ?_); refine store_event (t := 2) (p := 57) (v := ?vo_6) (w1 := (ws4.setCell ⟨go6, (x5_1 : Int).toNat * 9 + 5, none⟩ (.int .i64 (wrap64 (wrap64 (wrap64 (wrap64 (wrap64 (x1_1 + 1) + 1) + 1) + 1) + 1))))) ?hg ?ho ?hn ?hr ?_; (case ho => rfl); (case hg => rfl); (case hn => rfl); (case hr => (go_simp; try rfl)); intro ws5 hw; have hp_ := (laws_markLeafS.put HO_0.out x5_1 c5 c3).2.2.2.2.2.1 (wrap64 (wrap64 (wrap64 (wrap64 (wrap64 (x1_1 + 1) + 1) + 1) + 1) + 1)); rw [← hw] at hp_; clear hx0 hx1 hx2 hx3 hx4 hx5 hx6 hx7 hx8 hf0 hf1 hf2 hf3 hf4 hf5 hf6 hf7 hlend; have hB2 : Below w0.heap.size w0 ws5 := (by rw [hw]; exact below_set HB.out GB6.out); have hK2 : Kept w ws5 (fun k_ => P0_ k_) := Kept.of_grown (S := (fun k_ => P0_ k_)) hp_.2 HK.out (fun k_ e_ => by injection e_ with e_; subst e_; exact .inl GP6.out); have hS2 := hp_.1; rw [hR, List.set_set] at hS2; clear hR; have hR := laws_markLeafS.rd_set x0_1 x5_1 (⟨t0, t1, wrap64 (wrap64 (x1_1 + 1) + 1), ⟨t3, wrap64 (wrap64 (wrap64 (wrap64 (x1_1 + 1) + 1) + 1) + 1), wrap64 (wrap64 (wrap64 (wrap64 (wrap64 (x1_1 + 1) + 1) + 1) + 1) + 1)⟩, (rd_T69 x0_1 x5_1).f4, (rd_T69 x0_1 x5_1).f5, (rd_T69 x0_1 x5_1).f6⟩ : S69) (by omega); clear hp_ hw HO_0 HB HK; have HO_0 := Aside0.mk hS2; have HB := Aside0.mk hB2; have HK := Aside0.mk hK2; clear hS2 hB2 hK2; obtain ⟨vI, A3, c3_, ev3, hx0, hx1, hx2, hx3, hx4, hx5, hx6, hx7, hx8, hf0, hf1, hf2, hf3, hf4, hf5, hf6, hf7, hlend⟩ := laws_markLeafS.cells HO_0.out x5_1 c5 c3; subst ev3) | ((with_reducible refine gate_store (t := 2) (p := 64) rfl ?_); refine store_event (t := 2) (p := 64) (v := ?vo_7) (w1 := (ws5.setCell ⟨go6, (x5_1 : Int).toNat * 9 + 6, none⟩ (.int .i64 (wrap64 (wrap64 (wrap64 (wrap64 (wrap64 (wrap64 (x1_1 + 1) + 1) + 1) + 1) + 1) + 1))))) ?hg ?ho ?hn ?hr ?_; (case ho => rfl); (case hg => rfl); (case hn => rfl); (case hr => (go_simp; try rfl)); intro ws6 hw; have hp_ := (laws_markLeafS.put HO_0.out x5_1 c5 c3).2.2.2.2.2.2.1 (wrap64 (wrap64 (wrap64 (wrap64 (wrap64 (wrap64 (x1_1 + 1) + 1) + 1) + 1) + 1) + 1)); rw [← hw] at hp_; clear hx0 hx1 hx2 hx3 hx4 hx5 hx6 hx7 hx8 hf0 hf1 hf2 hf3 hf4 hf5 hf6 hf7 hlend; have hB2 : Below w0.heap.size w0 ws6 := (by rw [hw]; exact below_set HB.out GB6.out); have hK2 : Kept w ws6 (fun k_ => P0_ k_) := Kept.of_grown (S := (fun k_ => P0_ k_)) hp_.2 HK.out (fun k_ e_ => by injection e_ with e_; subst e_; exact .inl GP6.out); have hS2 := hp_.1; rw [hR, List.set_set] at hS2; clear hR; have hR := laws_markLeafS.rd_set x0_1 x5_1 (⟨t0, t1, wrap64 (wrap64 (x1_1 + 1) + 1), ⟨t3, wrap64 (wrap64 (wrap64 (wrap64 (x1_1 + 1) + 1) + 1) + 1), wrap64 (wrap64 (wrap64 (wrap64 (wrap64 (x1_1 + 1) + 1) + 1) + 1) + 1)⟩, wrap64 (wrap64 (wrap64 (wrap64 (wrap64 (wrap64 (x1_1 + 1) + 1) + 1) + 1) + 1) + 1), (rd_T69 x0_1 x5_1).f5, (rd_T69 x0_1 x5_1).f6⟩ : S69) (by omega); clear hp_ hw HO_0 HB HK; have HO_0 := Aside0.mk hS2; have HB := Aside0.mk hB2; have HK := Aside0.mk hK2; clear hS2 hB2 hK2; obtain ⟨vI, A3, c3_, ev3, hx0, hx1, hx2, hx3, hx4, hx5, hx6, hx7, hx8, hf0, hf1, hf2, hf3, hf4, hf5, hf6, hf7, hlend⟩ := laws_markLeafS.cells HO_0.out x5_1 c5 c3; subst ev3) | ((with_reducible refine gate_store (t := 2) (p := 71) rfl ?_); refine store_event (t := 2) (p := 71) (v := ?vo_8) (w1 := (ws6.setCell ⟨go6, (x5_1 : Int).toNat * 9 + 7, none⟩ (.int .i64 (wrap64 (wrap64 (wrap64 (wrap64 (wrap64 (wrap64 (wrap64 (x1_1 + 1) + 1) + 1) + 1) + 1) + 1) + 1))))) ?hg ?ho ?hn ?hr ?_; (case ho => rfl); (case hg => rfl); (case hn => rfl); (case hr => (go_simp; try rfl)); intro ws7 hw; have hp_ := (laws_markLeafS.put HO_0.out x5_1 c5 c3).2.2.2.2.2.2.2.1 (wrap64 (wrap64 (wrap64 (wrap64 (wrap64 (wrap64 (wrap64 (x1_1 + 1) + 1) + 1) + 1) + 1) + 1) + 1)); rw [← hw] at hp_; clear hx0 hx1 hx2 hx3 hx4 hx5 hx6 hx7 hx8 hf0 hf1 hf2 hf3 hf4 hf5 hf6 hf7 hlend; have hB2 : Below w0.heap.size w0 ws7 := (by rw [hw]; exact below_set HB.out GB6.out); have hK2 : Kept w ws7 (fun k_ => P0_ k_) := Kept.of_grown (S := (fun k_ => P0_ k_)) hp_.2 HK.out (fun k_ e_ => by injection e_ with e_; subst e_; exact .inl GP6.out); have hS2 := hp_.1; rw [hR, List.set_set] at hS2; clear hR; have hR := laws_markLeafS.rd_set x0_1 x5_1 (⟨t0, t1, wrap64 (wrap64 (x1_1 + 1) + 1), ⟨t3, wrap64 (wrap64 (wrap64 (wrap64 (x1_1 + 1) + 1) + 1) + 1), wrap64 (wrap64 (wrap64 (wrap64 (wrap64 (x1_1 + 1) + 1) + 1) + 1) + 1)⟩, wrap64 (wrap64 (wrap64 (wrap64 (wrap64 (wrap64 (x1_1 + 1) + 1) + 1) + 1) + 1) + 1), wrap64 (wrap64 (wrap64 (wrap64 (wrap64 (wrap64 (wrap64 (x1_1 + 1) + 1) + 1) + 1) + 1) + 1) + 1), (rd_T69 x0_1 x5_1).f6⟩ : S69) (by omega); clear hp_ hw HO_0 HB HK; have HO_0 := Aside0.mk hS2; have HB := Aside0.mk hB2; have HK := Aside0.mk hK2; clear hS2 hB2 hK2; obtain ⟨vI, A3, c3_, ev3, hx0, hx1, hx2, hx3, hx4, hx5, hx6, hx7, hx8, hf0, hf1, hf2, hf3, hf4, hf5, hf6, hf7, hlend⟩ := laws_markLeafS.cells HO_0.out x5_1 c5 c3; rw [hR] at hlend ev3; subst ev3) | ((with_reducible refine gate_callee (f := 36) rfl ?_); refine goesL_ (some 80) rfl rfl Tryd.func36 (by kernel_rfl) rfl #[.slice A3 (rd_T69 x0_1 x5_1).f6.length c3_, .int .i64 (wrap64 (wrap64 (wrap64 (wrap64 (wrap64 (wrap64 (wrap64 (wrap64 (x1_1 + 1) + 1) + 1) + 1) + 1) + 1) + 1) + 1))] rfl (by first | rfl | (simp only [List.map_toArray, List.map_cons, List.map_nil]; first | done | rfl)) ?_; obtain ⟨oki, hoki, hv, hback⟩ := hlend; (with_reducible refine (laws_markBoxS.calls k1 (fun k_ => some k_ = (.slice A3 (rd_T69 x0_1 x5_1).f6.length c3_ : Value).ownBlock) (.slice A3 (rd_T69 x0_1 x5_1).f6.length c3_) (rd_T69 x0_1 x5_1).f6 (wrap64 (wrap64 (wrap64 (wrap64 (wrap64 (wrap64 (wrap64 (wrap64 (x1_1 + 1) + 1) + 1) + 1) + 1) + 1) + 1) + 1)) m1 ys w0 _ ?zide1 ?zide2 A5.out).mono ?_); (case zide1 => repeat (first | (with_reducible first | exact HB.out | apply bA_ | apply bN_ | apply bD_))); (case zide2 => exact Kd.R_tight rfl hv); rintro e we ⟨rfl, hy0, hb, hkp⟩; refine ⟨_, rfl, ?_⟩; have hk2 := hkp.mono (S' := oki) (fun k hk => hv.1 k hk.symm); have hS2 := hback we ys hk2 (Kd.R_reok rfl hy0 (fun k hk => hv.1 k hk)); rw [List.set_set, ← N2.out] at hS2; have hK2 : Kept w we (fun k_ => P0_ k_) := Kept.then_ HK.out hk2 (fun k hk => .inl (hoki k hk)); clear HO_0 HK HB hback hkp hy0 hk2 hv hoki; have HO_0 := Aside0.mk hS2; have HK := Aside0.mk hK2; have HB := Aside0.mk hb; clear hS2 hK2 hb))
   go_roundg k1
   case measure => have := HK1.out; omega
   case rel => exact ⟨x2, m1, (wrap64 (x5_1 + 1)), (by first | rfl | (simp; done) | (simp [*]; done)), (by first | rfl | (simp; done) | (simp [*]; done)), H', ⟨by have := HK1.out; omega⟩, ⟨by (with_reducible repeat (first | apply Kd.S_alloc | apply Kd.S_drewN | apply Kd.S_drew)); exact HO_0.out⟩, ⟨by repeat (first | (with_reducible first | exact HK.out | apply Kept.alloc | apply Kept.drewN | apply Kept.drew) | exact HK.out)⟩, ⟨by repeat (first | (with_reducible first | exact HB.out | apply bA_ | apply bN_ | apply bD_))⟩⟩
end Go.Proofs.YtckboiphlhhckaaDoor.Q
namespace Go.Proofs.YtckboiphlhhckaaDoor.Q
open Go.RowKit Go.Proofs.YtckboiphlhhckaaDoorW.PrintWords Go.Proofs.YtckboiphlhhckaaDoorW.PrintLast Go.Proofs.YtckboiphlhhckaaDoorW.PrintMore
attribute [local go_sem] max2_int min2_int max_two min_two max_three min_three max_four min_four
set_option linter.unusedVariables false
set_option linter.unusedSimpArgs false
def laws_markBlockS.l0 : Nat → List (S45) → Int → Int → Option (Int × (List (S45)))
 | 0, _, _, _ => none
 | k + 1, x0, x1, x5 => if x5 < (x0.length : Int) then ((laws_markText.f k x1).bind fun t101 => (if 0 ≤ x5 then ((some (x0.set (x5 : Int).toNat (⟨t101, (rd_T45 x0 x5).f1, (rd_T45 x0 x5).f2⟩ : S45) : List (S45))).bind fun y102 => ((laws_markText.f k (wrap64 (x1 + 1))).bind fun t103 => ((some (y102.set (x5 : Int).toNat (⟨(rd_T45 y102 x5).f0, t103, (rd_T45 y102 x5).f2⟩ : S45) : List (S45))).bind fun y104 => ((laws_markText.f k (wrap64 ((wrap64 (x1 + 1)) + 1))).bind fun t105 => (laws_markBlockS.l0 k (y104.set (x5 : Int).toNat (⟨(rd_T45 y104 x5).f0, (rd_T45 y104 x5).f1, t105⟩ : S45)) (wrap64 ((wrap64 ((wrap64 (x1 + 1)) + 1)) + 1)) (wrap64 (x5 + 1))))))) else (none))) else (some (x1, x0))
def laws_markBlockS.f (k : Nat) (l0 : List (S45)) (a1 : Int) : Option (Int × (List (S45))) := laws_markBlockS.l0 k l0 a1 0
set_option maxHeartbeats 8000000 in
set_option maxRecDepth 100000 in
theorem laws_markBlockS.calls (k : Nat) (P0_ : Nat → Prop) (u9000_ : Value) (l0 : List (S45)) (a1 : Int) (r1 : Int) (r2 : List (S45)) (w0 w : World) (hB : Below w0.heap.size w0 w) (ho0 : Kd.R k45 45 w w0.heap.size P0_ u9000_ l0) (h : laws_markBlockS.f k l0 a1 = some (r1, r2)) :
  Calls Tryd.prog 16 #[u9000_, .int .i64 a1] w fun e w' => e = .returned (.int .i64 r1) ∧ Kd.R k45 45 w' w0.heap.size (fun k_ => (P0_ k_ ∨ w.heap.size ≤ k_)) u9000_ r2 ∧ Below w0.heap.size w0 w' ∧ Kept w w' (fun k_ => P0_ k_) := by
 have HO0 := Aside0.mk (show Kd.R k45 45 w w0.heap.size (fun k_ => (P0_ k_ ∨ w.heap.size ≤ k_)) u9000_ l0 from Kd.R_mono ho0 (fun k_ hk => (.inl hk)))
 have HK := Aside0.mk (Kept.refl w (fun k_ => P0_ k_))
 have HW0 := Aside0.mk hB.size
 have HB := Aside0.mk hB
 clear hB
 have H : (laws_markBlockS.l0 k l0 a1 0) = some (r1, r2) := h
 clear h
 have H' := Aside0.mk H
 clear H
 go_enter Tryd.func16, Tryd.ntmps16
 go_wp2
 (try simp only [Act.put, List.setIfInBounds_toArray, List.set_cons_zero, List.set_cons_succ])
 go_loopg [1, 5] k (fun kq v1 v5 w' => ∃ (x0_1 : List (S45)) (x1_1 : Int) (x5_1 : Int), v1 = .int .i64 x1_1 ∧ v5 = .int .i64 x5_1 ∧ Aside0 (laws_markBlockS.l0 kq x0_1 x1_1 x5_1 = some (r1, r2)) ∧ Aside0 (kq ≤ k) ∧ Aside0 (Kd.R k45 45 w' w0.heap.size (fun k_ => (P0_ k_ ∨ w.heap.size ≤ k_)) u9000_ x0_1) ∧ Aside0 (Kept w w' (fun k_ => P0_ k_)) ∧ Aside0 (Below w0.heap.size w0 w'))
 case atStart => exact ⟨(l0), (a1), (0), (by first | rfl | (simp; done) | (simp [*]; done)), (by first | rfl | (simp; done) | (simp [*]; done)), H', ⟨Nat.le_refl _⟩, ⟨by (with_reducible repeat (first | apply Kd.R_alloc | apply Kd.R_drewN | apply Kd.R_drew)); exact HO0.out⟩, ⟨by repeat (first | (with_reducible first | exact HK.out | apply Kept.alloc | apply Kept.drewN | apply Kept.drew) | exact HK.out)⟩, ⟨by repeat (first | (with_reducible first | exact HB.out | apply bA_ | apply bN_ | apply bD_))⟩⟩
 case round =>
  clear H'
  obtain ⟨x0_1, x1_1, x5_1, rfl, rfl, HA, HK1, HO_0, HK, HB⟩ := hrel
  cases gk with
  | zero => exact absurd HA.out (by simp [laws_markBlockS.l0])
  | succ k1 =>
   have H := HA.out
   clear HA
   simp only [laws_markBlockS.l0] at H
   by_cases c3 : x5_1 < (x0_1.length : Int)
   rotate_left
   ·rw [if_neg c3] at H
    have c3b0 : decide (x5_1 < (x0_1.length : Int)) = false := decide_eq_false c3
    clear c3
    simp only [Option.some.injEq, Prod.mk.injEq] at H
    obtain ⟨rfl, rfl⟩ := H
    obtain ⟨Ao21, co21, eo21⟩ := Kd.R_slice HO_0.out
    subst eo21
    go_wp2
    go_ret
    exact ⟨by first | rfl | (simp [*, errW_none, errW_some] <;> rfl), by (with_reducible repeat (first | apply Kd.R_alloc | apply Kd.R_drewN | apply Kd.R_drew)); exact HO_0.out, by repeat (first | (with_reducible first | exact HB.out | apply bA_ | apply bN_ | apply bD_)), by repeat (first | (with_reducible first | exact HK.out | apply Kept.alloc | apply Kept.drewN | apply Kept.drew) | exact HK.out)⟩
   rw [if_pos c3] at H
   have c3b0 : decide (x5_1 < (x0_1.length : Int)) = true := decide_eq_true c3
   clear c3
   replace H := Option.bind_eq_some_iff.mp H
   obtain ⟨t101, A40, H⟩ := H
   (try dsimp only at H)
   have A4 := Aside0.mk A40
   clear A40
   by_cases c5 : 0 ≤ x5_1
   rotate_left
   ·rw [if_neg c5] at H
    exact absurd H (by simp)
   rw [if_pos c5] at H
   have c5b0 : decide (0 ≤ x5_1) = true := decide_eq_true c5
   clear c5
   obtain ⟨y102, hy102⟩ : ∃ y_ : List (S45), y_ = (x0_1.set (x5_1 : Int).toNat (⟨t101, (rd_T45 x0_1 x5_1).f1, (rd_T45 x0_1 x5_1).f2⟩ : S45)) := ⟨_, rfl⟩
   replace H : ((laws_markText.f k1 (wrap64 (x1_1 + 1))).bind fun t103 => ((some (y102.set (x5_1 : Int).toNat (⟨(rd_T45 y102 x5_1).f0, t103, (rd_T45 y102 x5_1).f2⟩ : S45) : List (S45))).bind fun y104 => ((laws_markText.f k1 (wrap64 ((wrap64 (x1_1 + 1)) + 1))).bind fun t105 => (laws_markBlockS.l0 k1 (y104.set (x5_1 : Int).toNat (⟨(rd_T45 y104 x5_1).f0, (rd_T45 y104 x5_1).f1, t105⟩ : S45)) (wrap64 ((wrap64 ((wrap64 (x1_1 + 1)) + 1)) + 1)) (wrap64 (x5_1 + 1)))))) = some (r1, r2) := by first | (rw [hy102]; with_reducible exact H) | (have H2_ := (Option.bind_some _ _).symm.trans H; rw [hy102]; with_reducible exact H2_) | (have H2_ := (Option.bind_some _ _).symm.trans H; with_reducible exact H2_) | with_reducible exact H | (rw [hy102]; exact H) | exact H
   have Ny102 := Aside0.mk hy102
   clear hy102
   replace H := Option.bind_eq_some_iff.mp H
   obtain ⟨t103, A70, H⟩ := H
   (try dsimp only at H)
   have A7 := Aside0.mk A70
   clear A70
   obtain ⟨y104, hy104⟩ : ∃ y_ : List (S45), y_ = (y102.set (x5_1 : Int).toNat (⟨(rd_T45 y102 x5_1).f0, t103, (rd_T45 y102 x5_1).f2⟩ : S45)) := ⟨_, rfl⟩
   replace H : ((laws_markText.f k1 (wrap64 ((wrap64 (x1_1 + 1)) + 1))).bind fun t105 => (laws_markBlockS.l0 k1 (y104.set (x5_1 : Int).toNat (⟨(rd_T45 y104 x5_1).f0, (rd_T45 y104 x5_1).f1, t105⟩ : S45)) (wrap64 ((wrap64 ((wrap64 (x1_1 + 1)) + 1)) + 1)) (wrap64 (x5_1 + 1)))) = some (r1, r2) := by first | (rw [hy104]; with_reducible exact H) | (have H2_ := (Option.bind_some _ _).symm.trans H; rw [hy104]; with_reducible exact H2_) | (have H2_ := (Option.bind_some _ _).symm.trans H; with_reducible exact H2_) | with_reducible exact H | (rw [hy104]; exact H) | exact H
   have Ny104 := Aside0.mk hy104
   clear hy104
   replace H := Option.bind_eq_some_iff.mp H
   obtain ⟨t105, A90, H⟩ := H
   (try dsimp only at H)
   have A9 := Aside0.mk A90
   clear A90
   obtain ⟨y106, hy106⟩ : ∃ y_ : List (S45), y_ = (y104.set (x5_1 : Int).toNat (⟨(rd_T45 y104 x5_1).f0, (rd_T45 y104 x5_1).f1, t105⟩ : S45)) := ⟨_, rfl⟩
   replace H : (laws_markBlockS.l0 k1 y106 (wrap64 ((wrap64 ((wrap64 (x1_1 + 1)) + 1)) + 1)) (wrap64 (x5_1 + 1))) = some (r1, r2) := by first | (rw [hy106]; with_reducible exact H) | (have H2_ := (Option.bind_some _ _).symm.trans H; rw [hy106]; with_reducible exact H2_) | (have H2_ := (Option.bind_some _ _).symm.trans H; with_reducible exact H2_) | with_reducible exact H | (rw [hy106]; exact H) | exact H
   have Ny106 := Aside0.mk hy106
   clear hy106
   have H' := Aside0.mk H
   clear H
   obtain ⟨Ao11, co11, eo11⟩ := Kd.R_slice HO_0.out
   subst eo11
   go_wp2_with (first | ((with_reducible refine gate_callee (f := 35) rfl ?_); refine goesL_ (some 15) rfl rfl Tryd.func35 (by kernel_rfl) rfl #[.int .i64 x1_1] rfl (by first | rfl | (simp only [List.map_toArray, List.map_cons, List.map_nil]; first | done | rfl)) ?_; (with_reducible refine (laws_markText.calls k1 x1_1 t101 _ A4.out).mono ?_); rintro e w12 ⟨rfl, hb⟩; refine ⟨_, rfl, ?_⟩; have n0_ := Aside0.mk (Kd.R_below (by (with_reducible repeat (first | apply Kd.R_alloc | apply Kd.R_drewN | apply Kd.R_drew)); exact HO_0.out) hb); have n1_ := Aside0.mk (Kept.below (S := (fun k_ => P0_ k_)) (by repeat (first | (with_reducible first | exact HK.out | apply Kept.alloc | apply Kept.drewN | apply Kept.drew) | exact HK.out)) hb); have n2_ := Aside0.mk (below_step (by repeat (first | (with_reducible first | exact HB.out | apply bA_ | apply bN_ | apply bD_))) hb); clear HO_0; clear HK; clear HB; have HO_0 := n0_; have HK := n1_; have HB := n2_; clear n0_ n1_ n2_; (try clear hb); have p6 : 0 ≤ (x5_1 : Int) := of_decide_eq_true (by assumption); have q6 : (x5_1 : Int) < ((x0_1.length : Int) : Int) := of_decide_eq_true (by assumption); obtain ⟨go6, co6, eo6, gb6, gl6, cl6, HG6⟩ := Kd.R_form HO_0.out (by omega); (first | cases eo6 | (injection eo6 with ea_ en_ ec_; (first | subst ea_ | (injection ea_ with ea_; subst ea_)); subst ec_; clear en_)); have GB6 := Aside0.mk gb6; have GG6 := Aside0.mk HG6; clear gb6 gl6 HG6; have HMgo6 := Aside0.mk (show (P0_ go6 ∨ w.heap.size ≤ go6) from (HO_0.out.1 _ rfl)); obtain ⟨ce6, hcl6, hM6, hcc6, hfr6⟩ := Kd.R_elem HO_0.out z45 (x5_1 : Int) p6 q6; obtain rfl := k45_openM hM6; have hx6_0 : w12.cell? ⟨go6, (x5_1 : Int).toNat * 3, none⟩ = some (.string ((rd_T45 x0_1 x5_1).f0)) := hcc6 0 _ rfl; have hx6_1 : w12.cell? ⟨go6, (x5_1 : Int).toNat * 3 + 1, none⟩ = some (.string ((rd_T45 x0_1 x5_1).f1)) := hcc6 1 _ rfl; have hx6_2 : w12.cell? ⟨go6, (x5_1 : Int).toNat * 3 + 2, none⟩ = some (.string ((rd_T45 x0_1 x5_1).f2)) := hcc6 2 _ rfl; have hf6_0 : w12.frozen? ⟨go6, (x5_1 : Int).toNat * 3, none⟩ = false := hfr6 0; have hf6_1 : w12.frozen? ⟨go6, (x5_1 : Int).toNat * 3 + 1, none⟩ = false := hfr6 1; have hf6_2 : w12.frozen? ⟨go6, (x5_1 : Int).toNat * 3 + 2, none⟩ = false := hfr6 2; clear hcl6 hcc6 hfr6 hM6; replace p6 := eq_true p6; replace q6 := eq_true q6; have HX13 := Aside0.mk (show Kd.R k45 45 w12 w0.heap.size (fun k_ => (P0_ k_ ∨ w.heap.size ≤ k_)) (.slice (some ⟨go6, 0, none⟩) x0_1.length co11) x0_1 from (by (with_reducible repeat (first | apply Kd.R_alloc | apply Kd.R_drewN | apply Kd.R_drew)); exact HO_0.out)); obtain ⟨ce13, hcl13, hM13, hcc13, hfr13⟩ := Kd.R_elem HX13.out z45 (x5_1 : Int) (of_decide_eq_true (by assumption)) (by have h_ : (x5_1 : Int) < ((x0_1.length : Int) : Int) := of_decide_eq_true (by assumption); first | exact h_ | (have e_ := (Kd.R_reads' HO_0.out).1; omega) | simpa using h_); obtain rfl := k45_openM hM13; have HP13 := Kd.R_seg HX13.out (x5_1 : Int) (of_decide_eq_true (by assumption)) (by have h_ : (x5_1 : Int) < ((x0_1.length : Int) : Int) := of_decide_eq_true (by assumption); first | exact h_ | (have e_ := (Kd.R_reads' HO_0.out).1; omega) | simpa using h_) (seg := [.string t101]) (j := 0) hcl13 hcc13 (show 1 ≤ 3 from by decide) (x' := (⟨t101, (rd_T45 x0_1 x5_1).f1, (rd_T45 x0_1 x5_1).f2⟩ : S45)) (k45_mkM _ _ _ (⟨t101, (rd_T45 x0_1 x5_1).f1, (rd_T45 x0_1 x5_1).f2⟩ : S45) ) (fun _ hk => hk); have hx13_0 := hcc13 0 _ rfl; (try simp only [show (k45).sz = 3 from rfl, Nat.mul_one, Nat.add_zero] at hx13_0); have hf13_0 := hfr13 0; (try simp only [show (k45).sz = 3 from rfl, Nat.mul_one, Nat.add_zero] at hf13_0); clear hcl13 hcc13 hfr13 hM13) | ((with_reducible refine gate_store (t := 9) (p := 17) rfl ?_); refine store_event (t := 9) (p := 17) (v := ?vo_w14) (w1 := (w12.setCell ⟨go6, (x5_1 : Int).toNat * 3, none⟩ (.string t101))) ?hg ?ho ?hn ?hr ?_; (case ho => rfl); (case hg => rfl); (case hn => rfl); (case hr => (go_simp; try rfl)); intro w14 hw; have hg : w12.grownBy w14 (some go6) := (by rw [hw]; exact HP13.2); have hp_ : Kd.R k45 45 w14 w0.heap.size (fun k_ => (P0_ k_ ∨ w.heap.size ≤ k_)) (.slice (some ⟨go6, 0, none⟩) x0_1.length co11) y102 := (by rw [hw, Ny102.out]; exact HP13.1); clear HP13; have n0_ := Aside0.mk (hp_); have n1_ := Aside0.mk ((by rw [hw]; exact below_set (HB.out) GB6.out : Below w0.heap.size w0 w14)); have n2_ := Aside0.mk (Kept.of_grown (S := (fun k_ => P0_ k_)) hg (by repeat (first | (with_reducible first | exact HK.out | apply Kept.alloc | apply Kept.drewN | apply Kept.drew) | exact HK.out)) (fun k_ e_ => (HO_0.out.1 k_ e_))); clear HO_0; clear HB; clear HK; have HO_0 := n0_; have HB := n1_; have HK := n2_; clear n0_ n1_ n2_; clear hg hw hp_) | ((with_reducible refine gate_callee (f := 35) rfl ?_); refine goesL_ (some 23) rfl rfl Tryd.func35 (by kernel_rfl) rfl #[.int .i64 (wrap64 (x1_1 + 1))] rfl (by first | rfl | (simp only [List.map_toArray, List.map_cons, List.map_nil]; first | done | rfl)) ?_; (with_reducible refine (laws_markText.calls k1 (wrap64 (x1_1 + 1)) t103 _ A7.out).mono ?_); rintro e w15 ⟨rfl, hb⟩; refine ⟨_, rfl, ?_⟩; have n0_ := Aside0.mk (Kd.R_below (by (with_reducible repeat (first | apply Kd.R_alloc | apply Kd.R_drewN | apply Kd.R_drew)); exact HO_0.out) hb); have n1_ := Aside0.mk (Kept.below (S := (fun k_ => P0_ k_)) (by repeat (first | (with_reducible first | exact HK.out | apply Kept.alloc | apply Kept.drewN | apply Kept.drew) | exact HK.out)) hb); have n2_ := Aside0.mk (below_step (by repeat (first | (with_reducible first | exact HB.out | apply bA_ | apply bN_ | apply bD_))) hb); clear HO_0; clear HK; clear HB; have HO_0 := n0_; have HK := n1_; have HB := n2_; clear n0_ n1_ n2_; (try clear hb); have p8 : 0 ≤ (x5_1 : Int) := of_decide_eq_true (by assumption); have q8 : (x5_1 : Int) < ((x0_1.length : Int) : Int) := of_decide_eq_true (by assumption); obtain ⟨ce8, hcl8, hM8, hcc8, hfr8⟩ := Kd.R_elem HO_0.out z45 (x5_1 : Int) p8 q8; obtain rfl := k45_openM hM8; have hx8_0 : w15.cell? ⟨go6, (x5_1 : Int).toNat * 3, none⟩ = some (.string ((rd_T45 y102 x5_1).f0)) := hcc8 0 _ rfl; have hx8_1 : w15.cell? ⟨go6, (x5_1 : Int).toNat * 3 + 1, none⟩ = some (.string ((rd_T45 y102 x5_1).f1)) := hcc8 1 _ rfl; have hx8_2 : w15.cell? ⟨go6, (x5_1 : Int).toNat * 3 + 2, none⟩ = some (.string ((rd_T45 y102 x5_1).f2)) := hcc8 2 _ rfl; have hf8_0 : w15.frozen? ⟨go6, (x5_1 : Int).toNat * 3, none⟩ = false := hfr8 0; have hf8_1 : w15.frozen? ⟨go6, (x5_1 : Int).toNat * 3 + 1, none⟩ = false := hfr8 1; have hf8_2 : w15.frozen? ⟨go6, (x5_1 : Int).toNat * 3 + 2, none⟩ = false := hfr8 2; clear hcl8 hcc8 hfr8 hM8; replace p8 := eq_true p8; replace q8 := eq_true q8; have HX16 := Aside0.mk (show Kd.R k45 45 w15 w0.heap.size (fun k_ => (P0_ k_ ∨ w.heap.size ≤ k_)) (.slice (some ⟨go6, 0, none⟩) x0_1.length co11) y102 from (by (with_reducible repeat (first | apply Kd.R_alloc | apply Kd.R_drewN | apply Kd.R_drew)); exact HO_0.out)); obtain ⟨ce16, hcl16, hM16, hcc16, hfr16⟩ := Kd.R_elem HX16.out z45 (x5_1 : Int) (of_decide_eq_true (by assumption)) (by have h_ : (x5_1 : Int) < ((x0_1.length : Int) : Int) := of_decide_eq_true (by assumption); first | exact h_ | (have e_ := (Kd.R_reads' HO_0.out).1; omega) | simpa using h_); obtain rfl := k45_openM hM16; have HP16 := Kd.R_seg HX16.out (x5_1 : Int) (of_decide_eq_true (by assumption)) (by have h_ : (x5_1 : Int) < ((x0_1.length : Int) : Int) := of_decide_eq_true (by assumption); first | exact h_ | (have e_ := (Kd.R_reads' HO_0.out).1; omega) | simpa using h_) (seg := [.string t103]) (j := 1) hcl16 hcc16 (show 2 ≤ 3 from by decide) (x' := (⟨(rd_T45 y102 x5_1).f0, t103, (rd_T45 y102 x5_1).f2⟩ : S45)) (k45_mkM _ _ _ (⟨(rd_T45 y102 x5_1).f0, t103, (rd_T45 y102 x5_1).f2⟩ : S45) ) (fun _ hk => hk); have hx16_1 := hcc16 1 _ rfl; (try simp only [show (k45).sz = 3 from rfl, Nat.mul_one, Nat.add_zero] at hx16_1); have hf16_1 := hfr16 1; (try simp only [show (k45).sz = 3 from rfl, Nat.mul_one, Nat.add_zero] at hf16_1); clear hcl16 hcc16 hfr16 hM16) | ((with_reducible refine gate_store (t := 9) (p := 25) rfl ?_); refine store_event (t := 9) (p := 25) (v := ?vo_w17) (w1 := (w15.setCell ⟨go6, (x5_1 : Int).toNat * 3 + 1, none⟩ (.string t103))) ?hg ?ho ?hn ?hr ?_; (case ho => rfl); (case hg => rfl); (case hn => rfl); (case hr => (go_simp; try rfl)); intro w17 hw; have hg : w15.grownBy w17 (some go6) := (by rw [hw]; exact HP16.2); have hp_ : Kd.R k45 45 w17 w0.heap.size (fun k_ => (P0_ k_ ∨ w.heap.size ≤ k_)) (.slice (some ⟨go6, 0, none⟩) x0_1.length co11) y104 := (by rw [hw, Ny104.out]; exact HP16.1); clear HP16; have n0_ := Aside0.mk (hp_); have n1_ := Aside0.mk ((by rw [hw]; exact below_set (HB.out) GB6.out : Below w0.heap.size w0 w17)); have n2_ := Aside0.mk (Kept.of_grown (S := (fun k_ => P0_ k_)) hg (by repeat (first | (with_reducible first | exact HK.out | apply Kept.alloc | apply Kept.drewN | apply Kept.drew) | exact HK.out)) (fun k_ e_ => (HO_0.out.1 k_ e_))); clear HO_0; clear HB; clear HK; have HO_0 := n0_; have HB := n1_; have HK := n2_; clear n0_ n1_ n2_; clear hg hw hp_) | ((with_reducible refine gate_callee (f := 35) rfl ?_); refine goesL_ (some 31) rfl rfl Tryd.func35 (by kernel_rfl) rfl #[.int .i64 (wrap64 ((wrap64 (x1_1 + 1)) + 1))] rfl (by first | rfl | (simp only [List.map_toArray, List.map_cons, List.map_nil]; first | done | rfl)) ?_; (with_reducible refine (laws_markText.calls k1 (wrap64 ((wrap64 (x1_1 + 1)) + 1)) t105 _ A9.out).mono ?_); rintro e w18 ⟨rfl, hb⟩; refine ⟨_, rfl, ?_⟩; have n0_ := Aside0.mk (Kd.R_below (by (with_reducible repeat (first | apply Kd.R_alloc | apply Kd.R_drewN | apply Kd.R_drew)); exact HO_0.out) hb); have n1_ := Aside0.mk (Kept.below (S := (fun k_ => P0_ k_)) (by repeat (first | (with_reducible first | exact HK.out | apply Kept.alloc | apply Kept.drewN | apply Kept.drew) | exact HK.out)) hb); have n2_ := Aside0.mk (below_step (by repeat (first | (with_reducible first | exact HB.out | apply bA_ | apply bN_ | apply bD_))) hb); clear HO_0; clear HK; clear HB; have HO_0 := n0_; have HK := n1_; have HB := n2_; clear n0_ n1_ n2_; (try clear hb); have p10 : 0 ≤ (x5_1 : Int) := of_decide_eq_true (by assumption); have q10 : (x5_1 : Int) < ((x0_1.length : Int) : Int) := of_decide_eq_true (by assumption); obtain ⟨ce10, hcl10, hM10, hcc10, hfr10⟩ := Kd.R_elem HO_0.out z45 (x5_1 : Int) p10 q10; obtain rfl := k45_openM hM10; have hx10_0 : w18.cell? ⟨go6, (x5_1 : Int).toNat * 3, none⟩ = some (.string ((rd_T45 y104 x5_1).f0)) := hcc10 0 _ rfl; have hx10_1 : w18.cell? ⟨go6, (x5_1 : Int).toNat * 3 + 1, none⟩ = some (.string ((rd_T45 y104 x5_1).f1)) := hcc10 1 _ rfl; have hx10_2 : w18.cell? ⟨go6, (x5_1 : Int).toNat * 3 + 2, none⟩ = some (.string ((rd_T45 y104 x5_1).f2)) := hcc10 2 _ rfl; have hf10_0 : w18.frozen? ⟨go6, (x5_1 : Int).toNat * 3, none⟩ = false := hfr10 0; have hf10_1 : w18.frozen? ⟨go6, (x5_1 : Int).toNat * 3 + 1, none⟩ = false := hfr10 1; have hf10_2 : w18.frozen? ⟨go6, (x5_1 : Int).toNat * 3 + 2, none⟩ = false := hfr10 2; clear hcl10 hcc10 hfr10 hM10; replace p10 := eq_true p10; replace q10 := eq_true q10; have HX19 := Aside0.mk (show Kd.R k45 45 w18 w0.heap.size (fun k_ => (P0_ k_ ∨ w.heap.size ≤ k_)) (.slice (some ⟨go6, 0, none⟩) x0_1.length co11) y104 from (by (with_reducible repeat (first | apply Kd.R_alloc | apply Kd.R_drewN | apply Kd.R_drew)); exact HO_0.out)); obtain ⟨ce19, hcl19, hM19, hcc19, hfr19⟩ := Kd.R_elem HX19.out z45 (x5_1 : Int) (of_decide_eq_true (by assumption)) (by have h_ : (x5_1 : Int) < ((x0_1.length : Int) : Int) := of_decide_eq_true (by assumption); first | exact h_ | (have e_ := (Kd.R_reads' HO_0.out).1; omega) | simpa using h_); obtain rfl := k45_openM hM19; have HP19 := Kd.R_seg HX19.out (x5_1 : Int) (of_decide_eq_true (by assumption)) (by have h_ : (x5_1 : Int) < ((x0_1.length : Int) : Int) := of_decide_eq_true (by assumption); first | exact h_ | (have e_ := (Kd.R_reads' HO_0.out).1; omega) | simpa using h_) (seg := [.string t105]) (j := 2) hcl19 hcc19 (show 3 ≤ 3 from by decide) (x' := (⟨(rd_T45 y104 x5_1).f0, (rd_T45 y104 x5_1).f1, t105⟩ : S45)) (k45_mkM _ _ _ (⟨(rd_T45 y104 x5_1).f0, (rd_T45 y104 x5_1).f1, t105⟩ : S45) ) (fun _ hk => hk); have hx19_2 := hcc19 2 _ rfl; (try simp only [show (k45).sz = 3 from rfl, Nat.mul_one, Nat.add_zero] at hx19_2); have hf19_2 := hfr19 2; (try simp only [show (k45).sz = 3 from rfl, Nat.mul_one, Nat.add_zero] at hf19_2); clear hcl19 hcc19 hfr19 hM19) | ((with_reducible refine gate_store (t := 9) (p := 33) rfl ?_); refine store_event (t := 9) (p := 33) (v := ?vo_w20) (w1 := (w18.setCell ⟨go6, (x5_1 : Int).toNat * 3 + 2, none⟩ (.string t105))) ?hg ?ho ?hn ?hr ?_; (case ho => rfl); (case hg => rfl); (case hn => rfl); (case hr => (go_simp; try rfl)); intro w20 hw; have hg : w18.grownBy w20 (some go6) := (by rw [hw]; exact HP19.2); have hp_ : Kd.R k45 45 w20 w0.heap.size (fun k_ => (P0_ k_ ∨ w.heap.size ≤ k_)) (.slice (some ⟨go6, 0, none⟩) x0_1.length co11) y106 := (by rw [hw, Ny106.out]; exact HP19.1); clear HP19; have n0_ := Aside0.mk (hp_); have n1_ := Aside0.mk ((by rw [hw]; exact below_set (HB.out) GB6.out : Below w0.heap.size w0 w20)); have n2_ := Aside0.mk (Kept.of_grown (S := (fun k_ => P0_ k_)) hg (by repeat (first | (with_reducible first | exact HK.out | apply Kept.alloc | apply Kept.drewN | apply Kept.drew) | exact HK.out)) (fun k_ e_ => (HO_0.out.1 k_ e_))); clear HO_0; clear HB; clear HK; have HO_0 := n0_; have HB := n1_; have HK := n2_; clear n0_ n1_ n2_; clear hg hw hp_))
   go_roundg k1
   case measure => have := HK1.out; omega
   case rel => exact ⟨(y106), (wrap64 ((wrap64 ((wrap64 (x1_1 + 1)) + 1)) + 1)), (wrap64 (x5_1 + 1)), (by first | rfl | (simp; done) | (simp [*]; done)), (by first | rfl | (simp; done) | (simp [*]; done)), H', ⟨by have := HK1.out; omega⟩, ⟨by (with_reducible repeat (first | apply Kd.R_alloc | apply Kd.R_drewN | apply Kd.R_drew)); exact HO_0.out⟩, ⟨by repeat (first | (with_reducible first | exact HK.out | apply Kept.alloc | apply Kept.drewN | apply Kept.drew) | exact HK.out)⟩, ⟨by repeat (first | (with_reducible first | exact HB.out | apply bA_ | apply bN_ | apply bD_))⟩⟩
end Go.Proofs.YtckboiphlhhckaaDoor.Q
namespace Go.Proofs.YtckboiphlhhckaaDoor.Q
open Go.RowKit Go.Proofs.YtckboiphlhhckaaDoorW.PrintWords Go.Proofs.YtckboiphlhhckaaDoorW.PrintLast Go.Proofs.YtckboiphlhhckaaDoorW.PrintMore
attribute [local go_sem] max2_int min2_int max_two min_two max_three min_three max_four min_four
set_option linter.unusedVariables false
set_option linter.unusedSimpArgs false
def laws_heldBlockS.l0 : Nat → List (S45) → Int → Int → Option (Int)
 | 0, _, _, _ => none
 | k + 1, x0, x1, x5 => if x5 < (x0.length : Int) then (if 0 ≤ x5 then ((laws_markText.f k x1).bind fun t102 => (if ((rd_T45 x0 x5).f0).toList = t102.toList then ((laws_markText.f k (wrap64 (x1 + 1))).bind fun t104 => (if ((rd_T45 x0 x5).f1).toList = t104.toList then ((laws_markText.f k (wrap64 ((wrap64 (x1 + 1)) + 1))).bind fun t106 => (if ((rd_T45 x0 x5).f2).toList = t106.toList then (laws_heldBlockS.l0 k x0 (wrap64 ((wrap64 ((wrap64 (x1 + 1)) + 1)) + 1)) (wrap64 (x5 + 1))) else (some (-1)))) else (some (-1)))) else (some (-1)))) else (none)) else (some x1)
def laws_heldBlockS.f (k : Nat) (l0 : List (S45)) (a1 : Int) : Option (Int) := laws_heldBlockS.l0 k l0 a1 0
def laws_heldBlockS.T4 : Bool × List (List Nat × List Nat) := (true, [([], []), ([], []), ([0, 1], [0, 1]), ([2], [2]), ([3], [3]), ([], []), ([5], [5]), ([4, 6], [4, 6])])
def laws_heldBlockS.B4 : List Nat := [0, 0, 3, 7, 15, 0, 32, 127]
theorem laws_heldBlockS.tab4 : rtab .any (opsOf Tryd.f17 4) = laws_heldBlockS.T4 := by kernel_rfl
theorem laws_heldBlockS.bits4 : waitsOk laws_heldBlockS.T4.2 laws_heldBlockS.B4 = true := by kernel_rfl
def laws_heldBlockS.T7 : Bool × List (List Nat × List Nat) := (true, [([], []), ([], []), ([0, 1], [0, 1]), ([2], [2]), ([3], [3]), ([], []), ([5], [5]), ([4, 6], [4, 6])])
def laws_heldBlockS.B7 : List Nat := [0, 0, 3, 7, 15, 0, 32, 127]
theorem laws_heldBlockS.tab7 : rtab .any (opsOf Tryd.f17 7) = laws_heldBlockS.T7 := by kernel_rfl
theorem laws_heldBlockS.bits7 : waitsOk laws_heldBlockS.T7.2 laws_heldBlockS.B7 = true := by kernel_rfl
def laws_heldBlockS.T10 : Bool × List (List Nat × List Nat) := (true, [([], []), ([], []), ([0, 1], [0, 1]), ([2], [2]), ([3], [3]), ([], []), ([5], [5]), ([4, 6], [4, 6])])
def laws_heldBlockS.B10 : List Nat := [0, 0, 3, 7, 15, 0, 32, 127]
theorem laws_heldBlockS.tab10 : rtab .any (opsOf Tryd.f17 10) = laws_heldBlockS.T10 := by kernel_rfl
theorem laws_heldBlockS.bits10 : waitsOk laws_heldBlockS.T10.2 laws_heldBlockS.B10 = true := by kernel_rfl
set_option maxHeartbeats 8000000 in
set_option maxRecDepth 100000 in
theorem laws_heldBlockS.calls (k : Nat) (A0 : Option Addr) (c0 : Nat) (l0 : List (S45)) (a1 : Int) (r : Int) (w : World) (hr0 : Kd.C k45 w A0 l0.length l0) (hc0 : l0.length ≤ c0) (h : laws_heldBlockS.f k l0 a1 = some r) :
  Calls Tryd.prog 17 #[.slice A0 l0.length c0, .int .i64 a1] w fun e w' => e = .returned (.int .i64 r) ∧ Below w.heap.size w w' := by
 have HR0 := Aside0.mk hr0
 have HC0 := Aside0.mk hc0
 clear hr0 hc0
 have HB := Aside0.mk (Below.refl w.heap.size w)
 have H : (laws_heldBlockS.l0 k l0 a1 0) = some r := h
 clear h
 have H' := Aside0.mk H
 clear H
 go_enter Tryd.func17, Tryd.ntmps17
 go_wp2
 (try simp only [Act.put, List.setIfInBounds_toArray, List.set_cons_zero, List.set_cons_succ])
 go_loopg [1, 5] k (fun kq v1 v5 w' => ∃ (x1_1 : Int) (x5_1 : Int), v1 = .int .i64 x1_1 ∧ v5 = .int .i64 x5_1 ∧ Aside0 (laws_heldBlockS.l0 kq l0 x1_1 x5_1 = some r) ∧ Aside0 (kq ≤ k) ∧ Aside0 (Below w.heap.size w w'))
 case atStart => exact ⟨(a1), (0), (by first | rfl | (simp; done) | (simp [*]; done)), (by first | rfl | (simp; done) | (simp [*]; done)), H', ⟨Nat.le_refl _⟩, ⟨by repeat (first | (with_reducible first | exact HB.out | apply bA_ | apply bN_ | apply bD_))⟩⟩
 case round =>
  clear H'
  obtain ⟨x1_1, x5_1, rfl, rfl, HA, HK1, HB⟩ := hrel
  cases gk with
  | zero => exact absurd HA.out (by simp [laws_heldBlockS.l0])
  | succ k1 =>
   have H := HA.out
   clear HA
   simp only [laws_heldBlockS.l0] at H
   by_cases c3 : x5_1 < (l0.length : Int)
   rotate_left
   ·rw [if_neg c3] at H
    have c3b0 : decide (x5_1 < (l0.length : Int)) = false := decide_eq_false c3
    clear c3
    obtain rfl := Option.some.inj H
    go_wp2
    go_ret
    exact ⟨by first | rfl | (simp [*, errW_none, errW_some] <;> rfl), by repeat (first | (with_reducible first | exact HB.out | apply bA_ | apply bN_ | apply bD_))⟩
   rw [if_pos c3] at H
   have c3b0 : decide (x5_1 < (l0.length : Int)) = true := decide_eq_true c3
   clear c3
   by_cases c4 : 0 ≤ x5_1
   rotate_left
   ·rw [if_neg c4] at H
    exact absurd H (by simp)
   rw [if_pos c4] at H
   have c4b0 : decide (0 ≤ x5_1) = true := decide_eq_true c4
   clear c4
   replace H := Option.bind_eq_some_iff.mp H
   obtain ⟨t102, A50, H⟩ := H
   (try dsimp only at H)
   have A5 := Aside0.mk A50
   clear A50
   have HC6 := Aside0.mk H
   clear H
   try go_wp2
   have n0_ := Aside0.mk (bD_ HB.out)
   clear HB
   have HB := n0_
   clear n0_
   have p101 : 0 ≤ (x5_1 : Int) := of_decide_eq_true (by assumption)
   have q101 : x5_1 < (l0.length : Int) := of_decide_eq_true (by assumption)
   obtain ⟨ad101, e101, hx101_0, hx101_1, hx101_2⟩ := at_T45 HR0.out x5_1 p101 q101
   have hw101_2 := hx101_2
   have hw101_1 := hx101_1
   have hw101_0 := hx101_0
   cases e101
   replace hx101_0 := (HB.out.cell (bl_ w _ hx101_0)).trans hx101_0
   replace hx101_1 := (HB.out.cell (bl_ w _ hx101_1)).trans hx101_1
   replace hx101_2 := (HB.out.cell (bl_ w _ hx101_2)).trans hx101_2
   replace p101 := eq_true p101
   replace q101 := eq_true q101
   refine start_ (n := 8) (S := fun w' => w'.cell? (ad101.add ((x5_1).toNat * 3)) = some (.string ((rd_T45 l0 x5_1).f0)) ∧ w'.cell? ⟨(ad101.add ((x5_1).toNat * 3)).block, (ad101.add ((x5_1).toNat * 3)).off + 1, none⟩ = some (.string ((rd_T45 l0 x5_1).f1)) ∧ w'.cell? ⟨(ad101.add ((x5_1).toNat * 3)).block, (ad101.add ((x5_1).toNat * 3)).off + 2, none⟩ = some (.string ((rd_T45 l0 x5_1).f2))) (ds := []) #[f_,f_,f_,f_,f_,f_,f_,f_] (by kernel_rfl) rfl rfl ⟨((HB.out.cell (bl_ w _ hw101_0)).trans hw101_0), ((HB.out.cell (bl_ w _ hw101_1)).trans hw101_1), ((HB.out.cell (bl_ w _ hw101_2)).trans hw101_2)⟩ (fun hHeld => ?_); refine with_tabW laws_heldBlockS.tab4 laws_heldBlockS.bits4 (fun HT_ HW_ => ?_)
   generalize wr.drew = w7 at HB hx101_0 hx101_1 hx101_2 hHeld ⊢
   refine pure_ (i := 0) (N := some 12) (v := ?_) (a' := ?_) #[t_,f_,f_,f_,f_,f_,f_,f_] rfl rfl (any_of HT_.out (by kernel_rfl)) (fun _ _ _ h => h) (Or.inl ⟨by rfl, ?_⟩) ?_ ?_
   rotate_left
   ·intro w'
    go_simp
    with_reducible rfl
   rotate_left
   ·simp only [Act.put, List.setIfInBounds_toArray, List.set_cons_zero, List.set_cons_succ, i64_w, i32_w]
    rfl
   refine pure_ (i := 1) (N := some 13) (v := ?_) (a' := ?_) #[t_,t_,f_,f_,f_,f_,f_,f_] rfl rfl (any_of HT_.out (by kernel_rfl)) (fun _ _ _ h => h) (Or.inl ⟨by rfl, ?_⟩) ?_ ?_
   rotate_left
   ·intro w'
    go_simp
    with_reducible rfl
   rotate_left
   ·simp only [Act.put, List.setIfInBounds_toArray, List.set_cons_zero, List.set_cons_succ, i64_w, i32_w]
    rfl
   refine pure_ (i := 2) (N := some 14) (v := ?_) (a' := ?_) #[t_,t_,t_,f_,f_,f_,f_,f_] rfl rfl (any_of HT_.out (by kernel_rfl)) (fun _ _ _ h => h) (Or.inl ⟨by rfl, ?_⟩) ?_ ?_
   rotate_left
   ·intro w'
    go_simp
    with_reducible rfl
   rotate_left
   ·simp only [Act.put, List.setIfInBounds_toArray, List.set_cons_zero, List.set_cons_succ, i64_w, i32_w]
    rfl
   refine pure_ (i := 3) (N := some 15) (v := ?_) (a' := ?_) #[t_,t_,t_,t_,f_,f_,f_,f_] rfl rfl (any_of HT_.out (by kernel_rfl)) (fun _ _ _ h => h) (Or.inl ⟨by rfl, ?_⟩) ?_ ?_
   rotate_left
   ·intro w'
    go_simp
    with_reducible rfl
   rotate_left
   ·simp only [Act.put, List.setIfInBounds_toArray, List.set_cons_zero, List.set_cons_succ, i64_w, i32_w]
    rfl
   refine pure_ (i := 5) (N := some 17) (v := ?_) (a' := ?_) #[t_,t_,t_,t_,f_,t_,f_,f_] rfl rfl (any_of HT_.out (by kernel_rfl)) (fun _ _ _ h => h) (Or.inl ⟨by rfl, ?_⟩) ?_ ?_
   rotate_left
   ·intro w'
    go_simp
    with_reducible rfl
   rotate_left
   ·simp only [Act.put, List.setIfInBounds_toArray, List.set_cons_zero, List.set_cons_succ, i64_w, i32_w]
    rfl
   refine take_ (i := 4) (N := some 16) (v := ?_) (a' := ?_) #[t_,t_,t_,t_,t_,t_,f_,f_] rfl rfl (take_ofW HT_.out HW_.out (by kernel_rfl)) (fun _ _ _ h => h) (Or.inl ⟨by rfl, ?_⟩) hHeld ?_ ?_
   rotate_left
   ·rintro w' ⟨s0, s1, s2⟩
    go_simp
    with_reducible rfl
   rotate_left
   ·simp only [Act.put, List.setIfInBounds_toArray, List.set_cons_zero, List.set_cons_succ, i64_w, i32_w]
    rfl
   refine one_ (i := 6) (N := some 18) #[t_,t_,t_,t_,t_,t_,t_,f_] rfl rfl (one_of HT_.out (by kernel_rfl)) (by decide) (fun K hK => ?_)
   (first | refine goes_ Tryd.func35 (by kernel_rfl) rfl #[.int .i64 x1_1] (by rfl) rfl rfl (by first | rfl | (simp only [List.map_toArray, List.map_cons, List.map_nil]; first | done | rfl)) ?_ | refine RPW.goesV_ Tryd.func35 (by kernel_rfl) rfl #[.int .i64 x1_1] (by rfl) rfl rfl rfl (by first | rfl | (simp only [List.map_toArray, List.map_cons, List.map_nil]; first | done | rfl)) ?_ | refine RPW.goesC_ Tryd.func35 (by kernel_rfl) rfl #[.int .i64 x1_1] (by rfl) rfl rfl rfl (by first | rfl | (simp only [List.map_toArray, List.map_cons, List.map_nil]; first | done | rfl)) ?_)
   with_reducible refine (laws_markText.calls k1 x1_1 t102 _ A5.out).mono ?_
   rintro e w8 ⟨rfl, hb⟩
   refine ⟨_, rfl, ?_⟩
   have n0_ := Aside0.mk (below_step (by repeat (first | (with_reducible first | exact HB.out | apply bA_ | apply bN_ | apply bD_))) hb)
   clear HB
   have HB := n0_
   clear n0_
   (try clear hb)
   refine hK.out _ _ ⟨((HB.out.cell (bl_ w _ hw101_0)).trans hw101_0), ((HB.out.cell (bl_ w _ hw101_1)).trans hw101_1), ((HB.out.cell (bl_ w _ hw101_2)).trans hw101_2)⟩ (fun hHeld => ?_)
   clear hK K
   refine norm_ (a' := ?_) ?_ ?_
   rotate_left
   ·show Act.put _ (some 18) _ = _
    simp only [Act.put, List.setIfInBounds_toArray, List.set_cons_zero, List.set_cons_succ, i64_w, i32_w]
    rfl
   refine pure_ (i := 7) (N := some 19) (v := ?_) (a' := ?_) #[t_,t_,t_,t_,t_,t_,t_,t_] rfl rfl (any_of HT_.out (by kernel_rfl)) (fun _ _ _ h => h) (Or.inl ⟨by rfl, ?_⟩) ?_ ?_
   rotate_left
   ·intro w'
    go_simp
    with_reducible rfl
   rotate_left
   ·simp only [Act.put, List.setIfInBounds_toArray, List.set_cons_zero, List.set_cons_succ, i64_w, i32_w]
    rfl
   refine done_ (done_of HT_.out (by kernel_rfl)) ?_
   go_upto_if 19 with (fail)
   have H := HC6.out
   clear HC6
   by_cases c9 : ((rd_T45 l0 x5_1).f0).toList = t102.toList
   rotate_left
   ·rw [if_neg c9] at H
    have c9b0 : (((rd_T45 l0 x5_1).f0).toList == t102.toList) = false := beq_eq_false_iff_ne.mpr c9
    have c9b1 : (((rd_T45 l0 x5_1).f0).toList != t102.toList) = true := bne_iff_ne.mpr c9
    (first | rw [c9b0] | (simp only [i64_w, i32_w]; rw [c9b0]) | (simp only [c9b1, Bool.not_true, Bool.not_false]) | (simp only [c9b0, Bool.not_true, Bool.not_false]) | skip)
    obtain rfl := Option.some.inj H
    go_wp2
    go_ret
    exact ⟨by first | rfl | (simp [*, errW_none, errW_some] <;> rfl), by repeat (first | (with_reducible first | exact HB.out | apply bA_ | apply bN_ | apply bD_))⟩
   rw [if_pos c9] at H
   have c9b0 : (((rd_T45 l0 x5_1).f0).toList == t102.toList) = true := beq_iff_eq.mpr c9
   have c9b1 : (((rd_T45 l0 x5_1).f0).toList != t102.toList) = false := bne_eq_false_iff_eq.mpr c9
   clear c9
   (first | rw [c9b0] | (simp only [i64_w, i32_w]; rw [c9b0]) | (simp only [c9b1, Bool.not_true, Bool.not_false]) | (simp only [c9b0, Bool.not_true, Bool.not_false]) | skip)
   replace H := Option.bind_eq_some_iff.mp H
   obtain ⟨t104, A100, H⟩ := H
   (try dsimp only at H)
   have A10 := Aside0.mk A100
   clear A100
   have HC11 := Aside0.mk H
   clear H
   try go_wp2
   (try (rw [drewN_self w8]; generalize hq_ : World.drewN w8 _ = w8; have n0_ : Aside0 (Below w.heap.size w w8) := ⟨by rw [← hq_]; exact (by repeat (first | (with_reducible first | exact HB.out | apply bA_ | apply bN_ | apply bD_)))⟩; clear HB hq_; have HB := n0_; clear n0_))
   have n0_ := Aside0.mk (bD_ HB.out)
   clear HB
   have HB := n0_
   clear n0_
   have p103 : 0 ≤ (x5_1 : Int) := of_decide_eq_true (by assumption)
   have q103 : x5_1 < (l0.length : Int) := of_decide_eq_true (by assumption)
   obtain ⟨ad103, e103, hx103_0, hx103_1, hx103_2⟩ := at_T45 HR0.out x5_1 p103 q103
   have hw103_2 := hx103_2
   have hw103_1 := hx103_1
   have hw103_0 := hx103_0
   obtain rfl : ad101 = ad103 := (by injection e103)
   replace hx103_0 := (HB.out.cell (bl_ w _ hx103_0)).trans hx103_0
   replace hx103_1 := (HB.out.cell (bl_ w _ hx103_1)).trans hx103_1
   replace hx103_2 := (HB.out.cell (bl_ w _ hx103_2)).trans hx103_2
   replace p103 := eq_true p103
   replace q103 := eq_true q103
   refine start_ (n := 8) (S := fun w' => w'.cell? (ad101.add ((x5_1).toNat * 3)) = some (.string ((rd_T45 l0 x5_1).f0)) ∧ w'.cell? ⟨(ad101.add ((x5_1).toNat * 3)).block, (ad101.add ((x5_1).toNat * 3)).off + 1, none⟩ = some (.string ((rd_T45 l0 x5_1).f1)) ∧ w'.cell? ⟨(ad101.add ((x5_1).toNat * 3)).block, (ad101.add ((x5_1).toNat * 3)).off + 2, none⟩ = some (.string ((rd_T45 l0 x5_1).f2))) (ds := []) #[f_,f_,f_,f_,f_,f_,f_,f_] (by kernel_rfl) rfl rfl ⟨((HB.out.cell (bl_ w _ hw103_0)).trans hw103_0), ((HB.out.cell (bl_ w _ hw103_1)).trans hw103_1), ((HB.out.cell (bl_ w _ hw103_2)).trans hw103_2)⟩ (fun hHeld => ?_); refine with_tabW laws_heldBlockS.tab7 laws_heldBlockS.bits7 (fun HT_ HW_ => ?_)
   generalize w8.drew = w12 at HB hx103_0 hx103_1 hx103_2 hHeld ⊢
   refine pure_ (i := 0) (N := some 22) (v := ?_) (a' := ?_) #[t_,f_,f_,f_,f_,f_,f_,f_] rfl rfl (any_of HT_.out (by kernel_rfl)) (fun _ _ _ h => h) (Or.inl ⟨by rfl, ?_⟩) ?_ ?_
   rotate_left
   ·intro w'
    go_simp
    with_reducible rfl
   rotate_left
   ·simp only [Act.put, List.setIfInBounds_toArray, List.set_cons_zero, List.set_cons_succ, i64_w, i32_w]
    rfl
   refine pure_ (i := 1) (N := some 23) (v := ?_) (a' := ?_) #[t_,t_,f_,f_,f_,f_,f_,f_] rfl rfl (any_of HT_.out (by kernel_rfl)) (fun _ _ _ h => h) (Or.inl ⟨by rfl, ?_⟩) ?_ ?_
   rotate_left
   ·intro w'
    go_simp
    with_reducible rfl
   rotate_left
   ·simp only [Act.put, List.setIfInBounds_toArray, List.set_cons_zero, List.set_cons_succ, i64_w, i32_w]
    rfl
   refine pure_ (i := 2) (N := some 24) (v := ?_) (a' := ?_) #[t_,t_,t_,f_,f_,f_,f_,f_] rfl rfl (any_of HT_.out (by kernel_rfl)) (fun _ _ _ h => h) (Or.inl ⟨by rfl, ?_⟩) ?_ ?_
   rotate_left
   ·intro w'
    go_simp
    with_reducible rfl
   rotate_left
   ·simp only [Act.put, List.setIfInBounds_toArray, List.set_cons_zero, List.set_cons_succ, i64_w, i32_w]
    rfl
   refine pure_ (i := 3) (N := some 25) (v := ?_) (a' := ?_) #[t_,t_,t_,t_,f_,f_,f_,f_] rfl rfl (any_of HT_.out (by kernel_rfl)) (fun _ _ _ h => h) (Or.inl ⟨by rfl, ?_⟩) ?_ ?_
   rotate_left
   ·intro w'
    go_simp
    with_reducible rfl
   rotate_left
   ·simp only [Act.put, List.setIfInBounds_toArray, List.set_cons_zero, List.set_cons_succ, i64_w, i32_w]
    rfl
   refine pure_ (i := 5) (N := some 27) (v := ?_) (a' := ?_) #[t_,t_,t_,t_,f_,t_,f_,f_] rfl rfl (any_of HT_.out (by kernel_rfl)) (fun _ _ _ h => h) (Or.inl ⟨by rfl, ?_⟩) ?_ ?_
   rotate_left
   ·intro w'
    go_simp
    with_reducible rfl
   rotate_left
   ·simp only [Act.put, List.setIfInBounds_toArray, List.set_cons_zero, List.set_cons_succ, i64_w, i32_w]
    rfl
   refine take_ (i := 4) (N := some 26) (v := ?_) (a' := ?_) #[t_,t_,t_,t_,t_,t_,f_,f_] rfl rfl (take_ofW HT_.out HW_.out (by kernel_rfl)) (fun _ _ _ h => h) (Or.inl ⟨by rfl, ?_⟩) hHeld ?_ ?_
   rotate_left
   ·rintro w' ⟨s0, s1, s2⟩
    go_simp
    with_reducible rfl
   rotate_left
   ·simp only [Act.put, List.setIfInBounds_toArray, List.set_cons_zero, List.set_cons_succ, i64_w, i32_w]
    rfl
   refine one_ (i := 6) (N := some 28) #[t_,t_,t_,t_,t_,t_,t_,f_] rfl rfl (one_of HT_.out (by kernel_rfl)) (by decide) (fun K hK => ?_)
   (first | refine goes_ Tryd.func35 (by kernel_rfl) rfl #[.int .i64 (wrap64 (x1_1 + 1))] (by rfl) rfl rfl (by first | rfl | (simp only [List.map_toArray, List.map_cons, List.map_nil]; first | done | rfl)) ?_ | refine RPW.goesV_ Tryd.func35 (by kernel_rfl) rfl #[.int .i64 (wrap64 (x1_1 + 1))] (by rfl) rfl rfl rfl (by first | rfl | (simp only [List.map_toArray, List.map_cons, List.map_nil]; first | done | rfl)) ?_ | refine RPW.goesC_ Tryd.func35 (by kernel_rfl) rfl #[.int .i64 (wrap64 (x1_1 + 1))] (by rfl) rfl rfl rfl (by first | rfl | (simp only [List.map_toArray, List.map_cons, List.map_nil]; first | done | rfl)) ?_)
   with_reducible refine (laws_markText.calls k1 (wrap64 (x1_1 + 1)) t104 _ A10.out).mono ?_
   rintro e w13 ⟨rfl, hb⟩
   refine ⟨_, rfl, ?_⟩
   have n0_ := Aside0.mk (below_step (by repeat (first | (with_reducible first | exact HB.out | apply bA_ | apply bN_ | apply bD_))) hb)
   clear HB
   have HB := n0_
   clear n0_
   (try clear hb)
   refine hK.out _ _ ⟨((HB.out.cell (bl_ w _ hw103_0)).trans hw103_0), ((HB.out.cell (bl_ w _ hw103_1)).trans hw103_1), ((HB.out.cell (bl_ w _ hw103_2)).trans hw103_2)⟩ (fun hHeld => ?_)
   clear hK K
   refine norm_ (a' := ?_) ?_ ?_
   rotate_left
   ·show Act.put _ (some 28) _ = _
    simp only [Act.put, List.setIfInBounds_toArray, List.set_cons_zero, List.set_cons_succ, i64_w, i32_w]
    rfl
   refine pure_ (i := 7) (N := some 29) (v := ?_) (a' := ?_) #[t_,t_,t_,t_,t_,t_,t_,t_] rfl rfl (any_of HT_.out (by kernel_rfl)) (fun _ _ _ h => h) (Or.inl ⟨by rfl, ?_⟩) ?_ ?_
   rotate_left
   ·intro w'
    go_simp
    with_reducible rfl
   rotate_left
   ·simp only [Act.put, List.setIfInBounds_toArray, List.set_cons_zero, List.set_cons_succ, i64_w, i32_w]
    rfl
   refine done_ (done_of HT_.out (by kernel_rfl)) ?_
   go_upto_if 29 with (fail)
   have H := HC11.out
   clear HC11
   by_cases c14 : ((rd_T45 l0 x5_1).f1).toList = t104.toList
   rotate_left
   ·rw [if_neg c14] at H
    have c14b0 : (((rd_T45 l0 x5_1).f1).toList == t104.toList) = false := beq_eq_false_iff_ne.mpr c14
    have c14b1 : (((rd_T45 l0 x5_1).f1).toList != t104.toList) = true := bne_iff_ne.mpr c14
    (first | rw [c14b0] | (simp only [i64_w, i32_w]; rw [c14b0]) | (simp only [c14b1, Bool.not_true, Bool.not_false]) | (simp only [c14b0, Bool.not_true, Bool.not_false]) | skip)
    obtain rfl := Option.some.inj H
    go_wp2
    go_ret
    exact ⟨by first | rfl | (simp [*, errW_none, errW_some] <;> rfl), by repeat (first | (with_reducible first | exact HB.out | apply bA_ | apply bN_ | apply bD_))⟩
   rw [if_pos c14] at H
   have c14b0 : (((rd_T45 l0 x5_1).f1).toList == t104.toList) = true := beq_iff_eq.mpr c14
   have c14b1 : (((rd_T45 l0 x5_1).f1).toList != t104.toList) = false := bne_eq_false_iff_eq.mpr c14
   clear c14
   (first | rw [c14b0] | (simp only [i64_w, i32_w]; rw [c14b0]) | (simp only [c14b1, Bool.not_true, Bool.not_false]) | (simp only [c14b0, Bool.not_true, Bool.not_false]) | skip)
   replace H := Option.bind_eq_some_iff.mp H
   obtain ⟨t106, A150, H⟩ := H
   (try dsimp only at H)
   have A15 := Aside0.mk A150
   clear A150
   have HC16 := Aside0.mk H
   clear H
   try go_wp2
   (try (rw [drewN_self w13]; generalize hq_ : World.drewN w13 _ = w13; have n0_ : Aside0 (Below w.heap.size w w13) := ⟨by rw [← hq_]; exact (by repeat (first | (with_reducible first | exact HB.out | apply bA_ | apply bN_ | apply bD_)))⟩; clear HB hq_; have HB := n0_; clear n0_))
   have n0_ := Aside0.mk (bD_ HB.out)
   clear HB
   have HB := n0_
   clear n0_
   have p105 : 0 ≤ (x5_1 : Int) := of_decide_eq_true (by assumption)
   have q105 : x5_1 < (l0.length : Int) := of_decide_eq_true (by assumption)
   obtain ⟨ad105, e105, hx105_0, hx105_1, hx105_2⟩ := at_T45 HR0.out x5_1 p105 q105
   have hw105_2 := hx105_2
   have hw105_1 := hx105_1
   have hw105_0 := hx105_0
   obtain rfl : ad101 = ad105 := (by injection e105)
   replace hx105_0 := (HB.out.cell (bl_ w _ hx105_0)).trans hx105_0
   replace hx105_1 := (HB.out.cell (bl_ w _ hx105_1)).trans hx105_1
   replace hx105_2 := (HB.out.cell (bl_ w _ hx105_2)).trans hx105_2
   replace p105 := eq_true p105
   replace q105 := eq_true q105
   refine start_ (n := 8) (S := fun w' => w'.cell? (ad101.add ((x5_1).toNat * 3)) = some (.string ((rd_T45 l0 x5_1).f0)) ∧ w'.cell? ⟨(ad101.add ((x5_1).toNat * 3)).block, (ad101.add ((x5_1).toNat * 3)).off + 1, none⟩ = some (.string ((rd_T45 l0 x5_1).f1)) ∧ w'.cell? ⟨(ad101.add ((x5_1).toNat * 3)).block, (ad101.add ((x5_1).toNat * 3)).off + 2, none⟩ = some (.string ((rd_T45 l0 x5_1).f2))) (ds := []) #[f_,f_,f_,f_,f_,f_,f_,f_] (by kernel_rfl) rfl rfl ⟨((HB.out.cell (bl_ w _ hw105_0)).trans hw105_0), ((HB.out.cell (bl_ w _ hw105_1)).trans hw105_1), ((HB.out.cell (bl_ w _ hw105_2)).trans hw105_2)⟩ (fun hHeld => ?_); refine with_tabW laws_heldBlockS.tab10 laws_heldBlockS.bits10 (fun HT_ HW_ => ?_)
   generalize w13.drew = w17 at HB hx105_0 hx105_1 hx105_2 hHeld ⊢
   refine pure_ (i := 0) (N := some 32) (v := ?_) (a' := ?_) #[t_,f_,f_,f_,f_,f_,f_,f_] rfl rfl (any_of HT_.out (by kernel_rfl)) (fun _ _ _ h => h) (Or.inl ⟨by rfl, ?_⟩) ?_ ?_
   rotate_left
   ·intro w'
    go_simp
    with_reducible rfl
   rotate_left
   ·simp only [Act.put, List.setIfInBounds_toArray, List.set_cons_zero, List.set_cons_succ, i64_w, i32_w]
    rfl
   refine pure_ (i := 1) (N := some 33) (v := ?_) (a' := ?_) #[t_,t_,f_,f_,f_,f_,f_,f_] rfl rfl (any_of HT_.out (by kernel_rfl)) (fun _ _ _ h => h) (Or.inl ⟨by rfl, ?_⟩) ?_ ?_
   rotate_left
   ·intro w'
    go_simp
    with_reducible rfl
   rotate_left
   ·simp only [Act.put, List.setIfInBounds_toArray, List.set_cons_zero, List.set_cons_succ, i64_w, i32_w]
    rfl
   refine pure_ (i := 2) (N := some 34) (v := ?_) (a' := ?_) #[t_,t_,t_,f_,f_,f_,f_,f_] rfl rfl (any_of HT_.out (by kernel_rfl)) (fun _ _ _ h => h) (Or.inl ⟨by rfl, ?_⟩) ?_ ?_
   rotate_left
   ·intro w'
    go_simp
    with_reducible rfl
   rotate_left
   ·simp only [Act.put, List.setIfInBounds_toArray, List.set_cons_zero, List.set_cons_succ, i64_w, i32_w]
    rfl
   refine pure_ (i := 3) (N := some 35) (v := ?_) (a' := ?_) #[t_,t_,t_,t_,f_,f_,f_,f_] rfl rfl (any_of HT_.out (by kernel_rfl)) (fun _ _ _ h => h) (Or.inl ⟨by rfl, ?_⟩) ?_ ?_
   rotate_left
   ·intro w'
    go_simp
    with_reducible rfl
   rotate_left
   ·simp only [Act.put, List.setIfInBounds_toArray, List.set_cons_zero, List.set_cons_succ, i64_w, i32_w]
    rfl
   refine pure_ (i := 5) (N := some 37) (v := ?_) (a' := ?_) #[t_,t_,t_,t_,f_,t_,f_,f_] rfl rfl (any_of HT_.out (by kernel_rfl)) (fun _ _ _ h => h) (Or.inl ⟨by rfl, ?_⟩) ?_ ?_
   rotate_left
   ·intro w'
    go_simp
    with_reducible rfl
   rotate_left
   ·simp only [Act.put, List.setIfInBounds_toArray, List.set_cons_zero, List.set_cons_succ, i64_w, i32_w]
    rfl
   refine take_ (i := 4) (N := some 36) (v := ?_) (a' := ?_) #[t_,t_,t_,t_,t_,t_,f_,f_] rfl rfl (take_ofW HT_.out HW_.out (by kernel_rfl)) (fun _ _ _ h => h) (Or.inl ⟨by rfl, ?_⟩) hHeld ?_ ?_
   rotate_left
   ·rintro w' ⟨s0, s1, s2⟩
    go_simp
    with_reducible rfl
   rotate_left
   ·simp only [Act.put, List.setIfInBounds_toArray, List.set_cons_zero, List.set_cons_succ, i64_w, i32_w]
    rfl
   refine one_ (i := 6) (N := some 38) #[t_,t_,t_,t_,t_,t_,t_,f_] rfl rfl (one_of HT_.out (by kernel_rfl)) (by decide) (fun K hK => ?_)
   (first | refine goes_ Tryd.func35 (by kernel_rfl) rfl #[.int .i64 (wrap64 ((wrap64 (x1_1 + 1)) + 1))] (by rfl) rfl rfl (by first | rfl | (simp only [List.map_toArray, List.map_cons, List.map_nil]; first | done | rfl)) ?_ | refine RPW.goesV_ Tryd.func35 (by kernel_rfl) rfl #[.int .i64 (wrap64 ((wrap64 (x1_1 + 1)) + 1))] (by rfl) rfl rfl rfl (by first | rfl | (simp only [List.map_toArray, List.map_cons, List.map_nil]; first | done | rfl)) ?_ | refine RPW.goesC_ Tryd.func35 (by kernel_rfl) rfl #[.int .i64 (wrap64 ((wrap64 (x1_1 + 1)) + 1))] (by rfl) rfl rfl rfl (by first | rfl | (simp only [List.map_toArray, List.map_cons, List.map_nil]; first | done | rfl)) ?_)
   with_reducible refine (laws_markText.calls k1 (wrap64 ((wrap64 (x1_1 + 1)) + 1)) t106 _ A15.out).mono ?_
   rintro e w18 ⟨rfl, hb⟩
   refine ⟨_, rfl, ?_⟩
   have n0_ := Aside0.mk (below_step (by repeat (first | (with_reducible first | exact HB.out | apply bA_ | apply bN_ | apply bD_))) hb)
   clear HB
   have HB := n0_
   clear n0_
   (try clear hb)
   refine hK.out _ _ ⟨((HB.out.cell (bl_ w _ hw105_0)).trans hw105_0), ((HB.out.cell (bl_ w _ hw105_1)).trans hw105_1), ((HB.out.cell (bl_ w _ hw105_2)).trans hw105_2)⟩ (fun hHeld => ?_)
   clear hK K
   refine norm_ (a' := ?_) ?_ ?_
   rotate_left
   ·show Act.put _ (some 38) _ = _
    simp only [Act.put, List.setIfInBounds_toArray, List.set_cons_zero, List.set_cons_succ, i64_w, i32_w]
    rfl
   refine pure_ (i := 7) (N := some 39) (v := ?_) (a' := ?_) #[t_,t_,t_,t_,t_,t_,t_,t_] rfl rfl (any_of HT_.out (by kernel_rfl)) (fun _ _ _ h => h) (Or.inl ⟨by rfl, ?_⟩) ?_ ?_
   rotate_left
   ·intro w'
    go_simp
    with_reducible rfl
   rotate_left
   ·simp only [Act.put, List.setIfInBounds_toArray, List.set_cons_zero, List.set_cons_succ, i64_w, i32_w]
    rfl
   refine done_ (done_of HT_.out (by kernel_rfl)) ?_
   go_upto_if 39 with (fail)
   have H := HC16.out
   clear HC16
   by_cases c19 : ((rd_T45 l0 x5_1).f2).toList = t106.toList
   rotate_left
   ·rw [if_neg c19] at H
    have c19b0 : (((rd_T45 l0 x5_1).f2).toList == t106.toList) = false := beq_eq_false_iff_ne.mpr c19
    have c19b1 : (((rd_T45 l0 x5_1).f2).toList != t106.toList) = true := bne_iff_ne.mpr c19
    (first | rw [c19b0] | (simp only [i64_w, i32_w]; rw [c19b0]) | (simp only [c19b1, Bool.not_true, Bool.not_false]) | (simp only [c19b0, Bool.not_true, Bool.not_false]) | skip)
    obtain rfl := Option.some.inj H
    go_wp2
    go_ret
    exact ⟨by first | rfl | (simp [*, errW_none, errW_some] <;> rfl), by repeat (first | (with_reducible first | exact HB.out | apply bA_ | apply bN_ | apply bD_))⟩
   rw [if_pos c19] at H
   have c19b0 : (((rd_T45 l0 x5_1).f2).toList == t106.toList) = true := beq_iff_eq.mpr c19
   have c19b1 : (((rd_T45 l0 x5_1).f2).toList != t106.toList) = false := bne_eq_false_iff_eq.mpr c19
   clear c19
   (first | rw [c19b0] | (simp only [i64_w, i32_w]; rw [c19b0]) | (simp only [c19b1, Bool.not_true, Bool.not_false]) | (simp only [c19b0, Bool.not_true, Bool.not_false]) | skip)
   have H' := Aside0.mk H
   clear H
   go_wp2
   go_roundg k1
   case measure => have := HK1.out; omega
   case rel => exact ⟨(wrap64 ((wrap64 ((wrap64 (x1_1 + 1)) + 1)) + 1)), (wrap64 (x5_1 + 1)), (by first | rfl | (simp; done) | (simp [*]; done)), (by first | rfl | (simp; done) | (simp [*]; done)), H', ⟨by have := HK1.out; omega⟩, ⟨by repeat (first | (with_reducible first | exact HB.out | apply bA_ | apply bN_ | apply bD_))⟩⟩
end Go.Proofs.YtckboiphlhhckaaDoor.Q
namespace Go.Proofs.YtckboiphlhhckaaDoor.Q
open Go.RowKit Go.Proofs.YtckboiphlhhckaaDoorW.PrintWords Go.Proofs.YtckboiphlhhckaaDoorW.PrintLast Go.Proofs.YtckboiphlhhckaaDoorW.PrintMore
attribute [local go_sem] max2_int min2_int max_two min_two max_three min_three max_four min_four
set_option linter.unusedVariables false
set_option linter.unusedSimpArgs false
mutual
def laws_FnExactBlocksOfLeaves.j0 : Nat → List (S64) → List (S45) → Int → List (S69) → List (S45) → Int → Bool → Option (Bool)
 | 0, _, _, _, _, _, _, _ => none
 | k + 1, x0, x4, x5, x6, x7, x8, x40 => if x40 = true then (some false) else ((laws_toLeafS.f k x0).bind fun t117 => ((laws_eqLeafS.f k x6 t117).bind fun t120 => (if t120 = true then ((laws_markLeafS.f k x6 1).bind fun bt121 => (if bt121.1 < 0 then (laws_FnExactBlocksOfLeaves.j1 k x0 x4 x5 x7 true) else ((laws_eqBlockS.f k x7 x4).bind fun t123 => (if t123 = true then (laws_FnExactBlocksOfLeaves.j1 k x0 x4 x5 x7 (x8 != x5)) else (laws_FnExactBlocksOfLeaves.j1 k x0 x4 x5 x7 true))))) else (some false))))
def laws_FnExactBlocksOfLeaves.j1 : Nat → List (S64) → List (S45) → Int → List (S45) → Bool → Option (Bool)
 | 0, _, _, _, _, _ => none
 | k + 1, x0, x4, x5, x7, x61 => if x61 = true then (some false) else ((laws_markBlockS.f k x7 1).bind fun bt124 => ((laws_heldBlockS.f k bt124.2 1).bind fun t126 => (if t126 < 0 then (some false) else (if t126 = bt124.1 then ((laws_toLeafS.f k x0).bind fun t127 => ((impl_BlocksOfLeaves.f k t127).bind fun bt130 => ((laws_eqBlockS.f k bt130.1 x4).bind fun t134 => (if t134 = true then (laws_FnExactBlocksOfLeaves.j2 k bt124.2 bt124.1 (bt130.2 != x5)) else (laws_FnExactBlocksOfLeaves.j2 k bt124.2 bt124.1 true))))) else (some false)))))
def laws_FnExactBlocksOfLeaves.j2 : Nat → List (S45) → Int → Bool → Option (Bool)
 | 0, _, _, _ => none
 | k + 1, x7, x10, x87 => if x87 = true then (some false) else ((laws_heldBlockS.f k x7 1).bind fun t135 => (if t135 < 0 then (some false) else (if t135 = x10 then (some true) else (some false))))
end
def laws_FnExactBlocksOfLeaves.f (k : Nat) (l0 : List (S64)) : Option (Bool) := (laws_szLeafS.f k l0 1048576).bind fun t101 => (if t101 < 0 then (some true) else ((laws_toLeafS.f k l0).bind fun t102 => ((spec_BlocksOfLeaves.f k t102).bind fun bt105 => ((laws_toLeafS.f k l0).bind fun t109 => ((impl_BlocksOfLeaves.f k t109).bind fun bt112 => ((laws_eqBlockS.f k bt112.1 bt105.1).bind fun t116 => (if t116 = true then (laws_FnExactBlocksOfLeaves.j0 k l0 bt105.1 bt105.2 t109 bt112.1 bt112.2 (bt112.2 != bt105.2)) else (laws_FnExactBlocksOfLeaves.j0 k l0 bt105.1 bt105.2 t109 bt112.1 bt112.2 true))))))))
set_option maxHeartbeats 8000000 in
set_option maxRecDepth 100000 in
theorem laws_FnExactBlocksOfLeaves.calls (k : Nat) (A0 : Option Addr) (c0 : Nat) (l0 : List (S64)) (r : Bool) (w : World) (hr0 : Kd.C k64 w A0 l0.length l0) (hc0 : l0.length ≤ c0) (hTab_ : Tab_ w) (h : laws_FnExactBlocksOfLeaves.f k l0 = some r) :
  Calls Tryd.prog 4 #[.slice A0 l0.length c0] w fun e w' => e = .returned (.bool r) ∧ Below w.heap.size w w' := by
 have HTab_ := Aside0.mk hTab_
 clear hTab_
 have HR0 := Aside0.mk hr0
 have HC0 := Aside0.mk hc0
 clear hr0 hc0
 have HB := Aside0.mk (Below.refl w.heap.size w)
 have H : ((laws_szLeafS.f k l0 1048576).bind fun t101 => (if t101 < 0 then (some true) else ((laws_toLeafS.f k l0).bind fun t102 => ((spec_BlocksOfLeaves.f k t102).bind fun bt105 => ((laws_toLeafS.f k l0).bind fun t109 => ((impl_BlocksOfLeaves.f k t109).bind fun bt112 => ((laws_eqBlockS.f k bt112.1 bt105.1).bind fun t116 => (if t116 = true then (laws_FnExactBlocksOfLeaves.j0 k l0 bt105.1 bt105.2 t109 bt112.1 bt112.2 (bt112.2 != bt105.2)) else (laws_FnExactBlocksOfLeaves.j0 k l0 bt105.1 bt105.2 t109 bt112.1 bt112.2 true))))))))) = some r := h
 clear h
 replace H := Option.bind_eq_some_iff.mp H
 obtain ⟨t101, A20, H⟩ := H
 (try dsimp only at H)
 have A2 := Aside0.mk A20
 clear A20
 have HC3 := Aside0.mk H
 clear H
 go_enter Tryd.func4, Tryd.ntmps4
 go_upto_if 18 with (first | ((with_reducible refine gate_callee (f := 10) rfl ?_); refine goesL_ (some 16) rfl rfl Tryd.func10 (by kernel_rfl) rfl #[.slice A0 l0.length c0, .int .i64 1048576] rfl (by first | rfl | (simp only [List.map_toArray, List.map_cons, List.map_nil]; first | done | rfl)) ?_; (with_reducible refine (laws_szLeafS.calls k _ _ l0 1048576 t101 _ ?side1 ?side2 A2.out).mono ?_); (case side1 => repeat (first | exact HR0.out | (with_reducible first | refine Kd.C_alloc ?_ _ | refine Kd.C_drewN ?_ _ | refine Kd.C_drew ?_))); (case side2 => exact HC0.out); rintro e w4 ⟨rfl, hb⟩; refine ⟨_, rfl, ?_⟩; have n0_ := Aside0.mk (below_step (by repeat (first | (with_reducible first | exact HB.out | apply bA_ | apply bN_ | apply bD_))) hb); clear HB; have HB := n0_; clear n0_; (try clear hb)))
 (try simp only [Act.put, List.setIfInBounds_toArray, List.set_cons_zero, List.set_cons_succ])
 have H := HC3.out
 clear HC3
 by_cases c5 : t101 < 0
 rotate_left
 ·rw [if_neg c5] at H
  have c5b0 : decide (t101 < 0) = false := decide_eq_false c5
  clear c5
  (first | rw [c5b0] | (simp only [i64_w, i32_w]; rw [c5b0]) | (simp only [c5b1, Bool.not_true, Bool.not_false]) | (simp only [c5b0, Bool.not_true, Bool.not_false]) | skip)
  replace H := Option.bind_eq_some_iff.mp H
  obtain ⟨t102, A60, H⟩ := H
  (try dsimp only at H)
  have A6 := Aside0.mk A60
  clear A60
  replace H := Option.bind_eq_some_iff.mp H
  obtain ⟨⟨t105, t106⟩, A70, H⟩ := H
  (try dsimp only at H)
  have A7 := Aside0.mk A70
  clear A70
  replace H := Option.bind_eq_some_iff.mp H
  obtain ⟨t109, A80, H⟩ := H
  (try dsimp only at H)
  have A8 := Aside0.mk A80
  clear A80
  replace H := Option.bind_eq_some_iff.mp H
  obtain ⟨⟨t112, t113⟩, A90, H⟩ := H
  (try dsimp only at H)
  have A9 := Aside0.mk A90
  clear A90
  have HC10 := Aside0.mk H
  clear H
  go_upto_region 8 with (first | ((with_reducible refine gate_callee (f := 12) rfl ?_); refine goesL_ (some 21) rfl rfl Tryd.func12 (by kernel_rfl) rfl #[.slice A0 l0.length c0] rfl (by first | rfl | (simp only [List.map_toArray, List.map_cons, List.map_nil]; first | done | rfl)) ?_; (with_reducible refine (laws_toLeafS.calls k _ _ l0 t102 _ ?side1 ?side2 A6.out).mono ?_); (case side1 => repeat (first | exact (Kd.C_below HR0.out (by repeat (first | (with_reducible first | exact HB.out | apply bA_ | apply bN_ | apply bD_)))) | (with_reducible first | refine Kd.C_alloc ?_ _ | refine Kd.C_drewN ?_ _ | refine Kd.C_drew ?_))); (case side2 => exact HC0.out); rintro e w11 ⟨v103, rfl, ho0, hb⟩; refine ⟨_, rfl, ?_⟩; have n0_ := Aside0.mk (Kd.S_lower ho0 (below_size (by repeat (first | (with_reducible first | exact HB.out | apply bA_ | apply bN_ | apply bD_))))); have n1_ := Aside0.mk (below_step (by repeat (first | (with_reducible first | exact HB.out | apply bA_ | apply bN_ | apply bD_))) hb); clear HB; have HO104 := n0_; have HB := n1_; clear n0_ n1_; (try clear hb); (try clear ho0); obtain ⟨Ao12, co12, eo12⟩ := Kd.S_slice HO104.out; subst eo12) | ((with_reducible refine gate_callee (f := 11) rfl ?_); refine goesL_ (some 22) rfl rfl Tryd.func11 (by kernel_rfl) rfl #[.slice Ao12 t102.length co12] rfl (by first | rfl | (simp only [List.map_toArray, List.map_cons, List.map_nil]; first | done | rfl)) ?_; (with_reducible refine (spec_BlocksOfLeaves.calls k _ _ t102 t105 t106 _ ?side1 ?side2 A7.out).mono ?_); (case side1 => repeat (first | exact (Kd.S_reads' HO104.out).2.2 | (with_reducible first | refine Kd.C_alloc ?_ _ | refine Kd.C_drewN ?_ _ | refine Kd.C_drew ?_))); (case side2 => exact (Kd.S_reads' HO104.out).2.1); rintro e w13 ⟨v107, rfl, ho0, hb⟩; refine ⟨_, rfl, ?_⟩; have n0_ := Aside0.mk (Kd.S_below (by (with_reducible repeat (first | apply Kd.S_alloc | apply Kd.S_drewN | apply Kd.S_drew)); exact HO104.out) hb); have n1_ := Aside0.mk (Kd.R_lower ho0 (below_size (by repeat (first | (with_reducible first | exact HB.out | apply bA_ | apply bN_ | apply bD_))))); have n2_ := Aside0.mk (below_step (by repeat (first | (with_reducible first | exact HB.out | apply bA_ | apply bN_ | apply bD_))) hb); clear HO104; clear HB; have HO104 := n0_; have HO108 := n1_; have HB := n2_; clear n0_ n1_ n2_; (try clear hb); (try clear ho0)) | ((with_reducible refine gate_callee (f := 12) rfl ?_); refine goesL_ (some 26) rfl rfl Tryd.func12 (by kernel_rfl) rfl #[.slice A0 l0.length c0] rfl (by first | rfl | (simp only [List.map_toArray, List.map_cons, List.map_nil]; first | done | rfl)) ?_; (with_reducible refine (laws_toLeafS.calls k _ _ l0 t109 _ ?side1 ?side2 A8.out).mono ?_); (case side1 => repeat (first | exact (Kd.C_below HR0.out HB.out) | (with_reducible first | refine Kd.C_alloc ?_ _ | refine Kd.C_drewN ?_ _ | refine Kd.C_drew ?_))); (case side2 => exact HC0.out); rintro e w14 ⟨v110, rfl, ho0, hb⟩; refine ⟨_, rfl, ?_⟩; have n0_ := Aside0.mk (Kd.S_elder' (by (with_reducible repeat (first | apply Kd.S_alloc | apply Kd.S_drewN | apply Kd.S_drew)); exact HO104.out) (Kd.S_base ho0) hb); have n1_ := Aside0.mk (Kd.R_below (by (with_reducible repeat (first | apply Kd.R_alloc | apply Kd.R_drewN | apply Kd.R_drew)); exact HO108.out) hb); have n2_ := Aside0.mk (Kd.S_lower (Kd.S_new' ho0 (Kd.S_lt (by (with_reducible repeat (first | apply Kd.S_alloc | apply Kd.S_drewN | apply Kd.S_drew)); exact HO104.out))) (below_size (by repeat (first | (with_reducible first | exact HB.out | apply bA_ | apply bN_ | apply bD_))))); have n3_ := Aside0.mk (below_step (by repeat (first | (with_reducible first | exact HB.out | apply bA_ | apply bN_ | apply bD_))) hb); clear HO104; clear HO108; clear HB; have HO104 := n0_; have HO108 := n1_; have HO111 := n2_; have HB := n3_; clear n0_ n1_ n2_ n3_; (try clear hb); (try clear ho0); obtain ⟨Ao15, co15, eo15⟩ := Kd.S_slice HO111.out; subst eo15) | ((with_reducible refine gate_callee (f := 13) rfl ?_); refine goesL_ (some 29) rfl rfl Tryd.func13 (by kernel_rfl) rfl #[.slice Ao15 t109.length co15] rfl (by first | rfl | (simp only [List.map_toArray, List.map_cons, List.map_nil]; first | done | rfl)) ?_; (with_reducible refine (impl_BlocksOfLeaves.calls k _ _ t109 t112 t113 _ ?side1 ?side2 ?side3 A9.out).mono ?_); (case side1 => repeat (first | exact (Kd.S_reads' HO111.out).2.2 | (with_reducible first | refine Kd.C_alloc ?_ _ | refine Kd.C_drewN ?_ _ | refine Kd.C_drew ?_))); (case side2 => exact (Kd.S_reads' HO111.out).2.1); (case side3 => exact Tab_below HTab_.out (by repeat (first | (with_reducible first | exact HB.out | apply bA_ | apply bN_ | apply bD_)))); rintro e w16 ⟨v114, rfl, ho0, hb⟩; refine ⟨_, rfl, ?_⟩; have n0_ := Aside0.mk (Kd.S_below (by (with_reducible repeat (first | apply Kd.S_alloc | apply Kd.S_drewN | apply Kd.S_drew)); exact HO104.out) hb); have n1_ := Aside0.mk (Kd.R_elder' (by (with_reducible repeat (first | apply Kd.R_alloc | apply Kd.R_drewN | apply Kd.R_drew)); exact HO108.out) (Kd.R_base ho0) hb); have n2_ := Aside0.mk (Kd.S_below (by (with_reducible repeat (first | apply Kd.S_alloc | apply Kd.S_drewN | apply Kd.S_drew)); exact HO111.out) hb); have n3_ := Aside0.mk (Kd.R_lower (Kd.R_new' ho0 (Kd.R_lt (by (with_reducible repeat (first | apply Kd.R_alloc | apply Kd.R_drewN | apply Kd.R_drew)); exact HO108.out))) (below_size (by repeat (first | (with_reducible first | exact HB.out | apply bA_ | apply bN_ | apply bD_))))); have n4_ := Aside0.mk (below_step (by repeat (first | (with_reducible first | exact HB.out | apply bA_ | apply bN_ | apply bD_))) hb); clear HO104; clear HO108; clear HO111; clear HB; have HO104 := n0_; have HO108 := n1_; have HO111 := n2_; have HO115 := n3_; have HB := n4_; clear n0_ n1_ n2_ n3_ n4_; (try clear hb); (try clear ho0)))
  (try simp only [Act.put, List.setIfInBounds_toArray, List.set_cons_zero, List.set_cons_succ])
  go_cut [40] (fun v40 wc => ∃ (kq : Nat) (x40_9 : Bool), v40 = .bool x40_9 ∧ Aside0 (laws_FnExactBlocksOfLeaves.j0 kq l0 t105 t106 t109 t112 t113 x40_9 = some r) ∧ Aside0 (kq ≤ k) ∧ Aside0 (Kd.R k45 45 wc w.heap.size (fun k_ => some k_ ≠ (v114 : Value).ownBlock) v107 t105) ∧ Aside0 (Kd.S k69 69 wc w.heap.size (fun _ => True) (.slice Ao15 t109.length co15) t109) ∧ Aside0 (Kd.R k45 45 wc w.heap.size (fun k_ => some k_ ≠ (v107 : Value).ownBlock) v114 t112) ∧ Aside0 (Below w.heap.size w wc))
  case first =>
   have H := HC10.out
   clear HC10
   replace H := Option.bind_eq_some_iff.mp H
   obtain ⟨t116, A170, H⟩ := H
   (try dsimp only at H)
   have A17 := Aside0.mk A170
   clear A170
   by_cases c18 : t116 = true
   rotate_left
   ·replace c18 := Bool.eq_false_iff.mpr c18
    subst c18
    have H1 : (laws_FnExactBlocksOfLeaves.j0 k l0 t105 t106 t109 t112 t113 true) = some r := by rw [if_neg (show ¬ (false = true) by decide)] at H; exact H
    clear H
    have H := H1
    clear H1
    have H' := Aside0.mk H
    clear H
    obtain ⟨Ao22, co22, eo22⟩ := Kd.R_slice HO115.out
    subst eo22
    obtain ⟨Ao23, co23, eo23⟩ := Kd.R_slice HO108.out
    subst eo23
    go_wp2_with (first | ((with_reducible refine gate_callee (f := 9) rfl ?_); refine goesL_ (some 34) rfl rfl Tryd.func9 (by kernel_rfl) rfl #[.slice Ao22 t112.length co22, .slice Ao23 t105.length co23] rfl (by first | rfl | (simp only [List.map_toArray, List.map_cons, List.map_nil]; first | done | rfl)) ?_; (with_reducible refine (laws_eqBlockS.calls k _ _ t112 _ _ t105 false _ ?side1 ?side2 ?side3 ?side4 A17.out).mono ?_); (case side1 => repeat (first | exact (Kd.R_reads' HO115.out).2.2 | (with_reducible first | refine Kd.C_alloc ?_ _ | refine Kd.C_drewN ?_ _ | refine Kd.C_drew ?_))); (case side2 => exact (Kd.R_reads' HO115.out).2.1); (case side3 => repeat (first | exact (Kd.R_reads' HO108.out).2.2 | (with_reducible first | refine Kd.C_alloc ?_ _ | refine Kd.C_drewN ?_ _ | refine Kd.C_drew ?_))); (case side4 => exact (Kd.R_reads' HO108.out).2.1); rintro e w24 ⟨rfl, hb⟩; refine ⟨_, rfl, ?_⟩; have n0_ := Aside0.mk (Kd.S_below (by (with_reducible repeat (first | apply Kd.S_alloc | apply Kd.S_drewN | apply Kd.S_drew)); exact HO104.out) hb); have n1_ := Aside0.mk (Kd.R_below (by (with_reducible repeat (first | apply Kd.R_alloc | apply Kd.R_drewN | apply Kd.R_drew)); exact HO108.out) hb); have n2_ := Aside0.mk (Kd.S_below (by (with_reducible repeat (first | apply Kd.S_alloc | apply Kd.S_drewN | apply Kd.S_drew)); exact HO111.out) hb); have n3_ := Aside0.mk (Kd.R_below (by (with_reducible repeat (first | apply Kd.R_alloc | apply Kd.R_drewN | apply Kd.R_drew)); exact HO115.out) hb); have n4_ := Aside0.mk (below_step (by repeat (first | (with_reducible first | exact HB.out | apply bA_ | apply bN_ | apply bD_))) hb); clear HO104; clear HO108; clear HO111; clear HO115; clear HB; have HO104 := n0_; have HO108 := n1_; have HO111 := n2_; have HO115 := n3_; have HB := n4_; clear n0_ n1_ n2_ n3_ n4_; (try clear hb)))
    go_meet
    case rel => exact ⟨_, (true), (by first | rfl | (simp; done) | (simp [*]; done)), H', ⟨by first | omega | exact Nat.le_refl _⟩, ⟨by (with_reducible repeat (first | apply Kd.R_alloc | apply Kd.R_drewN | apply Kd.R_drew)); exact Kd.R_mono HO108.out (fun _ hk => hk.2)⟩, ⟨by (with_reducible repeat (first | apply Kd.S_alloc | apply Kd.S_drewN | apply Kd.S_drew)); exact Kd.S_mono HO111.out (fun _ hk => trivial)⟩, ⟨by (with_reducible repeat (first | apply Kd.R_alloc | apply Kd.R_drewN | apply Kd.R_drew)); exact Kd.R_mono HO115.out (fun _ hk => hk.2)⟩, ⟨by repeat (first | (with_reducible first | exact HB.out | apply bA_ | apply bN_ | apply bD_))⟩⟩
   subst c18
   have H1 : (laws_FnExactBlocksOfLeaves.j0 k l0 t105 t106 t109 t112 t113 (t113 != t106)) = some r := by rw [if_pos rfl] at H; exact H
   clear H
   have H := H1
   clear H1
   have H' := Aside0.mk H
   clear H
   obtain ⟨Ao19, co19, eo19⟩ := Kd.R_slice HO115.out
   subst eo19
   obtain ⟨Ao20, co20, eo20⟩ := Kd.R_slice HO108.out
   subst eo20
   go_wp2_with (first | ((with_reducible refine gate_callee (f := 9) rfl ?_); refine goesL_ (some 34) rfl rfl Tryd.func9 (by kernel_rfl) rfl #[.slice Ao19 t112.length co19, .slice Ao20 t105.length co20] rfl (by first | rfl | (simp only [List.map_toArray, List.map_cons, List.map_nil]; first | done | rfl)) ?_; (with_reducible refine (laws_eqBlockS.calls k _ _ t112 _ _ t105 true _ ?side1 ?side2 ?side3 ?side4 A17.out).mono ?_); (case side1 => repeat (first | exact (Kd.R_reads' HO115.out).2.2 | (with_reducible first | refine Kd.C_alloc ?_ _ | refine Kd.C_drewN ?_ _ | refine Kd.C_drew ?_))); (case side2 => exact (Kd.R_reads' HO115.out).2.1); (case side3 => repeat (first | exact (Kd.R_reads' HO108.out).2.2 | (with_reducible first | refine Kd.C_alloc ?_ _ | refine Kd.C_drewN ?_ _ | refine Kd.C_drew ?_))); (case side4 => exact (Kd.R_reads' HO108.out).2.1); rintro e w21 ⟨rfl, hb⟩; refine ⟨_, rfl, ?_⟩; have n0_ := Aside0.mk (Kd.S_below (by (with_reducible repeat (first | apply Kd.S_alloc | apply Kd.S_drewN | apply Kd.S_drew)); exact HO104.out) hb); have n1_ := Aside0.mk (Kd.R_below (by (with_reducible repeat (first | apply Kd.R_alloc | apply Kd.R_drewN | apply Kd.R_drew)); exact HO108.out) hb); have n2_ := Aside0.mk (Kd.S_below (by (with_reducible repeat (first | apply Kd.S_alloc | apply Kd.S_drewN | apply Kd.S_drew)); exact HO111.out) hb); have n3_ := Aside0.mk (Kd.R_below (by (with_reducible repeat (first | apply Kd.R_alloc | apply Kd.R_drewN | apply Kd.R_drew)); exact HO115.out) hb); have n4_ := Aside0.mk (below_step (by repeat (first | (with_reducible first | exact HB.out | apply bA_ | apply bN_ | apply bD_))) hb); clear HO104; clear HO108; clear HO111; clear HO115; clear HB; have HO104 := n0_; have HO108 := n1_; have HO111 := n2_; have HO115 := n3_; have HB := n4_; clear n0_ n1_ n2_ n3_ n4_; (try clear hb)))
   go_meet
   case rel => exact ⟨_, ((t113 != t106)), (by first | rfl | (simp; done) | (simp [*]; done)), H', ⟨by first | omega | exact Nat.le_refl _⟩, ⟨by (with_reducible repeat (first | apply Kd.R_alloc | apply Kd.R_drewN | apply Kd.R_drew)); exact Kd.R_mono HO108.out (fun _ hk => hk.2)⟩, ⟨by (with_reducible repeat (first | apply Kd.S_alloc | apply Kd.S_drewN | apply Kd.S_drew)); exact Kd.S_mono HO111.out (fun _ hk => trivial)⟩, ⟨by (with_reducible repeat (first | apply Kd.R_alloc | apply Kd.R_drewN | apply Kd.R_drew)); exact Kd.R_mono HO115.out (fun _ hk => hk.2)⟩, ⟨by repeat (first | (with_reducible first | exact HB.out | apply bA_ | apply bN_ | apply bD_))⟩⟩
  case rest =>
   clear HC10
   obtain ⟨kq, x40_9, rfl, HA, HJ9, HO_4, HO_6, HO_7, HB⟩ := hcut
   cases kq with
   | zero => exact absurd HA.out (by simp [laws_FnExactBlocksOfLeaves.j0])
   | succ kj9 =>
    have H := HA.out
    clear HA
    simp only [laws_FnExactBlocksOfLeaves.j0] at H
    by_cases c25 : x40_9 = true
    rotate_left
    ·replace c25 := Bool.eq_false_iff.mpr c25
     subst c25
     have H1 : ((laws_toLeafS.f kj9 l0).bind fun t117 => ((laws_eqLeafS.f kj9 t109 t117).bind fun t120 => (if t120 = true then ((laws_markLeafS.f kj9 t109 1).bind fun bt121 => (if bt121.1 < 0 then (laws_FnExactBlocksOfLeaves.j1 kj9 l0 t105 t106 t112 true) else ((laws_eqBlockS.f kj9 t112 t105).bind fun t123 => (if t123 = true then (laws_FnExactBlocksOfLeaves.j1 kj9 l0 t105 t106 t112 (t113 != t106)) else (laws_FnExactBlocksOfLeaves.j1 kj9 l0 t105 t106 t112 true))))) else (some false)))) = some r := by rw [if_neg (show ¬ (false = true) by decide)] at H; exact H
     clear H
     have H := H1
     clear H1
     replace H := Option.bind_eq_some_iff.mp H
     obtain ⟨t117, A260, H⟩ := H
     (try dsimp only at H)
     have A26 := Aside0.mk A260
     clear A260
     replace H := Option.bind_eq_some_iff.mp H
     obtain ⟨t120, A270, H⟩ := H
     (try dsimp only at H)
     have A27 := Aside0.mk A270
     clear A270
     have HC28 := Aside0.mk H
     clear H
     go_upto_if 45 with (first | ((with_reducible refine gate_callee (f := 12) rfl ?_); refine goesL_ (some 43) rfl rfl Tryd.func12 (by kernel_rfl) rfl #[.slice A0 l0.length c0] rfl (by first | rfl | (simp only [List.map_toArray, List.map_cons, List.map_nil]; first | done | rfl)) ?_; (with_reducible refine (laws_toLeafS.calls kj9 _ _ l0 t117 _ ?side1 ?side2 A26.out).mono ?_); (case side1 => repeat (first | exact (Kd.C_below HR0.out (by repeat (first | (with_reducible first | exact HB.out | apply bA_ | apply bN_ | apply bD_)))) | (with_reducible first | refine Kd.C_alloc ?_ _ | refine Kd.C_drewN ?_ _ | refine Kd.C_drew ?_))); (case side2 => exact HC0.out); rintro e w29 ⟨v118, rfl, ho0, hb⟩; refine ⟨_, rfl, ?_⟩; have n0_ := Aside0.mk (Kd.R_below (by (with_reducible repeat (first | apply Kd.R_alloc | apply Kd.R_drewN | apply Kd.R_drew)); exact HO_4.out) hb); have n1_ := Aside0.mk (Kd.S_elder' (by (with_reducible repeat (first | apply Kd.S_alloc | apply Kd.S_drewN | apply Kd.S_drew)); exact HO_6.out) (Kd.S_base ho0) hb); have n2_ := Aside0.mk (Kd.R_below (by (with_reducible repeat (first | apply Kd.R_alloc | apply Kd.R_drewN | apply Kd.R_drew)); exact HO_7.out) hb); have n3_ := Aside0.mk (Kd.S_lower (Kd.S_new' ho0 (Kd.S_lt (by (with_reducible repeat (first | apply Kd.S_alloc | apply Kd.S_drewN | apply Kd.S_drew)); exact HO_6.out))) (below_size (by repeat (first | (with_reducible first | exact HB.out | apply bA_ | apply bN_ | apply bD_))))); have n4_ := Aside0.mk (below_step (by repeat (first | (with_reducible first | exact HB.out | apply bA_ | apply bN_ | apply bD_))) hb); clear HO_4; clear HO_6; clear HO_7; clear HB; have HO_4 := n0_; have HO_6 := n1_; have HO_7 := n2_; have HO119 := n3_; have HB := n4_; clear n0_ n1_ n2_ n3_ n4_; (try clear hb); (try clear ho0); obtain ⟨Ao30, co30, eo30⟩ := Kd.S_slice HO119.out; subst eo30) | ((with_reducible refine gate_callee (f := 14) rfl ?_); refine goesL_ (some 44) rfl rfl Tryd.func14 (by kernel_rfl) rfl #[.slice Ao15 t109.length co15, .slice Ao30 t117.length co30] rfl (by first | rfl | (simp only [List.map_toArray, List.map_cons, List.map_nil]; first | done | rfl)) ?_; (with_reducible refine (laws_eqLeafS.calls kj9 _ _ t109 _ _ t117 t120 _ ?side1 ?side2 ?side3 ?side4 A27.out).mono ?_); (case side1 => repeat (first | exact (Kd.S_reads' HO_6.out).2.2 | (with_reducible first | refine Kd.C_alloc ?_ _ | refine Kd.C_drewN ?_ _ | refine Kd.C_drew ?_))); (case side2 => exact (Kd.S_reads' HO_6.out).2.1); (case side3 => repeat (first | exact (Kd.S_reads' HO119.out).2.2 | (with_reducible first | refine Kd.C_alloc ?_ _ | refine Kd.C_drewN ?_ _ | refine Kd.C_drew ?_))); (case side4 => exact (Kd.S_reads' HO119.out).2.1); rintro e w31 ⟨rfl, hb⟩; refine ⟨_, rfl, ?_⟩; have n0_ := Aside0.mk (Kd.R_below (by (with_reducible repeat (first | apply Kd.R_alloc | apply Kd.R_drewN | apply Kd.R_drew)); exact HO_4.out) hb); have n1_ := Aside0.mk (Kd.S_below (by (with_reducible repeat (first | apply Kd.S_alloc | apply Kd.S_drewN | apply Kd.S_drew)); exact HO_6.out) hb); have n2_ := Aside0.mk (Kd.R_below (by (with_reducible repeat (first | apply Kd.R_alloc | apply Kd.R_drewN | apply Kd.R_drew)); exact HO_7.out) hb); have n3_ := Aside0.mk (Kd.S_below (by (with_reducible repeat (first | apply Kd.S_alloc | apply Kd.S_drewN | apply Kd.S_drew)); exact HO119.out) hb); have n4_ := Aside0.mk (below_step (by repeat (first | (with_reducible first | exact HB.out | apply bA_ | apply bN_ | apply bD_))) hb); clear HO_4; clear HO_6; clear HO_7; clear HO119; clear HB; have HO_4 := n0_; have HO_6 := n1_; have HO_7 := n2_; have HO119 := n3_; have HB := n4_; clear n0_ n1_ n2_ n3_ n4_; (try clear hb)))
     (try simp only [Act.put, List.setIfInBounds_toArray, List.set_cons_zero, List.set_cons_succ])
     have H := HC28.out
     clear HC28
     by_cases c32 : t120 = true
     rotate_left
     ·replace c32 := Bool.eq_false_iff.mpr c32
      subst c32
      have H1 : (some false) = some r := by rw [if_neg (show ¬ (false = true) by decide)] at H; exact H
      clear H
      have H := H1
      clear H1
      obtain rfl := Option.some.inj H
      go_wp2
      go_ret
      exact ⟨by first | rfl | (simp [*, errW_none, errW_some] <;> rfl), by repeat (first | (with_reducible first | exact HB.out | apply bA_ | apply bN_ | apply bD_))⟩
     subst c32
     have H1 : ((laws_markLeafS.f kj9 t109 1).bind fun bt121 => (if bt121.1 < 0 then (laws_FnExactBlocksOfLeaves.j1 kj9 l0 t105 t106 t112 true) else ((laws_eqBlockS.f kj9 t112 t105).bind fun t123 => (if t123 = true then (laws_FnExactBlocksOfLeaves.j1 kj9 l0 t105 t106 t112 (t113 != t106)) else (laws_FnExactBlocksOfLeaves.j1 kj9 l0 t105 t106 t112 true))))) = some r := by rw [if_pos rfl] at H; exact H
     clear H
     have H := H1
     clear H1
     replace H := Option.bind_eq_some_iff.mp H
     obtain ⟨⟨t121, t122⟩, A330, H⟩ := H
     (try dsimp only at H)
     have A33 := Aside0.mk A330
     clear A330
     have HC34 := Aside0.mk H
     clear H
     go_upto_region 14 with (first | ((with_reducible refine gate_callee (f := 15) rfl ?_); refine goesL_ (some 48) rfl rfl Tryd.func15 (by kernel_rfl) rfl #[.slice Ao15 t109.length co15, .int .i64 1] rfl (by first | rfl | (simp only [List.map_toArray, List.map_cons, List.map_nil]; first | done | rfl)) ?_; (with_reducible refine (laws_markLeafS.calls kj9 ?PPA33 (.slice Ao15 t109.length co15) t109 1 t121 t122 w _ ?side1 ?side2 A33.out).mono ?_); (case side1 => repeat (first | (with_reducible first | exact HB.out | apply bA_ | apply bN_ | apply bD_))); (case side2 => exact Kd.S_bound HO_6.out); rintro e w35 ⟨rfl, hy0, hb, hkp⟩; refine ⟨_, rfl, ?_⟩; have n0_ := Aside0.mk (Kd.R_mono (ok' := fun k_ => some k_ ≠ (v114 : Value).ownBlock) (Kd.R_keptB ((deep_R HO_4.out (by decide))) hkp (fun k_ hk_ hs_ => (hk_.2) hs_)) (fun k_ hk_ => hk_.1.1)); have n1_ := Aside0.mk ((Kd.S_mono hy0 (fun _ h_ => h_.1))); have n2_ := Aside0.mk (Kd.R_mono (ok' := fun k_ => some k_ ≠ (v107 : Value).ownBlock) (Kd.R_keptB ((deep_R HO_7.out (by decide))) hkp (fun k_ hk_ hs_ => (hk_.2) hs_)) (fun k_ hk_ => hk_.1.1)); have n3_ := Aside0.mk (hb); clear HO_4; clear HO_6; clear HO_7; clear HB; clear HO119; have HO_4 := n0_; have HO_6 := n1_; have HO_7 := n2_; have HB := n3_; clear n0_ n1_ n2_ n3_; (try clear hb); (try clear hkp); (try clear hy0)))
     (try simp only [Act.put, List.setIfInBounds_toArray, List.set_cons_zero, List.set_cons_succ])
     go_cut [61] (fun v61 wc => ∃ (kq : Nat) (x61_33 : Bool), v61 = .bool x61_33 ∧ Aside0 (laws_FnExactBlocksOfLeaves.j1 kq l0 t105 t106 t112 x61_33 = some r) ∧ Aside0 (kq ≤ kj9) ∧ Aside0 (Kd.R k45 45 wc w.heap.size (fun k_ => some k_ ≠ (v114 : Value).ownBlock) v107 t105) ∧ Aside0 (Kd.R k45 45 wc w.heap.size (fun k_ => some k_ ≠ (v107 : Value).ownBlock) v114 t112) ∧ Aside0 (Below w.heap.size w wc))
     case first =>
      have H := HC34.out
      clear HC34
      by_cases c36 : t121 < 0
      rotate_left
      ·rw [if_neg c36] at H
       have c36b0 : decide (t121 < 0) = false := decide_eq_false c36
       clear c36
       (first | rw [c36b0] | (simp only [i64_w, i32_w]; rw [c36b0]) | (simp only [c36b1, Bool.not_true, Bool.not_false]) | (simp only [c36b0, Bool.not_true, Bool.not_false]) | skip)
       replace H := Option.bind_eq_some_iff.mp H
       obtain ⟨t123, A370, H⟩ := H
       (try dsimp only at H)
       have A37 := Aside0.mk A370
       clear A370
       by_cases c38 : t123 = true
       rotate_left
       ·replace c38 := Bool.eq_false_iff.mpr c38
        subst c38
        have H1 : (laws_FnExactBlocksOfLeaves.j1 kj9 l0 t105 t106 t112 true) = some r := by rw [if_neg (show ¬ (false = true) by decide)] at H; exact H
        clear H
        have H := H1
        clear H1
        have H' := Aside0.mk H
        clear H
        obtain ⟨Ao42, co42, eo42⟩ := Kd.R_slice HO_7.out
        subst eo42
        obtain ⟨Ao43, co43, eo43⟩ := Kd.R_slice HO_4.out
        subst eo43
        go_wp2_with (first | (go_at_call 9; (with_reducible refine (laws_eqBlockS.calls kj9 _ _ t112 _ _ t105 false _ ?side1 ?side2 ?side3 ?side4 A37.out).mono ?_); (case side1 => repeat (first | exact (Kd.R_reads' HO_7.out).2.2 | (with_reducible first | refine Kd.C_alloc ?_ _ | refine Kd.C_drewN ?_ _ | refine Kd.C_drew ?_))); (case side2 => exact (Kd.R_reads' HO_7.out).2.1); (case side3 => repeat (first | exact (Kd.R_reads' HO_4.out).2.2 | (with_reducible first | refine Kd.C_alloc ?_ _ | refine Kd.C_drewN ?_ _ | refine Kd.C_drew ?_))); (case side4 => exact (Kd.R_reads' HO_4.out).2.1); rintro e w44 ⟨rfl, hb⟩; have n0_ := Aside0.mk (Kd.R_below (by (with_reducible repeat (first | apply Kd.R_alloc | apply Kd.R_drewN | apply Kd.R_drew)); exact HO_4.out) hb); have n1_ := Aside0.mk (Kd.S_below (by (with_reducible repeat (first | apply Kd.S_alloc | apply Kd.S_drewN | apply Kd.S_drew)); exact HO_6.out) hb); have n2_ := Aside0.mk (Kd.R_below (by (with_reducible repeat (first | apply Kd.R_alloc | apply Kd.R_drewN | apply Kd.R_drew)); exact HO_7.out) hb); have n3_ := Aside0.mk (below_step (by repeat (first | (with_reducible first | exact HB.out | apply bA_ | apply bN_ | apply bD_))) hb); clear HO_4; clear HO_6; clear HO_7; clear HB; have HO_4 := n0_; have HO_6 := n1_; have HO_7 := n2_; have HB := n3_; clear n0_ n1_ n2_ n3_; (try clear hb)))
        go_meet
        case rel => exact ⟨_, (true), (by first | rfl | (simp; done) | (simp [*]; done)), H', ⟨by have := HJ9.out; first | omega | exact Nat.le_refl _⟩, ⟨by (with_reducible repeat (first | apply Kd.R_alloc | apply Kd.R_drewN | apply Kd.R_drew)); exact HO_4.out⟩, ⟨by (with_reducible repeat (first | apply Kd.R_alloc | apply Kd.R_drewN | apply Kd.R_drew)); exact HO_7.out⟩, ⟨by repeat (first | (with_reducible first | exact HB.out | apply bA_ | apply bN_ | apply bD_))⟩⟩
       subst c38
       have H1 : (laws_FnExactBlocksOfLeaves.j1 kj9 l0 t105 t106 t112 (t113 != t106)) = some r := by rw [if_pos rfl] at H; exact H
       clear H
       have H := H1
       clear H1
       have H' := Aside0.mk H
       clear H
       obtain ⟨Ao39, co39, eo39⟩ := Kd.R_slice HO_7.out
       subst eo39
       obtain ⟨Ao40, co40, eo40⟩ := Kd.R_slice HO_4.out
       subst eo40
       go_wp2_with (first | (go_at_call 9; (with_reducible refine (laws_eqBlockS.calls kj9 _ _ t112 _ _ t105 true _ ?side1 ?side2 ?side3 ?side4 A37.out).mono ?_); (case side1 => repeat (first | exact (Kd.R_reads' HO_7.out).2.2 | (with_reducible first | refine Kd.C_alloc ?_ _ | refine Kd.C_drewN ?_ _ | refine Kd.C_drew ?_))); (case side2 => exact (Kd.R_reads' HO_7.out).2.1); (case side3 => repeat (first | exact (Kd.R_reads' HO_4.out).2.2 | (with_reducible first | refine Kd.C_alloc ?_ _ | refine Kd.C_drewN ?_ _ | refine Kd.C_drew ?_))); (case side4 => exact (Kd.R_reads' HO_4.out).2.1); rintro e w41 ⟨rfl, hb⟩; have n0_ := Aside0.mk (Kd.R_below (by (with_reducible repeat (first | apply Kd.R_alloc | apply Kd.R_drewN | apply Kd.R_drew)); exact HO_4.out) hb); have n1_ := Aside0.mk (Kd.S_below (by (with_reducible repeat (first | apply Kd.S_alloc | apply Kd.S_drewN | apply Kd.S_drew)); exact HO_6.out) hb); have n2_ := Aside0.mk (Kd.R_below (by (with_reducible repeat (first | apply Kd.R_alloc | apply Kd.R_drewN | apply Kd.R_drew)); exact HO_7.out) hb); have n3_ := Aside0.mk (below_step (by repeat (first | (with_reducible first | exact HB.out | apply bA_ | apply bN_ | apply bD_))) hb); clear HO_4; clear HO_6; clear HO_7; clear HB; have HO_4 := n0_; have HO_6 := n1_; have HO_7 := n2_; have HB := n3_; clear n0_ n1_ n2_ n3_; (try clear hb)))
       go_meet
       case rel => exact ⟨_, ((t113 != t106)), (by first | rfl | (simp; done) | (simp [*]; done)), H', ⟨by have := HJ9.out; first | omega | exact Nat.le_refl _⟩, ⟨by (with_reducible repeat (first | apply Kd.R_alloc | apply Kd.R_drewN | apply Kd.R_drew)); exact HO_4.out⟩, ⟨by (with_reducible repeat (first | apply Kd.R_alloc | apply Kd.R_drewN | apply Kd.R_drew)); exact HO_7.out⟩, ⟨by repeat (first | (with_reducible first | exact HB.out | apply bA_ | apply bN_ | apply bD_))⟩⟩
      rw [if_pos c36] at H
      have c36b0 : decide (t121 < 0) = true := decide_eq_true c36
      clear c36
      (first | rw [c36b0] | (simp only [i64_w, i32_w]; rw [c36b0]) | (simp only [c36b1, Bool.not_true, Bool.not_false]) | (simp only [c36b0, Bool.not_true, Bool.not_false]) | skip)
      have H' := Aside0.mk H
      clear H
      go_wp2
      go_meet
      case rel => exact ⟨_, (true), (by first | rfl | (simp; done) | (simp [*]; done)), H', ⟨by have := HJ9.out; first | omega | exact Nat.le_refl _⟩, ⟨by (with_reducible repeat (first | apply Kd.R_alloc | apply Kd.R_drewN | apply Kd.R_drew)); exact HO_4.out⟩, ⟨by (with_reducible repeat (first | apply Kd.R_alloc | apply Kd.R_drewN | apply Kd.R_drew)); exact HO_7.out⟩, ⟨by repeat (first | (with_reducible first | exact HB.out | apply bA_ | apply bN_ | apply bD_))⟩⟩
     case rest =>
      clear HC34
      obtain ⟨kq, x61_33, rfl, HA, HJ33, HO_4, HO_7, HB⟩ := hcut
      cases kq with
      | zero => exact absurd HA.out (by simp [laws_FnExactBlocksOfLeaves.j1])
      | succ kj33 =>
       have H := HA.out
       clear HA
       simp only [laws_FnExactBlocksOfLeaves.j1] at H
       by_cases c45 : x61_33 = true
       rotate_left
       ·replace c45 := Bool.eq_false_iff.mpr c45
        subst c45
        have H1 : ((laws_markBlockS.f kj33 t112 1).bind fun bt124 => ((laws_heldBlockS.f kj33 bt124.2 1).bind fun t126 => (if t126 < 0 then (some false) else (if t126 = bt124.1 then ((laws_toLeafS.f kj33 l0).bind fun t127 => ((impl_BlocksOfLeaves.f kj33 t127).bind fun bt130 => ((laws_eqBlockS.f kj33 bt130.1 t105).bind fun t134 => (if t134 = true then (laws_FnExactBlocksOfLeaves.j2 kj33 bt124.2 bt124.1 (bt130.2 != t106)) else (laws_FnExactBlocksOfLeaves.j2 kj33 bt124.2 bt124.1 true))))) else (some false))))) = some r := by rw [if_neg (show ¬ (false = true) by decide)] at H; exact H
        clear H
        have H := H1
        clear H1
        replace H := Option.bind_eq_some_iff.mp H
        obtain ⟨⟨t124, t125⟩, A460, H⟩ := H
        (try dsimp only at H)
        have A46 := Aside0.mk A460
        clear A460
        replace H := Option.bind_eq_some_iff.mp H
        obtain ⟨t126, A470, H⟩ := H
        (try dsimp only at H)
        have A47 := Aside0.mk A470
        clear A470
        have HC48 := Aside0.mk H
        clear H
        obtain ⟨Ao49, co49, eo49⟩ := Kd.R_slice HO_7.out
        subst eo49
        go_upto_if 69 with (first | ((with_reducible refine gate_callee (f := 16) rfl ?_); refine goesL_ (some 64) rfl rfl Tryd.func16 (by kernel_rfl) rfl #[.slice Ao49 t112.length co49, .int .i64 1] rfl (by first | rfl | (simp only [List.map_toArray, List.map_cons, List.map_nil]; first | done | rfl)) ?_; (with_reducible refine (laws_markBlockS.calls kj33 (fun k_ => some k_ = (.slice Ao49 t112.length co49 : Value).ownBlock) (.slice Ao49 t112.length co49) t112 1 t124 t125 w _ ?side1 ?side2 A46.out).mono ?_); (case side1 => repeat (first | (with_reducible first | exact HB.out | apply bA_ | apply bN_ | apply bD_))); (case side2 => exact Kd.R_tight rfl HO_7.out); rintro e w50 ⟨rfl, hy0, hb, hkp⟩; refine ⟨_, rfl, ?_⟩; have n0_ := Aside0.mk (Kd.R_mono (ok' := fun k_ => some k_ ≠ (.slice Ao49 t112.length co49 : Value).ownBlock) (Kd.R_keptB (HO_4.out) hkp (fun k_ hk_ hs_ => (hk_) hs_)) (fun k_ hk_ => hk_.1)); have n1_ := Aside0.mk (Kd.R_reok rfl hy0 (fun k_ e_ => HO_7.out.1 k_ e_)); have n2_ := Aside0.mk (hb); clear HO_4; clear HO_7; clear HB; have HO_4 := n0_; have HO_7 := n1_; have HB := n2_; clear n0_ n1_ n2_; (try clear hb); (try clear hkp); (try clear hy0)) | ((with_reducible refine gate_callee (f := 17) rfl ?_); refine goesL_ (some 67) rfl rfl Tryd.func17 (by kernel_rfl) rfl #[.slice Ao49 t125.length co49, .int .i64 1] rfl (by (try simp only [List.map_toArray, List.map_cons, List.map_nil]); first | done | (rw [show t125.length = t112.length from (Kd.R_reads' HO_7.out).1.symm] <;> rfl) | rfl | (simp only [List.length_drop, List.length_take]; rfl)) ?_; (with_reducible refine (laws_heldBlockS.calls kj33 _ _ t125 1 t126 _ ?side1 ?side2 A47.out).mono ?_); (case side1 => repeat (first | exact (Kd.R_reads' HO_7.out).2.2 | (with_reducible first | refine Kd.C_alloc ?_ _ | refine Kd.C_drewN ?_ _ | refine Kd.C_drew ?_))); (case side2 => rw [show t125.length = t112.length from (Kd.R_reads' HO_7.out).1.symm]; exact (Kd.R_reads' HO_7.out).2.1); rintro e w51 ⟨rfl, hb⟩; refine ⟨_, rfl, ?_⟩; have n0_ := Aside0.mk (Kd.R_below (by (with_reducible repeat (first | apply Kd.R_alloc | apply Kd.R_drewN | apply Kd.R_drew)); exact HO_4.out) hb); have n1_ := Aside0.mk (Kd.R_below (by (with_reducible repeat (first | apply Kd.R_alloc | apply Kd.R_drewN | apply Kd.R_drew)); exact HO_7.out) hb); have n2_ := Aside0.mk (below_step (by repeat (first | (with_reducible first | exact HB.out | apply bA_ | apply bN_ | apply bD_))) hb); clear HO_4; clear HO_7; clear HB; have HO_4 := n0_; have HO_7 := n1_; have HB := n2_; clear n0_ n1_ n2_; (try clear hb)))
        (try simp only [Act.put, List.setIfInBounds_toArray, List.set_cons_zero, List.set_cons_succ])
        have H := HC48.out
        clear HC48
        by_cases c52 : t126 < 0
        rotate_left
        ·rw [if_neg c52] at H
         have c52b0 : decide (t126 < 0) = false := decide_eq_false c52
         clear c52
         (first | rw [c52b0] | (simp only [i64_w, i32_w]; rw [c52b0]) | (simp only [c52b1, Bool.not_true, Bool.not_false]) | (simp only [c52b0, Bool.not_true, Bool.not_false]) | skip)
         by_cases c53 : t126 = t124
         rotate_left
         ·rw [if_neg c53] at H
          have c53b0 : (t126 == t124) = false := beq_eq_false_iff_ne.mpr c53
          have c53b1 : (t126 != t124) = true := bne_iff_ne.mpr c53
          obtain rfl := Option.some.inj H
          go_wp2
          go_ret
          exact ⟨by first | rfl | (simp [*, errW_none, errW_some] <;> rfl), by repeat (first | (with_reducible first | exact HB.out | apply bA_ | apply bN_ | apply bD_))⟩
         rw [if_pos c53] at H
         have c53b0 : (t126 == t124) = true := beq_iff_eq.mpr c53
         have c53b1 : (t126 != t124) = false := bne_eq_false_iff_eq.mpr c53
         clear c53
         replace H := Option.bind_eq_some_iff.mp H
         obtain ⟨t127, A540, H⟩ := H
         (try dsimp only at H)
         have A54 := Aside0.mk A540
         clear A540
         replace H := Option.bind_eq_some_iff.mp H
         obtain ⟨⟨t130, t131⟩, A550, H⟩ := H
         (try dsimp only at H)
         have A55 := Aside0.mk A550
         clear A550
         have HC56 := Aside0.mk H
         clear H
         go_upto_region 25 with (first | ((with_reducible refine gate_callee (f := 12) rfl ?_); refine goesL_ (some 75) rfl rfl Tryd.func12 (by kernel_rfl) rfl #[.slice A0 l0.length c0] rfl (by first | rfl | (simp only [List.map_toArray, List.map_cons, List.map_nil]; first | done | rfl)) ?_; (with_reducible refine (laws_toLeafS.calls kj33 _ _ l0 t127 _ ?side1 ?side2 A54.out).mono ?_); (case side1 => repeat (first | exact (Kd.C_below HR0.out (by repeat (first | (with_reducible first | exact HB.out | apply bA_ | apply bN_ | apply bD_)))) | (with_reducible first | refine Kd.C_alloc ?_ _ | refine Kd.C_drewN ?_ _ | refine Kd.C_drew ?_))); (case side2 => exact HC0.out); rintro e w57 ⟨v128, rfl, ho0, hb⟩; refine ⟨_, rfl, ?_⟩; have n0_ := Aside0.mk (Kd.R_below (by (with_reducible repeat (first | apply Kd.R_alloc | apply Kd.R_drewN | apply Kd.R_drew)); exact HO_4.out) hb); have n1_ := Aside0.mk (Kd.R_below (by (with_reducible repeat (first | apply Kd.R_alloc | apply Kd.R_drewN | apply Kd.R_drew)); exact HO_7.out) hb); have n2_ := Aside0.mk (Kd.S_lower ho0 (below_size (by repeat (first | (with_reducible first | exact HB.out | apply bA_ | apply bN_ | apply bD_))))); have n3_ := Aside0.mk (below_step (by repeat (first | (with_reducible first | exact HB.out | apply bA_ | apply bN_ | apply bD_))) hb); clear HO_4; clear HO_7; clear HB; have HO_4 := n0_; have HO_7 := n1_; have HO129 := n2_; have HB := n3_; clear n0_ n1_ n2_ n3_; (try clear hb); (try clear ho0); obtain ⟨Ao58, co58, eo58⟩ := Kd.S_slice HO129.out; subst eo58) | ((with_reducible refine gate_callee (f := 13) rfl ?_); refine goesL_ (some 76) rfl rfl Tryd.func13 (by kernel_rfl) rfl #[.slice Ao58 t127.length co58] rfl (by first | rfl | (simp only [List.map_toArray, List.map_cons, List.map_nil]; first | done | rfl)) ?_; (with_reducible refine (impl_BlocksOfLeaves.calls kj33 _ _ t127 t130 t131 _ ?side1 ?side2 ?side3 A55.out).mono ?_); (case side1 => repeat (first | exact (Kd.S_reads' HO129.out).2.2 | (with_reducible first | refine Kd.C_alloc ?_ _ | refine Kd.C_drewN ?_ _ | refine Kd.C_drew ?_))); (case side2 => exact (Kd.S_reads' HO129.out).2.1); (case side3 => exact Tab_below HTab_.out (by repeat (first | (with_reducible first | exact HB.out | apply bA_ | apply bN_ | apply bD_)))); rintro e w59 ⟨v132, rfl, ho0, hb⟩; refine ⟨_, rfl, ?_⟩; have n0_ := Aside0.mk (Kd.R_elder' (by (with_reducible repeat (first | apply Kd.R_alloc | apply Kd.R_drewN | apply Kd.R_drew)); exact HO_4.out) (Kd.R_base ho0) hb); have n1_ := Aside0.mk (Kd.R_elder' (by (with_reducible repeat (first | apply Kd.R_alloc | apply Kd.R_drewN | apply Kd.R_drew)); exact HO_7.out) (Kd.R_base ho0) hb); have n2_ := Aside0.mk (Kd.S_below (by (with_reducible repeat (first | apply Kd.S_alloc | apply Kd.S_drewN | apply Kd.S_drew)); exact HO129.out) hb); have n3_ := Aside0.mk (Kd.R_lower (Kd.R_new' (Kd.R_new' ho0 (Kd.R_lt (by (with_reducible repeat (first | apply Kd.R_alloc | apply Kd.R_drewN | apply Kd.R_drew)); exact HO_4.out))) (Kd.R_lt (by (with_reducible repeat (first | apply Kd.R_alloc | apply Kd.R_drewN | apply Kd.R_drew)); exact HO_7.out))) (below_size (by repeat (first | (with_reducible first | exact HB.out | apply bA_ | apply bN_ | apply bD_))))); have n4_ := Aside0.mk (below_step (by repeat (first | (with_reducible first | exact HB.out | apply bA_ | apply bN_ | apply bD_))) hb); clear HO_4; clear HO_7; clear HO129; clear HB; have HO_4 := n0_; have HO_7 := n1_; have HO129 := n2_; have HO133 := n3_; have HB := n4_; clear n0_ n1_ n2_ n3_ n4_; (try clear hb); (try clear ho0)))
         (try simp only [Act.put, List.setIfInBounds_toArray, List.set_cons_zero, List.set_cons_succ])
         go_cut [87] (fun v87 wc => ∃ (kq : Nat) (x87_55 : Bool), v87 = .bool x87_55 ∧ Aside0 (laws_FnExactBlocksOfLeaves.j2 kq t125 t124 x87_55 = some r) ∧ Aside0 (kq ≤ kj33) ∧ Aside0 (Kd.R k45 45 wc w.heap.size (fun _ => True) (.slice Ao49 t112.length co49) t125) ∧ Aside0 (Below w.heap.size w wc))
         case first =>
          have H := HC56.out
          clear HC56
          replace H := Option.bind_eq_some_iff.mp H
          obtain ⟨t134, A600, H⟩ := H
          (try dsimp only at H)
          have A60 := Aside0.mk A600
          clear A600
          by_cases c61 : t134 = true
          rotate_left
          ·replace c61 := Bool.eq_false_iff.mpr c61
           subst c61
           have H1 : (laws_FnExactBlocksOfLeaves.j2 kj33 t125 t124 true) = some r := by rw [if_neg (show ¬ (false = true) by decide)] at H; exact H
           clear H
           have H := H1
           clear H1
           have H' := Aside0.mk H
           clear H
           obtain ⟨Ao65, co65, eo65⟩ := Kd.R_slice HO133.out
           subst eo65
           obtain ⟨Ao66, co66, eo66⟩ := Kd.R_slice HO_4.out
           subst eo66
           go_wp2_with (first | ((with_reducible refine gate_callee (f := 9) rfl ?_); refine goesL_ (some 81) rfl rfl Tryd.func9 (by kernel_rfl) rfl #[.slice Ao65 t130.length co65, .slice Ao66 t105.length co66] rfl (by first | rfl | (simp only [List.map_toArray, List.map_cons, List.map_nil]; first | done | rfl)) ?_; (with_reducible refine (laws_eqBlockS.calls kj33 _ _ t130 _ _ t105 false _ ?side1 ?side2 ?side3 ?side4 A60.out).mono ?_); (case side1 => repeat (first | exact (Kd.R_reads' HO133.out).2.2 | (with_reducible first | refine Kd.C_alloc ?_ _ | refine Kd.C_drewN ?_ _ | refine Kd.C_drew ?_))); (case side2 => exact (Kd.R_reads' HO133.out).2.1); (case side3 => repeat (first | exact (Kd.R_reads' HO_4.out).2.2 | (with_reducible first | refine Kd.C_alloc ?_ _ | refine Kd.C_drewN ?_ _ | refine Kd.C_drew ?_))); (case side4 => exact (Kd.R_reads' HO_4.out).2.1); rintro e w67 ⟨rfl, hb⟩; refine ⟨_, rfl, ?_⟩; have n0_ := Aside0.mk (Kd.R_below (by (with_reducible repeat (first | apply Kd.R_alloc | apply Kd.R_drewN | apply Kd.R_drew)); exact HO_4.out) hb); have n1_ := Aside0.mk (Kd.R_below (by (with_reducible repeat (first | apply Kd.R_alloc | apply Kd.R_drewN | apply Kd.R_drew)); exact HO_7.out) hb); have n2_ := Aside0.mk (Kd.S_below (by (with_reducible repeat (first | apply Kd.S_alloc | apply Kd.S_drewN | apply Kd.S_drew)); exact HO129.out) hb); have n3_ := Aside0.mk (Kd.R_below (by (with_reducible repeat (first | apply Kd.R_alloc | apply Kd.R_drewN | apply Kd.R_drew)); exact HO133.out) hb); have n4_ := Aside0.mk (below_step (by repeat (first | (with_reducible first | exact HB.out | apply bA_ | apply bN_ | apply bD_))) hb); clear HO_4; clear HO_7; clear HO129; clear HO133; clear HB; have HO_4 := n0_; have HO_7 := n1_; have HO129 := n2_; have HO133 := n3_; have HB := n4_; clear n0_ n1_ n2_ n3_ n4_; (try clear hb)))
           go_meet
           case rel => exact ⟨_, (true), (by first | rfl | (simp; done) | (simp [*]; done)), H', ⟨by have := HJ9.out; have := HJ33.out; first | omega | exact Nat.le_refl _⟩, ⟨by (with_reducible repeat (first | apply Kd.R_alloc | apply Kd.R_drewN | apply Kd.R_drew)); exact Kd.R_mono HO_7.out (fun _ hk => trivial)⟩, ⟨by repeat (first | (with_reducible first | exact HB.out | apply bA_ | apply bN_ | apply bD_))⟩⟩
          subst c61
          have H1 : (laws_FnExactBlocksOfLeaves.j2 kj33 t125 t124 (t131 != t106)) = some r := by rw [if_pos rfl] at H; exact H
          clear H
          have H := H1
          clear H1
          have H' := Aside0.mk H
          clear H
          obtain ⟨Ao62, co62, eo62⟩ := Kd.R_slice HO133.out
          subst eo62
          obtain ⟨Ao63, co63, eo63⟩ := Kd.R_slice HO_4.out
          subst eo63
          go_wp2_with (first | ((with_reducible refine gate_callee (f := 9) rfl ?_); refine goesL_ (some 81) rfl rfl Tryd.func9 (by kernel_rfl) rfl #[.slice Ao62 t130.length co62, .slice Ao63 t105.length co63] rfl (by first | rfl | (simp only [List.map_toArray, List.map_cons, List.map_nil]; first | done | rfl)) ?_; (with_reducible refine (laws_eqBlockS.calls kj33 _ _ t130 _ _ t105 true _ ?side1 ?side2 ?side3 ?side4 A60.out).mono ?_); (case side1 => repeat (first | exact (Kd.R_reads' HO133.out).2.2 | (with_reducible first | refine Kd.C_alloc ?_ _ | refine Kd.C_drewN ?_ _ | refine Kd.C_drew ?_))); (case side2 => exact (Kd.R_reads' HO133.out).2.1); (case side3 => repeat (first | exact (Kd.R_reads' HO_4.out).2.2 | (with_reducible first | refine Kd.C_alloc ?_ _ | refine Kd.C_drewN ?_ _ | refine Kd.C_drew ?_))); (case side4 => exact (Kd.R_reads' HO_4.out).2.1); rintro e w64 ⟨rfl, hb⟩; refine ⟨_, rfl, ?_⟩; have n0_ := Aside0.mk (Kd.R_below (by (with_reducible repeat (first | apply Kd.R_alloc | apply Kd.R_drewN | apply Kd.R_drew)); exact HO_4.out) hb); have n1_ := Aside0.mk (Kd.R_below (by (with_reducible repeat (first | apply Kd.R_alloc | apply Kd.R_drewN | apply Kd.R_drew)); exact HO_7.out) hb); have n2_ := Aside0.mk (Kd.S_below (by (with_reducible repeat (first | apply Kd.S_alloc | apply Kd.S_drewN | apply Kd.S_drew)); exact HO129.out) hb); have n3_ := Aside0.mk (Kd.R_below (by (with_reducible repeat (first | apply Kd.R_alloc | apply Kd.R_drewN | apply Kd.R_drew)); exact HO133.out) hb); have n4_ := Aside0.mk (below_step (by repeat (first | (with_reducible first | exact HB.out | apply bA_ | apply bN_ | apply bD_))) hb); clear HO_4; clear HO_7; clear HO129; clear HO133; clear HB; have HO_4 := n0_; have HO_7 := n1_; have HO129 := n2_; have HO133 := n3_; have HB := n4_; clear n0_ n1_ n2_ n3_ n4_; (try clear hb)))
          go_meet
          case rel => exact ⟨_, ((t131 != t106)), (by first | rfl | (simp; done) | (simp [*]; done)), H', ⟨by have := HJ9.out; have := HJ33.out; first | omega | exact Nat.le_refl _⟩, ⟨by (with_reducible repeat (first | apply Kd.R_alloc | apply Kd.R_drewN | apply Kd.R_drew)); exact Kd.R_mono HO_7.out (fun _ hk => trivial)⟩, ⟨by repeat (first | (with_reducible first | exact HB.out | apply bA_ | apply bN_ | apply bD_))⟩⟩
         case rest =>
          clear HC56
          obtain ⟨kq, x87_55, rfl, HA, HJ55, HO_7, HB⟩ := hcut
          have hl7_55 := (Kd.R_reads' HO_7.out).1
          rw [hl7_55] at HO_7
          (try simp only [hl7_55])
          cases kq with
          | zero => exact absurd HA.out (by simp [laws_FnExactBlocksOfLeaves.j2])
          | succ kj55 =>
           have H := HA.out
           clear HA
           simp only [laws_FnExactBlocksOfLeaves.j2] at H
           by_cases c68 : x87_55 = true
           rotate_left
           ·replace c68 := Bool.eq_false_iff.mpr c68
            subst c68
            have H1 : ((laws_heldBlockS.f kj55 t125 1).bind fun t135 => (if t135 < 0 then (some false) else (if t135 = t124 then (some true) else (some false)))) = some r := by rw [if_neg (show ¬ (false = true) by decide)] at H; exact H
            clear H
            have H := H1
            clear H1
            replace H := Option.bind_eq_some_iff.mp H
            obtain ⟨t135, A690, H⟩ := H
            (try dsimp only at H)
            have A69 := Aside0.mk A690
            clear A690
            have HC70 := Aside0.mk H
            clear H
            go_upto_if 92 with (first | ((with_reducible refine gate_callee (f := 17) rfl ?_); refine goesL_ (some 90) rfl rfl Tryd.func17 (by kernel_rfl) rfl #[.slice Ao49 t125.length co49, .int .i64 1] rfl (by first | rfl | (simp only [List.map_toArray, List.map_cons, List.map_nil]; first | done | rfl)) ?_; (with_reducible refine (laws_heldBlockS.calls kj55 _ _ t125 1 t135 _ ?side1 ?side2 A69.out).mono ?_); (case side1 => repeat (first | exact (Kd.R_reads' HO_7.out).2.2 | (with_reducible first | refine Kd.C_alloc ?_ _ | refine Kd.C_drewN ?_ _ | refine Kd.C_drew ?_))); (case side2 => exact (Kd.R_reads' HO_7.out).2.1); rintro e w71 ⟨rfl, hb⟩; refine ⟨_, rfl, ?_⟩; have n0_ := Aside0.mk (Kd.R_below (by (with_reducible repeat (first | apply Kd.R_alloc | apply Kd.R_drewN | apply Kd.R_drew)); exact HO_7.out) hb); have n1_ := Aside0.mk (below_step (by repeat (first | (with_reducible first | exact HB.out | apply bA_ | apply bN_ | apply bD_))) hb); clear HO_7; clear HB; have HO_7 := n0_; have HB := n1_; clear n0_ n1_; (try clear hb)))
            (try simp only [Act.put, List.setIfInBounds_toArray, List.set_cons_zero, List.set_cons_succ])
            have H := HC70.out
            clear HC70
            by_cases c72 : t135 < 0
            rotate_left
            ·rw [if_neg c72] at H
             have c72b0 : decide (t135 < 0) = false := decide_eq_false c72
             clear c72
             (first | rw [c72b0] | (simp only [i64_w, i32_w]; rw [c72b0]) | (simp only [c72b1, Bool.not_true, Bool.not_false]) | (simp only [c72b0, Bool.not_true, Bool.not_false]) | skip)
             by_cases c73 : t135 = t124
             rotate_left
             ·rw [if_neg c73] at H
              have c73b0 : (t135 == t124) = false := beq_eq_false_iff_ne.mpr c73
              have c73b1 : (t135 != t124) = true := bne_iff_ne.mpr c73
              obtain rfl := Option.some.inj H
              go_wp2
              go_ret
              exact ⟨by first | rfl | (simp [*, errW_none, errW_some] <;> rfl), by repeat (first | (with_reducible first | exact HB.out | apply bA_ | apply bN_ | apply bD_))⟩
             rw [if_pos c73] at H
             have c73b0 : (t135 == t124) = true := beq_iff_eq.mpr c73
             have c73b1 : (t135 != t124) = false := bne_eq_false_iff_eq.mpr c73
             clear c73
             obtain rfl := Option.some.inj H
             go_wp2
             go_ret
             exact ⟨by first | rfl | (simp [*, errW_none, errW_some] <;> rfl), by repeat (first | (with_reducible first | exact HB.out | apply bA_ | apply bN_ | apply bD_))⟩
            rw [if_pos c72] at H
            have c72b0 : decide (t135 < 0) = true := decide_eq_true c72
            clear c72
            (first | rw [c72b0] | (simp only [i64_w, i32_w]; rw [c72b0]) | (simp only [c72b1, Bool.not_true, Bool.not_false]) | (simp only [c72b0, Bool.not_true, Bool.not_false]) | skip)
            obtain rfl := Option.some.inj H
            go_wp2
            go_ret
            exact ⟨by first | rfl | (simp [*, errW_none, errW_some] <;> rfl), by repeat (first | (with_reducible first | exact HB.out | apply bA_ | apply bN_ | apply bD_))⟩
           subst c68
           have H1 : (some false) = some r := by rw [if_pos rfl] at H; exact H
           clear H
           have H := H1
           clear H1
           obtain rfl := Option.some.inj H
           go_wp2
           go_ret
           exact ⟨by first | rfl | (simp [*, errW_none, errW_some] <;> rfl), by repeat (first | (with_reducible first | exact HB.out | apply bA_ | apply bN_ | apply bD_))⟩
        rw [if_pos c52] at H
        have c52b0 : decide (t126 < 0) = true := decide_eq_true c52
        clear c52
        (first | rw [c52b0] | (simp only [i64_w, i32_w]; rw [c52b0]) | (simp only [c52b1, Bool.not_true, Bool.not_false]) | (simp only [c52b0, Bool.not_true, Bool.not_false]) | skip)
        obtain rfl := Option.some.inj H
        go_wp2
        go_ret
        exact ⟨by first | rfl | (simp [*, errW_none, errW_some] <;> rfl), by repeat (first | (with_reducible first | exact HB.out | apply bA_ | apply bN_ | apply bD_))⟩
       subst c45
       have H1 : (some false) = some r := by rw [if_pos rfl] at H; exact H
       clear H
       have H := H1
       clear H1
       obtain rfl := Option.some.inj H
       go_wp2
       go_ret
       exact ⟨by first | rfl | (simp [*, errW_none, errW_some] <;> rfl), by repeat (first | (with_reducible first | exact HB.out | apply bA_ | apply bN_ | apply bD_))⟩
    subst c25
    have H1 : (some false) = some r := by rw [if_pos rfl] at H; exact H
    clear H
    have H := H1
    clear H1
    obtain rfl := Option.some.inj H
    go_wp2
    go_ret
    exact ⟨by first | rfl | (simp [*, errW_none, errW_some] <;> rfl), by repeat (first | (with_reducible first | exact HB.out | apply bA_ | apply bN_ | apply bD_))⟩
 rw [if_pos c5] at H
 have c5b0 : decide (t101 < 0) = true := decide_eq_true c5
 clear c5
 (first | rw [c5b0] | (simp only [i64_w, i32_w]; rw [c5b0]) | (simp only [c5b1, Bool.not_true, Bool.not_false]) | (simp only [c5b0, Bool.not_true, Bool.not_false]) | skip)
 obtain rfl := Option.some.inj H
 go_wp2
 go_ret
 exact ⟨by first | rfl | (simp [*, errW_none, errW_some] <;> rfl), by repeat (first | (with_reducible first | exact HB.out | apply bA_ | apply bN_ | apply bD_))⟩
end Go.Proofs.YtckboiphlhhckaaDoor.Q
namespace Go.Proofs.YtckboiphlhhckaaDoor.Q
open Go.RowKit Go.Proofs.YtckboiphlhhckaaDoorW.PrintWords Go.Proofs.YtckboiphlhhckaaDoorW.PrintLast Go.Proofs.YtckboiphlhhckaaDoorW.PrintMore
attribute [local go_sem] max2_int min2_int max_two min_two max_three min_three max_four min_four
set_option linter.unusedVariables false
set_option linter.unusedSimpArgs false
def laws_FnExactBlocksOfLeaves.Pure : Prop := ∀ (x0 : List (S64)), (x0.length ≤ maxLen ∧ ∀ y0 ∈ x0, W64 y0) → ∃ k, laws_FnExactBlocksOfLeaves.f k x0 = some true
end Go.Proofs.YtckboiphlhhckaaDoor.Q
namespace Go.Proofs.YtckboiphlhhckaaDoor.Q
open Go.RowKit Go.Proofs.YtckboiphlhhckaaDoorW.PrintWords Go.Proofs.YtckboiphlhhckaaDoorW.PrintLast Go.Proofs.YtckboiphlhhckaaDoorW.PrintMore
theorem wr64 {x : Int} (h0 : -9223372036854775808 ≤ x) (h1 : x < 9223372036854775808) : wrap64 x = x := by unfold wrap64; omega
theorem wr64s (i : Nat) (h : (i : Int) < 9223372036854775807) : wrap64 ((i : Int) + 1) = ((i + 1 : Nat) : Int) := by rw [wr64 (by omega) (by omega)]; omega
theorem Ev_suc {α : Type} {g : Nat → Option α} {r : α} (h : Ev (fun k => g (k + 1)) r) : Ev g r := by
 obtain ⟨K, hK⟩ := h
 refine ⟨K + 1, fun k hk => ?_⟩
 obtain ⟨m, rfl⟩ : ∃ m, k = m + 1 := ⟨k - 1, by omega⟩
 exact hK m (by omega)
theorem Ev_t {α : Type} {c : Prop} [Decidable c] {f g : Nat → Option α} {r : α} (h : c) (k : Ev f r) : Ev (fun n => if c then f n else g n) r := by
 obtain ⟨K, hK⟩ := k
 exact ⟨K, fun n hn => (if_pos h).trans (hK n hn)⟩
theorem Ev_f {α : Type} {c : Prop} [Decidable c] {f g : Nat → Option α} {r : α} (h : ¬ c) (k : Ev g r) : Ev (fun n => if c then f n else g n) r := by
 obtain ⟨K, hK⟩ := k
 exact ⟨K, fun n hn => (if_neg h).trans (hK n hn)⟩
theorem Ev_b {α β : Type} {g : Nat → Option α} {f : Nat → α → Option β} {a : α} {r : β} (h : Ev g a) (k : Ev (fun n => f n a) r) : Ev (fun n => (g n).bind (fun x => f n x)) r := Ev.bind h k
theorem Ev_s {α β : Type} {a : α} {f : Nat → α → Option β} {r : β} (k : Ev (fun n => f n a) r) : Ev (fun n => (some a).bind (fun x => f n x)) r := k
theorem Ev_n {α : Type} {a r : α} (h : a = r) : Ev (fun _ => some a) r := ⟨0, fun _ _ => by rw [h]⟩
theorem Ev_c {α : Type} {o : Option α} {r : α} (h : o = some r) : Ev (fun _ => o) r := ⟨0, fun _ _ => h⟩
theorem Ev_at {α : Type} {g : Nat → Option α} {r r' : α} (h : Ev g r) (e : r = r') : Ev g r' := e ▸ h
def cut (c s : Int) : Int := if s ≤ c then c - s else -1
theorem cut_pos {c s : Int} (h : s ≤ c) : cut c s = c - s := by unfold cut; rw [if_pos h]
theorem cut_neg {c s : Int} (h : ¬ s ≤ c) : cut c s = -1 := by unfold cut; rw [if_neg h]
theorem set_take' {α : Type} (xs : List α) (i : Nat) (m : α) (h : i < xs.length) : (xs.set i m).take (i + 1) = xs.take i ++ [m] := by
 rw [List.take_succ_eq_append_getElem (by simpa using h)]
 congr 1
 ·rw [List.take_set_of_le (Nat.le_refl _)]
 ·simp
theorem getD_in {α : Type} (l : List α) (z : α) (i : Nat) (h : i < l.length) : l.getD ((i : Int).toNat) z = l[i] := by simp [List.getD, h]
theorem getD_at {α : Type} (p q : List α) (z x : α) (i : Nat) (h : p.length = i) : (p ++ x :: q).getD ((i : Int).toNat) z = x := by subst h; simp [List.getD]
theorem set_at {α : Type} (p q : List α) (x y : α) (i : Nat) (h : p.length = i) : (p ++ x :: q).set ((i : Int).toNat) y = p ++ y :: q := by subst h; simp
theorem sum_le {α : Type} (f : α → Nat) : ∀ (l : List α) (x : α), x ∈ l → f x ≤ (l.map f).sum
 | a :: l, x, h => by
  rw [List.map_cons, List.sum_cons]
  rcases List.mem_cons.1 h with rfl | h
  ·omega
  ·have := sum_le f l x h; omega
end Go.Proofs.YtckboiphlhhckaaDoor.Q
namespace Go.Proofs.YtckboiphlhhckaaDoor.Q
open Go.RowKit Go.Proofs.YtckboiphlhhckaaDoorW.PrintWords Go.Proofs.YtckboiphlhhckaaDoorW.PrintLast Go.Proofs.YtckboiphlhhckaaDoorW.PrintMore
theorem markText_ev (c : Int) (h0 : 0 ≤ c) (h1 : c ≤ 1000000000000000000) : ∃ t, Ev (fun k => laws_markText.f k c) t := by
 have go : ∀ (d : Nat) (c : Int) (s : ByteArray), 0 ≤ c → c < 10 ^ d → c ≤ 1000000000000000000 → s.size + d ≤ 1000 → ∃ t, Ev (fun k => laws_markText.l0 k c s) t := by
  intro d
  induction d with
  | zero =>
   intro c s h0 h1 h2 h3
   refine ⟨(⟨#[109]⟩ : ByteArray) ++ s, Ev_suc ?_⟩
   simp only [laws_markText.l0]
   refine Ev_f (by simp at h1; omega) (Ev_t (by omega) (Ev_n rfl))
  | succ d ih =>
   intro c s h0 h1 h2 h3
   by_cases hc : c > 0
   rotate_left
   ·refine ⟨(⟨#[109]⟩ : ByteArray) ++ s, Ev_suc ?_⟩
    simp only [laws_markText.l0]
    refine Ev_f hc (Ev_t (by omega) (Ev_n rfl))
   have e1 : (strOfNums [(wrap64 (48 + Int.tmod c 10)) % 256]).size = 1 := rfl
   have e2 : wrap64 (Int.tdiv c 10) = c / 10 := by rw [Int.tdiv_eq_ediv_of_nonneg h0, wr64 (by omega) (by omega)]
   obtain ⟨t, ht⟩ := ih (c / 10) (strOfNums [(wrap64 (48 + Int.tmod c 10)) % 256] ++ s) (by omega) (by rw [Int.pow_succ] at h1; omega) (by omega) (by rw [ByteArray.size_append, e1]; omega)
   refine ⟨t, Ev_suc ?_⟩
   simp only [laws_markText.l0]
   refine Ev_t hc (Ev_s (Ev_t (by rw [e1]; omega) ?_))
   rw [e2]
   exact ht
 by_cases hc : c ≤ 0
 rotate_left
 ·obtain ⟨t, ht⟩ := go 19 c (⟨#[]⟩ : ByteArray) h0 (by omega) h1 (by simp [ByteArray.size])
  refine ⟨t, ?_⟩
  simp only [laws_markText.f]
  exact Ev_f hc ht
 refine ⟨(⟨#[109, 48]⟩ : ByteArray), ?_⟩
 simp only [laws_markText.f]
 exact Ev_t hc (Ev_n rfl)
end Go.Proofs.YtckboiphlhhckaaDoor.Q
namespace Go.Proofs.YtckboiphlhhckaaDoor.Q
open Go.RowKit Go.Proofs.YtckboiphlhhckaaDoorW.PrintWords Go.Proofs.YtckboiphlhhckaaDoorW.PrintLast Go.Proofs.YtckboiphlhhckaaDoorW.PrintMore
set_option linter.unusedVariables false
set_option linter.unusedSimpArgs false
theorem rdl_Box (l : List S114) (i : Nat) (h : i < l.length) : rd_T114 l (i : Int) = l[i] := by unfold rd_T114; exact getD_in l _ i h
theorem rdi_Box (l : List S92) (i : Nat) (h : i < l.length) : rd_T92 l (i : Int) = l[i] := by unfold rd_T92; exact getD_in l _ i h
theorem rda_Box (a b : List S92) (x : S92) (i : Nat) (h : a.length = i) : rd_T92 (a ++ x :: b) (i : Int) = x := by unfold rd_T92; exact getD_at a b _ x i h
def Z_Box (x : S114) : Nat := 0
def ZS_Box (l : List S114) : Nat := l.length + (l.map Z_Box).sum
theorem ZS_in_Box (l : List S114) : l.length ≤ ZS_Box l ∧ ∀ y ∈ l, Z_Box y ≤ ZS_Box l := ⟨by unfold ZS_Box; omega, fun y hy => by have := sum_le Z_Box l y hy; unfold ZS_Box; omega⟩
theorem szS_Box (l : List S114) (hl : l.length ≤ maxLen) (hw : ∀ y ∈ l, W114 y) (c : Int) (h0 : 0 ≤ c) (h1 : c ≤ 1048576) : Ev (fun k => laws_szBoxS.f l c) (cut c (ZS_Box l)) := by
 have hM : maxLen = 9223372036854775807 := by decide
 rw [hM] at hl
 have hs : ∀ l : List S114, (l.map Z_Box).sum = 0 := by
  intro l
  induction l with
  | nil => rfl
  | cons a l ih => rw [List.map_cons, List.sum_cons, ih]; rfl
 have hz : ZS_Box l = l.length := by unfold ZS_Box; rw [hs]; rfl
 simp only [laws_szBoxS.f]
 rw [wr64 (x := c - (l.length : Int)) (by omega) (by omega), hz]
 by_cases g : c - (l.length : Int) < 0
 rotate_left
 ·rw [cut_pos (by omega)]; exact Ev_f g (Ev_n rfl)
 rw [cut_neg (by omega)]; exact Ev_t g (Ev_n rfl)
def conv_Box (x : S114) : S92 := ⟨x.f0, x.f1, x.f2, x.f3⟩
def B_Box (x : S114) : Prop := True
theorem B_of_Box (x : S114) (h : (Z_Box x : Int) ≤ 1048576) : B_Box x := by
 unfold Z_Box at h
 unfold B_Box
 trivial
theorem to_Box (x : S114) (hb : B_Box x) : Ev (fun k => laws_toBox.f (x.f0) (x.f1) (x.f2) (x.f3)) ((conv_Box x).f0, (conv_Box x).f1, (conv_Box x).f2, (conv_Box x).f3) := by
 unfold B_Box at hb
 simp only [laws_toBox.f]
 exact Ev_n rfl
theorem toS_Box (l : List S114) (hl : (l.length : Int) ≤ 1048576) (hb : ∀ y ∈ l, B_Box y) : Ev (fun k => laws_toBoxS.f k l) (l.map conv_Box) := by
 have go : ∀ (d i : Nat) (xs : List S92), i + d = l.length → xs.length = l.length → xs.take i = (l.map conv_Box).take i → Ev (fun k => laws_toBoxS.l0 k l xs i) (l.map conv_Box) := by
  intro d
  induction d with
  | zero =>
   intro i xs q1 q2 q3
   refine Ev_suc ?_
   simp only [laws_toBoxS.l0]
   rw [List.take_of_length_le (by omega), List.take_of_length_le (by simp; omega)] at q3
   rw [q3]
   exact Ev_f (by omega) (Ev_n rfl)
  | succ d ih =>
   intro i xs q1 q2 q3
   refine Ev_suc ?_
   simp only [laws_toBoxS.l0]
   refine Ev_t (by omega) (Ev_t (by omega) ?_)
   rw [rdl_Box l i (by omega)]
   refine Ev_b (to_Box l[i] (hb _ (List.getElem_mem _))) ?_
   refine Ev_t (by omega) ?_
   rw [wr64s i (by omega), Int.toNat_natCast]
   refine ih (i + 1) _ (by omega) (by rw [List.length_set]; exact q2) ?_
   rw [set_take' _ _ _ (by omega), q3, List.take_succ_eq_append_getElem (by simp; omega)]
   simp [conv_Box]
 simp only [laws_toBoxS.f]
 refine Ev_t (by omega) (Ev_t (by omega) ?_)
 exact go l.length 0 _ (by omega) (by simp) (by simp)
def E_Box (x : S92) : Prop := True
theorem E_of_Box (x : S114) (hb : B_Box x) : E_Box (conv_Box x) := by
 unfold B_Box at hb
 unfold E_Box
 exact trivial
theorem eq_Box (x : S92) (he : E_Box x) : Ev (fun k => laws_eqBox.f (x.f0) (x.f1) (x.f2) (x.f3) (x.f0) (x.f1) (x.f2) (x.f3)) true := by
 unfold E_Box at he
 simp only [laws_eqBox.f, if_true]
 exact Ev_n rfl
theorem eqS_Box (m : List S92) (hl : (m.length : Int) ≤ 1048576) (he : ∀ y ∈ m, E_Box y) : Ev (fun k => laws_eqBoxS.f k m m) true := by
 have go : ∀ (d i : Nat), i + d = m.length → Ev (fun k => laws_eqBoxS.l0 k m m i) true := by
  intro d
  induction d with
  | zero =>
   intro i q1
   refine Ev_suc ?_
   simp only [laws_eqBoxS.l0]
   exact Ev_f (by omega) (Ev_n rfl)
  | succ d ih =>
   intro i q1
   refine Ev_suc ?_
   simp only [laws_eqBoxS.l0]
   refine Ev_t (by omega) (Ev_t (by omega) (Ev_t (by omega) ?_))
   rw [rdi_Box m i (by omega)]
   refine Ev_b (eq_Box m[i] (he _ (List.getElem_mem _))) ?_
   rw [wr64s i (by omega)]
   exact Ev_t rfl (ih (i + 1) (by omega))
 simp only [laws_eqBoxS.f]
 exact Ev_t (by first | trivial | rfl) (go m.length 0 (by omega))
def Z_Veneer (x : S61) : Nat := x.f0.size
theorem sz_Veneer (x : S61) (hw : W61 x) (c : Int) (h0 : 0 ≤ c) (h1 : c ≤ 1048576) : Ev (fun k => laws_szVeneer.f (x.f0) (x.f1) (x.f2) c) (cut c (Z_Veneer x)) := by
 have hM : maxLen = 9223372036854775807 := by decide
 unfold W61 at hw
 obtain ⟨w0, w1, w2⟩ := hw
 simp only [laws_szVeneer.f]
 have b0 : x.f0.size ≤ maxLen := w0
 rw [hM] at b0
 have e0 : wrap64 (c - ((x.f0.size : Nat) : Int)) = c - ((x.f0.size : Nat) : Int) := wr64 (by omega) (by omega)
 simp only [e0]
 by_cases g0 : c - ((x.f0.size : Nat) : Int) < 0
 ·rw [cut_neg (by unfold Z_Veneer; omega)]; exact Ev_t g0 (Ev_n rfl)
 refine Ev_f g0 ?_
 obtain ⟨c0, hc0⟩ : ∃ z_, z_ = c - ((x.f0.size : Nat) : Int) := ⟨_, rfl⟩
 simp only [← hc0]
 rw [cut_pos (by unfold Z_Veneer; omega)]
 exact Ev_n (by unfold Z_Veneer; omega)
def conv_Veneer (x : S61) : S66 := ⟨x.f0, x.f1, x.f2⟩
def B_Veneer (x : S61) : Prop := True
theorem B_of_Veneer (x : S61) (h : (Z_Veneer x : Int) ≤ 1048576) : B_Veneer x := by
 unfold Z_Veneer at h
 unfold B_Veneer
 trivial
theorem to_Veneer (x : S61) (hb : B_Veneer x) : Ev (fun k => laws_toVeneer.f (x.f0) (x.f1) (x.f2)) ((conv_Veneer x).f0, (conv_Veneer x).f1, (conv_Veneer x).f2) := by
 unfold B_Veneer at hb
 simp only [laws_toVeneer.f]
 exact Ev_n rfl
def E_Veneer (x : S66) : Prop := True
theorem E_of_Veneer (x : S61) (hb : B_Veneer x) : E_Veneer (conv_Veneer x) := by
 unfold B_Veneer at hb
 unfold E_Veneer
 exact trivial
theorem eq_Veneer (x : S66) (he : E_Veneer x) : Ev (fun k => laws_eqVeneer.f (x.f0) (x.f1) (x.f2) (x.f0) (x.f1) (x.f2)) true := by
 unfold E_Veneer at he
 simp only [laws_eqVeneer.f, if_true]
 exact Ev_n rfl
theorem rdl_Leaf (l : List S64) (i : Nat) (h : i < l.length) : rd_T64 l (i : Int) = l[i] := by unfold rd_T64; exact getD_in l _ i h
theorem rdi_Leaf (l : List S69) (i : Nat) (h : i < l.length) : rd_T69 l (i : Int) = l[i] := by unfold rd_T69; exact getD_in l _ i h
theorem rda_Leaf (a b : List S69) (x : S69) (i : Nat) (h : a.length = i) : rd_T69 (a ++ x :: b) (i : Int) = x := by unfold rd_T69; exact getD_at a b _ x i h
def Z_Leaf (x : S64) : Nat := x.f0.size + x.f1.size + (Z_Veneer x.f3) + (ZS_Box x.f6)
def ZS_Leaf (l : List S64) : Nat := l.length + (l.map Z_Leaf).sum
theorem ZS_in_Leaf (l : List S64) : l.length ≤ ZS_Leaf l ∧ ∀ y ∈ l, Z_Leaf y ≤ ZS_Leaf l := ⟨by unfold ZS_Leaf; omega, fun y hy => by have := sum_le Z_Leaf l y hy; unfold ZS_Leaf; omega⟩
theorem sz_Leaf (x : S64) (hw : W64 x) (c : Int) (h0 : 0 ≤ c) (h1 : c ≤ 1048576) : Ev (fun k => laws_szLeaf.f (x.f0) (x.f1) (x.f2) (x.f3.f0) (x.f3.f1) (x.f3.f2) (x.f4) (x.f5) (x.f6) c) (cut c (Z_Leaf x)) := by
 have hM : maxLen = 9223372036854775807 := by decide
 unfold W64 at hw
 obtain ⟨w0, w1, w2, w3, w4, w5, w6⟩ := hw
 simp only [laws_szLeaf.f]
 have b0 : x.f0.size ≤ maxLen := w0
 rw [hM] at b0
 have e0 : wrap64 (c - ((x.f0.size : Nat) : Int)) = c - ((x.f0.size : Nat) : Int) := wr64 (by omega) (by omega)
 simp only [e0]
 by_cases g0 : c - ((x.f0.size : Nat) : Int) < 0
 ·rw [cut_neg (by unfold Z_Leaf; omega)]; exact Ev_t g0 (Ev_n rfl)
 refine Ev_f g0 ?_
 obtain ⟨c0, hc0⟩ : ∃ z_, z_ = c - ((x.f0.size : Nat) : Int) := ⟨_, rfl⟩
 simp only [← hc0]
 have b1 : x.f1.size ≤ maxLen := w1
 rw [hM] at b1
 have e1 : wrap64 (c0 - ((x.f1.size : Nat) : Int)) = c0 - ((x.f1.size : Nat) : Int) := wr64 (by omega) (by omega)
 simp only [e1]
 by_cases g1 : c0 - ((x.f1.size : Nat) : Int) < 0
 ·rw [cut_neg (by unfold Z_Leaf; omega)]; exact Ev_t g1 (Ev_n rfl)
 refine Ev_f g1 ?_
 obtain ⟨c1, hc1⟩ : ∃ z_, z_ = c0 - ((x.f1.size : Nat) : Int) := ⟨_, rfl⟩
 simp only [← hc1]
 refine Ev_b (sz_Veneer x.f3 w3 c1 (by omega) (by omega)) ?_
 by_cases g3 : (((Z_Veneer x.f3) : Nat) : Int) ≤ c1
 case neg => rw [cut_neg g3, cut_neg (by unfold Z_Leaf; omega)]; exact Ev_t (by decide) (Ev_n rfl)
 rw [cut_pos g3]
 refine Ev_f (by omega) ?_
 obtain ⟨c3, hc3⟩ : ∃ z_, z_ = c1 - (((Z_Veneer x.f3) : Nat) : Int) := ⟨_, rfl⟩
 simp only [← hc3]
 refine Ev_b (szS_Box x.f6 w6.1 w6.2 c3 (by omega) (by omega)) ?_
 by_cases g6 : (((ZS_Box x.f6) : Nat) : Int) ≤ c3
 case neg => rw [cut_neg g6, cut_neg (by unfold Z_Leaf; omega)]; exact Ev_t (by decide) (Ev_n rfl)
 rw [cut_pos g6]
 refine Ev_f (by omega) ?_
 obtain ⟨c6, hc6⟩ : ∃ z_, z_ = c3 - (((ZS_Box x.f6) : Nat) : Int) := ⟨_, rfl⟩
 simp only [← hc6]
 rw [cut_pos (by unfold Z_Leaf; omega)]
 exact Ev_n (by unfold Z_Leaf; omega)
theorem szS_Leaf (l : List S64) (hl : l.length ≤ maxLen) (hw : ∀ y ∈ l, W64 y) (c : Int) (h0 : 0 ≤ c) (h1 : c ≤ 1048576) : Ev (fun k => laws_szLeafS.f k l c) (cut c (ZS_Leaf l)) := by
 have hM : maxLen = 9223372036854775807 := by decide
 rw [hM] at hl
 have go : ∀ (d i : Nat) (c : Int), i + d = l.length → l.length ≤ 1048576 → 0 ≤ c → c ≤ 1048576 → Ev (fun k => laws_szLeafS.l0 k l c i) (cut c (((l.drop i).map Z_Leaf).sum : Nat)) := by
  intro d
  induction d with
  | zero =>
   intro i c q1 q2 q3 q4
   refine Ev_suc ?_
   simp only [laws_szLeafS.l0]
   rw [List.drop_of_length_le (by omega), cut_pos (by simpa using q3)]
   exact Ev_f (by omega) (Ev_n (by simp))
  | succ d ih =>
   intro i c q1 q2 q3 q4
   refine Ev_suc ?_
   simp only [laws_szLeafS.l0]
   refine Ev_t (by omega) (Ev_t (by omega) ?_)
   rw [rdl_Leaf l i (by omega)]
   refine Ev_b (sz_Leaf l[i] (hw _ (List.getElem_mem _)) c q3 q4) ?_
   rw [List.drop_eq_getElem_cons (show i < l.length by omega), List.map_cons, List.sum_cons]
   by_cases g : ((Z_Leaf l[i] : Nat) : Int) ≤ c
   case neg => rw [cut_neg g, cut_neg (by omega)]; exact Ev_t (by decide) (Ev_n rfl)
   rw [cut_pos g]
   refine Ev_f (by omega) ?_
   rw [wr64s i (by omega)]
   refine Ev_at (ih (i + 1) _ (by omega) q2 (by omega) (by omega)) ?_
   unfold cut
   split <;> split <;> omega
 simp only [laws_szLeafS.f]
 rw [wr64 (x := c - (l.length : Int)) (by omega) (by omega)]
 by_cases g : c - (l.length : Int) < 0
 rotate_left
 ·refine Ev_f g (Ev_at (go l.length 0 _ (by omega) (by omega) (by omega) (by omega)) ?_)
  rw [List.drop_zero]
  unfold cut ZS_Leaf
  split <;> split <;> omega
 rw [cut_neg (by unfold ZS_Leaf; omega)]
 exact Ev_t g (Ev_n rfl)
def conv_Leaf (x : S64) : S69 := ⟨x.f0, x.f1, x.f2, (conv_Veneer x.f3), x.f4, x.f5, (x.f6.map conv_Box)⟩
def B_Leaf (x : S64) : Prop := B_Veneer x.f3 ∧ ((x.f6.length : Int) ≤ 1048576 ∧ ∀ y ∈ x.f6, B_Box y)
theorem B_of_Leaf (x : S64) (h : (Z_Leaf x : Int) ≤ 1048576) : B_Leaf x := by
 unfold Z_Leaf at h
 unfold B_Leaf
 exact ⟨B_of_Veneer x.f3 (by omega), ⟨by have := (ZS_in_Box x.f6).1; omega, fun y hy => B_of_Box y (by have := (ZS_in_Box x.f6).2 y hy; omega)⟩⟩
theorem to_Leaf (x : S64) (hb : B_Leaf x) : Ev (fun k => laws_toLeaf.f k (x.f0) (x.f1) (x.f2) (x.f3.f0) (x.f3.f1) (x.f3.f2) (x.f4) (x.f5) (x.f6)) ((conv_Leaf x).f0, (conv_Leaf x).f1, (conv_Leaf x).f2, (conv_Leaf x).f3.f0, (conv_Leaf x).f3.f1, (conv_Leaf x).f3.f2, (conv_Leaf x).f4, (conv_Leaf x).f5, (conv_Leaf x).f6) := by
 unfold B_Leaf at hb
 simp only [laws_toLeaf.f]
 refine Ev_b (to_Veneer x.f3 hb.1) ?_
 refine Ev_b (toS_Box x.f6 hb.2.1 hb.2.2) ?_
 exact Ev_n rfl
theorem toS_Leaf (l : List S64) (hl : (l.length : Int) ≤ 1048576) (hb : ∀ y ∈ l, B_Leaf y) : Ev (fun k => laws_toLeafS.f k l) (l.map conv_Leaf) := by
 have go : ∀ (d i : Nat) (xs : List S69), i + d = l.length → xs.length = l.length → xs.take i = (l.map conv_Leaf).take i → Ev (fun k => laws_toLeafS.l0 k l xs i) (l.map conv_Leaf) := by
  intro d
  induction d with
  | zero =>
   intro i xs q1 q2 q3
   refine Ev_suc ?_
   simp only [laws_toLeafS.l0]
   rw [List.take_of_length_le (by omega), List.take_of_length_le (by simp; omega)] at q3
   rw [q3]
   exact Ev_f (by omega) (Ev_n rfl)
  | succ d ih =>
   intro i xs q1 q2 q3
   refine Ev_suc ?_
   simp only [laws_toLeafS.l0]
   refine Ev_t (by omega) (Ev_t (by omega) ?_)
   rw [rdl_Leaf l i (by omega)]
   refine Ev_b (to_Leaf l[i] (hb _ (List.getElem_mem _))) ?_
   refine Ev_t (by omega) ?_
   rw [wr64s i (by omega), Int.toNat_natCast]
   refine ih (i + 1) _ (by omega) (by rw [List.length_set]; exact q2) ?_
   rw [set_take' _ _ _ (by omega), q3, List.take_succ_eq_append_getElem (by simp; omega)]
   simp [conv_Leaf]
 simp only [laws_toLeafS.f]
 refine Ev_t (by omega) (Ev_t (by omega) ?_)
 exact go l.length 0 _ (by omega) (by simp) (by simp)
def E_Leaf (x : S69) : Prop := E_Veneer x.f3 ∧ ((x.f6.length : Int) ≤ 1048576 ∧ ∀ y ∈ x.f6, E_Box y)
theorem E_of_Leaf (x : S64) (hb : B_Leaf x) : E_Leaf (conv_Leaf x) := by
 unfold B_Leaf at hb
 unfold E_Leaf
 exact ⟨E_of_Veneer _ hb.1, ⟨by unfold conv_Leaf; simpa using hb.2.1, fun y hy => by have hy' : y ∈ x.f6.map conv_Box := hy; obtain ⟨z, hz, rfl⟩ := List.mem_map.1 hy'; exact E_of_Box z (hb.2.2 z hz)⟩⟩
theorem eq_Leaf (x : S69) (he : E_Leaf x) : Ev (fun k => laws_eqLeaf.f k (x.f0) (x.f1) (x.f2) (x.f3.f0) (x.f3.f1) (x.f3.f2) (x.f4) (x.f5) (x.f6) (x.f0) (x.f1) (x.f2) (x.f3.f0) (x.f3.f1) (x.f3.f2) (x.f4) (x.f5) (x.f6)) true := by
 unfold E_Leaf at he
 simp only [laws_eqLeaf.f, if_true]
 refine Ev_b (eq_Veneer x.f3 he.1) ?_
 simp only [if_true]
 refine Ev_b (eqS_Box x.f6 he.2.1 he.2.2) ?_
 simp only [if_true]
 exact Ev_n rfl
theorem eqS_Leaf (m : List S69) (hl : (m.length : Int) ≤ 1048576) (he : ∀ y ∈ m, E_Leaf y) : Ev (fun k => laws_eqLeafS.f k m m) true := by
 have go : ∀ (d i : Nat), i + d = m.length → Ev (fun k => laws_eqLeafS.l0 k m m i) true := by
  intro d
  induction d with
  | zero =>
   intro i q1
   refine Ev_suc ?_
   simp only [laws_eqLeafS.l0]
   exact Ev_f (by omega) (Ev_n rfl)
  | succ d ih =>
   intro i q1
   refine Ev_suc ?_
   simp only [laws_eqLeafS.l0]
   refine Ev_t (by omega) (Ev_t (by omega) (Ev_t (by omega) ?_))
   rw [rdi_Leaf m i (by omega)]
   refine Ev_b (eq_Leaf m[i] (he _ (List.getElem_mem _))) ?_
   rw [wr64s i (by omega)]
   exact Ev_t rfl (ih (i + 1) (by omega))
 simp only [laws_eqLeafS.f]
 exact Ev_t (by first | trivial | rfl) (go m.length 0 (by omega))
theorem rdi_Block (l : List S45) (i : Nat) (h : i < l.length) : rd_T45 l (i : Int) = l[i] := by unfold rd_T45; exact getD_in l _ i h
theorem rda_Block (a b : List S45) (x : S45) (i : Nat) (h : a.length = i) : rd_T45 (a ++ x :: b) (i : Int) = x := by unfold rd_T45; exact getD_at a b _ x i h
def E_Block (x : S45) : Prop := True
theorem eq_Block (x : S45) (he : E_Block x) : Ev (fun k => laws_eqBlock.f (x.f0) (x.f1) (x.f2) (x.f0) (x.f1) (x.f2)) true := by
 unfold E_Block at he
 simp only [laws_eqBlock.f, if_true]
 exact Ev_n rfl
theorem eqS_Block (m : List S45) (hl : (m.length : Int) ≤ 1048576) (he : ∀ y ∈ m, E_Block y) : Ev (fun k => laws_eqBlockS.f k m m) true := by
 have go : ∀ (d i : Nat), i + d = m.length → Ev (fun k => laws_eqBlockS.l0 k m m i) true := by
  intro d
  induction d with
  | zero =>
   intro i q1
   refine Ev_suc ?_
   simp only [laws_eqBlockS.l0]
   exact Ev_f (by omega) (Ev_n rfl)
  | succ d ih =>
   intro i q1
   refine Ev_suc ?_
   simp only [laws_eqBlockS.l0]
   refine Ev_t (by omega) (Ev_t (by omega) (Ev_t (by omega) ?_))
   rw [rdi_Block m i (by omega)]
   refine Ev_b (eq_Block m[i] (he _ (List.getElem_mem _))) ?_
   rw [wr64s i (by omega)]
   exact Ev_t rfl (ih (i + 1) (by omega))
 simp only [laws_eqBlockS.f]
 exact Ev_t (by first | trivial | rfl) (go m.length 0 (by omega))
theorem mk_Block (l : List S45) (c : Int) (h0 : 0 ≤ c) (h1 : c ≤ 1000000000000000) (hl : (l.length : Int) ≤ 1000000000000) : ∃ l', l'.length = l.length ∧ Ev (fun k => laws_markBlockS.f k l c) (c + 3 * l.length, l') ∧ Ev (fun k => laws_heldBlockS.f k l' c) (c + 3 * l.length) := by
 have go : ∀ (q p : List S45) (i : Nat) (c : Int), p.length = i → 0 ≤ c → c + 3 * q.length ≤ 100000000000000000 → (i : Int) + q.length ≤ 1000000000000 → ∃ q', q'.length = q.length ∧ Ev (fun k => laws_markBlockS.l0 k (p ++ q) c i) (c + 3 * q.length, p ++ q') ∧ ∀ r : List S45, r.length = i → Ev (fun k => laws_heldBlockS.l0 k (r ++ q') c i) (c + 3 * q.length) := by
  intro q
  induction q with
  | nil =>
   intro p i c q1 q2 q3 q4
   refine ⟨[], rfl, Ev_suc ?_, fun r hr => Ev_suc ?_⟩
   ·simp only [laws_markBlockS.l0]
    exact Ev_f (by simp; omega) (Ev_n (by simp))
   ·simp only [laws_heldBlockS.l0]
    exact Ev_f (by simp; omega) (Ev_n (by simp))
  | cons x q ih =>
   intro p i c q1 q2 q3 q4
   simp only [List.length_cons] at q3 q4
   have e0 : wrap64 (c + 1) = c + 1 := (wr64 (by omega) (by omega)).trans (by omega)
   have e1 : wrap64 (c + 1 + 1) = c + 2 := (wr64 (by omega) (by omega)).trans (by omega)
   have e2 : wrap64 (c + 2 + 1) = c + 3 := (wr64 (by omega) (by omega)).trans (by omega)
   obtain ⟨t0, ht0⟩ := markText_ev (c) (by omega) (by omega)
   obtain ⟨t1, ht1⟩ := markText_ev (c + 1) (by omega) (by omega)
   obtain ⟨t2, ht2⟩ := markText_ev (c + 2) (by omega) (by omega)
   obtain ⟨q', hq, hm, hh⟩ := ih (p ++ [(⟨t0, t1, t2⟩ : S45)]) (i + 1) (c + 3) (by simp; omega) (by omega) (by omega) (by omega)
   refine ⟨(⟨t0, t1, t2⟩ : S45) :: q', by simp [hq], Ev_suc ?_, fun r hr => Ev_suc ?_⟩
   ·simp only [laws_markBlockS.l0, e0, e1, e2, set_at p q _ _ i q1, rda_Block p q _ i q1]
    refine Ev_t (by simp; omega) ?_
    refine Ev_b ht0 ?_
    refine Ev_t (by omega) ?_
    refine Ev_s ?_
    try simp only [e0, e1, e2, set_at p q _ _ i q1, rda_Block p q _ i q1]
    refine Ev_b ht1 ?_
    refine Ev_s ?_
    try simp only [e0, e1, e2, set_at p q _ _ i q1, rda_Block p q _ i q1]
    refine Ev_b ht2 ?_
    try simp only [e0, e1, e2, set_at p q _ _ i q1, rda_Block p q _ i q1]
    rw [wr64s i (by omega)]
    have hm' := hm
    rw [List.append_assoc, List.singleton_append, List.append_assoc, List.singleton_append] at hm'
    exact Ev_at hm' (by simp only [List.length_cons, Prod.mk.injEq, and_true]; omega)
   ·simp only [laws_heldBlockS.l0, e0, e1, e2, rda_Block r q' _ i hr]
    refine Ev_t (by simp; omega) ?_
    refine Ev_t (by omega) ?_
    refine Ev_b ht0 ?_
    refine Ev_t (by first | rfl | exact True.intro | omega) ?_
    refine Ev_b ht1 ?_
    refine Ev_t (by first | rfl | exact True.intro | omega) ?_
    refine Ev_b ht2 ?_
    refine Ev_t (by first | rfl | exact True.intro | omega) ?_
    rw [wr64s i (by omega)]
    have hh' := hh (r ++ [(⟨t0, t1, t2⟩ : S45)]) (by simp; omega)
    rw [List.append_assoc, List.singleton_append] at hh'
    exact Ev_at hh' (by simp only [List.length_cons]; omega)
 obtain ⟨l', e1, e2, e3⟩ := go l [] 0 c rfl h0 (by omega) (by simpa using hl)
 refine ⟨l', e1, ?_, ?_⟩
 ·simp only [laws_markBlockS.f]; exact e2
 ·simp only [laws_heldBlockS.f]; exact e3 [] rfl
end Go.Proofs.YtckboiphlhhckaaDoor.Q
namespace Go.Proofs.YtckboiphlhhckaaDoor.Q
open Go.RowKit Go.Proofs.YtckboiphlhhckaaDoorW.PrintWords Go.Proofs.YtckboiphlhhckaaDoorW.PrintLast Go.Proofs.YtckboiphlhhckaaDoorW.PrintMore
theorem ite_and (b c : Bool) : (if b = true then some c else some false) = some (b && c) := by cases b <;> rfl
theorem in_f (a b c : Int) : spec_l00In.f a b c = some (decide (b ≤ a) && decide (a ≤ c)) := by unfold spec_l00In.f; by_cases h : a ≥ b <;> simp [h]
theorem within_f (a b c : Int) : impl_within.f a b c = some (decide (b ≤ a) && decide (a ≤ c)) := by unfold impl_within.f; by_cases h : a ≥ b <;> simp [h]
theorem w64 {x : Int} (h0 : -9223372036854775808 ≤ x) (h1 : x < 9223372036854775808) : wrap64 x = x := by unfold wrap64; omega
end Go.Proofs.YtckboiphlhhckaaDoor.Q
namespace Go.Proofs.YtckboiphlhhckaaDoor.Q
open Go.RowKit Go.Proofs.YtckboiphlhhckaaDoorW.PrintWords Go.Proofs.YtckboiphlhhckaaDoorW.PrintLast Go.Proofs.YtckboiphlhhckaaDoorW.PrintMore
theorem toList_len (x : ByteArray) : x.toList.length = x.size := by
 rw [Go.ByteArray.toList_eq x, Array.length_toList]; rfl
theorem name_round (k : Nat) (x : ByteArray) (i : Int) : spec_l01Name.l0 k x i = impl_IsName.l0 k x i := by
 induction k generalizing i with
 | zero => rfl
 | succ k ih =>
  simp only [spec_l01Name.l0, impl_IsName.l0, ih, spec_l01Small.f, spec_l01Digit.f]
  by_cases h1 : i < (x.size : Int)
  rotate_left
  ·rw [if_neg h1, if_neg h1]
  rw [if_pos h1, if_pos h1]
  by_cases h2 : 0 ≤ i
  rotate_left
  ·rw [if_neg h2, if_neg h2]
  rw [if_pos h2, if_pos h2]
  generalize bt x i = c
  by_cases h3 : c < 97
  rotate_left
  ·rw [if_neg h3, if_pos (show c ≥ 97 by omega)]
   by_cases h4 : c > 122
   rotate_left
   ·rw [if_neg h4]; simp [show c ≤ 122 by omega]
   simp [h4, show ¬ c < 48 by omega, show c > 57 by omega, show ¬ c ≤ 122 by omega, show ¬ c ≤ 57 by omega]
  rw [if_pos h3, if_neg (by omega)]
  by_cases h4 : c < 48
  rotate_left
  ·rw [if_neg h4, if_pos (by omega)]
   by_cases h5 : c > 57
   rotate_left
   ·rw [if_neg h5]; simp [show c ≤ 57 by omega]
   rw [if_pos h5]; simp [show ¬ c ≤ 57 by omega]
  rw [if_pos h4, if_neg (by omega)]; simp
theorem name_same (k : Nat) (x : ByteArray) : spec_l01Name.f k x = impl_IsName.f k x := by
 have hj : ∀ b, spec_l01Name.j0 k x b = impl_IsName.j0 k x b := by
  intro b
  cases k with
  | zero => rfl
  | succ k => simp only [spec_l01Name.j0, impl_IsName.j0, name_round]
 unfold spec_l01Name.f impl_IsName.f spec_l01Small.f
 simp only [hj]
 by_cases h0 : x.toList = []
 rotate_left
 ·have : x.size ≠ 0 := by
   intro e; apply h0; apply List.eq_nil_of_length_eq_zero; rw [toList_len, e]
  rw [if_neg h0, if_neg (show ¬ (x.size : Int) < 1 by omega)]
  by_cases h1 : (x.size : Int) > 10
  rotate_left
  ·rw [if_neg h1, if_neg h1, if_pos (show 0 < (x.size : Int) by omega), if_pos (show 0 < (x.size : Int) by omega)]
   generalize bt x 0 = c
   by_cases h3 : c < 97
   rotate_left
   ·rw [if_neg h3, if_pos (show c ≥ 97 by omega)]
    simp only [Option.bind_some]
    congr 1
    by_cases h4 : c > 122
    rotate_left
    ·simp [h4, show c ≤ 122 by omega]
    simp [h4, show ¬ c ≤ 122 by omega]
   rw [if_pos h3, if_neg (show ¬ c ≥ 97 by omega)]; rfl
  rw [if_pos h1, if_pos h1]
 have : x.size = 0 := by rw [← toList_len, h0]; rfl
 rw [if_pos h0, if_pos (by omega)]
theorem name_ev (x : ByteArray) : ∃ b, ∀ k, 12 < k → impl_IsName.f k x = some b := by
 have go : ∀ (d : Nat) (i : Int), 0 ≤ i → i + d = x.size → (x.size : Int) ≤ 10 → ∃ b, ∀ k, d < k → impl_IsName.l0 k x i = some b := by
  intro d
  induction d with
  | zero =>
   intro i h0 h1 _
   refine ⟨true, fun k hk => ?_⟩
   obtain ⟨k, rfl⟩ : ∃ m, k = m + 1 := ⟨k - 1, by omega⟩
   simp only [impl_IsName.l0]
   rw [if_neg (by omega)]
  | succ d ih =>
   intro i h0 h1 h2
   obtain ⟨b, hb⟩ := ih (i + 1) (by omega) (by omega) h2
   by_cases h3 : bt x i < 97
   rotate_left
   ·by_cases h4 : bt x i > 122
    rotate_left
    ·refine ⟨b, fun k hk => ?_⟩
     obtain ⟨k, rfl⟩ : ∃ m, k = m + 1 := ⟨k - 1, by omega⟩
     simp only [impl_IsName.l0]
     rw [if_pos (by omega), if_pos h0, if_neg h3, if_neg h4, w64 (by omega) (by omega), hb k (by omega)]
    refine ⟨false, fun k hk => ?_⟩
    obtain ⟨k, rfl⟩ : ∃ m, k = m + 1 := ⟨k - 1, by omega⟩
    simp only [impl_IsName.l0]
    rw [if_pos (by omega), if_pos h0, if_neg h3, if_pos h4, if_neg (by omega), if_pos (by omega)]
   by_cases h4 : bt x i < 48
   rotate_left
   ·by_cases h5 : bt x i > 57
    rotate_left
    ·refine ⟨b, fun k hk => ?_⟩
     obtain ⟨k, rfl⟩ : ∃ m, k = m + 1 := ⟨k - 1, by omega⟩
     simp only [impl_IsName.l0]
     rw [if_pos (by omega), if_pos h0, if_pos h3, if_neg h4, if_neg h5, w64 (by omega) (by omega), hb k (by omega)]
    refine ⟨false, fun k hk => ?_⟩
    obtain ⟨k, rfl⟩ : ∃ m, k = m + 1 := ⟨k - 1, by omega⟩
    simp only [impl_IsName.l0]
    rw [if_pos (by omega), if_pos h0, if_pos h3, if_neg h4, if_pos h5]
   refine ⟨false, fun k hk => ?_⟩
   obtain ⟨k, rfl⟩ : ∃ m, k = m + 1 := ⟨k - 1, by omega⟩
   simp only [impl_IsName.l0]
   rw [if_pos (by omega), if_pos h0, if_pos h3, if_pos h4]
 have hj : ∀ (b : Bool), (b = false → (x.size : Int) ≤ 10) → ∃ c, ∀ k, 12 < k → impl_IsName.j0 k x b = some c := by
  intro b hs
  cases b with
  | true =>
   refine ⟨false, fun k hk => ?_⟩
   obtain ⟨k, rfl⟩ : ∃ m, k = m + 1 := ⟨k - 1, by omega⟩
   simp only [impl_IsName.j0, if_true]
  | false =>
   obtain ⟨c, hc⟩ := go x.size 0 (by omega) (by omega) (hs rfl)
   have := hs rfl
   refine ⟨c, fun k hk => ?_⟩
   obtain ⟨k, rfl⟩ : ∃ m, k = m + 1 := ⟨k - 1, by omega⟩
   simp only [impl_IsName.j0]
   rw [if_neg (by decide), hc k (by omega)]
 unfold impl_IsName.f
 by_cases h1 : (x.size : Int) < 1
 rotate_left
 ·simp only [if_neg h1]
  by_cases h2 : (x.size : Int) > 10
  rotate_left
  ·simp only [if_neg h2, if_pos (show 0 < (x.size : Int) by omega)]
   by_cases h3 : bt x 0 < 97
   rotate_left
   ·simp only [if_neg h3]; exact hj _ (fun _ => by omega)
   simp only [if_pos h3]; exact hj true (by intro h; cases h)
  simp only [if_pos h2]; exact hj true (by intro h; cases h)
 simp only [if_pos h1]; exact hj true (by intro h; cases h)
end Go.Proofs.YtckboiphlhhckaaDoor.Q
namespace Go.Proofs.YtckboiphlhhckaaDoor.Q
open Go.RowKit Go.Proofs.YtckboiphlhhckaaDoorW.PrintWords Go.Proofs.YtckboiphlhhckaaDoorW.PrintLast Go.Proofs.YtckboiphlhhckaaDoorW.PrintMore
def spi (l : List UInt8) : Int := if l = [97, 115, 104] then 0 else if l = [98, 101, 101, 99, 104] then 1 else if l = [98, 105, 114, 99, 104] then 2 else if l = [99, 104, 101, 114, 114, 121] then 3 else if l = [101, 98, 111, 110, 121] then 4 else if l = [104, 111, 108, 108, 121] then 5 else if l = [109, 97, 112, 108, 101] then 6 else if l = [111, 97, 107] then 7 else if l = [114, 111, 115, 101, 119, 111, 111, 100] then 8 else if l = [119, 97, 108, 110, 117, 116] then 9 else -1
def shades : List Int := [20, 35, 15, 50, 95, 5, 10, 40, 80, 70]
theorem sp_cases (l : List UInt8) : (l = [97, 115, 104]) ∨ (l = [98, 101, 101, 99, 104]) ∨ (l = [98, 105, 114, 99, 104]) ∨ (l = [99, 104, 101, 114, 114, 121]) ∨ (l = [101, 98, 111, 110, 121]) ∨ (l = [104, 111, 108, 108, 121]) ∨ (l = [109, 97, 112, 108, 101]) ∨ (l = [111, 97, 107]) ∨ (l = [114, 111, 115, 101, 119, 111, 111, 100]) ∨ (l = [119, 97, 108, 110, 117, 116]) ∨ (¬ l = [97, 115, 104] ∧ ¬ l = [98, 101, 101, 99, 104] ∧ ¬ l = [98, 105, 114, 99, 104] ∧ ¬ l = [99, 104, 101, 114, 114, 121] ∧ ¬ l = [101, 98, 111, 110, 121] ∧ ¬ l = [104, 111, 108, 108, 121] ∧ ¬ l = [109, 97, 112, 108, 101] ∧ ¬ l = [111, 97, 107] ∧ ¬ l = [114, 111, 115, 101, 119, 111, 111, 100] ∧ ¬ l = [119, 97, 108, 110, 117, 116]) := by
 by_cases h0 : l = [97, 115, 104]
 ·exact .inl h0
 by_cases h1 : l = [98, 101, 101, 99, 104]
 ·exact .inr ((.inl h1))
 by_cases h2 : l = [98, 105, 114, 99, 104]
 ·exact .inr (.inr ((.inl h2)))
 by_cases h3 : l = [99, 104, 101, 114, 114, 121]
 ·exact .inr (.inr (.inr ((.inl h3))))
 by_cases h4 : l = [101, 98, 111, 110, 121]
 ·exact .inr (.inr (.inr (.inr ((.inl h4)))))
 by_cases h5 : l = [104, 111, 108, 108, 121]
 ·exact .inr (.inr (.inr (.inr (.inr ((.inl h5))))))
 by_cases h6 : l = [109, 97, 112, 108, 101]
 ·exact .inr (.inr (.inr (.inr (.inr (.inr ((.inl h6)))))))
 by_cases h7 : l = [111, 97, 107]
 ·exact .inr (.inr (.inr (.inr (.inr (.inr (.inr ((.inl h7))))))))
 by_cases h8 : l = [114, 111, 115, 101, 119, 111, 111, 100]
 ·exact .inr (.inr (.inr (.inr (.inr (.inr (.inr (.inr ((.inl h8)))))))))
 by_cases h9 : l = [119, 97, 108, 110, 117, 116]
 ·exact .inr (.inr (.inr (.inr (.inr (.inr (.inr (.inr (.inr ((.inl h9))))))))))
 exact .inr (.inr (.inr (.inr (.inr (.inr (.inr (.inr (.inr (.inr (⟨h0, h1, h2, h3, h4, h5, h6, h7, h8, h9⟩))))))))))
theorem l07Find_f (a : ByteArray) (k : Nat) (hk : 12 ≤ k) : spec_l07Find.f k a = some (spi a.toList) := by
 obtain ⟨k, rfl⟩ : ∃ m, k = m + 12 := ⟨k - 12, by omega⟩
 unfold spec_l07Find.f spec_l07Names.f spi
 simp only [Option.bind_some, spec_l07Find.l0, wrap64, rdOf]
 simp (decide := true)
 generalize a.toList = l
 simp only [eq_comm (b := l)]
 rcases sp_cases l with h | h | h | h | h | h | h | h | h | h | h
 all_goals first | (subst h; decide) | (obtain ⟨h0, h1, h2, h3, h4, h5, h6, h7, h8, h9⟩ := h; simp only [h0, h1, h2, h3, h4, h5, h6, h7, h8, h9, if_false])
def vVen (l : List UInt8) (sh gr : Int) : Bool := decide (0 ≤ spi l) && ((decide (0 ≤ sh) && decide (sh ≤ 100)) && ((decide (rd shades (spi l) - 15 ≤ sh) && decide (sh ≤ rd shades (spi l) + 15)) && (decide (0 ≤ gr) && decide (gr ≤ 179))))
theorem spi_range (l : List UInt8) : -1 ≤ spi l ∧ spi l ≤ 9 := by
 rcases sp_cases l with h | h | h | h | h | h | h | h | h | h | h
 all_goals first | (subst h; decide) | (obtain ⟨h0, h1, h2, h3, h4, h5, h6, h7, h8, h9⟩ := h; unfold spi; simp only [h0, h1, h2, h3, h4, h5, h6, h7, h8, h9, if_false]; decide)
theorem shade_of (i : Int) (h0 : 0 ≤ i) (h1 : i ≤ 9) : ∃ t, spec_l07Table.f = some t ∧ i < t.length ∧ 0 < (rd_L9 t i).length ∧ rd (rd_L9 t i) 0 = rd shades i ∧ 0 ≤ rd shades i ∧ rd shades i ≤ 100 := by
 refine ⟨_, rfl, ?_⟩
 obtain ⟨n, rfl⟩ := Int.eq_ofNat_of_zero_le h0
 have hn : n ≤ 9 := by omega
 match n, hn with
 | 0, _ => decide
 | 1, _ => decide
 | 2, _ => decide
 | 3, _ => decide
 | 4, _ => decide
 | 5, _ => decide
 | 6, _ => decide
 | 7, _ => decide
 | 8, _ => decide
 | 9, _ => decide
theorem iShade_f (a : ByteArray) : impl_speciesShade.f a = some (if 0 ≤ spi a.toList then (rd shades (spi a.toList), true) else (0, false)) := by
 unfold impl_speciesShade.f impl_SpeciesData.f spi
 generalize a.toList = l
 rcases sp_cases l with h | h | h | h | h | h | h | h | h | h | h
 all_goals first | (subst h; decide) | (obtain ⟨h0, h1, h2, h3, h4, h5, h6, h7, h8, h9⟩ := h; simp only [h0, h1, h2, h3, h4, h5, h6, h7, h8, h9, if_false]; decide)
theorem l07Ok_f (x : S66) (k : Nat) (hk : 12 ≤ k) : spec_l07Ok.f k [x] = some (vVen x.f0.toList x.f1 x.f2) := by
 obtain ⟨k, rfl⟩ : ∃ m, k = m + 1 := ⟨k - 1, by omega⟩
 have hrd : rd_T66 [x] 0 = x := rfl
 unfold spec_l07Ok.f vVen
 rw [if_pos (by simp), hrd, l07Find_f _ _ hk]
 simp only [Option.bind_some]
 have hr := spi_range x.f0.toList
 by_cases h : spi x.f0.toList < 0
 rotate_left
 ·rw [if_neg h, in_f, show decide (0 ≤ spi x.f0.toList) = true from decide_eq_true (by omega)]
  obtain ⟨t, ht, h1, h2, h3, h4, h5⟩ := shade_of (spi x.f0.toList) (by omega) (by omega)
  simp only [Option.bind_some, spec_l07Ok.j0]
  cases hs : (decide (0 ≤ x.f1) && decide (x.f1 ≤ 100))
  ·simp
  ·rw [if_neg (by simp), ht]
   simp only [Option.bind_some]
   rw [if_pos (by omega), if_pos h1, if_pos (by omega), if_pos (by simp), hrd, h3, in_f, w64 (by omega) (by omega), w64 (by omega) (by omega)]
   simp only [Option.bind_some, spec_l07Grain.f, in_f]
   rw [ite_and]
   simp
 rw [if_pos h]
 simp only [spec_l07Ok.j0, if_true]
 rw [show decide (0 ≤ spi x.f0.toList) = false from decide_eq_false (by omega)]
 rfl
theorem iValidVeneer_f (a : ByteArray) (sh gr : Int) : impl_ValidVeneer.f a sh gr = some (vVen a.toList sh gr) := by
 unfold impl_ValidVeneer.f vVen
 rw [iShade_f]
 simp only [Option.bind_some]
 have hr := spi_range a.toList
 by_cases h : 0 ≤ spi a.toList
 rotate_left
 ·rw [if_neg h, show decide (0 ≤ spi a.toList) = false from decide_eq_false h]
  simp
 rw [if_pos h]
 obtain ⟨t, ht, h1, h2, h3, h4, h5⟩ := shade_of (spi a.toList) h (by omega)
 simp only [if_true, within_f, Option.bind_some]
 rw [show decide (0 ≤ spi a.toList) = true from decide_eq_true h]
 cases hs : (decide (0 ≤ sh) && decide (sh ≤ 100))
 ·simp
 ·have hs' : 0 ≤ sh ∧ sh ≤ 100 := by simpa using hs
  rw [w64 (by omega) (by omega)]
  simp only [if_true, ite_and, Bool.true_and]
  congr 2
  rw [Bool.eq_iff_iff]
  simp only [Bool.and_eq_true, decide_eq_true_eq]
  omega
end Go.Proofs.YtckboiphlhhckaaDoor.Q
namespace Go.Proofs.YtckboiphlhhckaaDoor.Q
open Go.RowKit Go.Proofs.YtckboiphlhhckaaDoorW.PrintWords Go.Proofs.YtckboiphlhhckaaDoorW.PrintLast Go.Proofs.YtckboiphlhhckaaDoorW.PrintMore
set_option linter.unusedVariables false
abbrev Lf := S69
abbrev Bx := S92
theorem nameE_ev (x : ByteArray) : ∃ b, Ev (fun k => impl_IsName.f k x) b ∧ Ev (fun k => spec_l01Name.f k x) b := by
 obtain ⟨b, hb⟩ := name_ev x
 exact ⟨b, ⟨13, fun k hk => hb k (by omega)⟩, ⟨13, fun k hk => (name_same k x).trans (hb k (by omega))⟩⟩
theorem iw (a b c : Int) : impl_within.f a b c = spec_l00In.f a b c := (within_f a b c).trans (in_f a b c).symm
def bOk (b : Bx) (w h : Int) : Prop := 0 ≤ b.f0 ∧ b.f0 ≤ w ∧ 0 ≤ b.f1 ∧ b.f1 ≤ h ∧ 1 ≤ b.f2 ∧ b.f2 ≤ 20000 ∧ 1 ≤ b.f3 ∧ b.f3 ≤ 20000
theorem box_ev (b : Bx) (w h : Int) : ∃ v, spec_l09Box.f [b] w h = some v ∧ impl_boxWithin.f b.f0 b.f1 b.f2 b.f3 w h = some v ∧ (v = true → 10 ≤ w → w ≤ 20000 → 10 ≤ h → h ≤ 20000 → bOk b w h) := by
 have r0 : rd_T92 [b] 0 = b := rfl
 unfold spec_l09Box.f impl_boxWithin.f
 rw [r0, if_pos (by simp)]
 simp only [iw, in_f, Option.bind_some]
 by_cases c1 : (decide ((0 : Int) ≤ b.f0) && decide (b.f0 ≤ w)) = true
 case neg => exact ⟨false, if_neg c1, if_neg c1, fun h => by cases h⟩
 rw [if_pos c1]
 by_cases c2 : (decide ((0 : Int) ≤ b.f1) && decide (b.f1 ≤ h)) = true
 case neg => exact ⟨false, if_neg c2, if_neg c2, fun h => by cases h⟩
 rw [if_pos c2]
 by_cases c3 : (decide ((1 : Int) ≤ b.f2) && decide (b.f2 ≤ wrap64 (w - b.f0))) = true
 case neg => exact ⟨false, if_neg c3, if_neg c3, fun h => by cases h⟩
 rw [if_pos c3]
 refine ⟨_, rfl, rfl, fun c4 w0 w1 h0 h1 => ?_⟩
 simp only [Bool.and_eq_true, decide_eq_true_eq] at c1 c2 c3 c4
 rw [wr64 (by omega) (by omega)] at c3 c4
 unfold bOk
 omega
def lOk (x : Lf) : Prop := (0 ≤ x.f2 ∧ x.f2 ≤ 999) ∧ vVen x.f3.f0.toList x.f3.f1 x.f3.f2 = true ∧ (10 ≤ x.f4 ∧ x.f4 ≤ 20000) ∧ (10 ≤ x.f5 ∧ x.f5 ≤ 20000) ∧ x.f6.length ≤ 6 ∧ ∀ b ∈ x.f6, bOk b x.f4 x.f5
theorem leaf_ev (x : Lf) (hl : (x.f6.length : Int) ≤ 1048576) : ∃ v, Ev (fun k => spec_l09One.f k [x]) v ∧ Ev (fun k => impl_ValidLeaf.f k x.f0 x.f1 x.f2 x.f3.f0 x.f3.f1 x.f3.f2 x.f4 x.f5 x.f6) v ∧ (v = true → lOk x) := by
 have r0 : rd_T69 [x] 0 = x := rfl
 have sj : Ev (fun k => spec_l09One.j0 k [x] true) false := by
  refine Ev_suc ?_; simp only [spec_l09One.j0]; exact Ev_t True.intro (Ev_n rfl)
 have ij : Ev (fun k => impl_ValidLeaf.j0 k true x.f0 x.f1 x.f2 x.f3.f0 x.f3.f1 x.f3.f2 x.f4 x.f5 x.f6) false := by
  refine Ev_suc ?_; simp only [impl_ValidLeaf.j0]; exact Ev_t True.intro (Ev_n rfl)
 have sj1 : Ev (fun k => spec_l09One.j1 k [x] true) false := by
  refine Ev_suc ?_; simp only [spec_l09One.j1]; exact Ev_t True.intro (Ev_n rfl)
 simp only [spec_l09One.f, impl_ValidLeaf.f, r0]
 obtain ⟨n1, a1, a2⟩ := nameE_ev x.f0
 cases n1 with
 | false => exact ⟨false, Ev_t (by simp) (Ev_b a2 (Ev_f (by decide) sj)), Ev_b a1 (Ev_f (by decide) ij), fun h => by cases h⟩
 | true =>
 obtain ⟨n2, b1, b2⟩ := nameE_ev x.f1
 cases n2 with
 | false => exact ⟨false, Ev_t (by simp) (Ev_b a2 (Ev_t rfl (Ev_b b2 (Ev_f (by decide) sj)))), Ev_b a1 (Ev_t rfl (Ev_b b1 (Ev_f (by decide) ij))), fun h => by cases h⟩
 | true =>
 have n3 := in_f x.f2 0 999
 have n3' := within_f x.f2 0 999
 by_cases c3 : (decide ((0 : Int) ≤ x.f2) && decide (x.f2 ≤ 999)) = true
 case neg => exact ⟨false, Ev_t (by simp) (Ev_b a2 (Ev_t rfl (Ev_b b2 (Ev_t rfl (Ev_b (Ev_c n3) (Ev_f c3 sj)))))), Ev_b a1 (Ev_t rfl (Ev_b b1 (Ev_t rfl (Ev_b (Ev_c n3') (Ev_f c3 ij))))), fun h => by cases h⟩
 have v1 : Ev (fun k => spec_l07Ok.f k [x.f3]) (vVen x.f3.f0.toList x.f3.f1 x.f3.f2) := ⟨12, fun k hk => l07Ok_f x.f3 k hk⟩
 have v2 := iValidVeneer_f x.f3.f0 x.f3.f1 x.f3.f2
 by_cases c4 : vVen x.f3.f0.toList x.f3.f1 x.f3.f2 = true
 case neg =>
  have c4' : vVen x.f3.f0.toList x.f3.f1 x.f3.f2 = false := by simpa using c4
  rw [c4'] at v1 v2
  exact ⟨false, Ev_t (by simp) (Ev_b a2 (Ev_t rfl (Ev_b b2 (Ev_t rfl (Ev_b (Ev_c n3) (Ev_t c3 (Ev_b v1 sj))))))), Ev_b a1 (Ev_t rfl (Ev_b b1 (Ev_t rfl (Ev_b (Ev_c n3') (Ev_t c3 (Ev_b (Ev_c v2) ij)))))), fun h => by cases h⟩
 rw [c4] at v1 v2
 have w5 := in_f x.f4 10 20000
 have w5' := within_f x.f4 10 20000
 have w6 := in_f x.f5 10 20000
 have w6' := within_f x.f5 10 20000
 suffices hs : ∃ v, Ev (fun k => spec_l09One.j0 k [x] false) v ∧ Ev (fun k => impl_ValidLeaf.j0 k false x.f0 x.f1 x.f2 x.f3.f0 x.f3.f1 x.f3.f2 x.f4 x.f5 x.f6) v ∧ (v = true → (10 ≤ x.f4 ∧ x.f4 ≤ 20000) ∧ (10 ≤ x.f5 ∧ x.f5 ≤ 20000) ∧ x.f6.length ≤ 6 ∧ ∀ b ∈ x.f6, bOk b x.f4 x.f5) by
  obtain ⟨v, h1, h2, h3⟩ := hs
  refine ⟨v, Ev_t (by simp) (Ev_b a2 (Ev_t rfl (Ev_b b2 (Ev_t rfl (Ev_b (Ev_c n3) (Ev_t c3 (Ev_b v1 h1))))))), Ev_b a1 (Ev_t rfl (Ev_b b1 (Ev_t rfl (Ev_b (Ev_c n3') (Ev_t c3 (Ev_b (Ev_c v2) h2)))))), fun h => ?_⟩
  simp only [Bool.and_eq_true, decide_eq_true_eq] at c3
  exact ⟨c3, c4, h3 h⟩
 by_cases c5 : (decide ((10 : Int) ≤ x.f4) && decide (x.f4 ≤ 20000)) = true
 case neg =>
  refine ⟨false, Ev_suc ?_, Ev_suc ?_, fun h => by cases h⟩
  ·simp only [spec_l09One.j0, r0]; exact Ev_f (by decide) (Ev_t (by simp) (Ev_b (Ev_c w5) (Ev_f c5 sj1)))
  ·simp only [impl_ValidLeaf.j0]; exact Ev_f (by decide) (Ev_b (Ev_c w5') (Ev_f c5 (Ev_n rfl)))
 by_cases c6 : (decide ((10 : Int) ≤ x.f5) && decide (x.f5 ≤ 20000)) = true
 case neg =>
  refine ⟨false, Ev_suc ?_, Ev_suc ?_, fun h => by cases h⟩
  ·simp only [spec_l09One.j0, r0]; exact Ev_f (by decide) (Ev_t (by simp) (Ev_b (Ev_c w5) (Ev_t c5 (Ev_b (Ev_c w6) (Ev_f c6 sj1)))))
  ·simp only [impl_ValidLeaf.j0]; exact Ev_f (by decide) (Ev_b (Ev_c w5') (Ev_t c5 (Ev_b (Ev_c w6') (Ev_f c6 (Ev_n rfl)))))
 by_cases c7 : (x.f6.length : Int) > 6
 ·refine ⟨false, Ev_suc ?_, Ev_suc ?_, fun h => by cases h⟩
  ·simp only [spec_l09One.j0, r0]
   rw [decide_eq_true c7]
   exact Ev_f (by decide) (Ev_t (by simp) (Ev_b (Ev_c w5) (Ev_t c5 (Ev_b (Ev_c w6) (Ev_t c6 sj1)))))
  ·simp only [impl_ValidLeaf.j0]; exact Ev_f (by decide) (Ev_b (Ev_c w5') (Ev_t c5 (Ev_b (Ev_c w6') (Ev_t c6 (Ev_t c7 (Ev_n rfl))))))
 have e5 := c5
 have e6 := c6
 simp only [Bool.and_eq_true, decide_eq_true_eq] at e5 e6
 have go : ∀ (d i : Nat), i + d = x.f6.length → ∃ v r, Ev (fun k => spec_l09One.l0 k [x] i) v ∧ Ev (fun k => impl_Box_91.l0 k x.f6 (x.f6.length : Int) i [(⟨x.f0, x.f1, x.f2, ⟨x.f3.f0, x.f3.f1, x.f3.f2⟩, x.f4, x.f5, x.f6⟩ : Lf)]) r ∧ (!decide (r ≥ 0)) = v ∧ (v = true → ∀ b ∈ x.f6.drop i, bOk b x.f4 x.f5) := by
  intro d
  induction d with
  | zero =>
   intro i h
   refine ⟨true, -1, Ev_suc ?_, Ev_suc ?_, by decide, fun _ b hb => by rw [List.drop_eq_nil_of_le (by omega)] at hb; cases hb⟩
   ·simp only [spec_l09One.l0, r0]; exact Ev_t (by simp) (Ev_f (by omega) (Ev_n rfl))
   ·simp only [impl_Box_91.l0]; exact Ev_f (by omega) (Ev_n rfl)
  | succ d ih =>
   intro i h
   have hi : i < x.f6.length := by omega
   have hr : rd_T92 x.f6 (i : Int) = x.f6[i] := by unfold rd_T92; exact getD_in x.f6 _ i hi
   obtain ⟨u, u1, u2, u3⟩ := box_ev x.f6[i] x.f4 x.f5
   have cl : impl_ValidLeaf_1.f x.f6[i].f0 x.f6[i].f1 x.f6[i].f2 x.f6[i].f3 [(⟨x.f0, x.f1, x.f2, ⟨x.f3.f0, x.f3.f1, x.f3.f2⟩, x.f4, x.f5, x.f6⟩ : Lf)] = some (!u) := by
    unfold impl_ValidLeaf_1.f
    rw [if_pos (by simp)]
    have e : rd_T69 [(⟨x.f0, x.f1, x.f2, ⟨x.f3.f0, x.f3.f1, x.f3.f2⟩, x.f4, x.f5, x.f6⟩ : Lf)] 0 = x := rfl
    rw [e, u2]
    rfl
   cases u with
   | false =>
    refine ⟨false, i, Ev_suc ?_, Ev_suc ?_, by simp, fun h => by cases h⟩
    ·simp only [spec_l09One.l0, r0]
     rw [hr]
     exact Ev_t (by simp) (Ev_t (by omega) (Ev_t (by omega) (Ev_b (Ev_c u1) (Ev_f (by decide) (Ev_n rfl)))))
    ·simp only [impl_Box_91.l0]
     rw [hr]
     exact Ev_t (by omega) (Ev_t (by omega) (Ev_t (by omega) (Ev_b (Ev_c cl) (Ev_t rfl (Ev_n rfl)))))
   | true =>
    obtain ⟨v, r, g1, g2, g3, g4⟩ := ih (i + 1) (by omega)
    refine ⟨v, r, Ev_suc ?_, Ev_suc ?_, g3, fun hv b hb => ?_⟩
    ·simp only [spec_l09One.l0, r0]
     rw [hr, wr64s i (by omega)]
     exact Ev_t (by simp) (Ev_t (by omega) (Ev_t (by omega) (Ev_b (Ev_c u1) (Ev_t rfl g1))))
    ·simp only [impl_Box_91.l0]
     rw [hr, wr64s i (by omega)]
     exact Ev_t (by omega) (Ev_t (by omega) (Ev_t (by omega) (Ev_b (Ev_c cl) (Ev_f (by decide) g2))))
    ·rw [List.drop_eq_getElem_cons hi] at hb
     rcases List.mem_cons.1 hb with rfl | hb
     ·exact u3 rfl e5.1 e5.2 e6.1 e6.2
     ·exact g4 hv b hb
 obtain ⟨v, r, g1, g2, g3, g4⟩ := go x.f6.length 0 (by omega)
 refine ⟨v, Ev_suc ?_, Ev_suc ?_, fun hv => ⟨e5, e6, by omega, fun b hb => g4 hv b (by simpa using hb)⟩⟩
 ·simp only [spec_l09One.j0, r0]
  rw [decide_eq_false c7]
  refine Ev_f (by decide) (Ev_t (by simp) (Ev_b (Ev_c w5) (Ev_t c5 (Ev_b (Ev_c w6) (Ev_t c6 (Ev_suc ?_))))))
  simp only [spec_l09One.j1]
  exact Ev_f (by decide) g1
 ·simp only [impl_ValidLeaf.j0]
  refine Ev_f (by decide) (Ev_b (Ev_c w5') (Ev_t c5 (Ev_b (Ev_c w6') (Ev_t c6 (Ev_f c7 (Ev_b (a := decide (r ≥ 0)) ?_ (Ev_n g3)))))))
  simp only [impl_Box_73.f, impl_Box_91.f]
  exact Ev_b g2 (Ev_n rfl)
theorem leaves_ev (m : List Lf) (hl : (m.length : Int) ≤ 1048576) (hn : ∀ y ∈ m, (y.f6.length : Int) ≤ 1048576) : ∃ b, Ev (fun k => spec_l09Ok.f k m) b ∧ Ev (fun k => impl_ValidLeaves.f k m) b ∧ (b = true → m.length ≤ 16 ∧ ∀ y ∈ m, lOk y ∧ Ev (fun k => impl_ValidLeaf.f k y.f0 y.f1 y.f2 y.f3.f0 y.f3.f1 y.f3.f2 y.f4 y.f5 y.f6) true) := by
 have go : ∀ (d i : Nat), i + d = m.length → ∃ b, Ev (fun k => spec_l09Ok.l0 k m i) b ∧ Ev (fun k => impl_ValidLeaves.l0 k m m (m.length : Int) i) b ∧ (b = true → m.length ≤ 16 ∧ ∀ y ∈ m.drop i, lOk y ∧ Ev (fun k => impl_ValidLeaf.f k y.f0 y.f1 y.f2 y.f3.f0 y.f3.f1 y.f3.f2 y.f4 y.f5 y.f6) true) := by
  intro d
  induction d with
  | zero =>
   intro i h1
   refine ⟨decide ((m.length : Int) ≤ 16), Ev_suc ?_, Ev_suc ?_, fun h => ⟨by have := of_decide_eq_true h; omega, fun y hy => by rw [List.drop_eq_nil_of_le (by omega)] at hy; cases hy⟩⟩
   ·simp only [spec_l09Ok.l0]; exact Ev_f (by omega) (Ev_n rfl)
   ·simp only [impl_ValidLeaves.l0]; exact Ev_f (by omega) (Ev_n rfl)
  | succ d ih =>
   intro i h1
   have hi : i < m.length := by omega
   obtain ⟨v, v1, v2, v3⟩ := leaf_ev m[i] (hn _ (List.getElem_mem _))
   cases v with
   | false =>
    refine ⟨false, Ev_suc ?_, Ev_suc ?_, fun h => by cases h⟩
    ·simp only [spec_l09Ok.l0]
     refine Ev_t (by omega) (Ev_t (by omega) ?_)
     rw [rdi_Leaf m i hi]
     exact Ev_b v1 (Ev_f (by decide) (Ev_n rfl))
    ·simp only [impl_ValidLeaves.l0]
     refine Ev_t (by omega) (Ev_t (by omega) (Ev_t (by omega) ?_))
     rw [rdi_Leaf m i hi]
     exact Ev_b v2 (Ev_f (by decide) (Ev_n rfl))
   | true =>
    obtain ⟨b, b1, b2, b3⟩ := ih (i + 1) (by omega)
    have fin : b = true → m.length ≤ 16 ∧ ∀ y ∈ m.drop i, lOk y ∧ Ev (fun k => impl_ValidLeaf.f k y.f0 y.f1 y.f2 y.f3.f0 y.f3.f1 y.f3.f2 y.f4 y.f5 y.f6) true := fun h => by
     obtain ⟨h1, h2⟩ := b3 h
     refine ⟨h1, fun y hy => ?_⟩
     rw [List.drop_eq_getElem_cons hi] at hy
     rcases List.mem_cons.1 hy with rfl | hy
     ·exact ⟨v3 rfl, v2⟩
     ·exact h2 y hy
    by_cases h0 : i = 0
    rotate_left
    ·have e : wrap64 ((i : Int) - 1) = ((i - 1 : Nat) : Int) := by rw [wr64 (by omega) (by omega)]; omega
     by_cases hc : Op.bytesLess ((m[i - 1]'(by omega)).f0.toList) (m[i].f0.toList) = true
     rotate_left
     ·refine ⟨false, Ev_suc ?_, Ev_suc ?_, fun h => by cases h⟩
      ·simp only [spec_l09Ok.l0]
       refine Ev_t (by omega) (Ev_t (by omega) ?_)
       rw [e, rdi_Leaf m i hi, rdi_Leaf m (i - 1) (by omega), wr64s i (by omega)]
       exact Ev_b v1 (Ev_t rfl (Ev_t (by omega) (Ev_t (by omega) (Ev_t (by omega) (Ev_f hc (Ev_n rfl))))))
      ·simp only [impl_ValidLeaves.l0]
       refine Ev_t (by omega) (Ev_t (by omega) (Ev_t (by omega) ?_))
       rw [e, rdi_Leaf m i hi, rdi_Leaf m (i - 1) (by omega), wr64s i (by omega)]
       exact Ev_b v2 (Ev_t rfl (Ev_t (by omega) (Ev_t (by omega) (Ev_t (by omega) (Ev_f hc (Ev_n rfl))))))
     refine ⟨b, Ev_suc ?_, Ev_suc ?_, fin⟩
     ·simp only [spec_l09Ok.l0]
      refine Ev_t (by omega) (Ev_t (by omega) ?_)
      rw [e, rdi_Leaf m i hi, rdi_Leaf m (i - 1) (by omega), wr64s i (by omega)]
      exact Ev_b v1 (Ev_t rfl (Ev_t (by omega) (Ev_t (by omega) (Ev_t (by omega) (Ev_t hc b1)))))
     ·simp only [impl_ValidLeaves.l0]
      refine Ev_t (by omega) (Ev_t (by omega) (Ev_t (by omega) ?_))
      rw [e, rdi_Leaf m i hi, rdi_Leaf m (i - 1) (by omega), wr64s i (by omega)]
      exact Ev_b v2 (Ev_t rfl (Ev_t (by omega) (Ev_t (by omega) (Ev_t (by omega) (Ev_t hc b2)))))
    refine ⟨b, Ev_suc ?_, Ev_suc ?_, fin⟩
    ·simp only [spec_l09Ok.l0]
     refine Ev_t (by omega) (Ev_t (by omega) ?_)
     rw [rdi_Leaf m i hi, wr64s i (by omega)]
     exact Ev_b v1 (Ev_t rfl (Ev_f (by omega) b1))
    ·simp only [impl_ValidLeaves.l0]
     refine Ev_t (by omega) (Ev_t (by omega) (Ev_t (by omega) ?_))
     rw [rdi_Leaf m i hi, wr64s i (by omega)]
     exact Ev_b v2 (Ev_t rfl (Ev_f (by omega) b2))
 obtain ⟨b, b1, b2, b3⟩ := go m.length 0 (by omega)
 refine ⟨b, by simp only [spec_l09Ok.f]; exact b1, by simp only [impl_ValidLeaves.f]; exact b2, fun h => ?_⟩
 obtain ⟨c1, c2⟩ := b3 h
 exact ⟨c1, fun y hy => c2 y (by simpa using hy)⟩
end Go.Proofs.YtckboiphlhhckaaDoor.Q
namespace Go.Proofs.YtckboiphlhhckaaDoor.Q
open Go.RowKit Go.Proofs.YtckboiphlhhckaaDoorW.PrintWords Go.Proofs.YtckboiphlhhckaaDoorW.PrintLast Go.Proofs.YtckboiphlhhckaaDoorW.PrintMore
set_option linter.unusedVariables false
abbrev Bs (l : List UInt8) : ByteArray := ⟨l.toArray⟩
theorem Bs_app (a b : List UInt8) : Bs a ++ Bs b = Bs (a ++ b) := by
 apply ByteArray.ext
 simp
theorem Bs_size (l : List UInt8) : (Bs l).size = l.length := by simp [ByteArray.size]
def digs (u : Nat) : List Int := if h : u = 0 then [] else (48 + (u % 10 : Nat) : Int) :: digs (u / 10)
termination_by u
decreasing_by omega
theorem digs_zero : digs 0 = [] := by rw [digs, dif_pos rfl]
theorem digs_pos {u : Nat} (h : u ≠ 0) : digs u = (48 + (u % 10 : Nat) : Int) :: digs (u / 10) := by rw [digs, dif_neg h]
theorem digs_dec (u : Nat) (h : u ≠ 0) : (digs u).reverse.map (fun n => UInt8.ofNat n.toNat) = Go.Lib.decDigits u := by
 induction u using Nat.strongRecOn with
 | _ u ih =>
  rw [digs_pos h, Go.Lib.decDigits]
  by_cases h10 : u < 10
  rotate_left
  ·rw [dif_neg h10, List.reverse_cons, List.map_append, ih (u / 10) (by omega) (by omega)]
   simp only [List.map_cons, List.map_nil]
   rw [show (48 + ((u % 10 : Nat) : Int)).toNat = 48 + u % 10 by omega]
  rw [dif_pos h10, show u / 10 = 0 by omega, digs_zero, Nat.mod_eq_of_lt h10]
  simp only [List.reverse_cons, List.reverse_nil, List.nil_append, List.map_cons, List.map_nil]
  rw [show (48 + (u : Int)).toNat = 48 + u by omega]
def its (n : Int) : ByteArray := Bs (Go.Lib.itoa n)
theorem rev_ev (x3 : List Int) (hl : x3.length ≤ 1000) : ∀ (j : Nat) (x6 : List Int), j ≤ x3.length → x6.length + j ≤ 1000 → Ev (fun k => spec_l01Dec.l1 k x3 x6 ((j : Int) - 1)) (strOfNums (x6 ++ (x3.take j).reverse))
 | 0, x6, _, _ => by
  refine Ev_suc ?_
  simp only [spec_l01Dec.l1]
  exact Ev_f (by omega) (Ev_n (by simp))
 | j + 1, x6, h, h2 => by
  refine Ev_suc ?_
  simp only [spec_l01Dec.l1]
  have e : ((j + 1 : Nat) : Int) - 1 = (j : Int) := by omega
  rw [e]
  refine Ev_t (by omega) (Ev_t (by omega) (Ev_t (by omega) (Ev_t (by omega) ?_)))
  rw [wr64 (x := (j : Int) - 1) (by omega) (by omega)]
  have hr : rd x3 (j : Int) = x3[j] := by unfold rd; exact getD_in x3 _ j (by omega)
  have := rev_ev x3 hl j (x6 ++ [rd x3 (j : Int)]) (by omega) (by simp; omega)
  refine Ev_at this ?_
  rw [hr, List.take_succ_eq_append_getElem (by omega), List.reverse_append]
  simp
theorem dec_loop (n0 : Int) : ∀ (d u : Nat) (x3 : List Int) (m : Int), u < 10 ^ d → d ≤ 19 → x3.length + d ≤ 30 → m = (if n0 < 0 then -(u : Int) else (u : Int)) → Ev (fun k => spec_l01Dec.l0 k n0 x3 m) (strOfNums ((x3 ++ digs u ++ (if n0 < 0 then [45] else [])).reverse)) := by
 have fin : ∀ (x : List Int), x.length ≤ 100 → Ev (fun k => spec_l01Dec.j1 k x) (strOfNums x.reverse) := fun x hx => by
  refine Ev_suc ?_
  simp only [spec_l01Dec.j1]
  rw [wr64 (x := (x.length : Int) - 1) (by omega) (by omega)]
  have := rev_ev x (by omega) x.length [] (Nat.le_refl _) (by simp; omega)
  simpa using this
 have stop : ∀ (x3 : List Int), x3.length ≤ 50 → Ev (fun k => spec_l01Dec.l0 k n0 x3 0) (strOfNums ((x3 ++ (if n0 < 0 then [45] else [])).reverse)) := fun x3 h => by
  refine Ev_suc ?_
  simp only [spec_l01Dec.l0]
  refine Ev_t (by simp) ?_
  by_cases c : n0 < 0
  rotate_left
  ·rw [if_neg c, List.append_nil]
   exact Ev_f c (fin _ (by omega))
  rw [if_pos c]
  exact Ev_t c (Ev_t (by omega) (fin _ (by simp; omega)))
 intro d
 induction d with
 | zero =>
  intro u x3 m hu hd hl hm
  have : u = 0 := by simpa using hu
  subst this
  have hm0 : m = 0 := by rw [hm]; split <;> rfl
  subst hm0
  rw [digs_zero, List.append_nil]
  exact stop x3 (by omega)
 | succ d ih =>
  intro u x3 m hu hd hl hm
  by_cases h0 : u = 0
  rotate_left
  ·have hu2 : u / 10 < 10 ^ d := by rw [Nat.pow_succ] at hu; omega
   have hbig : u < 10000000000000000000 := Nat.lt_of_lt_of_le hu (Nat.le_trans (Nat.pow_le_pow_right (by decide) hd) (by decide))
   refine Ev_suc ?_
   simp only [spec_l01Dec.l0]
   have step := ih (u / 10) (x3 ++ [48 + ((u % 10 : Nat) : Int)]) (if n0 < 0 then -((u / 10 : Nat) : Int) else ((u / 10 : Nat) : Int)) hu2 (by omega) (by simp; omega) rfl
   rw [List.append_assoc x3, List.singleton_append, ← digs_pos h0] at step
   by_cases c : n0 < 0
   rotate_left
   ·rw [if_neg c] at hm step
    subst hm
    have e1 : Int.tmod (u : Int) 10 = ((u % 10 : Nat) : Int) := by rw [Int.tmod_eq_emod_of_nonneg (by omega)]; omega
    have e2 : Int.tdiv (u : Int) 10 = ((u / 10 : Nat) : Int) := by rw [Int.tdiv_eq_ediv_of_nonneg (by omega)]; omega
    refine Ev_f (by omega) ?_
    rw [e1, e2, wr64 (x := ((u / 10 : Nat) : Int)) (by omega) (by omega)]
    refine Ev_f (by omega) (Ev_t (by omega) ?_)
    rw [wr64 (x := 48 + ((u % 10 : Nat) : Int)) (by omega) (by omega), show (48 + ((u % 10 : Nat) : Int)) % 256 = 48 + ((u % 10 : Nat) : Int) by omega]
    exact step
   rw [if_pos c] at hm step
   subst hm
   have e1 : Int.tmod (-(u : Int)) 10 = -((u % 10 : Nat) : Int) := by rw [Int.neg_tmod, Int.tmod_eq_emod_of_nonneg (by omega)]; omega
   have e2 : Int.tdiv (-(u : Int)) 10 = -((u / 10 : Nat) : Int) := by rw [Int.neg_tdiv, Int.tdiv_eq_ediv_of_nonneg (by omega)]; omega
   refine Ev_f (by omega) ?_
   rw [e1, e2, wr64 (x := -((u / 10 : Nat) : Int)) (by omega) (by omega)]
   by_cases cz : u % 10 = 0
   rotate_left
   ·refine Ev_t (by omega) (Ev_t (by omega) ?_)
    rw [wr64 (x := - -((u % 10 : Nat) : Int)) (by omega) (by omega), wr64 (x := 48 + - -((u % 10 : Nat) : Int)) (by omega) (by omega), show (48 + - -((u % 10 : Nat) : Int)) % 256 = 48 + ((u % 10 : Nat) : Int) by omega]
    exact step
   refine Ev_f (by omega) (Ev_t (by omega) ?_)
   rw [wr64 (x := 48 + -((u % 10 : Nat) : Int)) (by omega) (by omega), show (48 + -((u % 10 : Nat) : Int)) % 256 = 48 + ((u % 10 : Nat) : Int) by omega]
   exact step
  subst h0
  have hm0 : m = 0 := by rw [hm]; split <;> rfl
  subst hm0
  rw [digs_zero, List.append_nil]
  exact stop x3 (by omega)
theorem dec_ev (n : Int) (h0 : -9223372036854775808 ≤ n) (h1 : n ≤ 9223372036854775807) : Ev (fun k => spec_l01Dec.f k n) (its n) := by
 simp only [spec_l01Dec.f]
 by_cases c : n = 0
 rotate_left
 ·refine Ev_f c ?_
  have := dec_loop n 19 n.natAbs [] n (by rw [show (10 : Nat) ^ 19 = 10000000000000000000 by decide]; omega) (by omega) (by simp) (by split <;> omega)
  refine Ev_at this ?_
  rw [List.nil_append, List.reverse_append]
  have hd := digs_dec n.natAbs (by omega)
  unfold its Go.Lib.itoa strOfNums Bs
  by_cases cn : n < 0
  rotate_left
  ·rw [if_neg cn, if_neg cn, List.map_append, hd, show n.toNat = n.natAbs by omega]; rfl
  rw [if_pos cn, if_pos cn, List.map_append, hd]; rfl
 subst c
 refine Ev_t rfl (Ev_n ?_)
 unfold its Go.Lib.itoa
 rw [if_neg (by decide), Go.Lib.decDigits, dif_pos (by decide)]
 rfl
theorem Decimal_f (n : Int) (h0 : -9223372036854775808 ≤ n) (h1 : n ≤ 9223372036854775807) : impl_Decimal.f n = some (its n) := by
 unfold impl_Decimal.f strconv_FormatInt_44.f
 rw [if_pos ⟨rfl, h0, h1⟩]
 rfl
end Go.Proofs.YtckboiphlhhckaaDoor.Q
namespace Go.Proofs.YtckboiphlhhckaaDoor.Q
open Go.RowKit Go.Proofs.YtckboiphlhhckaaDoorW.PrintWords Go.Proofs.YtckboiphlhhckaaDoorW.PrintLast Go.Proofs.YtckboiphlhhckaaDoorW.PrintMore
set_option linter.unusedVariables false
def icat : List (List UInt8) → List UInt8
 | [] => []
 | [x] => x
 | x :: y :: r => x ++ 44 :: icat (y :: r)
theorem icat_eq : ∀ xs, Go.Lib.join xs [44] = icat xs
 | [] => rfl
 | [x] => by simp [Go.Lib.join, icat, List.intercalate]
 | x :: y :: r => by
  have := icat_eq (y :: r)
  rw [icat, ← this]
  simp [Go.Lib.join, List.intercalate]
theorem icat_snoc (z : List UInt8) : ∀ xs, xs ≠ [] → icat (xs ++ [z]) = icat xs ++ 44 :: z
 | [], h => absurd rfl h
 | [x], _ => rfl
 | x :: y :: r, _ => by
  have := icat_snoc z (y :: r) (by simp)
  rw [List.cons_append, List.cons_append, icat, ← List.cons_append, this, icat]
  simp
theorem icat_len (n : Nat) : ∀ xs : List (List UInt8), (∀ x ∈ xs, x.length ≤ n) → (icat xs).length ≤ xs.length * (n + 1)
 | [], _ => by simp [icat]
 | [x], h => by
  have := h x (by simp)
  simp only [icat, List.length_cons, List.length_nil]
  omega
 | x :: y :: r, h => by
  have h1 := h x (by simp)
  have h2 := icat_len n (y :: r) (fun z hz => h z (List.mem_cons_of_mem _ hz))
  simp only [icat, List.length_append, List.length_cons] at h2 ⊢
  rw [Nat.add_mul (r.length + 1) 1]
  omega
def nmOk (x : Int) : Prop := -1000000000000 ≤ x ∧ x ≤ 1000000000000
def itl (l : List Int) : List (List UInt8) := l.map Go.Lib.itoa
def LT_ (l : List Int) : ByteArray := if l = [] then Bs [45] else Bs (icat (itl l))
theorem itoa_short (n : Int) (h : nmOk n) : (Go.Lib.itoa n).length ≤ 21 := Go.Lib.itoa_length_le n (by unfold nmOk at h; omega) (by unfold nmOk at h; omega)
theorem itl_len (l : List Int) (hl : l.length ≤ 64) (hb : ∀ x ∈ l, nmOk x) : (icat (itl l)).length ≤ 1408 := by
 have := icat_len 21 (itl l) (fun x hx => by
  obtain ⟨n, hn, rfl⟩ := List.mem_map.1 hx
  exact itoa_short n (hb n hn))
 have e : (itl l).length = l.length := by simp [itl]
 rw [e] at this
 omega
theorem its_size (n : Int) (h : nmOk n) : (its n).size ≤ 21 := by
 unfold its
 rw [Bs_size]
 exact itoa_short n h
theorem rdi_in (l : List Int) (i : Nat) (h : i < l.length) : rd l (i : Int) = l[i] := by unfold rd; exact getD_in l _ i h
theorem list_spec (l : List Int) (hl : l.length ≤ 64) (hb : ∀ x ∈ l, nmOk x) : Ev (fun k => spec_l01List.f k l) (LT_ l) := by
 simp only [spec_l01List.f]
 by_cases h0 : l = []
 ·subst h0
  exact Ev_t (by simp) (Ev_n rfl)
 have hn0 : l.length ≠ 0 := fun h => h0 (List.eq_nil_of_length_eq_zero h)
 refine Ev_f (by omega) ?_
 have go : ∀ (d i : Nat), i + d = l.length → Ev (fun k => spec_l01List.l0 k l (Bs (icat (itl (l.take i)))) i) (LT_ l) := by
  intro d
  induction d with
  | zero =>
   intro i h
   refine Ev_suc ?_
   simp only [spec_l01List.l0]
   refine Ev_f (by omega) (Ev_n ?_)
   unfold LT_
   rw [if_neg h0, List.take_of_length_le (by omega)]
  | succ d ih =>
   intro i h
   have hx := hb l[i] (List.getElem_mem _)
   have hx2 := hx
   unfold nmOk at hx2
   have hs := its_size l[i] hx
   have hlen := itl_len (l.take i) (by simp; omega) (fun x hx => hb x (List.mem_of_mem_take hx))
   have hd := dec_ev l[i] (by omega) (by omega)
   have e1 : itl (l.take (i + 1)) = itl (l.take i) ++ [Go.Lib.itoa l[i]] := by
    unfold itl
    rw [List.take_succ_eq_append_getElem (by omega), List.map_append]
    rfl
   refine Ev_suc ?_
   simp only [spec_l01List.l0]
   rw [rdi_in l i (by omega)]
   refine Ev_t (by omega) ?_
   rw [wr64s i (by omega)]
   have nxt := ih (i + 1) (by omega)
   by_cases hi : i = 0
   rotate_left
   ·refine Ev_t (by omega) (Ev_t (by rw [Bs_size]; omega) (Ev_t (by omega) (Ev_b hd (Ev_t (by rw [Bs_size]; omega) ?_))))
    rw [e1, icat_snoc _ _ (by unfold itl; intro hc; have := congrArg List.length hc; rw [List.length_map, List.length_take, List.length_nil] at this; omega)] at nxt
    have e2 : Bs (icat (itl (l.take i))) ++ (⟨#[44]⟩ : ByteArray) ++ its l[i] = Bs (icat (itl (l.take i)) ++ 44 :: Go.Lib.itoa l[i]) := by
     unfold its
     rw [show (⟨#[44]⟩ : ByteArray) = Bs [44] from rfl, Bs_app, Bs_app, List.append_assoc, List.singleton_append]
    rw [e2]
    exact nxt
   subst hi
   refine Ev_f (by omega) (Ev_t (by omega) (Ev_b hd (Ev_t (by rw [Bs_size]; omega) ?_)))
   rw [e1] at nxt
   have e2 : Bs (icat (itl (l.take 0))) ++ its l[0] = Bs (icat (itl (l.take 0) ++ [Go.Lib.itoa l[0]])) := by
    unfold its
    rw [Bs_app]
    simp [itl, icat]
   rw [e2]
   exact nxt
 exact go l.length 0 (by omega)
theorem okW (x : Int) (h : nmOk x) : impl_within.f x (-1000000000000) 1000000000000 = some true := by
 unfold nmOk at h
 rw [within_f]
 simp [h.1, h.2]
theorem list_impl (l : List Int) (hl : l.length ≤ 64) (hb : ∀ x ∈ l, nmOk x) : Ev (fun k => impl_ListText.f k l) (LT_ l) := by
 simp only [impl_ListText.f]
 refine Ev_f (by omega) ?_
 have fin : Ev (fun k => impl_ListText.l1 k [] l (l.length : Int) 0) (Bs (icat (itl l))) := by
  have go : ∀ (d i : Nat), i + d = l.length → Ev (fun k => impl_ListText.l1 k ((l.take i).map its) l (l.length : Int) i) (Bs (icat (itl l))) := by
   intro d
   induction d with
   | zero =>
    intro i h
    refine Ev_suc ?_
    simp only [impl_ListText.l1]
    refine Ev_f (by omega) (Ev_b (Ev_c ?_) (Ev_n rfl))
    unfold strings_Join.f
    rw [List.take_of_length_le (by omega)]
    have e : (l.map its).map (fun x : ByteArray => x.data.toList) = itl l := by
     unfold itl
     rw [List.map_map]
     apply List.map_congr_left
     intro x _
     simp [its]
    have e2 : (⟨#[44]⟩ : ByteArray).data.toList = [44] := rfl
    rw [e, e2, icat_eq]
    have := itl_len l hl hb
    rw [if_pos ⟨by simp; omega, by omega⟩]
   | succ d ih =>
    intro i h
    have hx := hb l[i] (List.getElem_mem _)
    have hx2 := hx
    unfold nmOk at hx2
    refine Ev_suc ?_
    simp only [impl_ListText.l1]
    rw [rdi_in l i (by omega)]
    refine Ev_t (by omega) (Ev_t (by omega) (Ev_t (by omega) (Ev_b (Ev_c (Decimal_f l[i] (by omega) (by omega))) (Ev_t (by simp; omega) ?_))))
    rw [wr64s i (by omega)]
    have := ih (i + 1) (by omega)
    rw [List.take_succ_eq_append_getElem (by omega), List.map_append] at this
    exact this
  exact go l.length 0 (by omega)
 have go : ∀ (d i : Nat), i + d = l.length → Ev (fun k => impl_ListText.l0 k l l (l.length : Int) i) (LT_ l) := by
  intro d
  induction d with
  | zero =>
   intro i h
   refine Ev_suc ?_
   simp only [impl_ListText.l0]
   refine Ev_f (by omega) ?_
   unfold LT_
   by_cases h0 : l = []
   rotate_left
   ·have hn0 : l.length ≠ 0 := fun h => h0 (List.eq_nil_of_length_eq_zero h)
    rw [if_neg h0]
    exact Ev_f (by omega) fin
   subst h0
   rw [if_pos rfl]
   exact Ev_t (by simp) (Ev_n rfl)
  | succ d ih =>
   intro i h
   refine Ev_suc ?_
   simp only [impl_ListText.l0]
   rw [rdi_in l i (by omega)]
   refine Ev_t (by omega) (Ev_t (by omega) (Ev_t (by omega) (Ev_b (Ev_c (okW _ (hb l[i] (List.getElem_mem _)))) (Ev_t rfl ?_))))
   rw [wr64s i (by omega)]
   exact ih (i + 1) (by omega)
 exact go l.length 0 (by omega)
end Go.Proofs.YtckboiphlhhckaaDoor.Q
namespace Go.Proofs.YtckboiphlhhckaaDoor.Q
open Go.RowKit Go.Proofs.YtckboiphlhhckaaDoorW.PrintWords Go.Proofs.YtckboiphlhhckaaDoorW.PrintLast Go.Proofs.YtckboiphlhhckaaDoorW.PrintMore
set_option linter.unusedVariables false
abbrev sl_ : ByteArray := ⟨#[47]⟩
def jn (a : ByteArray) (L : List ByteArray) : ByteArray := L.foldl (fun c x => c ++ (sl_ ++ x)) a
def jl (a : List UInt8) (L : List (List UInt8)) : List UInt8 := L.foldl (fun c x => c ++ 47 :: x) a
theorem jl_pre (p : List UInt8) : ∀ (L : List (List UInt8)) (q : List UInt8), jl (p ++ q) L = p ++ jl q L
 | [], _ => rfl
 | x :: L, q => by
  have := jl_pre p L (q ++ 47 :: x)
  unfold jl at this ⊢
  rw [List.foldl_cons, List.foldl_cons, List.append_assoc]
  exact this
theorem join_jl : ∀ (L : List (List UInt8)) (a : List UInt8), Go.Lib.join (a :: L) [47] = jl a L
 | [], a => by simp [Go.Lib.join, jl, List.intercalate]
 | b :: L, a => by
  have h := join_jl L b
  have e : Go.Lib.join (a :: b :: L) [47] = a ++ 47 :: Go.Lib.join (b :: L) [47] := by simp [Go.Lib.join, List.intercalate]
  rw [e, h]
  have := jl_pre (a ++ [47]) L b
  rw [List.append_assoc, List.append_assoc] at this
  simp only [List.singleton_append] at this
  unfold jl at this ⊢
  rw [List.foldl_cons]
  exact this.symm
theorem jn_data : ∀ (L : List ByteArray) (a : ByteArray), (jn a L).data.toList = jl a.data.toList (L.map (·.data.toList))
 | [], _ => rfl
 | x :: L, a => by
  have := jn_data L (a ++ (sl_ ++ x))
  unfold jn jl at this ⊢
  rw [List.foldl_cons, List.map_cons, List.foldl_cons, this]
  first | done | (congr 1; simp [sl_]; done) | congr 1
theorem jn_size (n : Nat) : ∀ (L : List ByteArray) (a : ByteArray), (∀ x ∈ L, x.size ≤ n) → (jn a L).size ≤ a.size + L.length * (n + 1)
 | [], a, _ => by simp [jn]
 | x :: L, a, h => by
  have h1 := h x (List.mem_cons_self ..)
  have ih := jn_size n L (a ++ (sl_ ++ x)) (fun y hy => h y (List.mem_cons_of_mem _ hy))
  unfold jn at ih ⊢
  rw [List.foldl_cons]
  have e : (a ++ (sl_ ++ x)).size = a.size + (1 + x.size) := by rw [ByteArray.size_append, ByteArray.size_append]; rfl
  rw [e] at ih
  rw [List.length_cons, Nat.add_mul, Nat.one_mul]
  omega
theorem jn_app (a : ByteArray) (L M : List ByteArray) : jn a (L ++ M) = jn (jn a L) M := by unfold jn; rw [List.foldl_append]
theorem join_f (a : ByteArray) (L : List ByteArray) (n : Nat) (hn : n ≤ 2000000) (ha : a.size ≤ n) (hL : L.length ≤ 1000) (hx : ∀ x ∈ L, x.size ≤ n) : strings_Join.f (a :: L) sl_ = some (jn a L) := by
 have h1 := jn_size n L a hx
 have h2 : (jn a L).size ≤ 140737488355328 := by
  have : L.length * (n + 1) ≤ 1000 * 2000001 := Nat.mul_le_mul hL (by omega)
  omega
 have e : Go.Lib.join ((a :: L).map (·.data.toList)) sl_.data.toList = (jn a L).data.toList := by
  rw [List.map_cons, show sl_.data.toList = [47] from rfl, join_jl, jn_data]
 unfold strings_Join.f
 rw [e]
 have hs : (jn a L).data.toList.length = (jn a L).size := Array.length_toList
 rw [if_pos ⟨by simp only [List.length_cons]; omega, by omega⟩]
def vT (x : Lf) : ByteArray := (((x.f3.f0 ++ (⟨#[32]⟩ : ByteArray)) ++ its x.f3.f1) ++ (⟨#[32]⟩ : ByteArray)) ++ its x.f3.f2
def sT (x : Lf) : ByteArray := (its x.f4 ++ (⟨#[120]⟩ : ByteArray)) ++ its x.f5
def bL (b : Bx) : List Int := [b.f0, b.f1, b.f2, b.f3]
def bT (b : Bx) : ByteArray := LT_ (bL b)
def lT (x : Lf) : ByteArray := jn x.f0 ([x.f1, its x.f2, vT x, sT x] ++ x.f6.map bT)
theorem vVen_range (l : List UInt8) (s g : Int) (h : vVen l s g = true) : (0 ≤ s ∧ s ≤ 100) ∧ 0 ≤ g ∧ g ≤ 179 := by
 unfold vVen at h
 simp only [Bool.and_eq_true, decide_eq_true_eq] at h
 omega
theorem nm_small (n : Int) (h0 : -1000000 ≤ n) (h1 : n ≤ 1000000) : nmOk n := by unfold nmOk; omega
set_option maxRecDepth 20000 in
theorem text_ev (x : Lf) (h : lOk x) (z0 : x.f0.size ≤ 1048576) (z1 : x.f1.size ≤ 1048576) (z2 : x.f3.f0.size ≤ 1048576) (hv : Ev (fun k => impl_ValidLeaf.f k x.f0 x.f1 x.f2 x.f3.f0 x.f3.f1 x.f3.f2 x.f4 x.f5 x.f6) true) :
  Ev (fun k => spec_l09Text.f k [x]) (lT x) ∧ Ev (fun k => impl_LeafText.f k x.f0 x.f1 x.f2 x.f3.f0 x.f3.f1 x.f3.f2 x.f4 x.f5 x.f6) (lT x) := by
 obtain ⟨n2, vv, n4, n5, l6, hb⟩ := h
 obtain ⟨sr, gr⟩ := vVen_range _ _ _ vv
 have r0 : rd_T69 [x] 0 = x := rfl
 have r1 : rd_T66 [x.f3] 0 = x.f3 := rfl
 have s2 := its_size x.f2 (nm_small _ (by omega) (by omega))
 have s31 := its_size x.f3.f1 (nm_small _ (by omega) (by omega))
 have s32 := its_size x.f3.f2 (nm_small _ (by omega) (by omega))
 have s4 := its_size x.f4 (nm_small _ (by omega) (by omega))
 have s5 := its_size x.f5 (nm_small _ (by omega) (by omega))
 have d2 := dec_ev x.f2 (by omega) (by omega)
 have d31 := dec_ev x.f3.f1 (by omega) (by omega)
 have d32 := dec_ev x.f3.f2 (by omega) (by omega)
 have d4 := dec_ev x.f4 (by omega) (by omega)
 have d5 := dec_ev x.f5 (by omega) (by omega)
 have i2 := Decimal_f x.f2 (by omega) (by omega)
 have i31 := Decimal_f x.f3.f1 (by omega) (by omega)
 have i32 := Decimal_f x.f3.f2 (by omega) (by omega)
 have i4 := Decimal_f x.f4 (by omega) (by omega)
 have i5 := Decimal_f x.f5 (by omega) (by omega)
 have q1 : (⟨#[32]⟩ : ByteArray).size = 1 := rfl
 have q2 : (⟨#[120]⟩ : ByteArray).size = 1 := rfl
 have q3 : sl_.size = 1 := rfl
 have vsz : (vT x).size ≤ 1048700 := by unfold vT; simp only [ByteArray.size_append]; omega
 have ssz : (sT x).size ≤ 100 := by unfold sT; simp only [ByteArray.size_append]; omega
 have tv : Ev (fun k => spec_l07Text.f k [x.f3]) (vT x) := by
  simp only [spec_l07Text.f, r1]
  exact Ev_t (by simp) (Ev_t (by omega) (Ev_b d31 (Ev_t (by omega) (Ev_t (by omega) (Ev_b d32 (Ev_t (by omega) (Ev_n rfl)))))))
 have iv : impl_VeneerText.f x.f3.f0 x.f3.f1 x.f3.f2 = some (vT x) := by
  unfold impl_VeneerText.f
  rw [iValidVeneer_f, vv, Option.bind_some, if_pos rfl, if_pos (by omega), i31, Option.bind_some, if_pos (by omega), if_pos (by omega), i32, Option.bind_some, if_pos (by omega)]
  rfl
 have hbn : ∀ b ∈ x.f6, ∀ n ∈ bL b, nmOk n := by
  intro b hb' n hn
  have := hb b hb'
  unfold bOk at this
  unfold bL at hn
  simp only [List.mem_cons, List.not_mem_nil, or_false] at hn
  rcases hn with rfl | rfl | rfl | rfl <;> exact nm_small _ (by omega) (by omega)
 have bsz : ∀ b ∈ x.f6, (bT b).size ≤ 1408 := by
  intro b hb'
  unfold bT LT_
  split
  ·rw [Bs_size]; simp
  ·rw [Bs_size]; exact itl_len (bL b) (by simp [bL]) (hbn b hb')
 have hr : ∀ i (hi : i < x.f6.length), rd_T92 x.f6 (i : Int) = x.f6[i] := fun i hi => by unfold rd_T92; exact getD_in x.f6 _ i hi
 constructor
 ·simp only [spec_l09Text.f, r0]
  have T0 : ((((((((((x.f0 ++ (⟨#[47]⟩ : ByteArray)) ++ x.f1) ++ (⟨#[47]⟩ : ByteArray)) ++ its x.f2) ++ (⟨#[47]⟩ : ByteArray)) ++ vT x) ++ (⟨#[47]⟩ : ByteArray)) ++ its x.f4) ++ (⟨#[120]⟩ : ByteArray)) ++ its x.f5) = jn x.f0 [x.f1, its x.f2, vT x, sT x] := by
   simp only [jn, List.foldl_cons, List.foldl_nil, sT, ByteArray.append_assoc]
  have go : ∀ (d i : Nat), i + d = x.f6.length → Ev (fun k => spec_l09Text.l0 k [x] (jn x.f0 ([x.f1, its x.f2, vT x, sT x] ++ (x.f6.take i).map bT)) i) (lT x) := by
   intro d
   induction d with
   | zero =>
    intro i h
    refine Ev_suc ?_
    simp only [spec_l09Text.l0, r0]
    exact Ev_t (by simp) (Ev_f (by omega) (Ev_n (by rw [List.take_of_length_le (by omega)]; rfl)))
   | succ d ih =>
    intro i h
    have hi : i < x.f6.length := by omega
    have hm := List.getElem_mem hi
    have t1 := list_spec (bL x.f6[i]) (by simp [bL]) (hbn _ hm)
    have sz := bsz _ hm
    have acc := jn_size 1048700 ([x.f1, its x.f2, vT x, sT x] ++ (x.f6.take i).map bT) x.f0 (by
     intro y hy
     rcases List.mem_append.1 hy with hy | hy
     ·simp only [List.mem_cons, List.not_mem_nil, or_false] at hy
      rcases hy with rfl | rfl | rfl | rfl <;> omega
     ·obtain ⟨b, hb', rfl⟩ := List.mem_map.1 hy
      have := bsz b (List.mem_of_mem_take hb'); omega)
    have al : ([x.f1, its x.f2, vT x, sT x] ++ (x.f6.take i).map bT).length ≤ 10 := by simp; omega
    have am : ([x.f1, its x.f2, vT x, sT x] ++ (x.f6.take i).map bT).length * (1048700 + 1) ≤ 10 * 1048701 := Nat.mul_le_mul al (Nat.le_refl _)
    refine Ev_suc ?_
    simp only [spec_l09Text.l0, r0]
    rw [hr i hi, wr64s i (by omega)]
    have nx := ih (i + 1) (by omega)
    rw [List.take_succ_eq_append_getElem hi, List.map_append, ← List.append_assoc, jn_app] at nx
    refine Ev_t (by simp) (Ev_t (by omega) (Ev_t (by omega) (Ev_b t1 (Ev_t (by unfold bT at sz; omega) (Ev_t (by unfold bT at sz; omega) nx)))))
  have g0 := go x.f6.length 0 (by omega)
  rw [List.take_zero, List.map_nil, List.append_nil, ← T0] at g0
  exact Ev_t (by simp) (Ev_t (by omega) (Ev_t (by omega) (Ev_t (by omega) (Ev_b d2 (Ev_t (by omega) (Ev_t (by omega) (Ev_b tv (Ev_t (by omega) (Ev_t (by omega) (Ev_b d4 (Ev_t (by omega) (Ev_t (by omega) (Ev_b d5 (Ev_t (by omega) g0))))))))))))))
 ·simp only [impl_LeafText.f]
  have go : ∀ (d i : Nat), i + d = x.f6.length → Ev (fun k => impl_LeafText.l0 k (x.f0 :: ([x.f1, its x.f2, vT x, sT x] ++ (x.f6.take i).map bT)) x.f6 (x.f6.length : Int) i) (lT x) := by
   intro d
   induction d with
   | zero =>
    intro i h
    refine Ev_suc ?_
    simp only [impl_LeafText.l0]
    refine Ev_f (by omega) (Ev_b (Ev_c (join_f x.f0 _ 1048700 (by omega) (by omega) (by simp; omega) ?_)) (Ev_n (by rw [List.take_of_length_le (by omega)]; rfl)))
    intro y hy
    rcases List.mem_append.1 hy with hy | hy
    ·simp only [List.mem_cons, List.not_mem_nil, or_false] at hy
     rcases hy with rfl | rfl | rfl | rfl <;> omega
    ·obtain ⟨b, hb', rfl⟩ := List.mem_map.1 hy
     have := bsz b (List.mem_of_mem_take hb'); omega
   | succ d ih =>
    intro i h
    have hi : i < x.f6.length := by omega
    have hm := List.getElem_mem hi
    have t1 := list_impl (bL x.f6[i]) (by simp [bL]) (hbn _ hm)
    have t2 : Ev (fun k => impl_boxText.f k x.f6[i].f0 x.f6[i].f1 x.f6[i].f2 x.f6[i].f3) (bT x.f6[i]) := by
     simp only [impl_boxText.f]
     exact Ev_b t1 (Ev_n rfl)
    refine Ev_suc ?_
    simp only [impl_LeafText.l0]
    rw [hr i hi, wr64s i (by omega)]
    have nx := ih (i + 1) (by omega)
    rw [List.take_succ_eq_append_getElem hi, List.map_append, ← List.append_assoc, ← List.cons_append] at nx
    exact Ev_t (by omega) (Ev_t (by omega) (Ev_t (by omega) (Ev_b t2 (Ev_t (by simp; omega) nx))))
  have g0 := go x.f6.length 0 (by omega)
  rw [List.take_zero, List.map_nil, List.append_nil] at g0
  exact Ev_b hv (Ev_t rfl (Ev_b (Ev_c i2) (Ev_b (Ev_c iv) (Ev_b (Ev_c i4) (Ev_t (by omega) (Ev_b (Ev_c i5) (Ev_t (by omega) g0)))))))
def toB (x : Lf) : S45 := ⟨(⟨#[108, 101, 97, 102]⟩ : ByteArray), x.f0, lT x⟩
theorem blocks_ev (m : List Lf) (hl : (m.length : Int) ≤ 1048576) (hn : ∀ y ∈ m, (y.f6.length : Int) ≤ 1048576 ∧ y.f0.size ≤ 1048576 ∧ y.f1.size ≤ 1048576 ∧ y.f3.f0.size ≤ 1048576) : ∃ (r0 : List S45) (r1 : Int), (r0.length : Int) ≤ 16 ∧ Ev (fun k => spec_BlocksOfLeaves.f k m) (r0, r1) ∧ Ev (fun k => impl_BlocksOfLeaves.f k m) (r0, r1) := by
 obtain ⟨ok, e1, e2, hok⟩ := leaves_ev m hl (fun y hy => (hn y hy).1)
 simp only [spec_BlocksOfLeaves.f, impl_BlocksOfLeaves.f]
 cases ok with
 | false => exact ⟨[], 1, by simp, Ev_b e1 (Ev_f (by decide) (Ev_n rfl)), Ev_b e2 (Ev_f (by decide) (Ev_n rfl))⟩
 | true =>
  obtain ⟨h16, hy⟩ := hok rfl
  have go : ∀ (d i : Nat), i + d = m.length → Ev (fun k => spec_BlocksOfLeaves.l0 k m ((m.take i).map toB) i) (m.map toB, 0) ∧ Ev (fun k => impl_BlocksOfLeaves.l0 k ((m.take i).map toB) m (m.length : Int) i) (m.map toB, 0) := by
   intro d
   induction d with
   | zero =>
    intro i h
    constructor
    ·refine Ev_suc ?_
     simp only [spec_BlocksOfLeaves.l0]
     exact Ev_f (by omega) (Ev_n (by rw [List.take_of_length_le (by omega)]))
    ·refine Ev_suc ?_
     simp only [impl_BlocksOfLeaves.l0]
     exact Ev_f (by omega) (Ev_n (by rw [List.take_of_length_le (by omega)]))
   | succ d ih =>
    intro i h
    have hi : i < m.length := by omega
    have hm := List.getElem_mem hi
    obtain ⟨_, z0, z1, z2⟩ := hn _ hm
    obtain ⟨lo, lv⟩ := hy _ hm
    obtain ⟨t1, t2⟩ := text_ev m[i] lo z0 z1 z2 lv
    obtain ⟨g1, g2⟩ := ih (i + 1) (by omega)
    rw [List.take_succ_eq_append_getElem hi, List.map_append] at g1 g2
    constructor
    ·refine Ev_suc ?_
     simp only [spec_BlocksOfLeaves.l0]
     rw [rdi_Leaf m i hi, wr64s i (by omega)]
     exact Ev_t (by omega) (Ev_t (by omega) (Ev_b t1 (Ev_t (by simp; omega) g1)))
    ·refine Ev_suc ?_
     simp only [impl_BlocksOfLeaves.l0]
     rw [rdi_Leaf m i hi, wr64s i (by omega)]
     exact Ev_t (by omega) (Ev_t (by omega) (Ev_t (by omega) (Ev_b t2 (Ev_t (by simp; omega) g2))))
  obtain ⟨g1, g2⟩ := go m.length 0 (by omega)
  exact ⟨m.map toB, 0, by simp; omega, Ev_b e1 (Ev_t rfl g1), Ev_b e2 (Ev_t rfl g2)⟩
theorem mkBox_ev (l : List Bx) (c : Int) (h0 : 0 ≤ c) (h1 : c ≤ 1000000000000000) (hl : (l.length : Int) ≤ 1048576) : ∃ l', Ev (fun k => laws_markBoxS.f k l c) (c + 4 * l.length, l') := by
 have go : ∀ (q p : List Bx) (i : Nat) (c : Int), p.length = i → 0 ≤ c → c + 4 * q.length ≤ 100000000000000000 → (i : Int) + q.length ≤ 1000000000000 → ∃ q', Ev (fun k => laws_markBoxS.l0 k (p ++ q) c i) (c + 4 * q.length, q') := by
  intro q
  induction q with
  | nil =>
   intro p i c q1 q2 q3 q4
   refine ⟨p ++ [], Ev_suc ?_⟩
   simp only [laws_markBoxS.l0]
   exact Ev_f (by simp; omega) (Ev_n (by simp))
  | cons x q ih =>
   intro p i c q1 q2 q3 q4
   simp only [List.length_cons] at q3 q4
   have e0 : wrap64 (c + 1) = c + 1 := (wr64 (by omega) (by omega)).trans (by omega)
   have e1 : wrap64 (c + 1 + 1) = c + 2 := (wr64 (by omega) (by omega)).trans (by omega)
   have e2 : wrap64 (c + 2 + 1) = c + 3 := (wr64 (by omega) (by omega)).trans (by omega)
   have e3 : wrap64 (c + 3 + 1) = c + 4 := (wr64 (by omega) (by omega)).trans (by omega)
   obtain ⟨q', hq⟩ := ih (p ++ [(⟨c, c + 1, c + 2, c + 3⟩ : Bx)]) (i + 1) (c + 4) (by simp; omega) (by omega) (by omega) (by omega)
   refine ⟨q', Ev_suc ?_⟩
   simp only [laws_markBoxS.l0, e0, e1, e2, e3, set_at p q _ _ i q1, rda_Box p q _ i q1, Option.bind_some]
   rw [List.append_assoc, List.singleton_append] at hq
   repeat' (first | (refine Ev_t (by simp; omega) ?_) | (refine Ev_t (by omega) ?_))
   rw [wr64s i (by omega)]
   exact Ev_at hq (by simp only [List.length_cons, Prod.mk.injEq, and_true]; omega)
 obtain ⟨l', hq⟩ := go l [] 0 c rfl h0 (by omega) (by omega)
 exact ⟨l', by simp only [laws_markBoxS.f]; exact hq⟩
theorem mkl_ev (l : List Lf) (hl : (l.length : Int) ≤ 1048576) (hs : ∀ y ∈ l, (y.f6.length : Int) ≤ 1048576) : ∃ r l', 0 ≤ r ∧ Ev (fun k => laws_markLeafS.f k l 1) (r, l') := by
 have go : ∀ (q p : List Lf) (i : Nat) (c : Int), (∀ y ∈ q, (y.f6.length : Int) ≤ 1048576) → p.length = i → 0 ≤ c → c ≤ 1 + 5000000 * (i : Int) → (i : Int) + q.length ≤ 1048576 → ∃ r l', 0 ≤ r ∧ Ev (fun k => laws_markLeafS.l0 k (p ++ q) c i) (r, l') := by
  intro q
  induction q with
  | nil =>
   intro p i c q0 q1 q2 q3 q4
   refine ⟨c, p ++ [], q2, Ev_suc ?_⟩
   simp only [laws_markLeafS.l0]
   exact Ev_f (by simp; omega) (Ev_n rfl)
  | cons x q ih =>
   intro p i c q0 q1 q2 q3 q4
   simp only [List.length_cons] at q4
   have hx := q0 x (List.mem_cons_self ..)
   have e0 : wrap64 (c + 1) = c + 1 := (wr64 (by omega) (by omega)).trans (by omega)
   have e1 : wrap64 (c + 1 + 1) = c + 2 := (wr64 (by omega) (by omega)).trans (by omega)
   have e2 : wrap64 (c + 2 + 1) = c + 3 := (wr64 (by omega) (by omega)).trans (by omega)
   have e3 : wrap64 (c + 3 + 1) = c + 4 := (wr64 (by omega) (by omega)).trans (by omega)
   have e4 : wrap64 (c + 4 + 1) = c + 5 := (wr64 (by omega) (by omega)).trans (by omega)
   have e5 : wrap64 (c + 5 + 1) = c + 6 := (wr64 (by omega) (by omega)).trans (by omega)
   have e6 : wrap64 (c + 6 + 1) = c + 7 := (wr64 (by omega) (by omega)).trans (by omega)
   have e7 : wrap64 (c + 7 + 1) = c + 8 := (wr64 (by omega) (by omega)).trans (by omega)
   obtain ⟨t0, ht0⟩ := markText_ev c (by omega) (by omega)
   obtain ⟨t1, ht1⟩ := markText_ev (c + 1) (by omega) (by omega)
   obtain ⟨t2, ht2⟩ := markText_ev (c + 3) (by omega) (by omega)
   obtain ⟨st, hst⟩ := mkBox_ev x.f6 (c + 8) (by omega) (by omega) (by omega)
   obtain ⟨r, l', hr, he⟩ := ih (p ++ [(⟨t0, t1, c + 2, ⟨t2, c + 4, c + 5⟩, c + 6, c + 7, st⟩ : Lf)]) (i + 1) (c + 8 + 4 * x.f6.length) (fun y hy => q0 y (List.mem_cons_of_mem _ hy)) (by simp; omega) (by omega) (by omega) (by omega)
   refine ⟨r, l', hr, Ev_suc ?_⟩
   simp only [laws_markLeafS.l0, e0, e1, e2, e3, e4, e5, e6, e7, set_at p q _ _ i q1, rda_Leaf p q _ i q1]
   refine Ev_t (by simp; omega) (Ev_b ht0 (Ev_b ht1 (Ev_b ht2 (Ev_b hst (Ev_t (by omega) ?_)))))
   rw [wr64s i (by omega)]
   rw [List.append_assoc, List.singleton_append] at he
   exact he
 simp only [laws_markLeafS.f]
 exact go l [] 0 1 hs rfl (by omega) (by omega) (by simpa using hl)
end Go.Proofs.YtckboiphlhhckaaDoor.Q
namespace Go.Proofs.YtckboiphlhhckaaDoor.Q
open Go.RowKit Go.Proofs.YtckboiphlhhckaaDoorW.PrintWords Go.Proofs.YtckboiphlhhckaaDoorW.PrintLast Go.Proofs.YtckboiphlhhckaaDoorW.PrintMore
set_option linter.unusedVariables false
theorem law_BlocksOfLeaves : laws_FnExactBlocksOfLeaves.Pure := by
 intro x hx
 have hM : maxLen = 9223372036854775807 := by decide
 refine Ev.rounds (r := true) ?_
 simp only [laws_FnExactBlocksOfLeaves.f]
 refine Ev_b (szS_Leaf x hx.1 hx.2 (1048576) (by omega) (by omega)) ?_
 by_cases cx : ((ZS_Leaf x : Nat) : Int) ≤ 1048576
 case neg => rw [cut_neg cx]; exact Ev_t (by decide) (Ev_n rfl)
 rw [cut_pos cx]
 refine Ev_f (by omega) ?_
 have nx : (x.length : Int) ≤ 1048576 := by have := (ZS_in_Leaf x).1; omega
 have bx : ∀ q_ ∈ x, B_Leaf q_ := fun q_ hq_ => B_of_Leaf q_ (by have := (ZS_in_Leaf x).2 q_ hq_; omega)
 have mx : ((x.map conv_Leaf).length : Int) ≤ 1048576 := by simpa using nx
 have Ex : ∀ q_ ∈ x.map conv_Leaf, E_Leaf q_ := fun y hy => by obtain ⟨u, hu, rfl⟩ := List.mem_map.1 hy; exact E_of_Leaf u (bx u hu)
 have tx := toS_Leaf x nx bx
 have qx := eqS_Leaf (x.map conv_Leaf) mx Ex
 have zx : ∀ q_ ∈ x.map conv_Leaf, ∃ u ∈ x, conv_Leaf u = q_ ∧ ((Z_Leaf u : Nat) : Int) ≤ 1048576 := fun y hy => by obtain ⟨u, hu, e⟩ := List.mem_map.1 hy; exact ⟨u, hu, e, by have := (ZS_in_Leaf x).2 u hu; omega⟩
 have vnx : ∀ y ∈ x.map conv_Leaf, (y.f6.length : Int) ≤ 1048576 ∧ y.f0.size ≤ 1048576 ∧ y.f1.size ≤ 1048576 ∧ y.f3.f0.size ≤ 1048576 := by
  intro y hy
  obtain ⟨u_, _, rfl, h_⟩ := zx y hy
  unfold Z_Leaf Z_Veneer at h_
  have h2_ := (ZS_in_Box u_.f6).1
  refine ⟨?_, ?_, ?_, ?_⟩
  ·show (((u_.f6.map conv_Box).length : Nat) : Int) ≤ 1048576
   rw [List.length_map]; omega
  ·show u_.f0.size ≤ 1048576
   omega
  ·show u_.f1.size ≤ 1048576
   omega
  ·show u_.f3.f0.size ≤ 1048576
   omega
 obtain ⟨r0, r1, hr0, e1, e2⟩ := blocks_ev (x.map conv_Leaf) mx vnx
 have qr0 := eqS_Block r0 (by omega) (fun y _ => trivial)
 obtain ⟨Rx, px, hRx, mmx⟩ := mkl_ev (x.map conv_Leaf) mx (fun y hy => (vnx y hy).1)
 obtain ⟨pr0, _, mr0, hdr0⟩ := mk_Block r0 1 (by omega) (by omega) (by omega)
 repeat' (first | ((first | (with_reducible refine Ev_b e1 ?_) | (with_reducible refine Ev_b e2 ?_) | (with_reducible refine Ev_b tx ?_) | (with_reducible refine Ev_b qx ?_) | (with_reducible refine Ev_b qr0 ?_) | (with_reducible refine Ev_b mmx ?_) | (with_reducible refine Ev_b mr0 ?_) | (with_reducible refine Ev_b hdr0 ?_)); try dsimp only) | (with_reducible refine Ev_t rfl ?_) | (with_reducible refine Ev_t True.intro ?_) | (refine Ev_f (by omega) ?_) | (refine Ev_t (by omega) ?_) | (refine Ev_f (by simp) ?_) | exact Ev_n rfl | (refine Ev_suc ?_; first | simp only [laws_FnExactBlocksOfLeaves.j0] | simp only [laws_FnExactBlocksOfLeaves.j1] | simp only [laws_FnExactBlocksOfLeaves.j2]))
end Go.Proofs.YtckboiphlhhckaaDoor.Q
namespace Go.Proofs.YtckboiphlhhckaaDoor.Pure
open Go.Proofs.YtckboiphlhhckaaDoor.Q
theorem FnExactBlocksOfLeaves : laws_FnExactBlocksOfLeaves.Pure := law_BlocksOfLeaves
end Go.Proofs.YtckboiphlhhckaaDoor.Pure
namespace Go.Proofs.YtckboiphlhhckaaDoor.OPN
open Go
theorem wrap_and_shaped {H : Type} {enc : TypeId × Value → H} {a : Assume} {C : Checked} {os : Os} {f : FuncId} {fn : Func} {s : ChangeSpec} {conds : List PathCond} {apart fresh handsOn again : Bool} {X : World → Array Value → Prop}
  (hX : ∀ (w w' : World) (args : Array Value), w.heap = w'.heap → X w args → X w' args)
  (own : ownKnob C.prog.godebug = none) (started : os.Started) (noInit : C.prog.inits.idxOf? f = none) (hfn : C.prog.funcs[f]? = some fn)
  (witness : ∃ (w : World) (tape : Tape) (i : Input), w.os = os ∧ (w.forCall tape i).Shaped C.prog ∧ i.vars = [] ∧ Input.okWide C.prog (w.forCall tape i) .any w.heap.size f i ∧
   ((s.pre enc C.prog fn conds apart (w.forCall tape i).memory i.args ∧ X (w.forCall tape i).memory i.args) ∧ sizedMet enc C.prog fn (OpenSpec.ofChange s) apart (w.forCall tape i).memory i.args) ∧ a.holds C.prog (lone (Frame.enter C.prog f i.args .normal) [] (w.forCall tape i)))
  (contract : ∀ (W : World) (base : Nat) (args : Array Value) (ds gs : List (DataW H)) (before : List MemPlace),
   (∀ (j : Nat) t v, fn.params[j]? = some t → args[j]? = some v → Value.okWide C.prog W .any base t v) →
   DataW.Whole enc C.prog fn.params.toList s.vars apart W args.toList ds gs before →
   conds.all (PathCond.test C.prog ⟨fn.params.toList, ds, s.plain.varTypes C.prog, gs⟩) = true →
   (DataW.weightsEach C.prog (fn.params.toList ++ s.plain.varTypes C.prog) (ds ++ gs)).all (· ≤ reachBytes) = true → X W args → W.ShapedOpen C.prog →
   a.holds C.prog (lone (Frame.enter C.prog f args .normal) [] W) →
   Calls C.prog f args W fun e W' => ∃ v, e = .returned v ∧ s.post enc C.prog fn apart fresh handsOn again W args v W') :
  ReturnsInHanded a C os f .any (fun w args => (s.pre enc C.prog fn conds apart w args ∧ X w args) ∧ sizedMet enc C.prog fn (OpenSpec.ofChange s) apart w args) (s.post enc C.prog fn apart fresh handsOn again) := by
 refine returnsInHanded_of_calls own started noInit witness ?_
 intro w tape i _ hsh _ hok hpre hholds
 obtain ⟨_, _, _, fn', hfn', _, _, _, _, hval⟩ := hok
 have e : fn' = fn := Option.some.inj (hfn'.symm.trans hfn)
 subst e
 obtain ⟨⟨⟨ds, gs, before, hw, hc⟩, hx⟩, hz⟩ := hpre
 have hw' := DataW.Whole.of_heap (w' := w.forCall tape i) (by rfl) hw
 refine (contract (w.forCall tape i) w.heap.size i.args ds gs before hval hw' hc (hz.weights hw) (hX _ _ _ (by rfl) hx) hsh hholds).mono fun e W' ⟨v, he, hp⟩ => ?_
 subst he
 exact ChangeSpec.post_blind hp
end Go.Proofs.YtckboiphlhhckaaDoor.OPN
namespace Go.Proofs.YtckboiphlhhckaaDoor.fnExactBlocksOfLeaves
open Go.ChangeShapes Go.WideShapes Go.ChangeAt Go.RowKit Go.Proofs.YtckboiphlhhckaaDoor.OPN Go.Proofs.YtckboiphlhhckaaDoor.Q Go.Proofs.YtckboiphlhhckaaDoorW.PrintWords
open Go.ChangeMaps (open_string shut_string)
set_option linter.unusedVariables false
theorem own : ownKnob Tryd.prog.godebug = none := by kernel_rfl
theorem laidOut : laidOutB Tryd.prog = true := by kernel_rfl
theorem tab_of {W : World} (hL : laidMetH Tryd.prog Rows.fnExactBlocksOfLeavesRow.laid W) (hsh : W.ShapedOpen Tryd.prog) : Tab_ W := by
 refine ⟨?_, ?_⟩
 ·have hl := hL
  rw [MakeChecks.laidMetH_plain _ _ _ (by kernel_rfl)] at hl
  have h1 := (laidMet.tail (laidMet.tail hl))
  have e_ : (Rows.laid_internal_strconv_uint64pow10 : DataW Unit) = Lib.tabData .u64 Lib.pow10Tab := by rfl
  refine Lib.tabIs_of_head (g := 1) (t := 138) (e := 124) (n := 20) (rest := []) (by kernel_rfl) (by kernel_rfl) Tryd.underlying138 Tryd.underlying124 (by kernel_rfl) (by kernel_rfl) ?_
  rw [← e_]
  exact h1
 ·exact Tryd.laysM219.s1_3 W hsh
set_option maxRecDepth 100000 in
theorem lifted (os : Os) (started : os.Started) (H : Type) (enc : TypeId × Value → H) :
  ReturnsInHanded {} Tryd.checked os 4 .any (fun w args => (Rows.fnExactBlocksOfLeavesSpec.pre enc Tryd.prog Tryd.f4 Rows.fnExactBlocksOfLeavesRow.domain false w args ∧ laidMetH Tryd.prog Rows.fnExactBlocksOfLeavesRow.laid w) ∧ sizedMet enc Tryd.prog Tryd.f4 (OpenSpec.ofChange Rows.fnExactBlocksOfLeavesSpec) false w args) (Rows.fnExactBlocksOfLeavesSpec.post enc Tryd.prog Tryd.f4 false true false false) := by
 refine wrap_and_shaped (C := Tryd.checked) (X := fun w _ => laidMetH Tryd.prog Rows.fnExactBlocksOfLeavesRow.laid w) (fun _ _ _ hh h => h.of_heap hh) own started (by kernel_rfl) Tryd.func4
  (ChangeSpec.witness_shaped (enc := enc) (C := Tryd.checked) (os := os) (X := fun w _ => laidMetH Tryd.prog Rows.fnExactBlocksOfLeavesRow.laid w) false (World.laidAll Tryd.prog os Rows.fnExactBlocksOfLeavesRow.laid) #[.slice none 0 0] 8 (World.laidAll_os _ _ _) (World.shaped_of_ZipB (by kernel_rfl) (by kernel_rfl)) (by kernel_rfl) (by kernel_rfl) (by kernel_rfl) (by rw [MakeChecks.laidMetH_plain _ _ _ (by kernel_rfl)]; exact laidMet_laidAll _ (by kernel_rfl) (by kernel_rfl))) ?_
 intro W base args ds gs before hval0 hW hcnd hsz0 hL hsh _
 have hTab := tab_of hL hsh
 clear hL hsh
 have hval : ∀ (j : Nat) t v, Tryd.f4.params[j]? = some t → args[j]? = some v → Value.okWide Tryd.prog W .any base t v := hval0
 have hW' := hW
 obtain ⟨p, q, hA0, hV, rfl, hfz, hnd⟩ := hW
 have hA : DataW.TrodAll enc Tryd.prog W 0 (fun _ => true) true Tryd.f4.params.toList args.toList ds p := hA0
 rw [Tryd.params4] at hA hval
 obtain ⟨v0, vs0, d0, ds0, p0, q0, hargs, rfl, rfl, h0, r0⟩ := trodAll_cons hA
 obtain ⟨rfl, rfl, rfl⟩ := trodAll_nil r0
 obtain rfl : args = #[v0] := by cases args; simp_all
 obtain ⟨rfl, rfl⟩ := trodVars_none hV
 have lt0 : ∀ x ∈ p0, x.block < W.heap.size := by obtain ⟨m, hm⟩ := h0; exact DataW.trod_lt m _ _ _ hm
 have k0 := h0
 obtain ⟨z0, y0, u0, rfl⟩ := okWide_slice Tryd.underlying30 (hval 0 30 v0 rfl rfl)
 obtain ⟨fu0, hf0⟩ := h0
 obtain ⟨x0, ⟨A0, c0, hcs0, hc0, hr0⟩, w0⟩ := ((opn_slice Tryd.underlying30 (by kernel_rfl) opn64) : Opn _ _ (Kd.slice 64 k64) _).get rfl hf0
 obtain ⟨rfl, rfl, rfl⟩ : A0 = z0 ∧ x0.length = y0 ∧ c0 = u0 := (fun (h_ : z0 = A0 ∧ y0 = x0.length ∧ u0 = c0) => ⟨h_.1.symm, h_.2.1.symm, h_.2.2.symm⟩) (by simpa [Value.cells] using hcs0)
 clear hA0 hval0 hsz0
 obtain ⟨k, hP⟩ := Pure.FnExactBlocksOfLeaves x0 w0
 refine (laws_FnExactBlocksOfLeaves.calls k A0 c0 x0 true W hr0 hc0 hTab hP).mono fun e W' hh => ?_
 obtain ⟨rfl, bel0⟩ := hh
 have bel : Below W.heap.size W W' := bel0
 exact ⟨_, rfl, _, _, _, [], _, [], hW', trodAll_mk1 (shut_bool Tryd.underlying4 _), (trodAll_cons_mk (Below.trod laidOut (by kernel_rfl) (of_decide_eq_true (by kernel_rfl)) k0 bel lt0) trodAll_mk0), rfl, bel.frame _, fun h => by cases h⟩
theorem over : Rows.fnExactBlocksOfLeavesRow.holds Tryd.pinned (OpenSpec.ofChange Rows.fnExactBlocksOfLeavesSpec) :=
 OpenClaim.holds_of_wide 4 Tryd.f4 rfl rfl rfl rfl rfl rfl rfl ⟨rfl, rfl, rfl, rfl, rfl⟩ rfl rfl rfl rfl rfl (by kernel_rfl) Tryd.func4 (by kernel_rfl)
  (of_decide_eq_true (by kernel_rfl)) (by unfold Func.isWrapper; first | (rw [if_pos (by decide +kernel)]; kernel_rfl) | (rw [if_neg (by decide +kernel)]; exact ⟨rfl, rfl⟩))
  (fun os started H enc _ => lifted os started H enc)
theorem proved : Rows.FnExactBlocksOfLeavesSaid := over
#print axioms proved
end Go.Proofs.YtckboiphlhhckaaDoor.fnExactBlocksOfLeaves
namespace Go.Proofs.YtckboiphlhhckaaDoor
open Go
theorem fnExactBlocksOfLeaves_holds : Rows.FnExactBlocksOfLeavesCardSaid :=
 Claim7.holds_tied_plain_at .later [] [.data, .data, .data] true (true, "5eb5826c20c13af7c86c56057599e5712ca11bbc62aa7c0c43af7a3b65ff75cd") false fnExactBlocksOfLeaves.proved (fun _ h => by cases h) (by kernel_rfl) (fun _ h => by cases h) fnExactBlocksOfLeaves_row_tie rfl ⟨rfl, rfl⟩ (by kernel_rfl) rfl
  (fun f fn hf hfn => by
   obtain rfl : f = 4 := Option.some.inj ((show Tryd.prog.funcNamed "loop.example/g00956/laws.FnExactBlocksOfLeaves" = some 4 by kernel_rfl).symm.trans hf) |>.symm
   obtain rfl : fn = Tryd.f4 := (Option.some.inj (Tryd.func4.symm.trans hfn)).symm
   exact ⟨by kernel_rfl, fun j t ht => by
    rw [Tryd.params4] at ht
    have hm : t ∈ [30] := by simpa using Array.mem_of_getElem? ht
    have hall : ([30].all fun u => !Tryd.prog.wantsStandIn u) = true := by kernel_rfl
    exact (show Tryd.prog.wantsStandIn t = false by simpa using List.all_eq_true.1 hall t hm)⟩)
  (by kernel_rfl)
end Go.Proofs.YtckboiphlhhckaaDoor
