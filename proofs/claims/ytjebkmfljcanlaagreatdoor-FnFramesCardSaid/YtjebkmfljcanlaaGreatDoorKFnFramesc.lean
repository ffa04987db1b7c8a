/- Drawn valid blocks and leaves come back whole out of their archive, and one changed byte is seen. This text holds the functions' walks and the words for them. -/
import Derived.Shelf.Strings.Builder1
import Derived.Shelf.Strings.Builder2
import Derived.Shelf.Strings.OnBuilder
import Derived.Shelf.Small.Strs
import Derived.Shelf.Small.Wraps
import Derived.Shelf.Strings.BuilderF
import Derived.Shelf.Strings.BuilderK
import Derived.Shelf.Utf8.RuneCount
import Derived.Shelf.Strings.Builder2Cap
import Derived.Shelf.Strconv.Itoa0
import Derived.Shelf.Strconv.Itoa1
import Derived.Shelf.LaysM
import Derived.Shelf.Strconv.Itoa2
import Derived.Shelf.Strconv.Itoa3
import Derived.Shelf.Strconv.Itoa4
import Derived.Shelf.Strings.Search1
import Derived.Shelf.Strings.Search2
import Derived.Shelf.Strings.Search3
import Derived.Shelf.Strings.Cut
import Derived.Shelf.Strings.Count
import Derived.Shelf.Strings.Shaped
import Derived.Shelf.Strings.Prefix
import Derived.Shelf.Strings.Split
import Derived.Shelf.Strings.SplitShaped
import Derived.Shelf.Unicode.Decode
import Derived.Shelf.Strings.RuneCount
import Derived.Shelf.Strings.Explode
import Derived.Shelf.Unicode.DecodeSlow
import Derived.Shelf.Unicode.DecodeAny
import Derived.Shelf.Strings.BuilderCap
import Derived.Test.YtjebkmfljcanlaaGreatDoorProg
import Derived.Lib.LaidTab
import Derived.Lib.ItoaNum
import Derived.WalkSmall
import Derived.KernelRfl
import Derived.Lib.AppendIntMem
import Derived.Lib.UnsafeStr
import Derived.Lib.SplitLaws
import Derived.Test.YtjebkmfljcanlaaGreatDoorKFnFramesa
import Derived.Test.YtjebkmfljcanlaaGreatDoorKFnFramesb
set_option linter.unusedVariables false
set_option linter.unusedSimpArgs false
set_option maxHeartbeats 8000000
set_option maxRecDepth 100000
namespace Go.Proofs.YtjebkmfljcanlaaGreatDoor.Q
open Go.RowKit Go.Proofs.YtjebkmfljcanlaaGreatDoorW.PrintWords Go.Proofs.YtjebkmfljcanlaaGreatDoorW.PrintLast Go.Proofs.YtjebkmfljcanlaaGreatDoorW.PrintMore Go.Proofs.Tryz
attribute [local go_sem] ay_ ax_ aE_ aD_ an_ ao_ aw_ av_
mutual
def ar_.l0 : Nat → Int → List Int → Int → Option (ByteArray)
 | 0, _, _, _ => none
 | k + 1, x0, x3, x4 => if x4 = 0 then (if x0 < 0 then (if x3.length < 140737488355328 then (ar_.j1 k (x3 ++ [45])) else (none)) else (ar_.j1 k x3)) else (if (Int.tmod x4 10) < 0 then (if x3.length < 140737488355328 then (ar_.l0 k x0 (x3 ++ [(wrap64 (48 + (wrap64 (-(Int.tmod x4 10))))) % 256]) (wrap64 (Int.tdiv x4 10))) else (none)) else (if x3.length < 140737488355328 then (ar_.l0 k x0 (x3 ++ [(wrap64 (48 + (Int.tmod x4 10))) % 256]) (wrap64 (Int.tdiv x4 10))) else (none)))
def ar_.j1 : Nat → List Int → Option (ByteArray)
 | 0, _ => none
 | k + 1, x3 => ar_.l1 k x3 (([] : List Int)) (wrap64 ((x3.length : Int) - 1))
def ar_.l1 : Nat → List Int → List Int → Int → Option (ByteArray)
 | 0, _, _, _ => none
 | k + 1, x3, x6, x7 => if x7 ≥ 0 then (if 0 ≤ x7 then (if x7 < (x3.length : Int) then (if x6.length < 140737488355328 then (ar_.l1 k x3 (x6 ++ [rd x3 x7]) (wrap64 (x7 - 1))) else (none)) else (none)) else (none)) else (some (strOfNums x6))
end
def ar_.f (k : Nat) (a0 : Int) : Option (ByteArray) := if a0 = 0 then (some (⟨#[48]⟩ : ByteArray)) else (ar_.l0 k a0 (([] : List Int)) a0)
theorem ar_.calls (k : Nat) (a0 : Int) (r : ByteArray) (w : World) (h : ar_.f k a0 = some r) :
  Calls prog 59 #[.int .i64 a0] w fun e w' => e = .returned (.string r) ∧ Below w.heap.size w w' := by
 have HB := ak (Below.refl w.heap.size w); have H : (if a0 = 0 then (some (⟨#[48]⟩ : ByteArray)) else (ar_.l0 k a0 (([] : List Int)) a0)) = some r := h; clear h; revert H; refine itEE ?_ ?_; rotate_left
 ·intro c2 ug mE H; obtain ⟨y101, hy101⟩ : ∃ y_ : List Int, y_ = (([] : List Int)) := ⟨_, rfl⟩; replace H : (ar_.l0 k a0 y101 a0) = some r := by first | (rw [hy101]; with_reducible exact H) | (have H2_ := (ob_ _ _).symm.trans H; rw [hy101]; with_reducible exact H2_) | (have H2_ := (ob_ _ _).symm.trans H; with_reducible exact H2_) | with_reducible exact H | (rw [hy101]; exact H) | exact H
  have vG := ak hy101; clear hy101; have H' := ak H; clear H; go_enter func59, ntmps59; go_wp2_with (first | ((with_reducible refine bp_ (N := 10) rfl ?_); refine Kd.R_lit (Kd.int .u8) _ 5 ?hg (N := 10) ?hd (xs := ([] : List Int)) (inner := []) (ok := fun _ => True) (okp := fun _ => True) ?hr ?hp (fun _ hk => hk) trivial (Below.refl _ _) (Nat.le_refl _) rav ?_; (case hd => rfl); (case hg => rfl); (case hr => (go_simp; try rfl)); (case hp => exact (Reps.none _ _)); intro kC w3 ho4 hb hg_ hnew_; clear hg_ hnew_; (first | rw [← vG.1] at ho4 | (simp only [Int.reduceToNat] at ho4; rw [← vG.1] at ho4)); have yu := ak (Kd.bj_ ho4 (aj_ (bz HB.1))); replace HB := ak (ac_ (bz HB.1) hb); clear hb ho4)); (try simp only [Act.put, lsa_, ls0_, ls1_])
  go_loopg [3, 4] k (fun kq v3 v4 w' => ∃ (zF : List Int) (zG : Int), v4 = .int .i64 zG ∧ Aside0 (ar_.l0 kq a0 zF zG = some r) ∧ Aside0 (kq ≤ k) ∧ Aside0 (Kd.R (Kd.int .u8) 5 w' w.heap.size (fun _ => True) v3 zF) ∧ Aside0 (Below w.heap.size w w'))
  case atStart => exact ⟨(y101), (a0), rad, H', ⟨Nat.le_refl _⟩, ⟨rz yu.1⟩, ⟨bz HB.1⟩⟩
  case round =>
   clear H'; obtain ⟨zF, zG, rfl, HA, HK1, yS, HB⟩ := hrel
   cases gk with
   | zero => exact absurd HA.1 (by simp [ar_.l0])
   | succ k1 =>
    have H := HA.1; clear HA; simp only [ar_.l0] at H; revert H; refine itEE ?_ ?_; rotate_left
    ·intro c5 uj oP H; revert H; refine itDD ?_ ?_; rotate_left
     ·intro sS H; revert H; refine itPN ?_; intro c22 H; have LMc22 := ak c22; clear c22; obtain ⟨sW, hy107⟩ : ∃ y_ : List Int, y_ = (zF ++ [(wrap64 (48 + (Int.tmod zG 10))) % 256]) := ⟨_, rfl⟩; replace H : (ar_.l0 k1 a0 sW (wrap64 (Int.tdiv zG 10))) = some r := by first | (rw [hy107]; with_reducible exact H) | (have H2_ := (ob_ _ _).symm.trans H; rw [hy107]; with_reducible exact H2_) | (have H2_ := (ob_ _ _).symm.trans H; with_reducible exact H2_) | with_reducible exact H | (rw [hy107]; exact H) | exact H
      have oK := ak hy107; clear hy107; have H' := ak H; clear H; go_wp2_with (first | ((with_reducible refine aR_ (b := .append) (xs := #[.tmp 22, .tmp 26]) rfl ?_); at_builtin; refine Kd.bK_ (Kd.int .u8) (w0 := w) w.heap.size rfl (.tmp 22) (.tmp 26) 22 5 (.int .u8 0) 1 rfl underlying22 info5 rfl rah rae u3 zF ((wrap64 (48 + (Int.tmod zG 10))) % 256) [.int .u8 ((wrap64 (48 + (Int.tmod zG 10))) % 256)] (fun _ => True) (fun _ => False) rfl rfl ?aP (fun _ hk => hk.elim) ?aF ?aO ?aB ?aS ?aL ?_; (case aP => exact rfl); (case aB => exact (bz HB.1)); (case aF => exact (fun _ _ => trivial)); (case aO => exact (rz yS.1)); (case aS => exact (aj_ (bz HB.1))); (case aL => have := LMc22.1; omega); intro Ud w23 ho hb hg hat; rw [← oK.1] at ho; replace HB := ak (hb); have xC := ak (ho); clear yS; clear ho hb hg hat))
      go_roundg k1
      case measure => have := HK1.1; omega
      case rel => exact ⟨(sW), (wrap64 (Int.tdiv zG 10)), rad, H', ⟨by have := HK1.1; omega⟩, ⟨rz xC.1⟩, ⟨bz HB.1⟩⟩
     intro sS H; revert H; refine itPN ?_; intro c20 H; have LMc20 := ak c20; clear c20; obtain ⟨y104, hy104⟩ : ∃ y_ : List Int, y_ = (zF ++ [(wrap64 (48 + (wrap64 (-(Int.tmod zG 10))))) % 256]) := ⟨_, rfl⟩; replace H : (ar_.l0 k1 a0 y104 (wrap64 (Int.tdiv zG 10))) = some r := by first | (rw [hy104]; with_reducible exact H) | (have H2_ := (ob_ _ _).symm.trans H; rw [hy104]; with_reducible exact H2_) | (have H2_ := (ob_ _ _).symm.trans H; with_reducible exact H2_) | with_reducible exact H | (rw [hy104]; exact H) | exact H
     have oL := ak hy104; clear hy104; have H' := ak H; clear H; go_wp2_with (first | ((with_reducible refine aR_ (b := .append) (xs := #[.tmp 22, .tmp 26]) rfl ?_); at_builtin; refine Kd.bK_ (Kd.int .u8) (w0 := w) w.heap.size rfl (.tmp 22) (.tmp 26) 22 5 (.int .u8 0) 1 rfl underlying22 info5 rfl rah rae u3 zF ((wrap64 (48 + (wrap64 (-(Int.tmod zG 10))))) % 256) [.int .u8 ((wrap64 (48 + (wrap64 (-(Int.tmod zG 10))))) % 256)] (fun _ => True) (fun _ => False) rfl rfl ?aP (fun _ hk => hk.elim) ?aF ?aO ?aB ?aS ?aL ?_; (case aP => exact rfl); (case aB => exact (bz HB.1)); (case aF => exact (fun _ _ => trivial)); (case aO => exact (rz yS.1)); (case aS => exact (aj_ (bz HB.1))); (case aL => have := LMc20.1; omega); intro v105 w21 ho hb hg hat; rw [← oL.1] at ho; replace HB := ak (hb); have yw := ak (ho); clear yS; clear ho hb hg hat))
     go_roundg k1
     case measure => have := HK1.1; omega
     case rel => exact ⟨(y104), (wrap64 (Int.tdiv zG 10)), rad, H', ⟨by have := HK1.1; omega⟩, ⟨rz yw.1⟩, ⟨bz HB.1⟩⟩
    intro uj oP H; have HC6 := ak H; clear H; go_upto_if 29 with (fail)
    go_cut [3] (fun v3 wc => ∃ (kq : Nat) (oO : List Int), Aside0 (ar_.j1 kq oO = some r) ∧ Aside0 (kq ≤ k1) ∧ Aside0 (Kd.R (Kd.int .u8) 5 wc w.heap.size (fun _ => True) v3 oO) ∧ Aside0 (Below w.heap.size w wc))
    case first =>
     have H := HC6.1; clear HC6; revert H; refine itDD ?_ ?_; rotate_left
     ·intro yE H; (first | rw [yE] | (simp only [i64_w, i32_w]; rw [yE]) | (simp only [sZ, nT_, nF_]) | (simp only [yE, nT_, nF_]) | skip); have H' := ak H; clear H; go_wp2; go_meet
      case rel => exact ⟨_, (zF), H', ⟨by have := HK1.1; first | omega | exact Nat.le_refl _⟩, ⟨rz yS.1⟩, ⟨bz HB.1⟩⟩
     intro yE H; (first | rw [yE] | (simp only [i64_w, i32_w]; rw [yE]) | (simp only [sZ, nT_, nF_]) | (simp only [yE, nT_, nF_]) | skip); revert H; refine itPN ?_; intro c8 H; have LMc8 := ak c8; clear c8; obtain ⟨wz, hy110⟩ : ∃ y_ : List Int, y_ = (zF ++ [45]) := ⟨_, rfl⟩; replace H : (ar_.j1 k1 wz) = some r := by first | (rw [hy110]; with_reducible exact H) | (have H2_ := (ob_ _ _).symm.trans H; rw [hy110]; with_reducible exact H2_) | (have H2_ := (ob_ _ _).symm.trans H; with_reducible exact H2_) | with_reducible exact H | (rw [hy110]; exact H) | exact H
     have uG := ak hy110; clear hy110; have H' := ak H; clear H; go_wp2_with (first | ((with_reducible refine aR_ (b := .append) (xs := #[.tmp 30, .tmp 31]) rfl ?_); at_builtin; refine Kd.bK_ (Kd.int .u8) (w0 := w) w.heap.size rfl (.tmp 30) (.tmp 31) 22 5 (.int .u8 0) 1 rfl underlying22 info5 rfl rah rae u3 zF 45 [.int .u8 45] (fun _ => True) (fun _ => False) rfl rfl ?aP (fun _ hk => hk.elim) ?aF ?aO ?aB ?aS ?aL ?_; (case aP => exact rfl); (case aB => exact (bz HB.1)); (case aF => exact (fun _ _ => trivial)); (case aO => exact (rz yS.1)); (case aS => exact (aj_ (bz HB.1))); (case aL => have := LMc8.1; omega); intro ny w9 ho hb hg hat; rw [← uG.1] at ho; replace HB := ak (hb); have yj := ak (ho); clear yS; clear ho hb hg hat)); go_meet
     case rel => exact ⟨_, (wz), H', ⟨by have := HK1.1; first | omega | exact Nat.le_refl _⟩, ⟨rz yj.1⟩, ⟨bz HB.1⟩⟩
    case rest =>
     clear HC6; obtain ⟨kq, oO, HA, HJ5, yS, HB⟩ := hcut
     cases kq with
     | zero => exact absurd HA.1 (by simp [ar_.j1])
     | succ kj5 =>
      have H := HA.1; clear HA; simp only [ar_.j1] at H; obtain ⟨y113, hy113⟩ : ∃ y_ : List Int, y_ = (([] : List Int)) := ⟨_, rfl⟩; replace H : (ar_.l1 kj5 oO y113 (wrap64 ((oO.length : Int) - 1))) = some r := by first | (rw [hy113]; with_reducible exact H) | (have H2_ := (ob_ _ _).symm.trans H; rw [hy113]; with_reducible exact H2_) | (have H2_ := (ob_ _ _).symm.trans H; with_reducible exact H2_) | with_reducible exact H | (rw [hy113]; exact H) | exact H
      have nL := ak hy113; clear hy113; have H' := ak H; clear H; go_wp2_with (first | ((with_reducible refine bp_ (N := 33) rfl ?_); refine Kd.R_lit (Kd.int .u8) _ 5 ?hg (N := 33) ?hd (xs := ([] : List Int)) (inner := []) (ok := fun _ => True) (okp := fun _ => True) ?hr ?hp (fun _ hk => hk) trivial (Below.refl _ _) (Nat.le_refl _) rav ?_; (case hd => rfl); (case hg => rfl); (case hr => (go_simp; try rfl)); (case hp => exact (Reps.none _ _)); intro yF w10 ho11 hb hg_ hnew_; clear hg_ hnew_; (first | rw [← nL.1] at ho11 | (simp only [Int.reduceToNat] at ho11; rw [← nL.1] at ho11)); have zW := ak (Kd.bj_ (Kd.bC_ ho11 (Kd.R_lt (rz yS.1))) (aj_ (bz HB.1))); replace yS := ak (Kd.aX_ (rz yS.1) (Kd.bx_ ho11) hb); replace HB := ak (ac_ (bz HB.1) hb); clear hb ho11; obtain ⟨YO, ZQ, UG⟩ := Kd.bk_ yS.1; subst UG)); (try simp only [Act.put, lsa_, ls0_, ls1_])
      go_loopg [6, 7] kj5 (fun kq v6 v7 w' => ∃ (uq : List Int) (kL : Int), v7 = .int .i64 kL ∧ Aside0 (ar_.l1 kq oO uq kL = some r) ∧ Aside0 (kq ≤ kj5) ∧ Aside0 (Kd.R (Kd.int .u8) 5 w' w.heap.size (fun k_ => some k_ ≠ (v6 : Value).ownBlock) (.slice YO oO.length ZQ) oO) ∧ Aside0 (Kd.R (Kd.int .u8) 5 w' w.heap.size (fun k_ => some k_ ≠ ((.slice YO oO.length ZQ) : Value).ownBlock) v6 uq) ∧ Aside0 (Below w.heap.size w w'))
      case atStart => exact ⟨(y113), (wrap64 ((oO.length : Int) - 1)), rad, H', ⟨Nat.le_refl _⟩, ⟨rz (Kd.aA_ yS.1 (fun _ hk => hk.2))⟩, ⟨rz (Kd.aA_ zW.1 (fun _ hk => hk.2))⟩, ⟨bz HB.1⟩⟩
      case round =>
       clear H'; obtain ⟨uq, kL, rfl, HA, HK3, yS, UF, HB⟩ := hrel
       cases gk with
       | zero => exact absurd HA.1 (by simp [ar_.l1])
       | succ k3 =>
        have H := HA.1; clear HA; simp only [ar_.l1] at H; revert H; refine itDD ?_ ?_; rotate_left
        ·intro wU H; obtain rfl := Option.some.inj H; have hcv18 := own_string (P := prog) underlying22 underlying5 underlying9 (Kd.own_of_R UF.1); go_wp2; go_ret; exact ⟨raf, bz HB.1⟩
        intro wU H; revert H; refine itDN ?_; intro uQ H; revert H; refine itDN ?_; intro xA H; revert H; refine itPN ?_; intro c16 H; have LMc16 := ak c16; clear c16; obtain ⟨X5, hy117⟩ : ∃ y_ : List Int, y_ = (uq ++ [rd oO kL]) := ⟨_, rfl⟩; replace H : (ar_.l1 k3 oO X5 (wrap64 (kL - 1))) = some r := by first | (rw [hy117]; with_reducible exact H) | (have H2_ := (ob_ _ _).symm.trans H; rw [hy117]; with_reducible exact H2_) | (have H2_ := (ob_ _ _).symm.trans H; with_reducible exact H2_) | with_reducible exact H | (rw [hy117]; exact H) | exact H
        have ZO := ak hy117; clear hy117; have H' := ak H; clear H; have tF : 0 ≤ (kL : Int) := ode ram; have tC : kL < (oO.length : Int) := ode ram; obtain ⟨sw, e116, wH⟩ := Kd.at_int (Kd.am_ yS.1).2.2 kL tF tC; cases e116; replace tF := eq_true tF; replace tC := eq_true tC; go_wp2_with (first | ((with_reducible refine aR_ (b := .append) (xs := #[.tmp 41, .tmp 46]) rfl ?_); at_builtin; refine Kd.bK_ (Kd.int .u8) (w0 := w) w.heap.size rfl (.tmp 41) (.tmp 46) 22 5 (.int .u8 0) 1 rfl underlying22 info5 rfl rah rae u6 uq (rd oO kL) [.int .u8 (rd oO kL)] (fun k_ => some k_ ≠ (.slice (some sw) oO.length ZQ : Value).ownBlock) (fun _ => False) rfl rfl ?aP (fun _ hk => hk.elim) ?aF ?aO ?aB ?aS ?aL ?_; (case aP => exact rfl); (case aB => exact (bz HB.1)); (case aF => exact (fun k_ hk => Kd.fresh' (Kd.R_lt (rz yS.1)) k_ hk)); (case aO => exact (rz UF.1)); (case aS => exact (aj_ (bz HB.1))); (case aL => have := LMc16.1; omega); intro JL w17 ho hb hg hat; rw [← ZO.1] at ho; replace yS := ak (Kd.R_after (ok := (fun _ => True)) (rz (Kd.aA_ yS.1 (fun _ hk => ⟨trivial, hk⟩))) hg hat); replace HB := ak (hb); have ZN := ak (ho); clear UF; clear ho hb hg hat))
        go_roundg k3
        case measure => have := HK1.1; have := HJ5.1; have := HK3.1; omega
        case rel => exact ⟨(X5), (wrap64 (kL - 1)), rad, H', ⟨by have := HK1.1; have := HJ5.1; have := HK3.1; omega⟩, ⟨rz (Kd.aA_ yS.1 (fun _ hk => hk.2))⟩, ⟨rz ZN.1⟩, ⟨bz HB.1⟩⟩
 intro ug mE H; obtain rfl := Option.some.inj H; go_enter func59, ntmps59; go_wp2; go_ret; exact ⟨raf, bz HB.1⟩
def ca_.f (k : Nat) (l0 : List (S43)) : Option (ByteArray) := if 0 < (l0.length : Int) then (if ((cg_ l0 0).f0).size + 1 ≤ 9223372036854775807 then ((ar_.f k ((cg_ l0 0).f1)).bind fun zY => (if ((cg_ l0 0).f0).size + 1 + zY.size ≤ 9223372036854775807 then (if ((cg_ l0 0).f0).size + 1 + zY.size + 1 ≤ 9223372036854775807 then ((ar_.f k ((cg_ l0 0).f2)).bind fun t105 => (if ((cg_ l0 0).f0).size + 1 + zY.size + 1 + t105.size ≤ 9223372036854775807 then (some ((((((cg_ l0 0).f0) ++ (⟨#[32]⟩ : ByteArray)) ++ zY) ++ (⟨#[32]⟩ : ByteArray)) ++ t105)) else (none))) else (none)) else (none))) else (none)) else (none)
def ca_.T1 : Bool × List (List Nat × List Nat) := (true, [([], []), ([0], [0]), ([1], [1]), ([2], [2]), ([3], [3]), ([], []), ([5], [5]), ([6], [6]), ([7], [7]), ([8], [8]), ([4, 9], [4, 9]), ([10], [10]), ([], []), ([12], [12]), ([13], [13]), ([14], [14]), ([15, 9], [15]), ([11, 16], [11, 16]), ([17, 16, 0, 1, 2, 3, 4, 5, 6, 7, 8, 9, 10, 11, 12, 13, 14, 15, 16, 17], [17])])
def ca_.B1 : List Nat := [0, 1, 3, 7, 15, 0, 32, 96, 224, 480, 1023, 2047, 0, 4096, 12288, 28672, 62432, 131071, 262143]
theorem ca_.tab1 : rtab .any (opsOf Tryz.f99 1) = ca_.T1 := by kernel_rfl
theorem ca_.bits1 : cw_ ca_.T1.2 ca_.B1 = true := by kernel_rfl
theorem ca_.calls (k : Nat) (A0 : Option Addr) (l0 : List (S43)) (r : ByteArray) (w : World) (hr0 : Kd.C k43 w A0 l0.length l0) (h : ca_.f k l0 = some r) :
  Calls prog 99 #[.pointer A0] w fun e w' => e = .returned (.string r) ∧ Below w.heap.size w w' := by
 have HR0 := ak hr0; clear hr0; have HB := ak (Below.refl w.heap.size w); have H : (if 0 < (l0.length : Int) then (if ((cg_ l0 0).f0).size + 1 ≤ 9223372036854775807 then ((ar_.f k ((cg_ l0 0).f1)).bind fun zY => (if ((cg_ l0 0).f0).size + 1 + zY.size ≤ 9223372036854775807 then (if ((cg_ l0 0).f0).size + 1 + zY.size + 1 ≤ 9223372036854775807 then ((ar_.f k ((cg_ l0 0).f2)).bind fun t105 => (if ((cg_ l0 0).f0).size + 1 + zY.size + 1 + t105.size ≤ 9223372036854775807 then (some ((((((cg_ l0 0).f0) ++ (⟨#[32]⟩ : ByteArray)) ++ zY) ++ (⟨#[32]⟩ : ByteArray)) ++ t105)) else (none))) else (none)) else (none))) else (none)) else (none)) = some r := h; clear h; revert H; refine itPN ?_; intro c2 H; have ug : decide (0 < (l0.length : Int)) = true := det c2; have mE : decide (0 < l0.length) = true := det rae; clear c2; revert H; refine itPN ?_; intro c3 H; have xP := eq_true c3; have tK : decide (((cg_ l0 0).f0).size + 1 ≤ 9223372036854775807) = true := det c3
 try have ZM : (9223372036854775807 < ((cg_ l0 0).f0).size + 1) = False := eq_false (Nat.not_lt.2 c3)
 revert H; refine biB ?_; intro zY A4 H; (try dsimp only at H); revert H; refine itPN ?_; intro c5 H; have uj := eq_true c5; have oP : decide (((cg_ l0 0).f0).size + 1 + zY.size ≤ 9223372036854775807) = true := det c5
 try have X4 : (9223372036854775807 < ((cg_ l0 0).f0).size + 1 + zY.size) = False := eq_false (Nat.not_lt.2 c5)
 revert H; refine itPN ?_; intro c6 H; have xG := eq_true c6; have sK : decide (((cg_ l0 0).f0).size + 1 + zY.size + 1 ≤ 9223372036854775807) = true := det c6
 try have Si : (9223372036854775807 < ((cg_ l0 0).f0).size + 1 + zY.size + 1) = False := eq_false (Nat.not_lt.2 c6)
 revert H; refine biB ?_; intro t105 A7 H; (try dsimp only at H); revert H; refine itPN ?_; intro c8 H; have wW := eq_true c8; have rD : decide (((cg_ l0 0).f0).size + 1 + zY.size + 1 + t105.size ≤ 9223372036854775807) = true := det c8
 try have UE : (9223372036854775807 < ((cg_ l0 0).f0).size + 1 + zY.size + 1 + t105.size) = False := eq_false (Nat.not_lt.2 c8)
 obtain rfl := Option.some.inj H; go_enter func99, ntmps99
 try go_wp2
 replace HB := ak (bD_ HB.1); have xR : 0 ≤ (0 : Int) := rae; have xQ : 0 < (l0.length : Int) := ode ram; obtain ⟨zu, mF, zU, zA, y9⟩ := at_T43 HR0.1 0 xR xQ; have uo := y9; (try simp only [Int.toNat_zero, Nat.zero_mul, Addr.add_zero'] at uo); have um := zA; (try simp only [Int.toNat_zero, Nat.zero_mul, Addr.add_zero'] at um); have ul := zU; (try simp only [Int.toNat_zero, Nat.zero_mul, Addr.add_zero'] at ul); cases mF; have uR : (0 < l0.length) = True := eq_true rae; (try simp only [Int.toNat_zero, Nat.zero_mul, Addr.add_zero'] at zU zA y9); replace zU := bu_ HB.1 zU; replace zA := bu_ HB.1 zA; replace y9 := bu_ HB.1 y9; replace xR := eq_true xR; replace xQ := eq_true xQ; have vB : 0 ≤ (0 : Int) := rae; have u7 : 0 < (l0.length : Int) := ode ram; obtain ⟨xO, kR, yf, yc, yZ⟩ := at_T43 HR0.1 0 vB u7; have wG := yZ; (try simp only [Int.toNat_zero, Nat.zero_mul, Addr.add_zero'] at wG); have wF := yc; (try simp only [Int.toNat_zero, Nat.zero_mul, Addr.add_zero'] at wF); have wE := yf; (try simp only [Int.toNat_zero, Nat.zero_mul, Addr.add_zero'] at wE); obtain rfl : zu = xO := (by injection kR); have tH : (0 < l0.length) = True := eq_true rae; (try simp only [Int.toNat_zero, Nat.zero_mul, Addr.add_zero'] at yf yc yZ); replace yf := bu_ HB.1 yf; replace yc := bu_ HB.1 yc; replace yZ := bu_ HB.1 yZ; replace vB := eq_true vB; replace u7 := eq_true u7; have vK : 0 ≤ (0 : Int) := rae; have vJ : 0 < (l0.length : Int) := ode ram; obtain ⟨vL, rG, yO, xn, xm⟩ := at_T43 HR0.1 0 vK vJ; have wD := xm; (try simp only [Int.toNat_zero, Nat.zero_mul, Addr.add_zero'] at wD); have wC := xn; (try simp only [Int.toNat_zero, Nat.zero_mul, Addr.add_zero'] at wC); have wB := yO; (try simp only [Int.toNat_zero, Nat.zero_mul, Addr.add_zero'] at wB); obtain rfl : zu = vL := (by injection rG); have U4 : (0 < l0.length) = True := eq_true rae; (try simp only [Int.toNat_zero, Nat.zero_mul, Addr.add_zero'] at yO xn xm); replace yO := bu_ HB.1 yO; replace xn := bu_ HB.1 xn; replace xm := bu_ HB.1 xm; replace vK := eq_true vK; replace vJ := eq_true vJ; refine cJ_ (n := 19) (S := fun w' => w'.cell? zu = some (.string ((cg_ l0 0).f0)) ∧ w'.cell? ⟨zu.block, zu.off + 1, none⟩ = some (.int .i64 ((cg_ l0 0).f1)) ∧ w'.cell? ⟨zu.block, zu.off + 2, none⟩ = some (.int .i64 ((cg_ l0 0).f2)) ∧ w'.cell? zu = some (.string ((cg_ l0 0).f0)) ∧ w'.cell? ⟨zu.block, zu.off + 1, none⟩ = some (.int .i64 ((cg_ l0 0).f1)) ∧ w'.cell? ⟨zu.block, zu.off + 2, none⟩ = some (.int .i64 ((cg_ l0 0).f2)) ∧ w'.cell? zu = some (.string ((cg_ l0 0).f0)) ∧ w'.cell? ⟨zu.block, zu.off + 1, none⟩ = some (.int .i64 ((cg_ l0 0).f1)) ∧ w'.cell? ⟨zu.block, zu.off + 2, none⟩ = some (.int .i64 ((cg_ l0 0).f2))) (ds := []) (tb 0 19) ras rfl rfl ⟨(bv_ HB.1 ul), (bv_ HB.1 um), (bv_ HB.1 uo), (bv_ HB.1 wE), (bv_ HB.1 wF), (bv_ HB.1 wG), (bv_ HB.1 wB), (bv_ HB.1 wC), (bv_ HB.1 wD)⟩ (fun hHeld => ?_); refine bU_ ca_.tab1 ca_.bits1 (fun HT_ HW_ => ?_); generalize w.drew = w9 at HB zU zA y9 yf yc yZ yO xn xm hHeld ⊢; refine pu 0 3 (tb 1 18) HT_ ?_; refine pu 1 4 (tb 2 17) HT_ ?_; refine pu 2 5 (tb 3 16) HT_ ?_; refine pu 5 8 #[t_,t_,t_,f_,f_,t_,f_,f_,f_,f_,f_,f_,f_,f_,f_,f_,f_,f_,f_] HT_ ?_; refine pu 6 9 #[t_,t_,t_,f_,f_,t_,t_,f_,f_,f_,f_,f_,f_,f_,f_,f_,f_,f_,f_] HT_ ?_; refine pu 7 10 #[t_,t_,t_,f_,f_,t_,t_,t_,f_,f_,f_,f_,f_,f_,f_,f_,f_,f_,f_] HT_ ?_; refine pu 12 15 #[t_,t_,t_,f_,f_,t_,t_,t_,f_,f_,f_,f_,t_,f_,f_,f_,f_,f_,f_] HT_ ?_; refine pu 13 16 #[t_,t_,t_,f_,f_,t_,t_,t_,f_,f_,f_,f_,t_,t_,f_,f_,f_,f_,f_] HT_ ?_; refine pu 14 17 #[t_,t_,t_,f_,f_,t_,t_,t_,f_,f_,f_,f_,t_,t_,t_,f_,f_,f_,f_] HT_ ?_; refine tk 3 6 #[t_,t_,t_,t_,f_,t_,t_,t_,f_,f_,f_,f_,t_,t_,t_,f_,f_,f_,f_] HT_ HW_ hHeld ?_ (hv := by rintro w' ⟨s0, s1, s2, s3, s4, s5, s6, s7, s8⟩; go_simp; with_reducible rfl); refine pu 4 7 #[t_,t_,t_,t_,t_,t_,t_,t_,f_,f_,f_,f_,t_,t_,t_,f_,f_,f_,f_] HT_ ?_; refine tk 8 11 #[t_,t_,t_,t_,t_,t_,t_,t_,t_,f_,f_,f_,t_,t_,t_,f_,f_,f_,f_] HT_ HW_ hHeld ?_ (hv := by rintro w' ⟨s0, s1, s2, s3, s4, s5, s6, s7, s8⟩; go_simp; with_reducible rfl); refine tk 15 18 #[t_,t_,t_,t_,t_,t_,t_,t_,t_,f_,f_,f_,t_,t_,t_,t_,f_,f_,f_] HT_ HW_ hHeld ?_ (hv := by rintro w' ⟨s0, s1, s2, s3, s4, s5, s6, s7, s8⟩; go_simp; with_reducible rfl); refine on_ 9 12 #[t_,t_,t_,t_,t_,t_,t_,t_,t_,t_,f_,f_,t_,t_,t_,t_,f_,f_,f_] HT_ (fun K hK => ?_); (first | refine gs_ func59 #[.int .i64 ((cg_ l0 0).f1)] ?_ | refine gsV_ func59 #[.int .i64 ((cg_ l0 0).f1)] ?_ | refine gsC_ func59 #[.int .i64 ((cg_ l0 0).f1)] ?_); with_reducible refine (ar_.calls k ((cg_ l0 0).f1) zY _ A4.1).mono ?_
 rintro e w10 ⟨rfl, hb⟩; refine ⟨_, rfl, ?_⟩; replace HB := ak (ac_ (bz HB.1) hb); (try clear hb); refine hK.out _ _ ⟨(bv_ HB.1 ul), (bv_ HB.1 um), (bv_ HB.1 uo), (bv_ HB.1 wE), (bv_ HB.1 wF), (bv_ HB.1 wG), (bv_ HB.1 wB), (bv_ HB.1 wC), (bv_ HB.1 wD)⟩ (fun hHeld => ?_); clear hK K; refine nm_ 12 ?_; refine pu 10 13 #[t_,t_,t_,t_,t_,t_,t_,t_,t_,t_,t_,f_,t_,t_,t_,t_,f_,f_,f_] HT_ ?_; refine pu 11 14 (tb 16 3) HT_ ?_; refine on_ 16 19 (tb 17 2) HT_ (fun K hK => ?_); (first | refine gs_ func59 #[.int .i64 ((cg_ l0 0).f2)] ?_ | refine gsV_ func59 #[.int .i64 ((cg_ l0 0).f2)] ?_ | refine gsC_ func59 #[.int .i64 ((cg_ l0 0).f2)] ?_); with_reducible refine (ar_.calls k ((cg_ l0 0).f2) t105 _ A7.1).mono ?_
 rintro e w11 ⟨rfl, hb⟩; refine ⟨_, rfl, ?_⟩; replace HB := ak (ac_ (bz HB.1) hb); (try clear hb); refine hK.out _ _ ⟨(bv_ HB.1 ul), (bv_ HB.1 um), (bv_ HB.1 uo), (bv_ HB.1 wE), (bv_ HB.1 wF), (bv_ HB.1 wG), (bv_ HB.1 wB), (bv_ HB.1 wC), (bv_ HB.1 wD)⟩ (fun hHeld => ?_); clear hK K; refine nm_ 19 ?_; refine pu 17 20 (tb 18 1) HT_ ?_; refine pu 18 2 (tb 19 0) HT_ ?_; refine done_ (ct_ HT_.1 ras) ?_
 try go_wp2
 go_ret; exact ⟨raf, bz HB.1⟩
def bL_.l0 : Nat → List Int → ByteArray → Int → Option (ByteArray)
 | 0, _, _, _ => none
 | k + 1, x0, x3, x4 => if x4 < (x0.length : Int) then (if x4 > 0 then (if x3.size + 1 ≤ 9223372036854775807 then (if 0 ≤ x4 then ((ar_.f k (rd x0 x4)).bind fun zy => (if x3.size + 1 + zy.size ≤ 9223372036854775807 then (bL_.l0 k x0 ((x3 ++ (⟨#[44]⟩ : ByteArray)) ++ zy) (wrap64 (x4 + 1))) else (none))) else (none)) else (none)) else (if 0 ≤ x4 then ((ar_.f k (rd x0 x4)).bind fun zi => (if x3.size + zi.size ≤ 9223372036854775807 then (bL_.l0 k x0 (x3 ++ zi) (wrap64 (x4 + 1))) else (none))) else (none))) else (some x3)
def bL_.f (k : Nat) (l0 : List Int) : Option (ByteArray) := if (l0.length : Int) = 0 then (some (⟨#[45]⟩ : ByteArray)) else (bL_.l0 k l0 (⟨#[]⟩ : ByteArray) 0)
theorem bL_.calls (k : Nat) (A0 : Option Addr) (c0 : Nat) (l0 : List Int) (r : ByteArray) (w : World) (hr0 : Kd.C (Kd.int .i64) w A0 l0.length l0) (hc0 : l0.length ≤ c0) (h : bL_.f k l0 = some r) :
  Calls prog 100 #[.slice A0 l0.length c0] w fun e w' => e = .returned (.string r) ∧ Below w.heap.size w w' := by
 have HR0 := ak hr0; have HC0 := ak hc0; clear hr0 hc0; have HB := ak (Below.refl w.heap.size w); have H : (if (l0.length : Int) = 0 then (some (⟨#[45]⟩ : ByteArray)) else (bL_.l0 k l0 (⟨#[]⟩ : ByteArray) 0)) = some r := h; clear h; revert H; refine itEE ?_ ?_; rotate_left
 ·intro c2 ug mE H; have GG : ¬ (l0 = []) := fun h_ => c2 (by rw [h_]; rfl); have H' := ak H; clear H; go_enter func100, ntmps100; go_wp2; (try simp only [Act.put, lsa_, ls0_, ls1_])
  go_loopg [3, 4] k (fun kq v3 v4 w' => ∃ (zF : ByteArray) (zG : Int), v3 = .string zF ∧ v4 = .int .i64 zG ∧ Aside0 (bL_.l0 kq l0 zF zG = some r) ∧ Aside0 (kq ≤ k) ∧ Aside0 (Below w.heap.size w w'))
  case atStart => exact ⟨((⟨#[]⟩ : ByteArray)), (0), rad, rad, H', ⟨Nat.le_refl _⟩, ⟨bz HB.1⟩⟩
  case round =>
   clear H'; obtain ⟨zF, zG, rfl, rfl, HA, HK1, HB⟩ := hrel
   cases gk with
   | zero => exact absurd HA.1 (by simp [bL_.l0])
   | succ k1 =>
    have H := HA.1; clear HA; simp only [bL_.l0] at H; revert H; refine itDD ?_ ?_; rotate_left
    ·intro xP H; obtain rfl := Option.some.inj H; go_wp2; go_ret; exact ⟨raf, bz HB.1⟩
    intro xP H; revert H; refine itDD ?_ ?_; rotate_left
    ·intro wh H; revert H; refine itDN ?_; intro xe H; revert H; refine biB ?_; intro zi A11 H; (try dsimp only at H); revert H; refine itPN ?_; intro c12 H; have jy := eq_true c12; have Uv : decide (zF.size + zi.size ≤ 9223372036854775807) = true := det c12
     try have Gw : (9223372036854775807 < zF.size + zi.size) = False := eq_false (Nat.not_lt.2 c12)
     have H' := ak H; clear H; have sJ : 0 ≤ (zG : Int) := ode ram; have sI : zG < (l0.length : Int) := ode ram; obtain ⟨ui, rX, wZ⟩ := Kd.at_int HR0.1 zG sJ sI; cases rX; replace wZ := bu_ HB.1 wZ; replace sJ := eq_true sJ; replace sI := eq_true sI; go_wp2_with (first | (refine gL 59 23 func59 #[.int .i64 (rd l0 zG)] ?_; (with_reducible refine (ar_.calls k1 (rd l0 zG) zi _ A11.1).mono ?_); rintro e w13 ⟨rfl, hb⟩; refine ⟨_, rfl, ?_⟩; replace HB := ak (ac_ (bz HB.1) hb); (try clear hb)))
     go_roundg k1
     case measure => have := HK1.1; omega
     case rel => exact ⟨(zF ++ zi), (wrap64 (zG + 1)), rad, rad, H', ⟨by have := HK1.1; omega⟩, ⟨bz HB.1⟩⟩
    intro wh H; revert H; refine itPN ?_; intro c5 H; have uj := eq_true c5; have oP : decide (zF.size + 1 ≤ 9223372036854775807) = true := det c5
    try have X4 : (9223372036854775807 < zF.size + 1) = False := eq_false (Nat.not_lt.2 c5)
    revert H; refine itDN ?_; intro xG H; revert H; refine biB ?_; intro zy A7 H; (try dsimp only at H); revert H; refine itPN ?_; intro c8 H; have wW := eq_true c8; have rD : decide (zF.size + 1 + zy.size ≤ 9223372036854775807) = true := det c8
    try have UE : (9223372036854775807 < zF.size + 1 + zy.size) = False := eq_false (Nat.not_lt.2 c8)
    have H' := ak H; clear H; have xR : 0 ≤ (zG : Int) := ode ram; have xQ : zG < (l0.length : Int) := ode ram; obtain ⟨zu, mF, zU⟩ := Kd.at_int HR0.1 zG xR xQ; cases mF; replace zU := bu_ HB.1 zU; replace xR := eq_true xR; replace xQ := eq_true xQ; go_wp2_with (first | (refine gL 59 23 func59 #[.int .i64 (rd l0 zG)] ?_; (with_reducible refine (ar_.calls k1 (rd l0 zG) zy _ A7.1).mono ?_); rintro e w9 ⟨rfl, hb⟩; refine ⟨_, rfl, ?_⟩; replace HB := ak (ac_ (bz HB.1) hb); (try clear hb)))
    go_roundg k1
    case measure => have := HK1.1; omega
    case rel => exact ⟨((zF ++ (⟨#[44]⟩ : ByteArray)) ++ zy), (wrap64 (zG + 1)), rad, rad, H', ⟨by have := HK1.1; omega⟩, ⟨bz HB.1⟩⟩
 intro ug mE H; obtain rfl := Option.some.inj H; go_enter func100, ntmps100; go_wp2; go_ret; exact ⟨raf, bz HB.1⟩
def bn_.l0 : Nat → List (S46) → ByteArray → Int → Option (ByteArray)
 | 0, _, _, _ => none
 | k + 1, x0, x3, x4 => if 0 < (x0.length : Int) then (if x4 < (((aa_ x0 0).f6).length : Int) then (if 0 ≤ x4 then ((bL_.f k (([(aF_ ((aa_ x0 0).f6) x4).f0, (aF_ ((aa_ x0 0).f6) x4).f1, (aF_ ((aa_ x0 0).f6) x4).f2, (aF_ ((aa_ x0 0).f6) x4).f3] : List Int))).bind fun yD => (if 1 + yD.size ≤ 9223372036854775807 then (if x3.size + (1 + yD.size) ≤ 9223372036854775807 then (bn_.l0 k x0 (x3 ++ ((⟨#[47]⟩ : ByteArray) ++ yD)) (wrap64 (x4 + 1))) else (none)) else (none))) else (none)) else (some x3)) else (none)
def bn_.f (k : Nat) (l0 : List (S46)) : Option (ByteArray) := if 0 < (l0.length : Int) then (if ((aa_ l0 0).f0).size + 1 ≤ 9223372036854775807 then (if ((aa_ l0 0).f0).size + 1 + ((aa_ l0 0).f1).size ≤ 9223372036854775807 then (if ((aa_ l0 0).f0).size + 1 + ((aa_ l0 0).f1).size + 1 ≤ 9223372036854775807 then ((ar_.f k ((aa_ l0 0).f2)).bind fun zi => (if ((aa_ l0 0).f0).size + 1 + ((aa_ l0 0).f1).size + 1 + zi.size ≤ 9223372036854775807 then (if ((aa_ l0 0).f0).size + 1 + ((aa_ l0 0).f1).size + 1 + zi.size + 1 ≤ 9223372036854775807 then ((ca_.f k [(aa_ l0 0).f3]).bind fun zP => (if ((aa_ l0 0).f0).size + 1 + ((aa_ l0 0).f1).size + 1 + zi.size + 1 + zP.size ≤ 9223372036854775807 then (if ((aa_ l0 0).f0).size + 1 + ((aa_ l0 0).f1).size + 1 + zi.size + 1 + zP.size + 1 ≤ 9223372036854775807 then ((ar_.f k ((aa_ l0 0).f4)).bind fun y8 => (if ((aa_ l0 0).f0).size + 1 + ((aa_ l0 0).f1).size + 1 + zi.size + 1 + zP.size + 1 + y8.size ≤ 9223372036854775807 then (if ((aa_ l0 0).f0).size + 1 + ((aa_ l0 0).f1).size + 1 + zi.size + 1 + zP.size + 1 + y8.size + 1 ≤ 9223372036854775807 then ((ar_.f k ((aa_ l0 0).f5)).bind fun zM => (if ((aa_ l0 0).f0).size + 1 + ((aa_ l0 0).f1).size + 1 + zi.size + 1 + zP.size + 1 + y8.size + 1 + zM.size ≤ 9223372036854775807 then (bn_.l0 k l0 ((((((((((((aa_ l0 0).f0) ++ (⟨#[47]⟩ : ByteArray)) ++ ((aa_ l0 0).f1)) ++ (⟨#[47]⟩ : ByteArray)) ++ zi) ++ (⟨#[47]⟩ : ByteArray)) ++ zP) ++ (⟨#[47]⟩ : ByteArray)) ++ y8) ++ (⟨#[120]⟩ : ByteArray)) ++ zM) 0) else (none))) else (none)) else (none))) else (none)) else (none))) else (none)) else (none))) else (none)) else (none)) else (none)) else (none)
def bn_.T1 : Bool × List (List Nat × List Nat) := (true, [([], []), ([0], [0]), ([1], [1]), ([2], [2]), ([3], [3]), ([], []), ([5], [5]), ([6], [6]), ([7], [7]), ([4, 8], [4, 8]), ([9], [9]), ([], []), ([11], [11]), ([12], [12]), ([13], [13]), ([14], [14]), ([10, 15], [10, 15]), ([16], [16]), ([], []), ([18], [18]), ([19], [19]), ([20, 15], [20]), ([17, 21], [17, 21]), ([22], [22]), ([], []), ([24], [24]), ([25], [25]), ([26], [26]), ([27, 21], [27]), ([23, 28], [23, 28]), ([29], [29]), ([], []), ([31], [31]), ([32], [32]), ([33], [33]), ([34, 28], [34]), ([30, 35], [30, 35]), ([36, 35, 0, 1, 2, 3, 4, 5, 6, 7, 8, 9, 10, 11, 12, 13, 14, 15, 16, 17, 18, 19, 20, 21, 22, 23, 24, 25, 26, 27, 28, 29, 30, 31, 32, 33, 34, 35, 36], [36])])
def bn_.B1 : List Nat := [0, 1, 3, 7, 15, 0, 32, 96, 224, 511, 1023, 0, 2048, 6144, 14336, 30720, 65535, 131071, 0, 262144, 786432, 1898496, 4194303, 8388607, 0, 16777216, 50331648, 117440512, 255653888, 536870911, 1073741823, 0, 2147483648, 6442450944, 15032385536, 32736344064, 68719476735, 137438953471]
theorem bn_.tab1 : rtab .any (opsOf Tryz.f74 1) = bn_.T1 := by kernel_rfl
theorem bn_.bits1 : cw_ bn_.T1.2 bn_.B1 = true := by kernel_rfl
theorem bn_.calls (k : Nat) (A0 : Option Addr) (l0 : List (S46)) (r : ByteArray) (w : World) (hr0 : Kd.C k46 w A0 l0.length l0) (h : bn_.f k l0 = some r) :
  Calls prog 74 #[.pointer A0] w fun e w' => e = .returned (.string r) ∧ Below w.heap.size w w' := by
 have hu107 := underlying107; have HR0 := ak hr0; clear hr0; have HB := ak (Below.refl w.heap.size w); have H : (if 0 < (l0.length : Int) then (if ((aa_ l0 0).f0).size + 1 ≤ 9223372036854775807 then (if ((aa_ l0 0).f0).size + 1 + ((aa_ l0 0).f1).size ≤ 9223372036854775807 then (if ((aa_ l0 0).f0).size + 1 + ((aa_ l0 0).f1).size + 1 ≤ 9223372036854775807 then ((ar_.f k ((aa_ l0 0).f2)).bind fun zi => (if ((aa_ l0 0).f0).size + 1 + ((aa_ l0 0).f1).size + 1 + zi.size ≤ 9223372036854775807 then (if ((aa_ l0 0).f0).size + 1 + ((aa_ l0 0).f1).size + 1 + zi.size + 1 ≤ 9223372036854775807 then ((ca_.f k [(aa_ l0 0).f3]).bind fun zP => (if ((aa_ l0 0).f0).size + 1 + ((aa_ l0 0).f1).size + 1 + zi.size + 1 + zP.size ≤ 9223372036854775807 then (if ((aa_ l0 0).f0).size + 1 + ((aa_ l0 0).f1).size + 1 + zi.size + 1 + zP.size + 1 ≤ 9223372036854775807 then ((ar_.f k ((aa_ l0 0).f4)).bind fun y8 => (if ((aa_ l0 0).f0).size + 1 + ((aa_ l0 0).f1).size + 1 + zi.size + 1 + zP.size + 1 + y8.size ≤ 9223372036854775807 then (if ((aa_ l0 0).f0).size + 1 + ((aa_ l0 0).f1).size + 1 + zi.size + 1 + zP.size + 1 + y8.size + 1 ≤ 9223372036854775807 then ((ar_.f k ((aa_ l0 0).f5)).bind fun zM => (if ((aa_ l0 0).f0).size + 1 + ((aa_ l0 0).f1).size + 1 + zi.size + 1 + zP.size + 1 + y8.size + 1 + zM.size ≤ 9223372036854775807 then (bn_.l0 k l0 ((((((((((((aa_ l0 0).f0) ++ (⟨#[47]⟩ : ByteArray)) ++ ((aa_ l0 0).f1)) ++ (⟨#[47]⟩ : ByteArray)) ++ zi) ++ (⟨#[47]⟩ : ByteArray)) ++ zP) ++ (⟨#[47]⟩ : ByteArray)) ++ y8) ++ (⟨#[120]⟩ : ByteArray)) ++ zM) 0) else (none))) else (none)) else (none))) else (none)) else (none))) else (none)) else (none))) else (none)) else (none)) else (none)) else (none)) = some r := h; clear h; revert H; refine itPN ?_; intro c2 H; have ug : decide (0 < (l0.length : Int)) = true := det c2; have mE : decide (0 < l0.length) = true := det rae; clear c2; revert H; refine itPN ?_; intro c3 H; have xP := eq_true c3; have tK : decide (((aa_ l0 0).f0).size + 1 ≤ 9223372036854775807) = true := det c3
 try have ZM : (9223372036854775807 < ((aa_ l0 0).f0).size + 1) = False := eq_false (Nat.not_lt.2 c3)
 revert H; refine itPN ?_; intro c4 H; have wh := eq_true c4; have rY : decide (((aa_ l0 0).f0).size + 1 + ((aa_ l0 0).f1).size ≤ 9223372036854775807) = true := det c4
 try have Sg : (9223372036854775807 < ((aa_ l0 0).f0).size + 1 + ((aa_ l0 0).f1).size) = False := eq_false (Nat.not_lt.2 c4)
 revert H; refine itPN ?_; intro c5 H; have uj := eq_true c5; have oP : decide (((aa_ l0 0).f0).size + 1 + ((aa_ l0 0).f1).size + 1 ≤ 9223372036854775807) = true := det c5
 try have X4 : (9223372036854775807 < ((aa_ l0 0).f0).size + 1 + ((aa_ l0 0).f1).size + 1) = False := eq_false (Nat.not_lt.2 c5)
 revert H; refine biB ?_; intro zi A6 H; (try dsimp only at H); revert H; refine itPN ?_; intro c7 H; have yE := eq_true c7; have sZ : decide (((aa_ l0 0).f0).size + 1 + ((aa_ l0 0).f1).size + 1 + zi.size ≤ 9223372036854775807) = true := det c7
 try have GD : (9223372036854775807 < ((aa_ l0 0).f0).size + 1 + ((aa_ l0 0).f1).size + 1 + zi.size) = False := eq_false (Nat.not_lt.2 c7)
 revert H; refine itPN ?_; intro c8 H; have wW := eq_true c8; have rD : decide (((aa_ l0 0).f0).size + 1 + ((aa_ l0 0).f1).size + 1 + zi.size + 1 ≤ 9223372036854775807) = true := det c8
 try have UE : (9223372036854775807 < ((aa_ l0 0).f0).size + 1 + ((aa_ l0 0).f1).size + 1 + zi.size + 1) = False := eq_false (Nat.not_lt.2 c8)
 revert H; refine biB ?_; intro zP A9 H; (try dsimp only at H); revert H; refine itPN ?_; intro c10 H; have xe := eq_true c10; have tJ : decide (((aa_ l0 0).f0).size + 1 + ((aa_ l0 0).f1).size + 1 + zi.size + 1 + zP.size ≤ 9223372036854775807) = true := det c10
 try have Uu : (9223372036854775807 < ((aa_ l0 0).f0).size + 1 + ((aa_ l0 0).f1).size + 1 + zi.size + 1 + zP.size) = False := eq_false (Nat.not_lt.2 c10)
 revert H; refine itPN ?_; intro c11 H; have rJ := eq_true c11; have oM : decide (((aa_ l0 0).f0).size + 1 + ((aa_ l0 0).f1).size + 1 + zi.size + 1 + zP.size + 1 ≤ 9223372036854775807) = true := det c11
 try have ZL : (9223372036854775807 < ((aa_ l0 0).f0).size + 1 + ((aa_ l0 0).f1).size + 1 + zi.size + 1 + zP.size + 1) = False := eq_false (Nat.not_lt.2 c11)
 revert H; refine biB ?_; intro y8 A12 H; (try dsimp only at H); revert H; refine itPN ?_; intro c13 H; have wU := eq_true c13; have oI : decide (((aa_ l0 0).f0).size + 1 + ((aa_ l0 0).f1).size + 1 + zi.size + 1 + zP.size + 1 + y8.size ≤ 9223372036854775807) = true := det c13
 try have Ut : (9223372036854775807 < ((aa_ l0 0).f0).size + 1 + ((aa_ l0 0).f1).size + 1 + zi.size + 1 + zP.size + 1 + y8.size) = False := eq_false (Nat.not_lt.2 c13)
 revert H; refine itPN ?_; intro c14 H; have uQ := eq_true c14; have dY : decide (((aa_ l0 0).f0).size + 1 + ((aa_ l0 0).f1).size + 1 + zi.size + 1 + zP.size + 1 + y8.size + 1 ≤ 9223372036854775807) = true := det c14
 try have Gv : (9223372036854775807 < ((aa_ l0 0).f0).size + 1 + ((aa_ l0 0).f1).size + 1 + zi.size + 1 + zP.size + 1 + y8.size + 1) = False := eq_false (Nat.not_lt.2 c14)
 revert H; refine biB ?_; intro zM A15 H; (try dsimp only at H); revert H; refine itPN ?_; intro c16 H; have rR := eq_true c16; have kK : decide (((aa_ l0 0).f0).size + 1 + ((aa_ l0 0).f1).size + 1 + zi.size + 1 + zP.size + 1 + y8.size + 1 + zM.size ≤ 9223372036854775807) = true := det c16
 try have Gu : (9223372036854775807 < ((aa_ l0 0).f0).size + 1 + ((aa_ l0 0).f1).size + 1 + zi.size + 1 + zP.size + 1 + y8.size + 1 + zM.size) = False := eq_false (Nat.not_lt.2 c16)
 have H' := ak H; clear H; go_enter func74, ntmps74
 try go_wp2
 replace HB := ak (bD_ HB.1); have xR : 0 ≤ (0 : Int) := rae; have xQ : 0 < (l0.length : Int) := ode ram; obtain ⟨zu, yX, yV, mF, zU, zA, y9, wY, wR, wQ, wP, wO, zB, hl101_8, hi101_8⟩ := at_T46 HR0.1 0 xR xQ; have qj := zB; (try simp only [Int.toNat_zero, Nat.zero_mul, Addr.add_zero'] at qj); have qi := wO; (try simp only [Int.toNat_zero, Nat.zero_mul, Addr.add_zero'] at qi); have qh := wP; (try simp only [Int.toNat_zero, Nat.zero_mul, Addr.add_zero'] at qh); have qg := wQ; (try simp only [Int.toNat_zero, Nat.zero_mul, Addr.add_zero'] at qg); have qf := wR; (try simp only [Int.toNat_zero, Nat.zero_mul, Addr.add_zero'] at qf); have qd := wY; (try simp only [Int.toNat_zero, Nat.zero_mul, Addr.add_zero'] at qd); have uo := y9; (try simp only [Int.toNat_zero, Nat.zero_mul, Addr.add_zero'] at uo); have um := zA; (try simp only [Int.toNat_zero, Nat.zero_mul, Addr.add_zero'] at um); have ul := zU; (try simp only [Int.toNat_zero, Nat.zero_mul, Addr.add_zero'] at ul); cases mF; have uR : (0 < l0.length) = True := eq_true rae; (try simp only [Int.toNat_zero, Nat.zero_mul, Addr.add_zero'] at zU zA); (try simp only [Int.toNat_zero, Nat.zero_mul, Addr.add_zero'] at y9 wY); (try simp only [Int.toNat_zero, Nat.zero_mul, Addr.add_zero'] at wR wQ); (try simp only [Int.toNat_zero, Nat.zero_mul, Addr.add_zero'] at wP wO zB); replace zU := bu_ HB.1 zU; replace zA := bu_ HB.1 zA; replace y9 := bu_ HB.1 y9; replace wY := bu_ HB.1 wY; replace wR := bu_ HB.1 wR; replace wQ := bu_ HB.1 wQ; replace wP := bu_ HB.1 wP; replace wO := bu_ HB.1 wO; replace zB := bu_ HB.1 zB; have vw := ak hi101_8; have vU := ak hl101_8; clear hi101_8 hl101_8; replace xR := eq_true xR; replace xQ := eq_true xQ; have vB : 0 ≤ (0 : Int) := rae; have u7 : 0 < (l0.length : Int) := ode ram; obtain ⟨xO, rC, rA, kR, yf, yc, yZ, vT, vS, vR, vQ, vP, yR, hl102_8, hi102_8⟩ := at_T46 HR0.1 0 vB u7; have qc := yR; (try simp only [Int.toNat_zero, Nat.zero_mul, Addr.add_zero'] at qc); have qb := vP; (try simp only [Int.toNat_zero, Nat.zero_mul, Addr.add_zero'] at qb); have qa := vQ; (try simp only [Int.toNat_zero, Nat.zero_mul, Addr.add_zero'] at qa); have qZ := vR; (try simp only [Int.toNat_zero, Nat.zero_mul, Addr.add_zero'] at qZ); have qY := vS; (try simp only [Int.toNat_zero, Nat.zero_mul, Addr.add_zero'] at qY); have qX := vT; (try simp only [Int.toNat_zero, Nat.zero_mul, Addr.add_zero'] at qX); have wG := yZ; (try simp only [Int.toNat_zero, Nat.zero_mul, Addr.add_zero'] at wG); have wF := yc; (try simp only [Int.toNat_zero, Nat.zero_mul, Addr.add_zero'] at wF); have wE := yf; (try simp only [Int.toNat_zero, Nat.zero_mul, Addr.add_zero'] at wE); obtain rfl : zu = xO := (by injection kR); have tH : (0 < l0.length) = True := eq_true rae; (try simp only [Int.toNat_zero, Nat.zero_mul, Addr.add_zero'] at yf yc); (try simp only [Int.toNat_zero, Nat.zero_mul, Addr.add_zero'] at yZ vT); (try simp only [Int.toNat_zero, Nat.zero_mul, Addr.add_zero'] at vS vR); (try simp only [Int.toNat_zero, Nat.zero_mul, Addr.add_zero'] at vQ vP yR); replace yf := bu_ HB.1 yf; replace yc := bu_ HB.1 yc; replace yZ := bu_ HB.1 yZ; replace vT := bu_ HB.1 vT; replace vS := bu_ HB.1 vS; replace vR := bu_ HB.1 vR; replace vQ := bu_ HB.1 vQ; replace vP := bu_ HB.1 vP; replace yR := bu_ HB.1 yR; have uA := ak hi102_8; have sQ := ak hl102_8; clear hi102_8 hl102_8; replace vB := eq_true vB; replace u7 := eq_true u7; have ea_ := Option.some.inj (zB.symm.trans yR); injection ea_ with ea_ en_ ec_; (try subst ea_); (try subst ec_); (try clear ea_ ec_); clear en_; have sJ : 0 ≤ (0 : Int) := rae; have sI : 0 < (l0.length : Int) := ode ram; obtain ⟨ui, UD, UC, rX, wZ, vW, vV, qW, qV, qU, qR, qQ, yK, hl103_8, hi103_8⟩ := at_T46 HR0.1 0 sJ sI; have qP := yK; (try simp only [Int.toNat_zero, Nat.zero_mul, Addr.add_zero'] at qP); have qO := qQ; (try simp only [Int.toNat_zero, Nat.zero_mul, Addr.add_zero'] at qO); have qN := qR; (try simp only [Int.toNat_zero, Nat.zero_mul, Addr.add_zero'] at qN); have qM := qU; (try simp only [Int.toNat_zero, Nat.zero_mul, Addr.add_zero'] at qM); have qL := qV; (try simp only [Int.toNat_zero, Nat.zero_mul, Addr.add_zero'] at qL); have qK := qW; (try simp only [Int.toNat_zero, Nat.zero_mul, Addr.add_zero'] at qK); have qJ := vV; (try simp only [Int.toNat_zero, Nat.zero_mul, Addr.add_zero'] at qJ); have qI := vW; (try simp only [Int.toNat_zero, Nat.zero_mul, Addr.add_zero'] at qI); have qH := wZ; (try simp only [Int.toNat_zero, Nat.zero_mul, Addr.add_zero'] at qH); obtain rfl : zu = ui := (by injection rX); have kS : (0 < l0.length) = True := eq_true rae; (try simp only [Int.toNat_zero, Nat.zero_mul, Addr.add_zero'] at wZ vW); (try simp only [Int.toNat_zero, Nat.zero_mul, Addr.add_zero'] at vV qW); (try simp only [Int.toNat_zero, Nat.zero_mul, Addr.add_zero'] at qV qU); (try simp only [Int.toNat_zero, Nat.zero_mul, Addr.add_zero'] at qR qQ yK); replace wZ := bu_ HB.1 wZ; replace vW := bu_ HB.1 vW; replace vV := bu_ HB.1 vV; replace qW := bu_ HB.1 qW; replace qV := bu_ HB.1 qV; replace qU := bu_ HB.1 qU; replace qR := bu_ HB.1 qR; replace qQ := bu_ HB.1 qQ; replace yK := bu_ HB.1 yK; have bY := ak hi103_8; have X3 := ak hl103_8; clear hi103_8 hl103_8; replace sJ := eq_true sJ; replace sI := eq_true sI; have ea_ := Option.some.inj (zB.symm.trans yK); injection ea_ with ea_ en_ ec_; (try subst ea_); (try subst ec_); (try clear ea_ ec_); clear en_; have vD : 0 ≤ (0 : Int) := rae; have vC : 0 < (l0.length : Int) := ode ram; obtain ⟨yQ, su, sj, rH, yB, uU, uT, qG, qF, qE, qD, qC, xu, hl105_8, hi105_8⟩ := at_T46 HR0.1 0 vD vC; have qB := xu; (try simp only [Int.toNat_zero, Nat.zero_mul, Addr.add_zero'] at qB); have qA := qC; (try simp only [Int.toNat_zero, Nat.zero_mul, Addr.add_zero'] at qA); have p9 := qD; (try simp only [Int.toNat_zero, Nat.zero_mul, Addr.add_zero'] at p9); have pz := qE; (try simp only [Int.toNat_zero, Nat.zero_mul, Addr.add_zero'] at pz); have pq := qF; (try simp only [Int.toNat_zero, Nat.zero_mul, Addr.add_zero'] at pq); have pg := qG; (try simp only [Int.toNat_zero, Nat.zero_mul, Addr.add_zero'] at pg); have pY := uT; (try simp only [Int.toNat_zero, Nat.zero_mul, Addr.add_zero'] at pY); have pX := uU; (try simp only [Int.toNat_zero, Nat.zero_mul, Addr.add_zero'] at pX); have pW := yB; (try simp only [Int.toNat_zero, Nat.zero_mul, Addr.add_zero'] at pW); obtain rfl : zu = yQ := (by injection rH); have lZ : (0 < l0.length) = True := eq_true rae; (try simp only [Int.toNat_zero, Nat.zero_mul, Addr.add_zero'] at yB uU); (try simp only [Int.toNat_zero, Nat.zero_mul, Addr.add_zero'] at uT qG); (try simp only [Int.toNat_zero, Nat.zero_mul, Addr.add_zero'] at qF qE); (try simp only [Int.toNat_zero, Nat.zero_mul, Addr.add_zero'] at qD qC xu); replace yB := bu_ HB.1 yB; replace uU := bu_ HB.1 uU; replace uT := bu_ HB.1 uT; replace qG := bu_ HB.1 qG; replace qF := bu_ HB.1 qF; replace qE := bu_ HB.1 qE; replace qD := bu_ HB.1 qD; replace qC := bu_ HB.1 qC; replace xu := bu_ HB.1 xu; have ik := ak hi105_8; have bX := ak hl105_8; clear hi105_8 hl105_8; replace vD := eq_true vD; replace vC := eq_true vC; have ea_ := Option.some.inj (zB.symm.trans xu); injection ea_ with ea_ en_ ec_; (try subst ea_); (try subst ec_); (try clear ea_ ec_); clear en_; have uE : 0 ≤ (0 : Int) := rae; have uD : 0 < (l0.length : Int) := ode ram; obtain ⟨ng, JK, JJ, mD, wT, qw, qp, mq, mo, mi, mh, mg, xM, hl107_8, hi107_8⟩ := at_T46 HR0.1 0 uE uD; have pV := xM; (try simp only [Int.toNat_zero, Nat.zero_mul, Addr.add_zero'] at pV); have pU := mg; (try simp only [Int.toNat_zero, Nat.zero_mul, Addr.add_zero'] at pU); have pR := mh; (try simp only [Int.toNat_zero, Nat.zero_mul, Addr.add_zero'] at pR); have pQ := mi; (try simp only [Int.toNat_zero, Nat.zero_mul, Addr.add_zero'] at pQ); have pO := mo; (try simp only [Int.toNat_zero, Nat.zero_mul, Addr.add_zero'] at pO); have pM := mq; (try simp only [Int.toNat_zero, Nat.zero_mul, Addr.add_zero'] at pM); have pK := qp; (try simp only [Int.toNat_zero, Nat.zero_mul, Addr.add_zero'] at pK); have pJ := qw; (try simp only [Int.toNat_zero, Nat.zero_mul, Addr.add_zero'] at pJ); have pI := wT; (try simp only [Int.toNat_zero, Nat.zero_mul, Addr.add_zero'] at pI); obtain rfl : zu = ng := (by injection mD); have U5 : (0 < l0.length) = True := eq_true rae; (try simp only [Int.toNat_zero, Nat.zero_mul, Addr.add_zero'] at wT qw); (try simp only [Int.toNat_zero, Nat.zero_mul, Addr.add_zero'] at qp mq); (try simp only [Int.toNat_zero, Nat.zero_mul, Addr.add_zero'] at mo mi); (try simp only [Int.toNat_zero, Nat.zero_mul, Addr.add_zero'] at mh mg xM); replace wT := bu_ HB.1 wT; replace qw := bu_ HB.1 qw; replace qp := bu_ HB.1 qp; replace mq := bu_ HB.1 mq; replace mo := bu_ HB.1 mo; replace mi := bu_ HB.1 mi; replace mh := bu_ HB.1 mh; replace mg := bu_ HB.1 mg; replace xM := bu_ HB.1 xM; have X0 := ak hi107_8; have QI := ak hl107_8; clear hi107_8 hl107_8; replace uE := eq_true uE; replace uD := eq_true uD; have ea_ := Option.some.inj (zB.symm.trans xM); injection ea_ with ea_ en_ ec_; (try subst ea_); (try subst ec_); (try clear ea_ ec_); clear en_; have rP : 0 ≤ (0 : Int) := rae; have rO : 0 < (l0.length : Int) := ode ram; obtain ⟨xN, JI, JH, e109, xH, mf, ma, mZ, mY, mX, mW, mV, wo, hl109_8, hi109_8⟩ := at_T46 HR0.1 0 rP rO; have pG := wo; (try simp only [Int.toNat_zero, Nat.zero_mul, Addr.add_zero'] at pG); have pF := mV; (try simp only [Int.toNat_zero, Nat.zero_mul, Addr.add_zero'] at pF); have pE := mW; (try simp only [Int.toNat_zero, Nat.zero_mul, Addr.add_zero'] at pE); have o9 := mX; (try simp only [Int.toNat_zero, Nat.zero_mul, Addr.add_zero'] at o9); have o8 := mY; (try simp only [Int.toNat_zero, Nat.zero_mul, Addr.add_zero'] at o8); have o7 := mZ; (try simp only [Int.toNat_zero, Nat.zero_mul, Addr.add_zero'] at o7); have o6 := ma; (try simp only [Int.toNat_zero, Nat.zero_mul, Addr.add_zero'] at o6); have o5 := mf; (try simp only [Int.toNat_zero, Nat.zero_mul, Addr.add_zero'] at o5); have oz := xH; (try simp only [Int.toNat_zero, Nat.zero_mul, Addr.add_zero'] at oz); obtain rfl : zu = xN := (by injection e109); have ZR : (0 < l0.length) = True := eq_true rae; (try simp only [Int.toNat_zero, Nat.zero_mul, Addr.add_zero'] at xH mf); (try simp only [Int.toNat_zero, Nat.zero_mul, Addr.add_zero'] at ma mZ); (try simp only [Int.toNat_zero, Nat.zero_mul, Addr.add_zero'] at mY mX); (try simp only [Int.toNat_zero, Nat.zero_mul, Addr.add_zero'] at mW mV wo); replace xH := bu_ HB.1 xH; replace mf := bu_ HB.1 mf; replace ma := bu_ HB.1 ma; replace mZ := bu_ HB.1 mZ; replace mY := bu_ HB.1 mY; replace mX := bu_ HB.1 mX; replace mW := bu_ HB.1 mW; replace mV := bu_ HB.1 mV; replace wo := bu_ HB.1 wo; have Xz := ak hi109_8; have QH := ak hl109_8; clear hi109_8 hl109_8; replace rP := eq_true rP; replace rO := eq_true rO; have ea_ := Option.some.inj (zB.symm.trans wo); injection ea_ with ea_ en_ ec_; (try subst ea_); (try subst ec_); (try clear ea_ ec_); clear en_; refine cJ_ (n := 38) (S := fun w' => w'.cell? zu = some (.string ((aa_ l0 0).f0)) ∧ w'.cell? ⟨zu.block, zu.off + 1, none⟩ = some (.string ((aa_ l0 0).f1)) ∧ w'.cell? ⟨zu.block, zu.off + 2, none⟩ = some (.int .i64 ((aa_ l0 0).f2)) ∧ w'.cell? ⟨zu.block, zu.off + 3, none⟩ = some (.string ((aa_ l0 0).f3.f0)) ∧ w'.cell? ⟨zu.block, zu.off + 4, none⟩ = some (.int .i64 ((aa_ l0 0).f3.f1)) ∧ w'.cell? ⟨zu.block, zu.off + 5, none⟩ = some (.int .i64 ((aa_ l0 0).f3.f2)) ∧ w'.cell? ⟨zu.block, zu.off + 6, none⟩ = some (.int .i64 ((aa_ l0 0).f4)) ∧ w'.cell? ⟨zu.block, zu.off + 7, none⟩ = some (.int .i64 ((aa_ l0 0).f5)) ∧ w'.cell? ⟨zu.block, zu.off + 8, none⟩ = some (.slice yX ((aa_ l0 0).f6).length yV) ∧ w'.cell? zu = some (.string ((aa_ l0 0).f0)) ∧ w'.cell? ⟨zu.block, zu.off + 1, none⟩ = some (.string ((aa_ l0 0).f1)) ∧ w'.cell? ⟨zu.block, zu.off + 2, none⟩ = some (.int .i64 ((aa_ l0 0).f2)) ∧ w'.cell? ⟨zu.block, zu.off + 3, none⟩ = some (.string ((aa_ l0 0).f3.f0)) ∧ w'.cell? ⟨zu.block, zu.off + 4, none⟩ = some (.int .i64 ((aa_ l0 0).f3.f1)) ∧ w'.cell? ⟨zu.block, zu.off + 5, none⟩ = some (.int .i64 ((aa_ l0 0).f3.f2)) ∧ w'.cell? ⟨zu.block, zu.off + 6, none⟩ = some (.int .i64 ((aa_ l0 0).f4)) ∧ w'.cell? ⟨zu.block, zu.off + 7, none⟩ = some (.int .i64 ((aa_ l0 0).f5)) ∧ w'.cell? ⟨zu.block, zu.off + 8, none⟩ = some (.slice yX ((aa_ l0 0).f6).length yV) ∧ w'.cell? zu = some (.string ((aa_ l0 0).f0)) ∧ w'.cell? ⟨zu.block, zu.off + 1, none⟩ = some (.string ((aa_ l0 0).f1)) ∧ w'.cell? ⟨zu.block, zu.off + 2, none⟩ = some (.int .i64 ((aa_ l0 0).f2)) ∧ w'.cell? ⟨zu.block, zu.off + 3, none⟩ = some (.string ((aa_ l0 0).f3.f0)) ∧ w'.cell? ⟨zu.block, zu.off + 4, none⟩ = some (.int .i64 ((aa_ l0 0).f3.f1)) ∧ w'.cell? ⟨zu.block, zu.off + 5, none⟩ = some (.int .i64 ((aa_ l0 0).f3.f2)) ∧ w'.cell? ⟨zu.block, zu.off + 6, none⟩ = some (.int .i64 ((aa_ l0 0).f4)) ∧ w'.cell? ⟨zu.block, zu.off + 7, none⟩ = some (.int .i64 ((aa_ l0 0).f5)) ∧ w'.cell? ⟨zu.block, zu.off + 8, none⟩ = some (.slice yX ((aa_ l0 0).f6).length yV) ∧ w'.cell? zu = some (.string ((aa_ l0 0).f0)) ∧ w'.cell? ⟨zu.block, zu.off + 1, none⟩ = some (.string ((aa_ l0 0).f1)) ∧ w'.cell? ⟨zu.block, zu.off + 2, none⟩ = some (.int .i64 ((aa_ l0 0).f2)) ∧ w'.cell? ⟨zu.block, zu.off + 3, none⟩ = some (.string ((aa_ l0 0).f3.f0)) ∧ w'.cell? ⟨zu.block, zu.off + 4, none⟩ = some (.int .i64 ((aa_ l0 0).f3.f1)) ∧ w'.cell? ⟨zu.block, zu.off + 5, none⟩ = some (.int .i64 ((aa_ l0 0).f3.f2)) ∧ w'.cell? ⟨zu.block, zu.off + 6, none⟩ = some (.int .i64 ((aa_ l0 0).f4)) ∧ w'.cell? ⟨zu.block, zu.off + 7, none⟩ = some (.int .i64 ((aa_ l0 0).f5)) ∧ w'.cell? ⟨zu.block, zu.off + 8, none⟩ = some (.slice yX ((aa_ l0 0).f6).length yV) ∧ w'.cell? zu = some (.string ((aa_ l0 0).f0)) ∧ w'.cell? ⟨zu.block, zu.off + 1, none⟩ = some (.string ((aa_ l0 0).f1)) ∧ w'.cell? ⟨zu.block, zu.off + 2, none⟩ = some (.int .i64 ((aa_ l0 0).f2)) ∧ w'.cell? ⟨zu.block, zu.off + 3, none⟩ = some (.string ((aa_ l0 0).f3.f0)) ∧ w'.cell? ⟨zu.block, zu.off + 4, none⟩ = some (.int .i64 ((aa_ l0 0).f3.f1)) ∧ w'.cell? ⟨zu.block, zu.off + 5, none⟩ = some (.int .i64 ((aa_ l0 0).f3.f2)) ∧ w'.cell? ⟨zu.block, zu.off + 6, none⟩ = some (.int .i64 ((aa_ l0 0).f4)) ∧ w'.cell? ⟨zu.block, zu.off + 7, none⟩ = some (.int .i64 ((aa_ l0 0).f5)) ∧ w'.cell? ⟨zu.block, zu.off + 8, none⟩ = some (.slice yX ((aa_ l0 0).f6).length yV) ∧ w'.cell? zu = some (.string ((aa_ l0 0).f0)) ∧ w'.cell? ⟨zu.block, zu.off + 1, none⟩ = some (.string ((aa_ l0 0).f1)) ∧ w'.cell? ⟨zu.block, zu.off + 2, none⟩ = some (.int .i64 ((aa_ l0 0).f2)) ∧ w'.cell? ⟨zu.block, zu.off + 3, none⟩ = some (.string ((aa_ l0 0).f3.f0)) ∧ w'.cell? ⟨zu.block, zu.off + 4, none⟩ = some (.int .i64 ((aa_ l0 0).f3.f1)) ∧ w'.cell? ⟨zu.block, zu.off + 5, none⟩ = some (.int .i64 ((aa_ l0 0).f3.f2)) ∧ w'.cell? ⟨zu.block, zu.off + 6, none⟩ = some (.int .i64 ((aa_ l0 0).f4)) ∧ w'.cell? ⟨zu.block, zu.off + 7, none⟩ = some (.int .i64 ((aa_ l0 0).f5)) ∧ w'.cell? ⟨zu.block, zu.off + 8, none⟩ = some (.slice yX ((aa_ l0 0).f6).length yV)) (ds := []) (tb 0 38) ras rfl rfl ⟨(bv_ HB.1 ul), (bv_ HB.1 um), (bv_ HB.1 uo), (bv_ HB.1 qd), (bv_ HB.1 qf), (bv_ HB.1 qg), (bv_ HB.1 qh), (bv_ HB.1 qi), (bv_ HB.1 qj), (bv_ HB.1 wE), (bv_ HB.1 wF), (bv_ HB.1 wG), (bv_ HB.1 qX), (bv_ HB.1 qY), (bv_ HB.1 qZ), (bv_ HB.1 qa), (bv_ HB.1 qb), (bv_ HB.1 qc), (bv_ HB.1 qH), (bv_ HB.1 qI), (bv_ HB.1 qJ), (bv_ HB.1 qK), (bv_ HB.1 qL), (bv_ HB.1 qM), (bv_ HB.1 qN), (bv_ HB.1 qO), (bv_ HB.1 qP), (bv_ HB.1 pW), (bv_ HB.1 pX), (bv_ HB.1 pY), (bv_ HB.1 pg), (bv_ HB.1 pq), (bv_ HB.1 pz), (bv_ HB.1 p9), (bv_ HB.1 qA), (bv_ HB.1 qB), (bv_ HB.1 pI), (bv_ HB.1 pJ), (bv_ HB.1 pK), (bv_ HB.1 pM), (bv_ HB.1 pO), (bv_ HB.1 pQ), (bv_ HB.1 pR), (bv_ HB.1 pU), (bv_ HB.1 pV), (bv_ HB.1 oz), (bv_ HB.1 o5), (bv_ HB.1 o6), (bv_ HB.1 o7), (bv_ HB.1 o8), (bv_ HB.1 o9), (bv_ HB.1 pE), (bv_ HB.1 pF), (bv_ HB.1 pG)⟩ (fun hHeld => ?_); refine bU_ bn_.tab1 bn_.bits1 (fun HT_ HW_ => ?_); generalize w.drew = w17 at HB vw uA bY ik X0 Xz zU zA y9 wY wR wQ wP wO zB yf yc yZ vT vS vR vQ vP yR wZ vW vV qW qV qU qR qQ yK yB uU uT qG qF qE qD qC xu wT qw qp mq mo mi mh mg xM xH mf ma mZ mY mX mW mV wo hHeld ⊢; refine pu 0 6 (tb 1 37) HT_ ?_; refine pu 1 7 (tb 2 36) HT_ ?_; refine pu 2 8 (tb 3 35) HT_ ?_; refine pu 5 11 #[t_,t_,t_,f_,f_,t_,f_,f_,f_,f_,f_,f_,f_,f_,f_,f_,f_,f_,f_,f_,f_,f_,f_,f_,f_,f_,f_,f_,f_,f_,f_,f_,f_,f_,f_,f_,f_,f_] HT_ ?_; refine pu 6 12 #[t_,t_,t_,f_,f_,t_,t_,f_,f_,f_,f_,f_,f_,f_,f_,f_,f_,f_,f_,f_,f_,f_,f_,f_,f_,f_,f_,f_,f_,f_,f_,f_,f_,f_,f_,f_,f_,f_] HT_ ?_; refine pu 7 13 #[t_,t_,t_,f_,f_,t_,t_,t_,f_,f_,f_,f_,f_,f_,f_,f_,f_,f_,f_,f_,f_,f_,f_,f_,f_,f_,f_,f_,f_,f_,f_,f_,f_,f_,f_,f_,f_,f_] HT_ ?_; refine pu 11 17 #[t_,t_,t_,f_,f_,t_,t_,t_,f_,f_,f_,t_,f_,f_,f_,f_,f_,f_,f_,f_,f_,f_,f_,f_,f_,f_,f_,f_,f_,f_,f_,f_,f_,f_,f_,f_,f_,f_] HT_ ?_; refine pu 12 18 #[t_,t_,t_,f_,f_,t_,t_,t_,f_,f_,f_,t_,t_,f_,f_,f_,f_,f_,f_,f_,f_,f_,f_,f_,f_,f_,f_,f_,f_,f_,f_,f_,f_,f_,f_,f_,f_,f_] HT_ ?_; refine pu 13 19 #[t_,t_,t_,f_,f_,t_,t_,t_,f_,f_,f_,t_,t_,t_,f_,f_,f_,f_,f_,f_,f_,f_,f_,f_,f_,f_,f_,f_,f_,f_,f_,f_,f_,f_,f_,f_,f_,f_] HT_ ?_; refine pu 18 24 #[t_,t_,t_,f_,f_,t_,t_,t_,f_,f_,f_,t_,t_,t_,f_,f_,f_,f_,t_,f_,f_,f_,f_,f_,f_,f_,f_,f_,f_,f_,f_,f_,f_,f_,f_,f_,f_,f_] HT_ ?_; refine pu 19 25 #[t_,t_,t_,f_,f_,t_,t_,t_,f_,f_,f_,t_,t_,t_,f_,f_,f_,f_,t_,t_,f_,f_,f_,f_,f_,f_,f_,f_,f_,f_,f_,f_,f_,f_,f_,f_,f_,f_] HT_ ?_; refine pu 20 26 #[t_,t_,t_,f_,f_,t_,t_,t_,f_,f_,f_,t_,t_,t_,f_,f_,f_,f_,t_,t_,t_,f_,f_,f_,f_,f_,f_,f_,f_,f_,f_,f_,f_,f_,f_,f_,f_,f_] HT_ ?_; refine pu 24 30 #[t_,t_,t_,f_,f_,t_,t_,t_,f_,f_,f_,t_,t_,t_,f_,f_,f_,f_,t_,t_,t_,f_,f_,f_,t_,f_,f_,f_,f_,f_,f_,f_,f_,f_,f_,f_,f_,f_] HT_ ?_; refine pu 25 31 #[t_,t_,t_,f_,f_,t_,t_,t_,f_,f_,f_,t_,t_,t_,f_,f_,f_,f_,t_,t_,t_,f_,f_,f_,t_,t_,f_,f_,f_,f_,f_,f_,f_,f_,f_,f_,f_,f_] HT_ ?_; refine pu 26 32 #[t_,t_,t_,f_,f_,t_,t_,t_,f_,f_,f_,t_,t_,t_,f_,f_,f_,f_,t_,t_,t_,f_,f_,f_,t_,t_,t_,f_,f_,f_,f_,f_,f_,f_,f_,f_,f_,f_] HT_ ?_; refine pu 31 37 #[t_,t_,t_,f_,f_,t_,t_,t_,f_,f_,f_,t_,t_,t_,f_,f_,f_,f_,t_,t_,t_,f_,f_,f_,t_,t_,t_,f_,f_,f_,f_,t_,f_,f_,f_,f_,f_,f_] HT_ ?_; refine pu 32 38 #[t_,t_,t_,f_,f_,t_,t_,t_,f_,f_,f_,t_,t_,t_,f_,f_,f_,f_,t_,t_,t_,f_,f_,f_,t_,t_,t_,f_,f_,f_,f_,t_,t_,f_,f_,f_,f_,f_] HT_ ?_; refine pu 33 39 #[t_,t_,t_,f_,f_,t_,t_,t_,f_,f_,f_,t_,t_,t_,f_,f_,f_,f_,t_,t_,t_,f_,f_,f_,t_,t_,t_,f_,f_,f_,f_,t_,t_,t_,f_,f_,f_,f_] HT_ ?_; refine tk 3 9 #[t_,t_,t_,t_,f_,t_,t_,t_,f_,f_,f_,t_,t_,t_,f_,f_,f_,f_,t_,t_,t_,f_,f_,f_,t_,t_,t_,f_,f_,f_,f_,t_,t_,t_,f_,f_,f_,f_] HT_ HW_ hHeld ?_ (hv := by rintro w' ⟨s0, s1, s2, s3, s4, s5, s6, s7, s8, s9, s10, s11, s12, s13, s14, s15, s16, s17, s18, s19, s20, s21, s22, s23, s24, s25, s26, s27, s28, s29, s30, s31, s32, s33, s34, s35, s36, s37, s38, s39, s40, s41, s42, s43, s44, s45, s46, s47, s48, s49, s50, s51, s52, s53⟩; go_simp; with_reducible rfl); refine pu 4 10 #[t_,t_,t_,t_,t_,t_,t_,t_,f_,f_,f_,t_,t_,t_,f_,f_,f_,f_,t_,t_,t_,f_,f_,f_,t_,t_,t_,f_,f_,f_,f_,t_,t_,t_,f_,f_,f_,f_] HT_ ?_; refine tk 8 14 #[t_,t_,t_,t_,t_,t_,t_,t_,t_,f_,f_,t_,t_,t_,f_,f_,f_,f_,t_,t_,t_,f_,f_,f_,t_,t_,t_,f_,f_,f_,f_,t_,t_,t_,f_,f_,f_,f_] HT_ HW_ hHeld ?_ (hv := by rintro w' ⟨s0, s1, s2, s3, s4, s5, s6, s7, s8, s9, s10, s11, s12, s13, s14, s15, s16, s17, s18, s19, s20, s21, s22, s23, s24, s25, s26, s27, s28, s29, s30, s31, s32, s33, s34, s35, s36, s37, s38, s39, s40, s41, s42, s43, s44, s45, s46, s47, s48, s49, s50, s51, s52, s53⟩; go_simp; with_reducible rfl); refine pu 9 15 #[t_,t_,t_,t_,t_,t_,t_,t_,t_,t_,f_,t_,t_,t_,f_,f_,f_,f_,t_,t_,t_,f_,f_,f_,t_,t_,t_,f_,f_,f_,f_,t_,t_,t_,f_,f_,f_,f_] HT_ ?_; refine pu 10 16 #[t_,t_,t_,t_,t_,t_,t_,t_,t_,t_,t_,t_,t_,t_,f_,f_,f_,f_,t_,t_,t_,f_,f_,f_,t_,t_,t_,f_,f_,f_,f_,t_,t_,t_,f_,f_,f_,f_] HT_ ?_; refine tk 14 20 #[t_,t_,t_,t_,t_,t_,t_,t_,t_,t_,t_,t_,t_,t_,t_,f_,f_,f_,t_,t_,t_,f_,f_,f_,t_,t_,t_,f_,f_,f_,f_,t_,t_,t_,f_,f_,f_,f_] HT_ HW_ hHeld ?_ (hv := by rintro w' ⟨s0, s1, s2, s3, s4, s5, s6, s7, s8, s9, s10, s11, s12, s13, s14, s15, s16, s17, s18, s19, s20, s21, s22, s23, s24, s25, s26, s27, s28, s29, s30, s31, s32, s33, s34, s35, s36, s37, s38, s39, s40, s41, s42, s43, s44, s45, s46, s47, s48, s49, s50, s51, s52, s53⟩; go_simp; with_reducible rfl); refine tk 27 33 #[t_,t_,t_,t_,t_,t_,t_,t_,t_,t_,t_,t_,t_,t_,t_,f_,f_,f_,t_,t_,t_,f_,f_,f_,t_,t_,t_,t_,f_,f_,f_,t_,t_,t_,f_,f_,f_,f_] HT_ HW_ hHeld ?_ (hv := by rintro w' ⟨s0, s1, s2, s3, s4, s5, s6, s7, s8, s9, s10, s11, s12, s13, s14, s15, s16, s17, s18, s19, s20, s21, s22, s23, s24, s25, s26, s27, s28, s29, s30, s31, s32, s33, s34, s35, s36, s37, s38, s39, s40, s41, s42, s43, s44, s45, s46, s47, s48, s49, s50, s51, s52, s53⟩; go_simp; with_reducible rfl); refine tk 34 40 #[t_,t_,t_,t_,t_,t_,t_,t_,t_,t_,t_,t_,t_,t_,t_,f_,f_,f_,t_,t_,t_,f_,f_,f_,t_,t_,t_,t_,f_,f_,f_,t_,t_,t_,t_,f_,f_,f_] HT_ HW_ hHeld ?_ (hv := by rintro w' ⟨s0, s1, s2, s3, s4, s5, s6, s7, s8, s9, s10, s11, s12, s13, s14, s15, s16, s17, s18, s19, s20, s21, s22, s23, s24, s25, s26, s27, s28, s29, s30, s31, s32, s33, s34, s35, s36, s37, s38, s39, s40, s41, s42, s43, s44, s45, s46, s47, s48, s49, s50, s51, s52, s53⟩; go_simp; with_reducible rfl); refine on_ 15 21 #[t_,t_,t_,t_,t_,t_,t_,t_,t_,t_,t_,t_,t_,t_,t_,t_,f_,f_,t_,t_,t_,f_,f_,f_,t_,t_,t_,t_,f_,f_,f_,t_,t_,t_,t_,f_,f_,f_] HT_ (fun K hK => ?_); (first | refine gs_ func59 #[.int .i64 ((aa_ l0 0).f2)] ?_ | refine gsV_ func59 #[.int .i64 ((aa_ l0 0).f2)] ?_ | refine gsC_ func59 #[.int .i64 ((aa_ l0 0).f2)] ?_); with_reducible refine (ar_.calls k ((aa_ l0 0).f2) zi _ A6.1).mono ?_
 rintro e w18 ⟨rfl, hb⟩; refine ⟨_, rfl, ?_⟩; replace HB := ak (ac_ (bz HB.1) hb); (try clear hb); refine hK.out _ _ ⟨(bv_ HB.1 ul), (bv_ HB.1 um), (bv_ HB.1 uo), (bv_ HB.1 qd), (bv_ HB.1 qf), (bv_ HB.1 qg), (bv_ HB.1 qh), (bv_ HB.1 qi), (bv_ HB.1 qj), (bv_ HB.1 wE), (bv_ HB.1 wF), (bv_ HB.1 wG), (bv_ HB.1 qX), (bv_ HB.1 qY), (bv_ HB.1 qZ), (bv_ HB.1 qa), (bv_ HB.1 qb), (bv_ HB.1 qc), (bv_ HB.1 qH), (bv_ HB.1 qI), (bv_ HB.1 qJ), (bv_ HB.1 qK), (bv_ HB.1 qL), (bv_ HB.1 qM), (bv_ HB.1 qN), (bv_ HB.1 qO), (bv_ HB.1 qP), (bv_ HB.1 pW), (bv_ HB.1 pX), (bv_ HB.1 pY), (bv_ HB.1 pg), (bv_ HB.1 pq), (bv_ HB.1 pz), (bv_ HB.1 p9), (bv_ HB.1 qA), (bv_ HB.1 qB), (bv_ HB.1 pI), (bv_ HB.1 pJ), (bv_ HB.1 pK), (bv_ HB.1 pM), (bv_ HB.1 pO), (bv_ HB.1 pQ), (bv_ HB.1 pR), (bv_ HB.1 pU), (bv_ HB.1 pV), (bv_ HB.1 oz), (bv_ HB.1 o5), (bv_ HB.1 o6), (bv_ HB.1 o7), (bv_ HB.1 o8), (bv_ HB.1 o9), (bv_ HB.1 pE), (bv_ HB.1 pF), (bv_ HB.1 pG)⟩ (fun hHeld => ?_); clear hK K; refine nm_ 21 ?_; refine pu 16 22 #[t_,t_,t_,t_,t_,t_,t_,t_,t_,t_,t_,t_,t_,t_,t_,t_,t_,f_,t_,t_,t_,f_,f_,f_,t_,t_,t_,t_,f_,f_,f_,t_,t_,t_,t_,f_,f_,f_] HT_ ?_; refine pu 17 23 #[t_,t_,t_,t_,t_,t_,t_,t_,t_,t_,t_,t_,t_,t_,t_,t_,t_,t_,t_,t_,t_,f_,f_,f_,t_,t_,t_,t_,f_,f_,f_,t_,t_,t_,t_,f_,f_,f_] HT_ ?_; refine on_ 21 27 #[t_,t_,t_,t_,t_,t_,t_,t_,t_,t_,t_,t_,t_,t_,t_,t_,t_,t_,t_,t_,t_,t_,f_,f_,t_,t_,t_,t_,f_,f_,f_,t_,t_,t_,t_,f_,f_,f_] HT_ (fun K hK => ?_); (first | refine gs_ func99 #[.pointer (some ((zu.add ((0 : Int).toNat * 9)).add 3))] ?_ | refine gsV_ func99 #[.pointer (some ((zu.add ((0 : Int).toNat * 9)).add 3))] ?_ | refine gsC_ func99 #[.pointer (some ((zu.add ((0 : Int).toNat * 9)).add 3))] ?_); with_reducible refine (ca_.calls k _ [(aa_ l0 0).f3] zP _ ?zw A9.1).mono ?_
 (case zw => exact (RPW.C_fst (RPW.C_snd (RPW.C_snd (RPW.C_snd (RPW.C_iso (RPW.dh_ (ad := zu) (n := l0.length) (xs := l0) z46 (i := 0) (by first | exact of_eq_true vD | exact vD | omega) (by first | exact of_eq_true vC | exact vC | omega) rbg))))))); rintro e w19 ⟨rfl, hb⟩; refine ⟨_, rfl, ?_⟩; replace HB := ak (ac_ (bz HB.1) hb); (try clear hb); refine hK.out _ _ ⟨(bv_ HB.1 ul), (bv_ HB.1 um), (bv_ HB.1 uo), (bv_ HB.1 qd), (bv_ HB.1 qf), (bv_ HB.1 qg), (bv_ HB.1 qh), (bv_ HB.1 qi), (bv_ HB.1 qj), (bv_ HB.1 wE), (bv_ HB.1 wF), (bv_ HB.1 wG), (bv_ HB.1 qX), (bv_ HB.1 qY), (bv_ HB.1 qZ), (bv_ HB.1 qa), (bv_ HB.1 qb), (bv_ HB.1 qc), (bv_ HB.1 qH), (bv_ HB.1 qI), (bv_ HB.1 qJ), (bv_ HB.1 qK), (bv_ HB.1 qL), (bv_ HB.1 qM), (bv_ HB.1 qN), (bv_ HB.1 qO), (bv_ HB.1 qP), (bv_ HB.1 pW), (bv_ HB.1 pX), (bv_ HB.1 pY), (bv_ HB.1 pg), (bv_ HB.1 pq), (bv_ HB.1 pz), (bv_ HB.1 p9), (bv_ HB.1 qA), (bv_ HB.1 qB), (bv_ HB.1 pI), (bv_ HB.1 pJ), (bv_ HB.1 pK), (bv_ HB.1 pM), (bv_ HB.1 pO), (bv_ HB.1 pQ), (bv_ HB.1 pR), (bv_ HB.1 pU), (bv_ HB.1 pV), (bv_ HB.1 oz), (bv_ HB.1 o5), (bv_ HB.1 o6), (bv_ HB.1 o7), (bv_ HB.1 o8), (bv_ HB.1 o9), (bv_ HB.1 pE), (bv_ HB.1 pF), (bv_ HB.1 pG)⟩ (fun hHeld => ?_); clear hK K; refine nm_ 27 ?_; refine pu 22 28 #[t_,t_,t_,t_,t_,t_,t_,t_,t_,t_,t_,t_,t_,t_,t_,t_,t_,t_,t_,t_,t_,t_,t_,f_,t_,t_,t_,t_,f_,f_,f_,t_,t_,t_,t_,f_,f_,f_] HT_ ?_; refine pu 23 29 #[t_,t_,t_,t_,t_,t_,t_,t_,t_,t_,t_,t_,t_,t_,t_,t_,t_,t_,t_,t_,t_,t_,t_,t_,t_,t_,t_,t_,f_,f_,f_,t_,t_,t_,t_,f_,f_,f_] HT_ ?_; refine on_ 28 34 #[t_,t_,t_,t_,t_,t_,t_,t_,t_,t_,t_,t_,t_,t_,t_,t_,t_,t_,t_,t_,t_,t_,t_,t_,t_,t_,t_,t_,t_,f_,f_,t_,t_,t_,t_,f_,f_,f_] HT_ (fun K hK => ?_); (first | refine gs_ func59 #[.int .i64 ((aa_ l0 0).f4)] ?_ | refine gsV_ func59 #[.int .i64 ((aa_ l0 0).f4)] ?_ | refine gsC_ func59 #[.int .i64 ((aa_ l0 0).f4)] ?_); with_reducible refine (ar_.calls k ((aa_ l0 0).f4) y8 _ A12.1).mono ?_
 rintro e w20 ⟨rfl, hb⟩; refine ⟨_, rfl, ?_⟩; replace HB := ak (ac_ (bz HB.1) hb); (try clear hb); refine hK.out _ _ ⟨(bv_ HB.1 ul), (bv_ HB.1 um), (bv_ HB.1 uo), (bv_ HB.1 qd), (bv_ HB.1 qf), (bv_ HB.1 qg), (bv_ HB.1 qh), (bv_ HB.1 qi), (bv_ HB.1 qj), (bv_ HB.1 wE), (bv_ HB.1 wF), (bv_ HB.1 wG), (bv_ HB.1 qX), (bv_ HB.1 qY), (bv_ HB.1 qZ), (bv_ HB.1 qa), (bv_ HB.1 qb), (bv_ HB.1 qc), (bv_ HB.1 qH), (bv_ HB.1 qI), (bv_ HB.1 qJ), (bv_ HB.1 qK), (bv_ HB.1 qL), (bv_ HB.1 qM), (bv_ HB.1 qN), (bv_ HB.1 qO), (bv_ HB.1 qP), (bv_ HB.1 pW), (bv_ HB.1 pX), (bv_ HB.1 pY), (bv_ HB.1 pg), (bv_ HB.1 pq), (bv_ HB.1 pz), (bv_ HB.1 p9), (bv_ HB.1 qA), (bv_ HB.1 qB), (bv_ HB.1 pI), (bv_ HB.1 pJ), (bv_ HB.1 pK), (bv_ HB.1 pM), (bv_ HB.1 pO), (bv_ HB.1 pQ), (bv_ HB.1 pR), (bv_ HB.1 pU), (bv_ HB.1 pV), (bv_ HB.1 oz), (bv_ HB.1 o5), (bv_ HB.1 o6), (bv_ HB.1 o7), (bv_ HB.1 o8), (bv_ HB.1 o9), (bv_ HB.1 pE), (bv_ HB.1 pF), (bv_ HB.1 pG)⟩ (fun hHeld => ?_); clear hK K; refine nm_ 34 ?_; refine pu 29 35 #[t_,t_,t_,t_,t_,t_,t_,t_,t_,t_,t_,t_,t_,t_,t_,t_,t_,t_,t_,t_,t_,t_,t_,t_,t_,t_,t_,t_,t_,t_,f_,t_,t_,t_,t_,f_,f_,f_] HT_ ?_; refine pu 30 36 (tb 35 3) HT_ ?_; refine on_ 35 41 (tb 36 2) HT_ (fun K hK => ?_); (first | refine gs_ func59 #[.int .i64 ((aa_ l0 0).f5)] ?_ | refine gsV_ func59 #[.int .i64 ((aa_ l0 0).f5)] ?_ | refine gsC_ func59 #[.int .i64 ((aa_ l0 0).f5)] ?_); with_reducible refine (ar_.calls k ((aa_ l0 0).f5) zM _ A15.1).mono ?_
 rintro e w21 ⟨rfl, hb⟩; refine ⟨_, rfl, ?_⟩; replace HB := ak (ac_ (bz HB.1) hb); (try clear hb); refine hK.out _ _ ⟨(bv_ HB.1 ul), (bv_ HB.1 um), (bv_ HB.1 uo), (bv_ HB.1 qd), (bv_ HB.1 qf), (bv_ HB.1 qg), (bv_ HB.1 qh), (bv_ HB.1 qi), (bv_ HB.1 qj), (bv_ HB.1 wE), (bv_ HB.1 wF), (bv_ HB.1 wG), (bv_ HB.1 qX), (bv_ HB.1 qY), (bv_ HB.1 qZ), (bv_ HB.1 qa), (bv_ HB.1 qb), (bv_ HB.1 qc), (bv_ HB.1 qH), (bv_ HB.1 qI), (bv_ HB.1 qJ), (bv_ HB.1 qK), (bv_ HB.1 qL), (bv_ HB.1 qM), (bv_ HB.1 qN), (bv_ HB.1 qO), (bv_ HB.1 qP), (bv_ HB.1 pW), (bv_ HB.1 pX), (bv_ HB.1 pY), (bv_ HB.1 pg), (bv_ HB.1 pq), (bv_ HB.1 pz), (bv_ HB.1 p9), (bv_ HB.1 qA), (bv_ HB.1 qB), (bv_ HB.1 pI), (bv_ HB.1 pJ), (bv_ HB.1 pK), (bv_ HB.1 pM), (bv_ HB.1 pO), (bv_ HB.1 pQ), (bv_ HB.1 pR), (bv_ HB.1 pU), (bv_ HB.1 pV), (bv_ HB.1 oz), (bv_ HB.1 o5), (bv_ HB.1 o6), (bv_ HB.1 o7), (bv_ HB.1 o8), (bv_ HB.1 o9), (bv_ HB.1 pE), (bv_ HB.1 pF), (bv_ HB.1 pG)⟩ (fun hHeld => ?_); clear hK K; refine nm_ 41 ?_; refine pu 36 42 (tb 37 1) HT_ ?_; refine pu 37 3 (tb 38 0) HT_ ?_; refine done_ (ct_ HT_.1 ras) ?_
 try go_wp2
 (try simp only [Act.put, lsa_, ls0_, ls1_])
 go_loopg [3, 4] k (fun kq v3 v4 w' => ∃ (zF : ByteArray) (zG : Int), v3 = .string zF ∧ v4 = .int .i64 zG ∧ Aside0 (bn_.l0 kq l0 zF zG = some r) ∧ Aside0 (kq ≤ k) ∧ Aside0 (Below w.heap.size w w'))
 case atStart => exact ⟨((((((((((((aa_ l0 0).f0) ++ (⟨#[47]⟩ : ByteArray)) ++ ((aa_ l0 0).f1)) ++ (⟨#[47]⟩ : ByteArray)) ++ zi) ++ (⟨#[47]⟩ : ByteArray)) ++ zP) ++ (⟨#[47]⟩ : ByteArray)) ++ y8) ++ (⟨#[120]⟩ : ByteArray)) ++ zM), (0), rad, rad, H', ⟨Nat.le_refl _⟩, ⟨bz HB.1⟩⟩
 case round =>
  clear H'; obtain ⟨zF, zG, rfl, rfl, HA, HK1, HB⟩ := hrel
  cases gk with
  | zero => exact absurd HA.1 (by simp [bn_.l0])
  | succ k1 =>
   have H := HA.1; clear HA; simp only [bn_.l0] at H; revert H; refine itPN ?_; intro c22 H; have mU : decide (0 < (l0.length : Int)) = true := det c22; have ZK : decide (0 < l0.length) = true := det rae; clear c22; revert H; refine itDD ?_ ?_; rotate_left
   ·intro kJ H; obtain rfl := Option.some.inj H; obtain ⟨mR, UB, UA, ig, uS, Xy, Xx, Xw, Xv, Xu, Xt, Xr, sP, Xq, Xp, lv, lu, bW⟩ := cW_ HR0.1 HB.1; obtain rfl : zu = mR := (by injection ig); (try clear zB); (try clear yR); (try clear yK); (try clear xu); (try clear xM); (try clear wo); go_wp2; go_ret; exact ⟨raf, bz HB.1⟩
   intro kJ H; revert H; refine itDN ?_; intro rQ H; obtain ⟨y115, hy115⟩ : ∃ y_ : List Int, y_ = (([(aF_ ((aa_ l0 0).f6) zG).f0, (aF_ ((aa_ l0 0).f6) zG).f1, (aF_ ((aa_ l0 0).f6) zG).f2, (aF_ ((aa_ l0 0).f6) zG).f3] : List Int)) := ⟨_, rfl⟩; replace H : ((bL_.f k1 y115).bind fun yD => (if 1 + yD.size ≤ 9223372036854775807 then (if zF.size + (1 + yD.size) ≤ 9223372036854775807 then (bn_.l0 k1 l0 (zF ++ ((⟨#[47]⟩ : ByteArray) ++ yD)) (wrap64 (zG + 1))) else (none)) else (none))) = some r := by first | (rw [hy115]; with_reducible exact H) | (have H2_ := (ob_ _ _).symm.trans H; rw [hy115]; with_reducible exact H2_) | (have H2_ := (ob_ _ _).symm.trans H; with_reducible exact H2_) | with_reducible exact H | (rw [hy115]; exact H) | exact H
   have gI := ak hy115; clear hy115; revert H; refine biB ?_; intro yD A25 H; (try dsimp only at H); revert H; refine itPN ?_; intro c26 H; have gK := eq_true c26; have Us : decide (1 + yD.size ≤ 9223372036854775807) = true := det c26
   try have Gt : (9223372036854775807 < 1 + yD.size) = False := eq_false (Nat.not_lt.2 c26)
   revert H; refine itPN ?_; intro c27 H; have mQ := eq_true c27; have gH : decide (zF.size + (1 + yD.size) ≤ 9223372036854775807) = true := det c27
   try have Gs : (9223372036854775807 < zF.size + (1 + yD.size)) = False := eq_false (Nat.not_lt.2 c27)
   have H' := ak H; clear H; obtain ⟨mR, UB, UA, ig, uS, Xy, Xx, Xw, Xv, Xu, Xt, Xr, sP, Xq, Xp, lv, lu, bW⟩ := cW_ HR0.1 HB.1; obtain rfl : zu = mR := (by injection ig); (try clear zB); (try clear yR); (try clear yK); (try clear xu); (try clear xM); (try clear wo); obtain ⟨Sd, JG, JF, JE, QG, QF, QE, QD, QC, QB, QA, P9, mP, P8, Xo, GA, F9, Gr⟩ := cW_ HR0.1 HB.1; obtain rfl : zu = Sd := (by injection JE); have ea_ := Option.some.inj (sP.symm.trans mP); injection ea_ with ea_ en_ ec_; (try subst ea_); (try subst ec_); (try clear ea_ ec_); clear en_; obtain ⟨sD, rfl, qo, qm, ql, P7, Z0, Zz⟩ := aw_T107 Xo.1 HB.1 zG; go_wp2_with (first | (refine bxE 5 107 #[.int .i64 0, .int .i64 0, .int .i64 0, .int .i64 0] ?_; intro Ur hg w28 hbox hb; have jw := ak (hbox); have Sc := ak ((raq : w.heap.size ≤ Ur)); have Gq := Sc; replace HB := ak (ac_ (bz HB.1) hb); clear hb hbox hg; obtain ⟨bV, bU, bT, bS⟩ := cz4_ jw.1; obtain ⟨bR, bQ, bP, bO⟩ := fz4_ jw.1) | ((with_reducible refine bp_ (N := 68) rfl ?_); refine Kd.R_lit (Kd.int .i64) _ 2 ?hg (N := 68) ?hd (xs := ([(aF_ ((aa_ l0 0).f6) zG).f0, (aF_ ((aa_ l0 0).f6) zG).f1, (aF_ ((aa_ l0 0).f6) zG).f2, (aF_ ((aa_ l0 0).f6) zG).f3] : List Int)) (inner := [.int .i64 ((aF_ ((aa_ l0 0).f6) zG).f0), .int .i64 ((aF_ ((aa_ l0 0).f6) zG).f1), .int .i64 ((aF_ ((aa_ l0 0).f6) zG).f2), .int .i64 ((aF_ ((aa_ l0 0).f6) zG).f3)]) (ok := fun _ => True) (okp := fun _ => True) ?hr ?hp (fun _ hk => hk) trivial (Below.refl _ _) (Nat.le_refl _) rav ?_; (case hd => rfl); (case hg => rfl); (case hr => (go_simp; try rfl)); (case hp => exact (Reps.one (show Kd.M (Kd.int .i64) _ _ _ ((aF_ ((aa_ l0 0).f6) zG).f0) [.int .i64 ((aF_ ((aa_ l0 0).f6) zG).f0)] from rfl) (Reps.one (show Kd.M (Kd.int .i64) _ _ _ ((aF_ ((aa_ l0 0).f6) zG).f1) [.int .i64 ((aF_ ((aa_ l0 0).f6) zG).f1)] from rfl) (Reps.one (show Kd.M (Kd.int .i64) _ _ _ ((aF_ ((aa_ l0 0).f6) zG).f2) [.int .i64 ((aF_ ((aa_ l0 0).f6) zG).f2)] from rfl) (Reps.one (show Kd.M (Kd.int .i64) _ _ _ ((aF_ ((aa_ l0 0).f6) zG).f3) [.int .i64 ((aF_ ((aa_ l0 0).f6) zG).f3)] from rfl) (Reps.none _ _)))))); intro Tz w30 ho31 hb hg_ hnew_; clear hg_ hnew_; (first | rw [← gI.1] at ho31 | (simp only [Int.reduceToNat] at ho31; rw [← gI.1] at ho31)); have xq := ak (Kd.bj_ ho31 (aj_ (bq))); replace jw := ak (ai_ (g := Ur) (o := .cells #[.int .i64 ((aF_ ((aa_ l0 0).f6) zG).f0), .int .i64 ((aF_ ((aa_ l0 0).f6) zG).f1), .int .i64 ((aF_ ((aa_ l0 0).f6) zG).f2), .int .i64 ((aF_ ((aa_ l0 0).f6) zG).f3)] 107 (0, 0)) (by exact kj4_3 (kj4_2 (kj4_1 (kj4_0 (kz jw.1))))) hb); replace HB := ak (ac_ (bq) hb); clear hb ho31; obtain ⟨lU, lT, gM⟩ := Kd.bk_ xq.1; subst gM) | (refine gL 100 69 func100 #[.slice lU y115.length lT] ?_; (with_reducible refine (bL_.calls k1 _ _ y115 yD _ ?zw ?zq A25.1).mono ?_); (case zw => exact cz (Kd.am_ xq.1).2.2); (case zq => exact (Kd.am_ xq.1).2.1); rintro e w33 ⟨rfl, hb⟩; refine ⟨_, rfl, ?_⟩; replace xq := ak (Kd.aK_ (rz xq.1) hb); replace jw := ak (ai_ (kz jw.1) hb); replace HB := ak (ac_ (bq) hb); (try clear hb)))
   go_roundg k1
   case measure => have := HK1.1; omega
   case rel => exact ⟨(zF ++ ((⟨#[47]⟩ : ByteArray) ++ yD)), (wrap64 (zG + 1)), rad, rad, H', ⟨by have := HK1.1; omega⟩, ⟨bq⟩⟩
mutual
def au_.j0 : Nat → List Int → Int → Int → ByteArray → ByteArray → ByteArray → Option (ByteArray × ByteArray × ByteArray × Int × Int)
 | 0, _, _, _, _, _, _ => none
 | k + 1, x1000, uu, ut, tu, tq, ow => if tu.toList = ([108, 101, 97, 102] : List UInt8) then ((bH_.f x1000 uu ut 2).bind fun bt127 => (au_.j1 k bt127.1 x1000 bt127.2.1 bt127.2.2 tu tq ow)) else (au_.j1 k false x1000 uu ut tu tq ow)
def au_.j1 : Nat → Bool → List Int → Int → Int → ByteArray → ByteArray → ByteArray → Option (ByteArray × ByteArray × ByteArray × Int × Int)
 | 0, _, _, _, _, _, _, _ => none
 | k + 1, x31, x1000, uu, ut, tu, tq, ow => if x31 = true then ((aN_.f k x1000 uu ut tq).bind fun bt130 => ((bn_.f k [(⟨bt130.1, bt130.2.1, bt130.2.2.1, (⟨bt130.2.2.2.1, bt130.2.2.2.2.1, bt130.2.2.2.2.2.1⟩ : S43), bt130.2.2.2.2.2.2.1, bt130.2.2.2.2.2.2.2.1, bt130.2.2.2.2.2.2.2.2.1⟩ : S46)]).bind fun Xn => (au_.j2 k x1000 bt130.2.2.2.2.2.2.2.2.2.1 bt130.2.2.2.2.2.2.2.2.2.2 tu tq Xn))) else (au_.j2 k x1000 uu ut tu tq ow)
def au_.j2 : Nat → List Int → Int → Int → ByteArray → ByteArray → ByteArray → Option (ByteArray × ByteArray × ByteArray × Int × Int)
 | 0, _, _, _, _, _, _ => none
 | k + 1, x1000, uu, ut, tu, tq, ow => (bH_.f x1000 uu ut 24).bind fun bt145 => (if bt145.1 = true then ((ag_.f x1000 bt145.2.1 bt145.2.2 3).bind fun bt148 => (if 0 ≤ (wrap64 (399 + bt148.1)) then (if (wrap64 (399 + bt148.1) : Int).toNat ≤ 281474976710656 then (some (tu, tq, strOfNums (List.replicate (wrap64 (399 + bt148.1) : Int).toNat 0), bt148.2.1, bt148.2.2)) else (none)) else (none))) else (some (tu, tq, ow, bt145.2.1, bt145.2.2)))
end
def au_.f (k : Nat) (s0_0 : List Int) (s0_1 : Int) (s0_2 : Int) : Option (ByteArray × ByteArray × ByteArray × Int × Int) := (aY_.f s0_0 s0_1 s0_2 (([(⟨#[108, 101, 97, 102]⟩ : ByteArray), (⟨#[110, 111, 116, 101]⟩ : ByteArray), (⟨#[102, 97, 99, 101]⟩ : ByteArray)] : List ByteArray))).bind fun bt105 => ((aY_.f s0_0 bt105.2.1 bt105.2.2 (([(⟨#[97]⟩ : ByteArray), (⟨#[98]⟩ : ByteArray), (⟨#[99]⟩ : ByteArray), (⟨#[100]⟩ : ByteArray)] : List ByteArray))).bind fun bt112 => ((aY_.f s0_0 bt112.2.1 bt112.2.2 (([(⟨#[]⟩ : ByteArray), (⟨#[120]⟩ : ByteArray), (⟨#[97, 32, 98, 32, 99]⟩ : ByteArray), (⟨#[49, 50, 32, 51, 52]⟩ : ByteArray), (⟨#[111, 97, 107, 47, 52, 48]⟩ : ByteArray)] : List ByteArray))).bind fun bt118 => ((bH_.f s0_0 bt118.2.1 bt118.2.2 4).bind fun bt121 => (if bt121.1 = true then ((bc_.f k s0_0 bt121.2.1 bt121.2.2 9).bind fun bt124 => (if bt118.1.size + bt124.1.size ≤ 9223372036854775807 then (au_.j0 k s0_0 bt124.2.1 bt124.2.2 bt105.1 bt112.1 (bt118.1 ++ bt124.1)) else (none))) else (au_.j0 k s0_0 bt121.2.1 bt121.2.2 bt105.1 bt112.1 bt118.1)))))
theorem au_.calls (k : Nat) (g : Nat) (s0_0 : List Int) (s0_1 : Int) (s0_2 : Int) (r1 : ByteArray) (r2 : ByteArray) (r3 : ByteArray) (r4 : Int) (r5 : Int) (w0 w : World) (hI : IsS85 w0 w g s0_0 s0_1 s0_2) (hB : Below w0.heap.size w0 w) (h : au_.f k s0_0 s0_1 s0_2 = some (r1, r2, r3, r4, r5)) :
  Calls prog 43 #[.pointer (some ⟨g, 0, none⟩)] w fun e w' => e = .returned (.agg #[.string r1, .string r2, .string r3]) ∧ IsS85 w0 w' g s0_0 r4 r5 ∧ Below w0.heap.size w0 w' ∧ af_ w w' g none := by
 have hu60 := underlying60; have hu46 := underlying46; have HI0 := ak hI; have HK := ak (af_.refl w g none); have HL := ak hB.size; clear hI; have HW0 := ak hB.size; have HB := ak hB; clear hB; have H : ((aY_.f s0_0 s0_1 s0_2 (([(⟨#[108, 101, 97, 102]⟩ : ByteArray), (⟨#[110, 111, 116, 101]⟩ : ByteArray), (⟨#[102, 97, 99, 101]⟩ : ByteArray)] : List ByteArray))).bind fun bt105 => ((aY_.f s0_0 bt105.2.1 bt105.2.2 (([(⟨#[97]⟩ : ByteArray), (⟨#[98]⟩ : ByteArray), (⟨#[99]⟩ : ByteArray), (⟨#[100]⟩ : ByteArray)] : List ByteArray))).bind fun bt112 => ((aY_.f s0_0 bt112.2.1 bt112.2.2 (([(⟨#[]⟩ : ByteArray), (⟨#[120]⟩ : ByteArray), (⟨#[97, 32, 98, 32, 99]⟩ : ByteArray), (⟨#[49, 50, 32, 51, 52]⟩ : ByteArray), (⟨#[111, 97, 107, 47, 52, 48]⟩ : ByteArray)] : List ByteArray))).bind fun bt118 => ((bH_.f s0_0 bt118.2.1 bt118.2.2 4).bind fun bt121 => (if bt121.1 = true then ((bc_.f k s0_0 bt121.2.1 bt121.2.2 9).bind fun bt124 => (if bt118.1.size + bt124.1.size ≤ 9223372036854775807 then (au_.j0 k s0_0 bt124.2.1 bt124.2.2 bt105.1 bt112.1 (bt118.1 ++ bt124.1)) else (none))) else (au_.j0 k s0_0 bt121.2.1 bt121.2.2 bt105.1 bt112.1 bt118.1)))))) = some (r1, r2, r3, r4, r5) := h; clear h; obtain ⟨y102, hy102⟩ : ∃ y_ : List ByteArray, y_ = (([(⟨#[108, 101, 97, 102]⟩ : ByteArray), (⟨#[110, 111, 116, 101]⟩ : ByteArray), (⟨#[102, 97, 99, 101]⟩ : ByteArray)] : List ByteArray)) := ⟨_, rfl⟩; replace H : ((aY_.f s0_0 s0_1 s0_2 y102).bind fun bt105 => ((aY_.f s0_0 bt105.2.1 bt105.2.2 (([(⟨#[97]⟩ : ByteArray), (⟨#[98]⟩ : ByteArray), (⟨#[99]⟩ : ByteArray), (⟨#[100]⟩ : ByteArray)] : List ByteArray))).bind fun bt112 => ((aY_.f s0_0 bt112.2.1 bt112.2.2 (([(⟨#[]⟩ : ByteArray), (⟨#[120]⟩ : ByteArray), (⟨#[97, 32, 98, 32, 99]⟩ : ByteArray), (⟨#[49, 50, 32, 51, 52]⟩ : ByteArray), (⟨#[111, 97, 107, 47, 52, 48]⟩ : ByteArray)] : List ByteArray))).bind fun bt118 => ((bH_.f s0_0 bt118.2.1 bt118.2.2 4).bind fun bt121 => (if bt121.1 = true then ((bc_.f k s0_0 bt121.2.1 bt121.2.2 9).bind fun bt124 => (if bt118.1.size + bt124.1.size ≤ 9223372036854775807 then (au_.j0 k s0_0 bt124.2.1 bt124.2.2 bt105.1 bt112.1 (bt118.1 ++ bt124.1)) else (none))) else (au_.j0 k s0_0 bt121.2.1 bt121.2.2 bt105.1 bt112.1 bt118.1)))))) = some (r1, r2, r3, r4, r5) := by first | (rw [hy102]; with_reducible exact H) | (have H2_ := (ob_ _ _).symm.trans H; rw [hy102]; with_reducible exact H2_) | (have H2_ := (ob_ _ _).symm.trans H; with_reducible exact H2_) | with_reducible exact H | (rw [hy102]; exact H) | exact H
 have vk := ak hy102; clear hy102; revert H; refine biB ?_; rintro ⟨t105, zP, t107⟩ A2 H; (try dsimp only at H); obtain ⟨Zv, hy109⟩ : ∃ y_ : List ByteArray, y_ = (([(⟨#[97]⟩ : ByteArray), (⟨#[98]⟩ : ByteArray), (⟨#[99]⟩ : ByteArray), (⟨#[100]⟩ : ByteArray)] : List ByteArray)) := ⟨_, rfl⟩; replace H : ((aY_.f s0_0 zP t107 Zv).bind fun bt112 => ((aY_.f s0_0 bt112.2.1 bt112.2.2 (([(⟨#[]⟩ : ByteArray), (⟨#[120]⟩ : ByteArray), (⟨#[97, 32, 98, 32, 99]⟩ : ByteArray), (⟨#[49, 50, 32, 51, 52]⟩ : ByteArray), (⟨#[111, 97, 107, 47, 52, 48]⟩ : ByteArray)] : List ByteArray))).bind fun bt118 => ((bH_.f s0_0 bt118.2.1 bt118.2.2 4).bind fun bt121 => (if bt121.1 = true then ((bc_.f k s0_0 bt121.2.1 bt121.2.2 9).bind fun bt124 => (if bt118.1.size + bt124.1.size ≤ 9223372036854775807 then (au_.j0 k s0_0 bt124.2.1 bt124.2.2 t105 bt112.1 (bt118.1 ++ bt124.1)) else (none))) else (au_.j0 k s0_0 bt121.2.1 bt121.2.2 t105 bt112.1 bt118.1))))) = some (r1, r2, r3, r4, r5) := by first | (rw [hy109]; with_reducible exact H) | (have H2_ := (ob_ _ _).symm.trans H; rw [hy109]; with_reducible exact H2_) | (have H2_ := (ob_ _ _).symm.trans H; with_reducible exact H2_) | with_reducible exact H | (rw [hy109]; exact H) | exact H
 have bN := ak hy109; clear hy109; revert H; refine biB ?_; rintro ⟨zK, zZ, wS⟩ A3 H; (try dsimp only at H); obtain ⟨y115, hy115⟩ : ∃ y_ : List ByteArray, y_ = (([(⟨#[]⟩ : ByteArray), (⟨#[120]⟩ : ByteArray), (⟨#[97, 32, 98, 32, 99]⟩ : ByteArray), (⟨#[49, 50, 32, 51, 52]⟩ : ByteArray), (⟨#[111, 97, 107, 47, 52, 48]⟩ : ByteArray)] : List ByteArray)) := ⟨_, rfl⟩; replace H : ((aY_.f s0_0 zZ wS y115).bind fun bt118 => ((bH_.f s0_0 bt118.2.1 bt118.2.2 4).bind fun bt121 => (if bt121.1 = true then ((bc_.f k s0_0 bt121.2.1 bt121.2.2 9).bind fun bt124 => (if bt118.1.size + bt124.1.size ≤ 9223372036854775807 then (au_.j0 k s0_0 bt124.2.1 bt124.2.2 t105 zK (bt118.1 ++ bt124.1)) else (none))) else (au_.j0 k s0_0 bt121.2.1 bt121.2.2 t105 zK bt118.1)))) = some (r1, r2, r3, r4, r5) := by first | (rw [hy115]; with_reducible exact H) | (have H2_ := (ob_ _ _).symm.trans H; rw [hy115]; with_reducible exact H2_) | (have H2_ := (ob_ _ _).symm.trans H; with_reducible exact H2_) | with_reducible exact H | (rw [hy115]; exact H) | exact H
 have gI := ak hy115; clear hy115; revert H; refine biB ?_; rintro ⟨yD, t119, yU⟩ A4 H; (try dsimp only at H); revert H; refine biB ?_; rintro ⟨xc, uB, lw⟩ A5 H; (try dsimp only at H); have HC6 := ak H; clear H; go_enter func43, ntmps43; go_upto_if 18 with (first | (refine bxE 2 60 #[.string (⟨#[]⟩ : ByteArray), .string (⟨#[]⟩ : ByteArray), .string (⟨#[]⟩ : ByteArray)] ?_; intro zz hg w7 hbox hb; replace HB := ak (ac_ rab hb); have z8 := ak (hbox); have y5 := ak ((rao : w.heap.size ≤ zz)); have xS := ak ((Nat.le_trans HW0.1 (rao : w.heap.size ≤ zz) : w0.heap.size ≤ zz)); replace HK := ak (af_.trans raa (af_.of_below hb g none) (.inl rfl)); have zV := ak ((rat : g ≠ zz)); have yY := ak ((rau : zz ≠ g)); replace HI0 := ak (IsS85.below rac hb); clear hb hbox hg) | ((with_reducible refine bp_ (N := 6) rfl ?_); refine Kd.R_lit Kd.string _ 9 ?hg (N := 6) ?hd (xs := ([(⟨#[108, 101, 97, 102]⟩ : ByteArray), (⟨#[110, 111, 116, 101]⟩ : ByteArray), (⟨#[102, 97, 99, 101]⟩ : ByteArray)] : List ByteArray)) (inner := [.string (⟨#[108, 101, 97, 102]⟩ : ByteArray), .string (⟨#[110, 111, 116, 101]⟩ : ByteArray), .string (⟨#[102, 97, 99, 101]⟩ : ByteArray)]) (ok := fun _ => True) (okp := fun _ => True) ?hr ?hp (fun _ hk => hk) trivial (Below.refl _ _) (Nat.le_refl _) rav ?_; (case hd => rfl); (case hg => rfl); (case hr => (go_simp; try rfl)); (case hp => exact (Reps.one (show Kd.M Kd.string _ _ _ (⟨#[108, 101, 97, 102]⟩ : ByteArray) [.string (⟨#[108, 101, 97, 102]⟩ : ByteArray)] from rfl) (Reps.one (show Kd.M Kd.string _ _ _ (⟨#[110, 111, 116, 101]⟩ : ByteArray) [.string (⟨#[110, 111, 116, 101]⟩ : ByteArray)] from rfl) (Reps.one (show Kd.M Kd.string _ _ _ (⟨#[102, 97, 99, 101]⟩ : ByteArray) [.string (⟨#[102, 97, 99, 101]⟩ : ByteArray)] from rfl) (Reps.none _ _))))); intro kQ w8 ho9 hb hg_ hnew_; clear hg_ hnew_; (first | rw [← vk.1] at ho9 | (simp only [Int.reduceToNat] at ho9; rw [← vk.1] at ho9)); have zm := ak (Kd.bj_ ho9 (ch_ (w := w) (g := g) (row := none) raa)); replace z8 := ak (ai_ (kz z8.1) hb); replace HK := ak (af_.trans raa (af_.of_below hb g none) (.inl rfl)); replace HB := ak (ac_ rab hb); replace HI0 := ak (IsS85.below rac hb); clear hb ho9; obtain ⟨JD, JC, JB⟩ := Kd.bk_ zm.1; subst JB) | (refine gL 71 7 func71 #[.pointer (some ⟨g, 0, none⟩), .slice JD y102.length JC] ?_; (with_reducible refine (aY_.calls g s0_0 s0_1 s0_2 _ _ y102 t105 zP t107 w0 _ ?zw ?zq ?yN ?wL ?rE A2.1).mono ?_); (case zw => exact rac); (case zq => exact rab); (case yN => exact cz (Kd.am_ zm.1).2.2); (case wL => exact (Kd.am_ zm.1).2.1); (case rE => exact far_slice (IsS85.own_ne HI0.1 zm.1 rah)); rintro e w11 ⟨rfl, hi, hb, hk⟩; refine ⟨_, rfl, ?_⟩; replace z8 := ak (af_.blk hk (kz z8.1) yY.1 rav); replace zm := ak (Kd.aA_ (Kd.cH_ (IsS85.apart (show IsS85 w0 _ g s0_0 s0_1 s0_2 from by repeat (first | (with_reducible first | exact HI0.1 | apply IsS85.alloc | apply IsS85.drewN | apply IsS85.drew | apply IsS85.set_1 | apply IsS85.set_2 | refine IsS85.far ?_ zV.1 _ | refine IsS85.far ?_ zJ.1 _ | refine IsS85.far ?_ zR.1 _ | refine IsS85.far ?_ zN.1 _ | refine IsS85.far ?_ zg.1 _ | refine IsS85.far ?_ zI.1 _) | exact HI0.1)) (rz zm.1) rah) hk (fun _ h => h.2)) (fun _ h => h.1)); replace HK := ak (af_.trans raa hk (.inl rfl)); replace HB := ak (hb); replace HI0 := ak (hi); (try clear hb)) | (refine bxE 3 60 #[.string (⟨#[]⟩ : ByteArray), .string (⟨#[]⟩ : ByteArray), .string (⟨#[]⟩ : ByteArray)] ?_; intro xY hg w12 hbox hb; replace zm := ak (Kd.aK_ (rz zm.1) hb); replace HB := ak (ac_ rab hb); have zD := ak (hbox); have TH := ak ((rao : w.heap.size ≤ xY)); have TE := ak ((Nat.le_trans HW0.1 (rao : w.heap.size ≤ xY) : w0.heap.size ≤ xY)); replace HK := ak (af_.trans raa (af_.of_below hb g none) (.inl rfl)); have xU := ak ((raw : zz ≠ xY)); have uZ := ak ((rax : xY ≠ zz)); replace z8 := ak (ai_ (kz z8.1) hb); have zR := ak (((by rw [hg]; exact Nat.ne_of_lt (IsS85.lt (show IsS85 w0 _ g s0_0 zP t107 from by repeat (first | (with_reducible first | exact HI0.1 | apply IsS85.alloc | apply IsS85.drewN | apply IsS85.drew | apply IsS85.set_1 | apply IsS85.set_2 | refine IsS85.far ?_ zV.1 _ | refine IsS85.far ?_ zJ.1 _ | refine IsS85.far ?_ zR.1 _ | refine IsS85.far ?_ zN.1 _ | refine IsS85.far ?_ zg.1 _ | refine IsS85.far ?_ zI.1 _) | exact HI0.1)))) : g ≠ xY)); have vo := ak (((by rw [hg]; exact Nat.ne_of_gt (IsS85.lt (show IsS85 w0 _ g s0_0 zP t107 from by repeat (first | (with_reducible first | exact HI0.1 | apply IsS85.alloc | apply IsS85.drewN | apply IsS85.drew | apply IsS85.set_1 | apply IsS85.set_2 | refine IsS85.far ?_ zV.1 _ | refine IsS85.far ?_ zJ.1 _ | refine IsS85.far ?_ zR.1 _ | refine IsS85.far ?_ zN.1 _ | refine IsS85.far ?_ zg.1 _ | refine IsS85.far ?_ zI.1 _) | exact HI0.1)))) : xY ≠ g)); replace HI0 := ak (IsS85.below rac hb); clear hb hbox hg; have hnb13 := uZ.1; have hnc13 := xU.1; have hnb14 := vo.1; have hnc14 := zR.1; obtain ⟨nK, nJ, nI⟩ := cz3_ zD.1; obtain ⟨lH, lG, lF⟩ := fz3_ zD.1) | ((with_reducible refine bp_ (N := 10) rfl ?_); refine Kd.R_lit Kd.string _ 9 ?hg (N := 10) ?hd (xs := ([(⟨#[97]⟩ : ByteArray), (⟨#[98]⟩ : ByteArray), (⟨#[99]⟩ : ByteArray), (⟨#[100]⟩ : ByteArray)] : List ByteArray)) (inner := [.string (⟨#[97]⟩ : ByteArray), .string (⟨#[98]⟩ : ByteArray), .string (⟨#[99]⟩ : ByteArray), .string (⟨#[100]⟩ : ByteArray)]) (ok := fun _ => True) (okp := fun _ => True) ?hr ?hp (fun _ hk => hk) trivial (Below.refl _ _) (Nat.le_refl _) rav ?_; (case hd => rfl); (case hg => rfl); (case hr => (go_simp; try rfl)); (case hp => exact (Reps.one (show Kd.M Kd.string _ _ _ (⟨#[97]⟩ : ByteArray) [.string (⟨#[97]⟩ : ByteArray)] from rfl) (Reps.one (show Kd.M Kd.string _ _ _ (⟨#[98]⟩ : ByteArray) [.string (⟨#[98]⟩ : ByteArray)] from rfl) (Reps.one (show Kd.M Kd.string _ _ _ (⟨#[99]⟩ : ByteArray) [.string (⟨#[99]⟩ : ByteArray)] from rfl) (Reps.one (show Kd.M Kd.string _ _ _ (⟨#[100]⟩ : ByteArray) [.string (⟨#[100]⟩ : ByteArray)] from rfl) (Reps.none _ _)))))); intro JA w16 ho17 hb hg_ hnew_; clear hg_ hnew_; (first | rw [← bN.1] at ho17 | (simp only [Int.reduceToNat] at ho17; rw [← bN.1] at ho17)); have xy := ak (Kd.bj_ (Kd.bC_ ho17 (Kd.R_lt (rz (Kd.aA_ (Kd.R_far (p := ⟨xY, 2, none⟩) (Kd.R_far (p := ⟨xY, 1, none⟩) (Kd.R_far (p := ⟨xY, 0, none⟩) (Kd.bE_ zm.1 zD.1 rah) (fun _ hk => hk.2) (.string t105)) (fun _ hk => hk.2) (.string (⟨#[]⟩ : ByteArray))) (fun _ hk => hk.2) (.string (⟨#[]⟩ : ByteArray))) (fun _ h_ => h_.1))))) (ch_ (w := w) (g := g) (row := none) raa)); replace zm := ak (Kd.aX_ (rz (Kd.aA_ (Kd.R_far (p := ⟨xY, 2, none⟩) (Kd.R_far (p := ⟨xY, 1, none⟩) (Kd.R_far (p := ⟨xY, 0, none⟩) (Kd.bE_ zm.1 zD.1 rah) (fun _ hk => hk.2) (.string t105)) (fun _ hk => hk.2) (.string (⟨#[]⟩ : ByteArray))) (fun _ hk => hk.2) (.string (⟨#[]⟩ : ByteArray))) (fun _ h_ => h_.1))) (Kd.bx_ ho17) hb); replace z8 := ak (ai_ (g := zz) (o := .cells #[.string (⟨#[]⟩ : ByteArray), .string (⟨#[]⟩ : ByteArray), .string (⟨#[]⟩ : ByteArray)] 60 (0, 0)) (by exact kf (kf (kf (kz z8.1) xU.1) xU.1) xU.1) hb); replace zD := ak (ai_ (g := xY) (o := .cells #[.string t105, .string (⟨#[]⟩ : ByteArray), .string (⟨#[]⟩ : ByteArray)] 60 (0, 0)) (by exact kj3_2 (kj3_1 (kj3_0 (kz zD.1)))) hb); replace HK := ak (af_.trans raa (af_.of_below hb g none) (.inl rfl)); replace HB := ak (ac_ rab hb); replace HI0 := ak (IsS85.below (show IsS85 w0 (((w12.setCell ⟨xY, 0, none⟩ (.string t105)).setCell ⟨xY, 1, none⟩ (.string (⟨#[]⟩ : ByteArray))).setCell ⟨xY, 2, none⟩ (.string (⟨#[]⟩ : ByteArray))) g s0_0 zP t107 from by repeat (first | (with_reducible first | exact HI0.1 | apply IsS85.alloc | apply IsS85.drewN | apply IsS85.drew | apply IsS85.set_1 | apply IsS85.set_2 | refine IsS85.far ?_ zV.1 _ | refine IsS85.far ?_ zJ.1 _ | refine IsS85.far ?_ zR.1 _ | refine IsS85.far ?_ zN.1 _ | refine IsS85.far ?_ zg.1 _ | refine IsS85.far ?_ zI.1 _) | exact HI0.1)) hb); clear hb ho17; obtain ⟨Sl, xZ, YZ⟩ := Kd.bk_ xy.1; subst YZ) | (refine gL 71 11 func71 #[.pointer (some ⟨g, 0, none⟩), .slice Sl Zv.length xZ] ?_; (with_reducible refine (aY_.calls g s0_0 zP t107 _ _ Zv zK zZ wS w0 _ ?zw ?zq ?yN ?wL ?rE A3.1).mono ?_); (case zw => exact rac); (case zq => exact rab); (case yN => exact cz (Kd.am_ xy.1).2.2); (case wL => exact (Kd.am_ xy.1).2.1); (case rE => exact far_slice (IsS85.own_ne HI0.1 xy.1 rah)); rintro e w19 ⟨rfl, hi, hb, hk⟩; refine ⟨_, rfl, ?_⟩; replace z8 := ak (af_.blk hk (kz z8.1) yY.1 rav); replace zm := ak (Kd.aA_ (Kd.cH_ (IsS85.apart (show IsS85 w0 _ g s0_0 zP t107 from by repeat (first | (with_reducible first | exact HI0.1 | apply IsS85.alloc | apply IsS85.drewN | apply IsS85.drew | apply IsS85.set_1 | apply IsS85.set_2 | refine IsS85.far ?_ zV.1 _ | refine IsS85.far ?_ zJ.1 _ | refine IsS85.far ?_ zR.1 _ | refine IsS85.far ?_ zN.1 _ | refine IsS85.far ?_ zg.1 _ | refine IsS85.far ?_ zI.1 _) | exact HI0.1)) (rz zm.1) rah) hk (fun _ h => h.2)) (fun _ h => h.1)); replace zD := ak (af_.blk hk (kz zD.1) vo.1 rav); replace xy := ak (Kd.aA_ (Kd.cH_ (IsS85.apart (show IsS85 w0 _ g s0_0 zP t107 from by repeat (first | (with_reducible first | exact HI0.1 | apply IsS85.alloc | apply IsS85.drewN | apply IsS85.drew | apply IsS85.set_1 | apply IsS85.set_2 | refine IsS85.far ?_ zV.1 _ | refine IsS85.far ?_ zJ.1 _ | refine IsS85.far ?_ zR.1 _ | refine IsS85.far ?_ zN.1 _ | refine IsS85.far ?_ zg.1 _ | refine IsS85.far ?_ zI.1 _) | exact HI0.1)) (rz xy.1) rah) hk (fun _ h => h.2)) (fun _ h => h.1)); replace HK := ak (af_.trans raa hk (.inl rfl)); replace HB := ak (hb); replace HI0 := ak (hi); (try clear hb); obtain ⟨dG, dF, dE⟩ := cz3_ zD.1; obtain ⟨dD, dC, dB⟩ := fz3_ zD.1) | ((with_reducible refine bp_ (N := 14) rfl ?_); refine Kd.R_lit Kd.string _ 9 ?hg (N := 14) ?hd (xs := ([(⟨#[]⟩ : ByteArray), (⟨#[120]⟩ : ByteArray), (⟨#[97, 32, 98, 32, 99]⟩ : ByteArray), (⟨#[49, 50, 32, 51, 52]⟩ : ByteArray), (⟨#[111, 97, 107, 47, 52, 48]⟩ : ByteArray)] : List ByteArray)) (inner := [.string (⟨#[]⟩ : ByteArray), .string (⟨#[120]⟩ : ByteArray), .string (⟨#[97, 32, 98, 32, 99]⟩ : ByteArray), .string (⟨#[49, 50, 32, 51, 52]⟩ : ByteArray), .string (⟨#[111, 97, 107, 47, 52, 48]⟩ : ByteArray)]) (ok := fun _ => True) (okp := fun _ => True) ?hr ?hp (fun _ hk => hk) trivial (Below.refl _ _) (Nat.le_refl _) rav ?_; (case hd => rfl); (case hg => rfl); (case hr => (go_simp; try rfl)); (case hp => exact (Reps.one (show Kd.M Kd.string _ _ _ (⟨#[]⟩ : ByteArray) [.string (⟨#[]⟩ : ByteArray)] from rfl) (Reps.one (show Kd.M Kd.string _ _ _ (⟨#[120]⟩ : ByteArray) [.string (⟨#[120]⟩ : ByteArray)] from rfl) (Reps.one (show Kd.M Kd.string _ _ _ (⟨#[97, 32, 98, 32, 99]⟩ : ByteArray) [.string (⟨#[97, 32, 98, 32, 99]⟩ : ByteArray)] from rfl) (Reps.one (show Kd.M Kd.string _ _ _ (⟨#[49, 50, 32, 51, 52]⟩ : ByteArray) [.string (⟨#[49, 50, 32, 51, 52]⟩ : ByteArray)] from rfl) (Reps.one (show Kd.M Kd.string _ _ _ (⟨#[111, 97, 107, 47, 52, 48]⟩ : ByteArray) [.string (⟨#[111, 97, 107, 47, 52, 48]⟩ : ByteArray)] from rfl) (Reps.none _ _))))))); intro Tz w21 ho22 hb hg_ hnew_; clear hg_ hnew_; (first | rw [← gI.1] at ho22 | (simp only [Int.reduceToNat] at ho22; rw [← gI.1] at ho22)); have xq := ak (Kd.bj_ (Kd.bC_ (Kd.bC_ ho22 (Kd.R_lt (rz (Kd.aA_ (Kd.R_far (p := ⟨xY, 1, none⟩) (Kd.bE_ zm.1 zD.1 rah) (fun _ hk => hk.2) (.string zK)) (fun _ h_ => h_.1))))) (Kd.R_lt (rz (Kd.aA_ (Kd.R_far (p := ⟨xY, 1, none⟩) (Kd.bE_ xy.1 zD.1 rah) (fun _ hk => hk.2) (.string zK)) (fun _ h_ => h_.1))))) (ch_ (w := w) (g := g) (row := none) raa)); replace zm := ak (Kd.aX_ (rz (Kd.aA_ (Kd.R_far (p := ⟨xY, 1, none⟩) (Kd.bE_ zm.1 zD.1 rah) (fun _ hk => hk.2) (.string zK)) (fun _ h_ => h_.1))) (Kd.bx_ ho22) hb); replace xy := ak (Kd.aX_ (rz (Kd.aA_ (Kd.R_far (p := ⟨xY, 1, none⟩) (Kd.bE_ xy.1 zD.1 rah) (fun _ hk => hk.2) (.string zK)) (fun _ h_ => h_.1))) (Kd.bx_ ho22) hb); replace z8 := ak (ai_ (g := zz) (o := .cells #[.string (⟨#[]⟩ : ByteArray), .string (⟨#[]⟩ : ByteArray), .string (⟨#[]⟩ : ByteArray)] 60 (0, 0)) (by exact kf (kz z8.1) xU.1) hb); replace zD := ak (ai_ (g := xY) (o := .cells #[.string t105, .string zK, .string (⟨#[]⟩ : ByteArray)] 60 (0, 0)) (by exact kj3_1 (kz zD.1)) hb); replace HK := ak (af_.trans raa (af_.of_below hb g none) (.inl rfl)); replace HB := ak (ac_ rab hb); replace HI0 := ak (IsS85.below (show IsS85 w0 (w19.setCell ⟨xY, 1, none⟩ (.string zK)) g s0_0 zZ wS from by repeat (first | (with_reducible first | exact HI0.1 | apply IsS85.alloc | apply IsS85.drewN | apply IsS85.drew | apply IsS85.set_1 | apply IsS85.set_2 | refine IsS85.far ?_ zV.1 _ | refine IsS85.far ?_ zJ.1 _ | refine IsS85.far ?_ zR.1 _ | refine IsS85.far ?_ zN.1 _ | refine IsS85.far ?_ zg.1 _ | refine IsS85.far ?_ zI.1 _) | exact HI0.1)) hb); clear hb ho22; obtain ⟨Yb, Ya, UZ⟩ := Kd.bk_ xq.1; subst UZ) | (refine gL 71 15 func71 #[.pointer (some ⟨g, 0, none⟩), .slice Yb y115.length Ya] ?_; (with_reducible refine (aY_.calls g s0_0 zZ wS _ _ y115 yD t119 yU w0 _ ?zw ?zq ?yN ?wL ?rE A4.1).mono ?_); (case zw => exact rac); (case zq => exact rab); (case yN => exact cz (Kd.am_ xq.1).2.2); (case wL => exact (Kd.am_ xq.1).2.1); (case rE => exact far_slice (IsS85.own_ne HI0.1 xq.1 rah)); rintro e w24 ⟨rfl, hi, hb, hk⟩; refine ⟨_, rfl, ?_⟩; replace z8 := ak (af_.blk hk (kz z8.1) yY.1 rav); replace zm := ak (Kd.aA_ (Kd.cH_ (IsS85.apart (show IsS85 w0 _ g s0_0 zZ wS from by repeat (first | (with_reducible first | exact HI0.1 | apply IsS85.alloc | apply IsS85.drewN | apply IsS85.drew | apply IsS85.set_1 | apply IsS85.set_2 | refine IsS85.far ?_ zV.1 _ | refine IsS85.far ?_ zJ.1 _ | refine IsS85.far ?_ zR.1 _ | refine IsS85.far ?_ zN.1 _ | refine IsS85.far ?_ zg.1 _ | refine IsS85.far ?_ zI.1 _) | exact HI0.1)) (rz zm.1) rah) hk (fun _ h => h.2)) (fun _ h => h.1)); replace zD := ak (af_.blk hk (kz zD.1) vo.1 rav); replace xy := ak (Kd.aA_ (Kd.cH_ (IsS85.apart (show IsS85 w0 _ g s0_0 zZ wS from by repeat (first | (with_reducible first | exact HI0.1 | apply IsS85.alloc | apply IsS85.drewN | apply IsS85.drew | apply IsS85.set_1 | apply IsS85.set_2 | refine IsS85.far ?_ zV.1 _ | refine IsS85.far ?_ zJ.1 _ | refine IsS85.far ?_ zR.1 _ | refine IsS85.far ?_ zN.1 _ | refine IsS85.far ?_ zg.1 _ | refine IsS85.far ?_ zI.1 _) | exact HI0.1)) (rz xy.1) rah) hk (fun _ h => h.2)) (fun _ h => h.1)); replace xq := ak (Kd.aA_ (Kd.cH_ (IsS85.apart (show IsS85 w0 _ g s0_0 zZ wS from by repeat (first | (with_reducible first | exact HI0.1 | apply IsS85.alloc | apply IsS85.drewN | apply IsS85.drew | apply IsS85.set_1 | apply IsS85.set_2 | refine IsS85.far ?_ zV.1 _ | refine IsS85.far ?_ zJ.1 _ | refine IsS85.far ?_ zR.1 _ | refine IsS85.far ?_ zN.1 _ | refine IsS85.far ?_ zg.1 _ | refine IsS85.far ?_ zI.1 _) | exact HI0.1)) (rz xq.1) rah) hk (fun _ h => h.2)) (fun _ h => h.1)); replace HK := ak (af_.trans raa hk (.inl rfl)); replace HB := ak (hb); replace HI0 := ak (hi); (try clear hb); obtain ⟨Xm, Xl, Xk⟩ := cz3_ zD.1; obtain ⟨Xj, Xi, Xh⟩ := fz3_ zD.1) | (refine gL 72 18 func72 #[.pointer (some ⟨g, 0, none⟩), .int .i64 4] ?_; (with_reducible refine (bH_.calls g s0_0 t119 yU 4 xc uB lw w0 _ ?zw ?zq A5.1).mono ?_); (case zw => exact rac); (case zq => exact rab); rintro e w26 ⟨rfl, hi, hb, hk⟩; refine ⟨_, rfl, ?_⟩; replace z8 := ak (af_.blk hk (g' := zz) (o := .cells #[.string (⟨#[]⟩ : ByteArray), .string (⟨#[]⟩ : ByteArray), .string (⟨#[]⟩ : ByteArray)] 60 (0, 0)) (by exact kf (kz z8.1) xU.1) yY.1 rav); replace zm := ak (Kd.aA_ (Kd.cH_ (IsS85.apart (show IsS85 w0 _ g s0_0 t119 yU from by repeat (first | (with_reducible first | exact HI0.1 | apply IsS85.alloc | apply IsS85.drewN | apply IsS85.drew | apply IsS85.set_1 | apply IsS85.set_2 | refine IsS85.far ?_ zV.1 _ | refine IsS85.far ?_ zJ.1 _ | refine IsS85.far ?_ zR.1 _ | refine IsS85.far ?_ zN.1 _ | refine IsS85.far ?_ zg.1 _ | refine IsS85.far ?_ zI.1 _) | exact HI0.1)) (rz (Kd.aA_ (Kd.R_far (p := ⟨xY, 2, none⟩) (Kd.bE_ zm.1 zD.1 rah) (fun _ hk => hk.2) (.string yD)) (fun _ h_ => h_.1))) rah) hk (fun _ h => h.2)) (fun _ h => h.1)); replace xy := ak (Kd.aA_ (Kd.cH_ (IsS85.apart (show IsS85 w0 _ g s0_0 t119 yU from by repeat (first | (with_reducible first | exact HI0.1 | apply IsS85.alloc | apply IsS85.drewN | apply IsS85.drew | apply IsS85.set_1 | apply IsS85.set_2 | refine IsS85.far ?_ zV.1 _ | refine IsS85.far ?_ zJ.1 _ | refine IsS85.far ?_ zR.1 _ | refine IsS85.far ?_ zN.1 _ | refine IsS85.far ?_ zg.1 _ | refine IsS85.far ?_ zI.1 _) | exact HI0.1)) (rz (Kd.aA_ (Kd.R_far (p := ⟨xY, 2, none⟩) (Kd.bE_ xy.1 zD.1 rah) (fun _ hk => hk.2) (.string yD)) (fun _ h_ => h_.1))) rah) hk (fun _ h => h.2)) (fun _ h => h.1)); replace xq := ak (Kd.aA_ (Kd.cH_ (IsS85.apart (show IsS85 w0 _ g s0_0 t119 yU from by repeat (first | (with_reducible first | exact HI0.1 | apply IsS85.alloc | apply IsS85.drewN | apply IsS85.drew | apply IsS85.set_1 | apply IsS85.set_2 | refine IsS85.far ?_ zV.1 _ | refine IsS85.far ?_ zJ.1 _ | refine IsS85.far ?_ zR.1 _ | refine IsS85.far ?_ zN.1 _ | refine IsS85.far ?_ zg.1 _ | refine IsS85.far ?_ zI.1 _) | exact HI0.1)) (rz (Kd.aA_ (Kd.R_far (p := ⟨xY, 2, none⟩) (Kd.bE_ xq.1 zD.1 rah) (fun _ hk => hk.2) (.string yD)) (fun _ h_ => h_.1))) rah) hk (fun _ h => h.2)) (fun _ h => h.1)); replace zD := ak (af_.blk hk (g' := xY) (o := .cells #[.string t105, .string zK, .string yD] 60 (0, 0)) (by exact kj3_2 (kz zD.1)) vo.1 rav); replace HK := ak (af_.trans raa hk (.inl rfl)); replace HB := ak (hb); replace HI0 := ak (hi); (try clear hb))); (try simp only [Act.put, lsa_, ls0_, ls1_])
 go_cut [] (fun wc => ∃ (kq : Nat) (mO : Int) (mM : Int) (uY : ByteArray), Aside0 (au_.j0 kq s0_0 mO mM t105 zK uY = some (r1, r2, r3, r4, r5)) ∧ Aside0 (kq ≤ k) ∧ Aside0 (wc.heap[zz]? = some (.cells #[.string (⟨#[]⟩ : ByteArray), .string (⟨#[]⟩ : ByteArray), .string (⟨#[]⟩ : ByteArray)] 60 (0, 0))) ∧ Aside0 (wc.heap[xY]? = some (.cells #[.string t105, .string zK, .string uY] 60 (0, 0))) ∧ Aside0 (IsS85 w0 wc g s0_0 mO mM) ∧ Aside0 (af_ w wc g none) ∧ Aside0 (Below w0.heap.size w0 wc))
 case first =>
  have H := HC6.1; clear HC6; by_cases c27 : xc = true; rotate_left
  ·replace c27 := Bool.eq_false_iff.mpr c27; subst c27; replace H := ifF H; have H' := ak H; clear H; go_wp2; go_meet
   case rel => exact ⟨_, (uB), (lw), (yD), H', ⟨rar⟩, ⟨by (with_reducible repeat (first | refine bg_ ?_ _ | refine aL_ ?_ | refine aG_ ?_ _)); exact z8.1⟩, ⟨by (with_reducible repeat (first | refine bg_ ?_ _ | refine aL_ ?_ | refine aG_ ?_ _)); exact zD.1⟩, ⟨rac⟩, ⟨raa⟩, ⟨rab⟩⟩
  subst c27; replace H := ifT H; revert H; refine biB ?_; rintro ⟨t124, wM, uN⟩ A28 H; (try dsimp only at H); revert H; refine itPN ?_; intro c29 H; have U3 := eq_true c29; have Sb : decide (yD.size + t124.size ≤ 9223372036854775807) = true := det c29
  try have Gp : (9223372036854775807 < yD.size + t124.size) = False := eq_false (Nat.not_lt.2 c29)
  have H' := ak H; clear H
  try go_wp2
  replace zm := ak (Kd.dB_ zm.1); replace xy := ak (Kd.dB_ xy.1); replace xq := ak (Kd.dB_ xq.1); replace z8 := ak (aL_ z8.1); replace zD := ak (aL_ zD.1); replace HI0 := ak (IsS85.drew HI0.1); replace HK := ak (keep_drew HK.1); replace HB := ak (bD_ HB.1); refine cJ_ (n := 7) (S := fun w' => w'.cell? ⟨xY, 0, none⟩ = some (.string t105) ∧ w'.cell? ⟨xY, 1, none⟩ = some (.string zK) ∧ w'.cell? ⟨xY, 2, none⟩ = some (.string yD)) (ds := [6]) (tb 0 7) ras rfl rfl ⟨(ad_ zD.1 0).trans rfl, (ad_ zD.1 1).trans rfl, (ad_ zD.1 2).trans rfl⟩ (fun hHeld => ?_); generalize w26.drew = w30 at zm xy xq z8 zD HI0 HK HB hHeld ⊢; refine pure_ (i := 0) (N := some 19) (v := ?_) (a' := ?_) (tb 1 6) rfl rfl ras (fun _ _ _ h => h) (Or.inl ⟨rbj, ?_⟩) ?_ ?_; rotate_left
  ·intro w'; go_simp; with_reducible rfl
  rotate_left
  ·simp only [Act.put, lsa_, ls0_, ls1_, i64_w, i32_w]; rfl
  refine pure_ (i := 2) (N := some 21) (v := ?_) (a' := ?_) #[t_,f_,t_,f_,f_,f_,f_] rfl rfl ras (fun _ _ _ h => h) (Or.inl ⟨rbj, ?_⟩) ?_ ?_; rotate_left
  ·intro w'; go_simp; with_reducible rfl
  rotate_left
  ·simp only [Act.put, lsa_, ls0_, ls1_, i64_w, i32_w]; rfl
  refine take_ (i := 1) (N := some 20) (v := ?_) (a' := ?_) (tb 3 4) rfl rfl ras (fun _ _ _ h => h) (Or.inl ⟨rbj, ?_⟩) hHeld ?_ ?_; rotate_left
  ·rintro w' ⟨s0, s1, s2⟩; go_simp; with_reducible rfl
  rotate_left
  ·simp only [Act.put, lsa_, ls0_, ls1_, i64_w, i32_w]; rfl
  refine one_ (i := 3) (N := some 22) (tb 4 3) rfl rfl ras rah (fun K hK => ?_); (first | refine gs_ func73 #[.pointer (some ⟨g, 0, none⟩), .int .i64 9] ?_ | refine gsV_ func73 #[.pointer (some ⟨g, 0, none⟩), .int .i64 9] ?_ | refine gsC_ func73 #[.pointer (some ⟨g, 0, none⟩), .int .i64 9] ?_); with_reducible refine (bc_.calls k g s0_0 uB lw 9 t124 wM uN w0 _ ?zw ?zq A28.1).mono ?_
  (case zw => exact rac); (case zq => exact rab); rintro e w31 ⟨rfl, hi, hb, hk⟩; refine ⟨_, rfl, ?_⟩; replace z8 := ak (af_.blk hk (kz z8.1) yY.1 rav); replace zm := ak (Kd.aA_ (Kd.cH_ (IsS85.apart (show IsS85 w0 _ g s0_0 uB lw from by repeat (first | (with_reducible first | exact HI0.1 | apply IsS85.alloc | apply IsS85.drewN | apply IsS85.drew | apply IsS85.set_1 | apply IsS85.set_2 | refine IsS85.far ?_ zV.1 _ | refine IsS85.far ?_ zJ.1 _ | refine IsS85.far ?_ zR.1 _ | refine IsS85.far ?_ zN.1 _ | refine IsS85.far ?_ zg.1 _ | refine IsS85.far ?_ zI.1 _) | exact HI0.1)) (rz zm.1) rah) hk (fun _ h => h.2)) (fun _ h => h.1)); replace zD := ak (af_.blk hk (kz zD.1) vo.1 rav); replace xy := ak (Kd.aA_ (Kd.cH_ (IsS85.apart (show IsS85 w0 _ g s0_0 uB lw from by repeat (first | (with_reducible first | exact HI0.1 | apply IsS85.alloc | apply IsS85.drewN | apply IsS85.drew | apply IsS85.set_1 | apply IsS85.set_2 | refine IsS85.far ?_ zV.1 _ | refine IsS85.far ?_ zJ.1 _ | refine IsS85.far ?_ zR.1 _ | refine IsS85.far ?_ zN.1 _ | refine IsS85.far ?_ zg.1 _ | refine IsS85.far ?_ zI.1 _) | exact HI0.1)) (rz xy.1) rah) hk (fun _ h => h.2)) (fun _ h => h.1)); replace xq := ak (Kd.aA_ (Kd.cH_ (IsS85.apart (show IsS85 w0 _ g s0_0 uB lw from by repeat (first | (with_reducible first | exact HI0.1 | apply IsS85.alloc | apply IsS85.drewN | apply IsS85.drew | apply IsS85.set_1 | apply IsS85.set_2 | refine IsS85.far ?_ zV.1 _ | refine IsS85.far ?_ zJ.1 _ | refine IsS85.far ?_ zR.1 _ | refine IsS85.far ?_ zN.1 _ | refine IsS85.far ?_ zg.1 _ | refine IsS85.far ?_ zI.1 _) | exact HI0.1)) (rz xq.1) rah) hk (fun _ h => h.2)) (fun _ h => h.1)); replace HK := ak (af_.trans raa hk (.inl rfl)); replace HB := ak (hb); replace HI0 := ak (hi); (try clear hb); refine hK.out _ _ ⟨(ad_ zD.1 0).trans rfl, (ad_ zD.1 1).trans rfl, (ad_ zD.1 2).trans rfl⟩ (fun hHeld => ?_); clear hK K; refine nm_ 22 ?_; refine pure_ (i := 4) (N := some 23) (v := ?_) (a' := ?_) (tb 5 2) rfl rfl ras (fun _ _ _ h => h) (Or.inl ⟨rbj, ?_⟩) ?_ ?_; rotate_left
  ·intro w'; go_simp; with_reducible rfl
  rotate_left
  ·simp only [Act.put, lsa_, ls0_, ls1_, i64_w, i32_w]; rfl
  refine pure_ (i := 5) (N := some 24) (v := ?_) (a' := ?_) (tb 6 1) rfl rfl ras (fun _ _ _ h => h) (Or.inl ⟨rbj, ?_⟩) ?_ ?_; rotate_left
  ·intro w'; go_simp; with_reducible rfl
  rotate_left
  ·simp only [Act.put, lsa_, ls0_, ls1_, i64_w, i32_w]; rfl
  refine last_ (i := 6) (N := none) (tb 7 0) rfl rfl ras rah (fun K hK => ?_); have hs32 : w31.cell? ⟨xY, 2, none⟩ = some (.string yD) := (ad_ zD.1 2).trans rfl; have hfs32 := aQ_ zD.1 2; have hns32_0 := xU.1; have hms32_0 := uZ.1; refine skip_ (w1 := ?_) rbj rfl ?_ ?_; rotate_left
  ·go_simp; rfl
  refine hK.out _ _ ?_; clear hK K; refine done_ ras ?_
  try go_wp2
  go_meet
  case rel => exact ⟨_, (wM), (uN), (yD ++ t124), H', ⟨rar⟩, ⟨(by exact kf (kz z8.1) xU.1)⟩, ⟨(by exact kj3_2 (kz zD.1))⟩, ⟨rac⟩, ⟨raa⟩, ⟨rab⟩⟩
 case rest =>
  clear HC6; obtain ⟨kq, mO, mM, uY, HA, HJ5, z8, zD, HI0, HK, HB⟩ := hcut
  cases kq with
  | zero => exact absurd HA.1 (by simp [au_.j0])
  | succ kj5 =>
   have H := HA.1; clear HA; simp only [au_.j0] at H; have Ty := ak H; clear H; go_upto_region 6 with (fail)
   go_cut [31] (fun v31 wc => ∃ (kq : Nat) (ic : Bool) (q9 : Int) (qz : Int), v31 = .bool ic ∧ Aside0 (au_.j1 kq ic s0_0 q9 qz t105 zK uY = some (r1, r2, r3, r4, r5)) ∧ Aside0 (kq ≤ kj5) ∧ Aside0 (wc.heap[zz]? = some (.cells #[.string (⟨#[]⟩ : ByteArray), .string (⟨#[]⟩ : ByteArray), .string (⟨#[]⟩ : ByteArray)] 60 (0, 0))) ∧ Aside0 (wc.heap[xY]? = some (.cells #[.string t105, .string zK, .string uY] 60 (0, 0))) ∧ Aside0 (IsS85 w0 wc g s0_0 q9 qz) ∧ Aside0 (af_ w wc g none) ∧ Aside0 (Below w0.heap.size w0 wc))
   case first =>
    have H := Ty.1; clear Ty; revert H; refine itEE ?_ ?_; rotate_left
    ·intro c34 kI ZJ H; (first | rw [kI] | (simp only [i64_w, i32_w]; rw [kI]) | (simp only [ZJ, nT_, nF_]) | (simp only [kI, nT_, nF_]) | skip); have H' := ak H; clear H; have hnb40 := uZ.1; have hnc40 := xU.1; have hnb41 := vo.1; have hnc41 := zR.1; obtain ⟨P6, P5, Pz⟩ := cz3_ zD.1; obtain ⟨Py, Px, Pw⟩ := fz3_ zD.1; go_wp2; go_meet
     case rel => exact ⟨_, (false), (mO), (mM), rad, H', ⟨by have := HJ5.1; first | omega | exact Nat.le_refl _⟩, ⟨by (with_reducible repeat (first | refine bg_ ?_ _ | refine aL_ ?_ | refine aG_ ?_ _)); exact z8.1⟩, ⟨by (with_reducible repeat (first | refine bg_ ?_ _ | refine aL_ ?_ | refine aG_ ?_ _)); exact zD.1⟩, ⟨rac⟩, ⟨raa⟩, ⟨rab⟩⟩
    intro kI ZJ H; (first | rw [kI] | (simp only [i64_w, i32_w]; rw [kI]) | (simp only [ZJ, nT_, nF_]) | (simp only [kI, nT_, nF_]) | skip); revert H; refine biB ?_; rintro ⟨t127, uI, uM⟩ A35 H; (try dsimp only at H); have H' := ak H; clear H; have hnb36 := uZ.1; have hnc36 := xU.1; have hnb37 := vo.1; have hnc37 := zR.1; obtain ⟨jR, jQ, jP⟩ := cz3_ zD.1; obtain ⟨jO, jN, jM⟩ := fz3_ zD.1; go_wp2_with (first | (go_at_call 72; (with_reducible refine (bH_.calls g s0_0 mO mM 2 t127 uI uM w0 _ ?zw ?zq A35.1).mono ?_); (case zw => exact rac); (case zq => exact rab); rintro e w39 ⟨rfl, hi, hb, hk⟩; replace z8 := ak (af_.blk hk (kz z8.1) yY.1 rav); replace zD := ak (af_.blk hk (kz zD.1) vo.1 rav); replace HK := ak (af_.trans raa hk (.inl rfl)); replace HB := ak (hb); replace HI0 := ak (hi); (try clear hb))); go_meet
    case rel => exact ⟨_, (t127), (uI), (uM), rad, H', ⟨by have := HJ5.1; first | omega | exact Nat.le_refl _⟩, ⟨by (with_reducible repeat (first | refine bg_ ?_ _ | refine aL_ ?_ | refine aG_ ?_ _)); exact z8.1⟩, ⟨by (with_reducible repeat (first | refine bg_ ?_ _ | refine aL_ ?_ | refine aG_ ?_ _)); exact zD.1⟩, ⟨rac⟩, ⟨raa⟩, ⟨rab⟩⟩
   case rest =>
    clear Ty; obtain ⟨kq, ic, q9, qz, rfl, HA, Sa, z8, zD, HI0, HK, HB⟩ := hcut
    cases kq with
    | zero => exact absurd HA.1 (by simp [au_.j1])
    | succ Tx =>
     have H := HA.1; clear HA; simp only [au_.j1] at H; have fH := ak H; clear H; go_upto_if 31 with (fail)
     go_cut [] (fun wc => ∃ (kq : Nat) (mK : Int) (mJ : Int) (rV : ByteArray), Aside0 (au_.j2 kq s0_0 mK mJ t105 zK rV = some (r1, r2, r3, r4, r5)) ∧ Aside0 (kq ≤ Tx) ∧ Aside0 (wc.heap[zz]? = some (.cells #[.string (⟨#[]⟩ : ByteArray), .string (⟨#[]⟩ : ByteArray), .string (⟨#[]⟩ : ByteArray)] 60 (0, 0))) ∧ Aside0 (wc.heap[xY]? = some (.cells #[.string t105, .string zK, .string rV] 60 (0, 0))) ∧ Aside0 (IsS85 w0 wc g s0_0 mK mJ) ∧ Aside0 (af_ w wc g none) ∧ Aside0 (Below w0.heap.size w0 wc))
     case first =>
      have H := fH.1; clear fH; by_cases c44 : ic = true; rotate_left
      ·replace c44 := Bool.eq_false_iff.mpr c44; subst c44; replace H := ifF H; have H' := ak H; clear H; go_wp2; go_meet
       case rel => exact ⟨_, (q9), (qz), (uY), H', ⟨by have := HJ5.1; have := Sa.1; first | omega | exact Nat.le_refl _⟩, ⟨by (with_reducible repeat (first | refine bg_ ?_ _ | refine aL_ ?_ | refine aG_ ?_ _)); exact z8.1⟩, ⟨by (with_reducible repeat (first | refine bg_ ?_ _ | refine aL_ ?_ | refine aG_ ?_ _)); exact zD.1⟩, ⟨rac⟩, ⟨raa⟩, ⟨rab⟩⟩
      subst c44; replace H := ifT H; revert H; refine biB ?_; rintro ⟨t130, t131, gG, gF, yo, lS, gD, ni, t138, t141, gB⟩ A45 H; (try dsimp only at H); revert H; refine biB ?_; intro Xn A46 H; (try dsimp only at H); have H' := ak H; clear H; have hnb47 := uZ.1; have hnc47 := xU.1; have hnb48 := vo.1; have hnc48 := zR.1; obtain ⟨Xg, Xf, Xe⟩ := cz3_ zD.1; obtain ⟨Xd, Xc, Xb⟩ := fz3_ zD.1; go_wp2_with (first | (refine gL 61 35 func61 #[.pointer (some ⟨g, 0, none⟩), .string zK] ?_; (with_reducible refine (aN_.calls Tx g s0_0 q9 qz zK t130 t131 gG gF yo lS gD ni t138 t141 gB w0 _ ?zw ?zq A45.1).mono ?_); (case zw => exact rac); (case zq => exact rab); rintro e w50 ⟨v139, rfl, ho0, hi, hb, hk⟩; refine ⟨_, rfl, ?_⟩; replace z8 := ak (af_.blk hk (kz z8.1) yY.1 rav); replace zD := ak (af_.blk hk (kz zD.1) vo.1 rav); have uk := ak (Kd.bj_ ho0 (ch_ (w := w) (g := g) (row := none) raa)); replace HK := ak (af_.trans raa hk (.inl rfl)); replace HB := ak (hb); replace HI0 := ak (hi); (try clear hb); (try clear ho0)) | (refine bxE 4 46 #[.string (⟨#[]⟩ : ByteArray), .string (⟨#[]⟩ : ByteArray), .int .i64 0, .string (⟨#[]⟩ : ByteArray), .int .i64 0, .int .i64 0, .int .i64 0, .int .i64 0, .slice none 0 0] ?_; intro xh hg w51 hbox hb; replace uk := ak (Kd.aK_ (rz uk.1) hb); replace HB := ak (ac_ rab hb); have kH := ak (hbox); have TG := ak ((rao : w.heap.size ≤ xh)); have TD := ak ((Nat.le_trans HW0.1 (rao : w.heap.size ≤ xh) : w0.heap.size ≤ xh)); replace HK := ak (af_.trans raa (af_.of_below hb g none) (.inl rfl)); have wJ := ak ((raw : zz ≠ xh)); have Zu := ak ((rax : xh ≠ zz)); replace z8 := ak (ai_ (kz z8.1) hb); have wI := ak (((by rw [hg]; exact Nat.ne_of_lt (dl_ (kz zD.1))) : xY ≠ xh)); have Zt := ak (((by rw [hg]; exact Nat.ne_of_gt (dl_ (kz zD.1))) : xh ≠ xY)); replace zD := ak (ai_ (kz zD.1) hb); have zI := ak (((by rw [hg]; exact Nat.ne_of_lt (IsS85.lt (show IsS85 w0 _ g s0_0 t141 gB from by repeat (first | (with_reducible first | exact HI0.1 | apply IsS85.alloc | apply IsS85.drewN | apply IsS85.drew | apply IsS85.set_1 | apply IsS85.set_2 | refine IsS85.far ?_ zV.1 _ | refine IsS85.far ?_ zJ.1 _ | refine IsS85.far ?_ zR.1 _ | refine IsS85.far ?_ zN.1 _ | refine IsS85.far ?_ zg.1 _ | refine IsS85.far ?_ zI.1 _) | exact HI0.1)))) : g ≠ xh)); have Xa := ak (((by rw [hg]; exact Nat.ne_of_gt (IsS85.lt (show IsS85 w0 _ g s0_0 t141 gB from by repeat (first | (with_reducible first | exact HI0.1 | apply IsS85.alloc | apply IsS85.drewN | apply IsS85.drew | apply IsS85.set_1 | apply IsS85.set_2 | refine IsS85.far ?_ zV.1 _ | refine IsS85.far ?_ zJ.1 _ | refine IsS85.far ?_ zR.1 _ | refine IsS85.far ?_ zN.1 _ | refine IsS85.far ?_ zg.1 _ | refine IsS85.far ?_ zI.1 _) | exact HI0.1)))) : xh ≠ g)); replace HI0 := ak (IsS85.below rac hb); clear hb hbox hg; have hnb52 := Zu.1; have hnc52 := wJ.1; have hnb53 := Zt.1; have hnc53 := wI.1; have hnb54 := Xa.1; have hnc54 := zI.1; obtain ⟨Pv, Pt, Ps, Pq, Pp, Po, Pn, Pm, Pk⟩ := cz9_ kH.1; obtain ⟨Pj, Pi, Ph, Pg, Pf, Pb, PZ, PY, PX⟩ := fz9_ kH.1; obtain ⟨ZI, Zr, I9⟩ := Kd.bk_ uk.1; subst I9) | (refine gL 74 36 func74 #[.pointer (some (Addr.add ⟨xh, 0, none⟩ 0))] ?_; (with_reducible refine (bn_.calls Tx _ [(⟨t130, t131, gG, (⟨gF, yo, lS⟩ : S43), gD, ni, t138⟩ : S46)] Xn _ ?zw A46.1).mono ?_); (case zw => exact (RPW.C_blk (cs := [.string t130, .string t131, .int .i64 gG, .string gF, .int .i64 yo, .int .i64 lS, .int .i64 gD, .int .i64 ni, .slice ZI t138.length Zr]) (t := 46) (g := xh) (by exact kj9_8 (kj9_7 (kj9_6 (kj9_5 (kj9_4 (kj9_3 (kj9_2 (kj9_1 (kj9_0 (kz kH.1)))))))))) (k46_mk _ (⟨t130, t131, gG, (⟨gF, yo, lS⟩ : S43), gD, ni, t138⟩ : S46) (by exact (Kd.am_ uk.1).2.1) (by refine (Kd.am_ (e := 107) (base := w.heap.size) (ok := fun k_ => True) (n := t138.length) (c := Zr) ?_).2.2; exact (rz (Kd.aA_ (Kd.R_far (p := ⟨xh, 8, none⟩) (Kd.R_far (p := ⟨xh, 7, none⟩) (Kd.R_far (p := ⟨xh, 6, none⟩) (Kd.R_far (p := ⟨xh, 5, none⟩) (Kd.R_far (p := ⟨xh, 4, none⟩) (Kd.R_far (p := ⟨xh, 3, none⟩) (Kd.R_far (p := ⟨xh, 2, none⟩) (Kd.R_far (p := ⟨xh, 1, none⟩) (Kd.R_far (p := ⟨xh, 0, none⟩) (Kd.bE_ uk.1 kH.1 rah) (fun _ hk => hk.2) (.string t130)) (fun _ hk => hk.2) (.string t131)) (fun _ hk => hk.2) (.int .i64 gG)) (fun _ hk => hk.2) (.string gF)) (fun _ hk => hk.2) (.int .i64 yo)) (fun _ hk => hk.2) (.int .i64 lS)) (fun _ hk => hk.2) (.int .i64 gD)) (fun _ hk => hk.2) (.int .i64 ni)) (fun _ hk => hk.2) (.slice ZI t138.length Zr)) (fun _ h_ => h_.1))))))); rintro e w57 ⟨rfl, hb⟩; refine ⟨_, rfl, ?_⟩; replace uk := ak (Kd.aK_ (rz (Kd.aA_ (Kd.R_far (p := ⟨xh, 8, none⟩) (Kd.R_far (p := ⟨xh, 7, none⟩) (Kd.R_far (p := ⟨xh, 6, none⟩) (Kd.R_far (p := ⟨xh, 5, none⟩) (Kd.R_far (p := ⟨xh, 4, none⟩) (Kd.R_far (p := ⟨xh, 3, none⟩) (Kd.R_far (p := ⟨xh, 2, none⟩) (Kd.R_far (p := ⟨xh, 1, none⟩) (Kd.R_far (p := ⟨xh, 0, none⟩) (Kd.bE_ uk.1 kH.1 rah) (fun _ hk => hk.2) (.string t130)) (fun _ hk => hk.2) (.string t131)) (fun _ hk => hk.2) (.int .i64 gG)) (fun _ hk => hk.2) (.string gF)) (fun _ hk => hk.2) (.int .i64 yo)) (fun _ hk => hk.2) (.int .i64 lS)) (fun _ hk => hk.2) (.int .i64 gD)) (fun _ hk => hk.2) (.int .i64 ni)) (fun _ hk => hk.2) (.slice ZI t138.length Zr)) (fun _ h_ => h_.1))) hb); replace z8 := ak (ai_ (g := zz) (o := .cells #[.string (⟨#[]⟩ : ByteArray), .string (⟨#[]⟩ : ByteArray), .string (⟨#[]⟩ : ByteArray)] 60 (0, 0)) (by exact kf (kf (kf (kf (kf (kf (kf (kf (kf (kz z8.1) wJ.1) wJ.1) wJ.1) wJ.1) wJ.1) wJ.1) wJ.1) wJ.1) wJ.1) hb); replace zD := ak (ai_ (g := xY) (o := .cells #[.string t105, .string zK, .string uY] 60 (0, 0)) (by exact kf (kf (kf (kf (kf (kf (kf (kf (kf (kz zD.1) wI.1) wI.1) wI.1) wI.1) wI.1) wI.1) wI.1) wI.1) wI.1) hb); replace kH := ak (ai_ (g := xh) (o := .cells #[.string t130, .string t131, .int .i64 gG, .string gF, .int .i64 yo, .int .i64 lS, .int .i64 gD, .int .i64 ni, .slice ZI t138.length Zr] 46 (0, 0)) (by exact kj9_8 (kj9_7 (kj9_6 (kj9_5 (kj9_4 (kj9_3 (kj9_2 (kj9_1 (kj9_0 (kz kH.1)))))))))) hb); replace HK := ak (af_.trans raa (af_.of_below hb g none) (.inl rfl)); replace HB := ak (ac_ rab hb); replace HI0 := ak (IsS85.below (show IsS85 w0 (((((((((w51.setCell ⟨xh, 0, none⟩ (.string t130)).setCell ⟨xh, 1, none⟩ (.string t131)).setCell ⟨xh, 2, none⟩ (.int .i64 gG)).setCell ⟨xh, 3, none⟩ (.string gF)).setCell ⟨xh, 4, none⟩ (.int .i64 yo)).setCell ⟨xh, 5, none⟩ (.int .i64 lS)).setCell ⟨xh, 6, none⟩ (.int .i64 gD)).setCell ⟨xh, 7, none⟩ (.int .i64 ni)).setCell ⟨xh, 8, none⟩ (.slice ZI t138.length Zr)) g s0_0 t141 gB from by repeat (first | (with_reducible first | exact HI0.1 | apply IsS85.alloc | apply IsS85.drewN | apply IsS85.drew | apply IsS85.set_1 | apply IsS85.set_2 | refine IsS85.far ?_ zV.1 _ | refine IsS85.far ?_ zJ.1 _ | refine IsS85.far ?_ zR.1 _ | refine IsS85.far ?_ zN.1 _ | refine IsS85.far ?_ zg.1 _ | refine IsS85.far ?_ zI.1 _) | exact HI0.1)) hb); (try clear hb); obtain ⟨PW, PV, PU⟩ := cz3_ zD.1; obtain ⟨PT, PS, PR⟩ := fz3_ zD.1)); go_meet
      case rel => exact ⟨_, (t141), (gB), (Xn), H', ⟨by have := HJ5.1; have := Sa.1; first | omega | exact Nat.le_refl _⟩, ⟨(by exact kf (kz z8.1) xU.1)⟩, ⟨(by exact kj3_2 (kz zD.1))⟩, ⟨rac⟩, ⟨raa⟩, ⟨rab⟩⟩
     case rest =>
      clear fH; obtain ⟨kq, mK, mJ, rV, HA, Tw, z8, zD, HI0, HK, HB⟩ := hcut
      cases kq with
      | zero => exact absurd HA.1 (by simp [au_.j2])
      | succ Tv =>
       have H := HA.1; clear HA; simp only [au_.j2] at H; revert H; refine biB ?_; rintro ⟨t145, t146, fG⟩ A59 H; (try dsimp only at H); have SY := ak H; clear H; go_upto_if 39 with (first | (refine gL 72 39 func72 #[.pointer (some ⟨g, 0, none⟩), .int .i64 24] ?_; (with_reducible refine (bH_.calls g s0_0 mK mJ 24 t145 t146 fG w0 _ ?zw ?zq A59.1).mono ?_); (case zw => exact rac); (case zq => exact rab); rintro e w61 ⟨rfl, hi, hb, hk⟩; refine ⟨_, rfl, ?_⟩; replace z8 := ak (af_.blk hk (kz z8.1) yY.1 rav); replace zD := ak (af_.blk hk (kz zD.1) vo.1 rav); replace HK := ak (af_.trans raa hk (.inl rfl)); replace HB := ak (hb); replace HI0 := ak (hi); (try clear hb))); (try simp only [Act.put, lsa_, ls0_, ls1_]); have H := SY.1; clear SY; by_cases c62 : t145 = true; rotate_left
       ·replace c62 := Bool.eq_false_iff.mpr c62; subst c62; replace H := ifF H; simp only [Option.some.injEq, Prod.mk.injEq] at H; obtain ⟨rfl, rfl, rfl, rfl, rfl⟩ := H; have hnb76 := uZ.1; have hnc76 := xU.1; have hnb77 := vo.1; have hnc77 := zR.1; obtain ⟨PQ, PP, PO⟩ := cz3_ zD.1; obtain ⟨PN, PM, PL⟩ := fz3_ zD.1; have hnb79 := yY.1; have hnc79 := zV.1; obtain ⟨XZ, XY, XX⟩ := cz3_ z8.1; obtain ⟨XW, XV, XU⟩ := fz3_ z8.1; go_wp2; refine bodyPost_ret (results_cell_row rfl _ _ zz 60 #[.string t105, .string zK, .string rV] (0, 0) _ rfl rbb underlying60 rfl ras) rfl ?_; exact ⟨raf, rac, rab, raa⟩
       subst c62; replace H := ifT H; revert H; refine biB ?_; rintro ⟨t148, Tu, Tt⟩ A63 H; (try dsimp only at H); obtain ⟨iZ, hji64⟩ : ∃ j_ : Int, (wrap64 (399 + t148)) = j_ := ⟨_, rfl⟩; replace H : (if 0 ≤ (iZ) then (if (iZ : Int).toNat ≤ 281474976710656 then (some (t105, zK, strOfNums (List.replicate (iZ : Int).toNat 0), Tu, Tt)) else (none)) else (none)) = some (r1, r2, r3, r4, r5) := by first | (rw [hji64] at H; exact H) | (simp only [hji64] at H ⊢; exact H)
       (try rw [hji64] at A63); have hji64w : (IntKind.i64.wrap (399 + t148)) = iZ := (i64_w _).trans hji64; revert H; refine itPN ?_; intro c65 H; have Gn := eq_true c65; have Gm : decide (0 ≤ (iZ)) = true := det c65; clear c65; revert H; refine itPN ?_; intro c66 H; have Gl := eq_true c66; have Gj : decide ((iZ : Int).toNat ≤ 281474976710656) = true := det c66; clear c66; obtain ⟨y151, hy151⟩ : ∃ y_ : List Int, y_ = (List.replicate (iZ : Int).toNat 0) := ⟨_, rfl⟩; replace H : (some (t105, zK, strOfNums y151, Tu, Tt)) = some (r1, r2, r3, r4, r5) := by first | (rw [hy151]; with_reducible exact H) | (have H2_ := (ob_ _ _).symm.trans H; rw [hy151]; with_reducible exact H2_) | (have H2_ := (ob_ _ _).symm.trans H; with_reducible exact H2_) | with_reducible exact H | (rw [hy151]; exact H) | exact H
       have Uq := ak hy151; clear hy151; simp only [Option.some.injEq, Prod.mk.injEq] at H; obtain ⟨rfl, rfl, rfl, rfl, rfl⟩ := H; go_wp2_with (first | (refine gL 41 41 func41 #[.pointer (some ⟨g, 0, none⟩), .int .i64 3] ?_; (with_reducible refine (ag_.calls g s0_0 t146 fG 3 t148 Tu Tt w0 _ ?zw ?zq A63.1).mono ?_); (case zw => exact rac); (case zq => exact rab); rintro e w67 ⟨rfl, hi, hb, hk⟩; refine ⟨_, rfl, ?_⟩; replace z8 := ak (af_.blk hk (kz z8.1) yY.1 rav); replace zD := ak (af_.blk hk (kz zD.1) vo.1 rav); replace HK := ak (af_.trans raa hk (.inl rfl)); replace HB := ak (hb); replace HI0 := ak (hi); (try clear hb)) | ((with_reducible refine bp_ (N := 43) rfl ?_); refine Kd.R_make (Kd.int .u8) _ 5 rfl (N := 43) rfl 22 _ _ rfl iZ rfl rfl underlying22 (.int .u8 0) 1 info5 rfl rah rae 0 (ok := fun _ => True) (okp := fun _ => True) rfl (fun _ hk => hk) trivial (ode ram) (Nat.le_trans (Nat.mul_le_mul_right _ (ode ram : iZ.toNat ≤ 281474976710656)) rae) (Below.refl _ _) (Nat.le_refl _) ?_; intro v152 w68 ho69 hb hg_ hnew_; clear hg_ hnew_; (first | rw [← Uq.1] at ho69 | (simp only [Int.reduceToNat] at ho69; rw [← Uq.1] at ho69)); have SX := ak (Kd.bj_ ho69 (ch_ (w := w) (g := g) (row := none) raa)); replace z8 := ak (ai_ (kz z8.1) hb); replace zD := ak (ai_ (kz zD.1) hb); replace HK := ak (af_.trans raa (af_.of_below hb g none) (.inl rfl)); replace HB := ak (ac_ rab hb); replace HI0 := ak (IsS85.below rac hb); clear hb ho69; have hcv70 := own_string (P := prog) underlying22 underlying5 underlying9 (Kd.own_of_R SX.1); have hnb71 := uZ.1; have hnc71 := xU.1; have hnb72 := vo.1; have hnc72 := zR.1; obtain ⟨PK, PI, PH⟩ := cz3_ zD.1; obtain ⟨PG, PE, PD⟩ := fz3_ zD.1; have hnb74 := yY.1; have hnc74 := zV.1; obtain ⟨O9, O8, O7⟩ := cz3_ z8.1; obtain ⟨O6, O5, O4⟩ := fz3_ z8.1)); refine bodyPost_ret (results_cell_row rfl _ _ zz 60 #[.string t105, .string zK, .string (strOfNums y151)] (0, 0) _ rfl (by exact kj3_2 (kj3_1 (kj3_0 (kf (kz z8.1) xU.1)))) underlying60 rfl ras) rfl ?_; exact ⟨(by first | rfl | (simp [cl_, cn_] <;> rfl) | (simp only [← hji64]; first | rfl | (simp [cl_, cn_] <;> rfl)) | (simp [*, cl_, cn_] <;> rfl)), rac, rab, raa⟩
def bI_.l0 : Nat → List (S60) → Int → List Int → Int → Int → Option ((List (S60)) × Int × Int)
 | 0, _, _, _, _, _ => none
 | k + 1, x3, x4, x1000, uu, ut => if x4 > 0 then ((au_.f k x1000 uu ut).bind fun bt107 => ((bB_.f k x3 bt107.1 bt107.2.1 bt107.2.2.1).bind fun bt112 => (if bt112.2 = 0 then (bI_.l0 k bt112.1 (wrap64 (x4 - 1)) x1000 bt107.2.2.2.1 bt107.2.2.2.2) else (bI_.l0 k x3 (wrap64 (x4 - 1)) x1000 bt107.2.2.2.1 bt107.2.2.2.2)))) else (some (x3, uu, ut))
def bI_.f (k : Nat) (s0_0 : List Int) (s0_1 : Int) (s0_2 : Int) : Option ((List (S60)) × Int × Int) := (ag_.f s0_0 s0_1 s0_2 6).bind fun bt104 => (bI_.l0 k (([] : List (S60))) bt104.1 s0_0 bt104.2.1 bt104.2.2)
theorem bI_.calls (k : Nat) (g : Nat) (s0_0 : List Int) (s0_1 : Int) (s0_2 : Int) (r1 : List (S60)) (r2 : Int) (r3 : Int) (w0 w : World) (hI : IsS85 w0 w g s0_0 s0_1 s0_2) (hB : Below w0.heap.size w0 w) (h : bI_.f k s0_0 s0_1 s0_2 = some (r1, r2, r3)) :
  Calls prog 19 #[.pointer (some ⟨g, 0, none⟩)] w fun e w' => ∃ v0_ : Value, e = .returned (v0_) ∧ Kd.R k60 60 w' w.heap.size (fun _ => True) v0_ r1 ∧ IsS85 w0 w' g s0_0 r2 r3 ∧ Below w0.heap.size w0 w' ∧ af_ w w' g none := by
 have HI0 := ak hI; have HK := ak (af_.refl w g none); have HL := ak hB.size; clear hI; have HW0 := ak hB.size; have HB := ak hB; clear hB; have H : ((ag_.f s0_0 s0_1 s0_2 6).bind fun bt104 => (bI_.l0 k (([] : List (S60))) bt104.1 s0_0 bt104.2.1 bt104.2.2)) = some (r1, r2, r3) := h; clear h; obtain ⟨y101, hy101⟩ : ∃ y_ : List (S60), y_ = (([] : List (S60))) := ⟨_, rfl⟩; replace H : ((ag_.f s0_0 s0_1 s0_2 6).bind fun bt104 => (bI_.l0 k y101 bt104.1 s0_0 bt104.2.1 bt104.2.2)) = some (r1, r2, r3) := by first | (rw [hy101]; with_reducible exact H) | (have H2_ := (ob_ _ _).symm.trans H; rw [hy101]; with_reducible exact H2_) | (have H2_ := (ob_ _ _).symm.trans H; with_reducible exact H2_) | with_reducible exact H | (rw [hy101]; exact H) | exact H
 have vG := ak hy101; clear hy101; revert H; refine biB ?_; rintro ⟨zi, t105, zP⟩ A2 H; (try dsimp only at H); have H' := ak H; clear H; go_enter func19, ntmps19; go_wp2_with (first | ((with_reducible refine bp_ (N := 7) rfl ?_); refine Kd.R_lit k60 _ 60 ?hg (N := 7) ?hd (xs := ([] : List (S60))) (inner := []) (ok := fun _ => True) (okp := fun _ => True) ?hr ?hp (fun _ hk => hk) trivial (Below.refl _ _) (Nat.le_refl _) rav ?_; (case hd => rfl); (case hg => rfl); (case hr => (go_simp; try rfl)); (case hp => exact (Reps.none _ _)); intro kC w3 ho4 hb hg_ hnew_; clear hg_ hnew_; (first | rw [← vG.1] at ho4 | (simp only [Int.reduceToNat] at ho4; rw [← vG.1] at ho4)); have yu := ak (Kd.bj_ ho4 (ch_ (w := w) (g := g) (row := none) raa)); replace HK := ak (af_.trans raa (af_.of_below hb g none) (.inl rfl)); replace HB := ak (ac_ rab hb); replace HI0 := ak (IsS85.below rac hb); clear hb ho4) | (refine gL 41 9 func41 #[.pointer (some ⟨g, 0, none⟩), .int .i64 6] ?_; (with_reducible refine (ag_.calls g s0_0 s0_1 s0_2 6 zi t105 zP w0 _ ?zw ?zq A2.1).mono ?_); (case zw => exact rac); (case zq => exact rab); rintro e w5 ⟨rfl, hi, hb, hk⟩; refine ⟨_, rfl, ?_⟩; replace yu := ak (Kd.aA_ (Kd.cH_ (IsS85.apart (show IsS85 w0 _ g s0_0 s0_1 s0_2 from by repeat (first | (with_reducible first | exact HI0.1 | apply IsS85.alloc | apply IsS85.drewN | apply IsS85.drew | apply IsS85.set_1 | apply IsS85.set_2 | refine IsS85.far ?_ zV.1 _ | refine IsS85.far ?_ zJ.1 _ | refine IsS85.far ?_ zR.1 _ | refine IsS85.far ?_ zN.1 _ | refine IsS85.far ?_ zg.1 _ | refine IsS85.far ?_ zI.1 _) | exact HI0.1)) (rz yu.1) rah) hk (fun _ h => h.2)) (fun _ h => h.1)); replace HK := ak (af_.trans raa hk (.inl rfl)); replace HB := ak (hb); replace HI0 := ak (hi); (try clear hb))); (try simp only [Act.put, lsa_, ls0_, ls1_])
 go_loopg [3, 4] k (fun kq v3 v4 w' => ∃ (zF : List (S60)) (zG : Int) (xx : Int) (xw : Int), v4 = .int .i64 zG ∧ Aside0 (bI_.l0 kq zF zG s0_0 xx xw = some (r1, r2, r3)) ∧ Aside0 (kq ≤ k) ∧ Aside0 (Kd.R k60 60 w' w.heap.size (fun _ => True) v3 zF) ∧ Aside0 (IsS85 w0 w' g s0_0 xx xw) ∧ Aside0 (af_ w w' g none) ∧ Aside0 (Below w0.heap.size w0 w'))
 case atStart => exact ⟨(y101), (zi), (t105), (zP), rad, H', ⟨Nat.le_refl _⟩, ⟨rz yu.1⟩, ⟨rac⟩, ⟨raa⟩, ⟨rab⟩⟩
 case round =>
  clear H'; obtain ⟨zF, zG, xx, xw, rfl, HA, HK1, yS, HI0, HK, HB⟩ := hrel
  cases gk with
  | zero => exact absurd HA.1 (by simp [bI_.l0])
  | succ k1 =>
   have H := HA.1; clear HA; simp only [bI_.l0] at H; revert H; refine itDD ?_ ?_; rotate_left
   ·intro xG H; simp only [Option.some.injEq, Prod.mk.injEq] at H; obtain ⟨rfl, rfl, rfl⟩ := H; go_wp2; go_ret; exact ⟨_, raf, rz yS.1, rac, rab, raa⟩
   intro xG H; revert H; refine biB ?_; rintro ⟨t107, y8, t109, zM, yt⟩ A7 H; (try dsimp only at H); revert H; refine biB ?_; rintro ⟨zK, xV⟩ A8 H; (try dsimp only at H); have HC9 := ak H; clear H; go_upto_if 22 with (first | (refine gL 43 17 func43 #[.pointer (some ⟨g, 0, none⟩)] ?_; (with_reducible refine (au_.calls k1 g s0_0 xx xw t107 y8 t109 zM yt w0 _ ?zw ?zq A7.1).mono ?_); (case zw => exact rac); (case zq => exact rab); rintro e w10 ⟨rfl, hi, hb, hk⟩; refine ⟨_, rfl, ?_⟩; replace yS := ak (Kd.aA_ (Kd.cH_ (IsS85.apart (show IsS85 w0 _ g s0_0 xx xw from by repeat (first | (with_reducible first | exact HI0.1 | apply IsS85.alloc | apply IsS85.drewN | apply IsS85.drew | apply IsS85.set_1 | apply IsS85.set_2 | refine IsS85.far ?_ zV.1 _ | refine IsS85.far ?_ zJ.1 _ | refine IsS85.far ?_ zR.1 _ | refine IsS85.far ?_ zN.1 _ | refine IsS85.far ?_ zg.1 _ | refine IsS85.far ?_ zI.1 _) | exact HI0.1)) (rz yS.1) rah) hk (fun _ h => h.2)) (fun _ h => h.1)); replace HK := ak (af_.trans raa hk (.inl rfl)); replace HB := ak (hb); replace HI0 := ak (hi); (try clear hb); obtain ⟨SV, SS, Tq⟩ := Kd.bk_ yS.1; subst Tq) | (refine gL 42 18 func42 #[.slice SV zF.length SS, .agg #[.string t107, .string y8, .string t109]] ?_; (with_reducible refine (bB_.calls k1 _ _ zF t107 y8 t109 zK xV _ ?zw ?zq A8.1).mono ?_); (case zw => exact cz (Kd.am_ yS.1).2.2); (case zq => exact (Kd.am_ yS.1).2.1); rintro e w12 ⟨I8, rfl, ho0, hb⟩; refine ⟨_, rfl, ?_⟩; have sO := ak (Kd.bj_ (Kd.bC_ ho0 (Kd.R_lt (rz yS.1))) (ch_ (w := w) (g := g) (row := none) raa)); replace yS := ak (Kd.aX_ (rz yS.1) (Kd.bx_ ho0) hb); replace HK := ak (af_.trans raa (af_.of_below hb g none) (.inl rfl)); replace HB := ak (ac_ rab hb); replace HI0 := ak (IsS85.below rac hb); (try clear hb); (try clear ho0))); (try simp only [Act.put, lsa_, ls0_, ls1_]); have H := HC9.1; clear HC9; revert H; refine itEE ?_ ?_; rotate_left
   ·intro c13 wU oI H; (first | rw [wU] | (simp only [i64_w, i32_w]; rw [wU]) | (simp only [oI, nT_, nF_]) | (simp only [wU, nT_, nF_]) | skip); have H' := ak H; clear H; go_wp2
    go_roundg k1
    case measure => have := HK1.1; omega
    case rel => exact ⟨(zF), (wrap64 (zG - 1)), (zM), (yt), rad, H', ⟨by have := HK1.1; omega⟩, ⟨rz (Kd.aA_ yS.1 (fun _ hk => trivial))⟩, ⟨rac⟩, ⟨raa⟩, ⟨rab⟩⟩
   intro wU oI H; (first | rw [wU] | (simp only [i64_w, i32_w]; rw [wU]) | (simp only [oI, nT_, nF_]) | (simp only [wU, nT_, nF_]) | skip); have H' := ak H; clear H; go_wp2
   go_roundg k1
   case measure => have := HK1.1; omega
   case rel => exact ⟨(zK), (wrap64 (zG - 1)), (zM), (yt), rad, H', ⟨by have := HK1.1; omega⟩, ⟨rz (Kd.aA_ sO.1 (fun _ hk => trivial))⟩, ⟨rac⟩, ⟨raa⟩, ⟨rab⟩⟩
def cT_.f (k : Nat) (l0 : List Int) : Option ((List (S60))) := (cO_.f l0).bind fun bt101 => ((bI_.f k bt101.1 bt101.2.1 bt101.2.2).bind fun bt105 => (some bt105.1))
theorem cT_.calls (k : Nat) (A0 : Option Addr) (c0 : Nat) (l0 : List Int) (r : List (S60)) (w : World) (hr0 : Kd.C (Kd.int .u8) w A0 l0.length l0) (hc0 : l0.length ≤ c0) (h : cT_.f k l0 = some r) :
  Calls prog 5 #[.slice A0 l0.length c0] w fun e w' => ∃ v0_ : Value, e = .returned (v0_) ∧ Kd.R k60 60 w' w.heap.size (fun _ => True) v0_ r ∧ Below w.heap.size w w' := by
 have HR0 := ak hr0; have HC0 := ak hc0; clear hr0 hc0; have HB := ak (Below.refl w.heap.size w); have H : ((cO_.f l0).bind fun bt101 => ((bI_.f k bt101.1 bt101.2.1 bt101.2.2).bind fun bt105 => (some bt105.1))) = some r := h; clear h; revert H; refine biB ?_; rintro ⟨zh, zy, zY⟩ A2 H; (try dsimp only at H); revert H; refine biB ?_; rintro ⟨t105, y8, t109⟩ A3 H; (try dsimp only at H); obtain rfl := Option.some.inj H; go_enter func5, ntmps5; go_wp2_with (first | (refine gL 18 5 func18 #[.slice A0 l0.length c0] ?_; (with_reducible refine (cO_.calls _ _ l0 zh zy zY w _ ?zw ?zq ?yN A2.1).mono ?_); (case zw => exact bz HB.1); (case zq => exact HR0.1); (case yN => exact HC0.1); rintro e w4 ⟨g104, rfl, hi, hb, hb2⟩; refine ⟨_, rfl, ?_⟩; replace HB := ak (hb); have lc := ak (hi); (try clear hb)) | (refine gL 19 7 func19 #[.pointer (some ⟨g104, 0, none⟩)] ?_; (with_reducible refine (bI_.calls k g104 zh zy zY t105 y8 t109 w _ ?zw ?zq A3.1).mono ?_); (case zw => exact (by repeat (first | (with_reducible first | exact lc.1 | apply IsS85.alloc | apply IsS85.drewN | apply IsS85.drew | apply IsS85.set_1 | apply IsS85.set_2) | exact lc.1))); (case zq => exact rab); rintro e w5 ⟨Z4, rfl, ho0, hi, hb, hk⟩; refine ⟨_, rfl, ?_⟩; have za := ak (Kd.bj_ ho0 (aj_ rab)); replace HB := ak (hb); replace lc := ak (hi); (try clear hb); (try clear ho0))); go_ret; exact ⟨_, raf, rz za.1, rab⟩
end Go.Proofs.YtjebkmfljcanlaaGreatDoor.Q
namespace Go.Proofs
open Go.Shelf
def Tryz.lays169_ren : Go.Shelf.Ren := ⟨fun | 169 => 24 | n => n, fun | 70 => 51 | 9 => 9 | 0 => 0 | 72 => 53 | 37 => 22 | 127 => 91 | 3 => 3 | 5 => 5 | n => n, fun | n => n⟩
theorem Tryz.lays169 : Go.Proofs.Lays.n169 Tryz.prog Tryz.lays169_ren := {
 mixed := by kernel_rfl
 f169 := Tryz.func24.trans (congrArg some (by kernel_rfl))
 t0 := Tryz.underlying0
 a0 := Tryz.isAgg0
 z0 := Tryz.sizeOf0
 v0 := Tryz.zeroValue0
 t3 := Tryz.underlying3
 a3 := Tryz.isAgg3
 z3 := Tryz.sizeOf3
 v3 := Tryz.zeroValue3
 t9 := Tryz.underlying9
 a9 := Tryz.isAgg9
 z9 := Tryz.sizeOf9
 v9 := Tryz.zeroValue9
 t37 := Tryz.underlying22
 a37 := Tryz.isAgg22
 z37 := Tryz.sizeOf22
 v37 := Tryz.zeroValue22
 t70 := Tryz.underlying51
 a70 := Tryz.isAgg51
 z70 := Tryz.sizeOf51
 v70 := Tryz.zeroValue51
 t72 := Tryz.underlying53
 a72 := Tryz.isAgg53
 z72 := Tryz.sizeOf53
 v72 := Tryz.zeroValue53
 t127 := Tryz.underlying91
 a127 := Tryz.isAgg91
 z127 := Tryz.sizeOf91
 v127 := Tryz.zeroValue91 }
theorem Tryz.Builder_Extra_169 : Builder.Extra Tryz.prog Tryz.lays169_ren := {
 sizeBuilder := by kernel_rfl
 liesBuilder := by kernel_rfl
 t5 := Tryz.underlying5
 a5 := Tryz.isAgg5
 z5 := Tryz.sizeOf5
 v5 := Tryz.zeroValue5
 infoByte := by kernel_rfl
 cellsByte := by kernel_rfl
 sizeByte := by kernel_rfl
 neB5 := by decide }
open Go.RowKit in
theorem Tryz.Builder_String_any (B b : Nat) (l : List UInt8) (w : World) (h : Lib.IsBuilder 53 5 B b (Lib.byteCells l) w) (hBw : B ≤ w.heap.size) :
  Calls Tryz.prog 24 #[.pointer (some ⟨b, 0, none⟩)] w fun e w' => e = .returned (.string ⟨l.toArray⟩) ∧ Below B w w' := Any.Builder_String_any Tryz.lays169 Tryz.Builder_Extra_169 B b l w h hBw
def Tryz.lays156_ren : Go.Shelf.Ren := ⟨fun | 156 => 65 | 165 => 96 | 166 => 21 | 169 => 24 | 240 => 45 | 241 => 120 | 276 => 77 | 277 => 134 | n => n, fun | 31 => 64 | 9 => 9 | 3 => 3 | 4 => 4 | 0 => 0 | 20 => 20 | 72 => 53 | 76 => 56 | 70 => 51 | 37 => 22 | 75 => 55 | 127 => 91 | 164 => 122 | 5 => 5 | 80 => 62 | n => n, fun | n => n⟩
theorem Tryz.lays156 : Go.Proofs.Lays.n156 Tryz.prog Tryz.lays156_ren := {
 mixed := by kernel_rfl
 f156 := Tryz.func65.trans (congrArg some (by kernel_rfl))
 f165 := Tryz.func96.trans (congrArg some (by kernel_rfl))
 f166 := Tryz.func21.trans (congrArg some (by kernel_rfl))
 f169 := Tryz.func24.trans (congrArg some (by kernel_rfl))
 f240 := Tryz.func45.trans (congrArg some (by kernel_rfl))
 f241 := Tryz.func120.trans (congrArg some (by kernel_rfl))
 f276 := Tryz.func77.trans (congrArg some (by kernel_rfl))
 f277 := Tryz.func134.trans (congrArg some (by kernel_rfl))
 t0 := Tryz.underlying0
 a0 := Tryz.isAgg0
 z0 := Tryz.sizeOf0
 v0 := Tryz.zeroValue0
 t3 := Tryz.underlying3
 a3 := Tryz.isAgg3
 z3 := Tryz.sizeOf3
 v3 := Tryz.zeroValue3
 t4 := Tryz.underlying4
 a4 := Tryz.isAgg4
 z4 := Tryz.sizeOf4
 v4 := Tryz.zeroValue4
 t9 := Tryz.underlying9
 a9 := Tryz.isAgg9
 z9 := Tryz.sizeOf9
 v9 := Tryz.zeroValue9
 t20 := Tryz.underlying20
 a20 := Tryz.isAgg20
 z20 := Tryz.sizeOf20
 v20 := Tryz.zeroValue20
 t31 := Tryz.underlying64
 a31 := Tryz.isAgg64
 z31 := Tryz.sizeOf64
 v31 := Tryz.zeroValue64
 t37 := Tryz.underlying22
 a37 := Tryz.isAgg22
 z37 := Tryz.sizeOf22
 v37 := Tryz.zeroValue22
 t70 := Tryz.underlying51
 a70 := Tryz.isAgg51
 z70 := Tryz.sizeOf51
 v70 := Tryz.zeroValue51
 t72 := Tryz.underlying53
 a72 := Tryz.isAgg53
 z72 := Tryz.sizeOf53
 v72 := Tryz.zeroValue53
 t75 := Tryz.underlying55
 a75 := Tryz.isAgg55
 z75 := Tryz.sizeOf55
 v75 := Tryz.zeroValue55
 t76 := Tryz.underlying56
 a76 := Tryz.isAgg56
 z76 := Tryz.sizeOf56
 v76 := Tryz.zeroValue56
 t127 := Tryz.underlying91
 a127 := Tryz.isAgg91
 z127 := Tryz.sizeOf91
 v127 := Tryz.zeroValue91
 t164 := Tryz.underlying122
 a164 := Tryz.isAgg122
 z164 := Tryz.sizeOf122
 v164 := Tryz.zeroValue122 }
theorem Tryz.Builder_Extra_156 : Builder.Extra Tryz.prog Tryz.lays156_ren := {
 sizeBuilder := by kernel_rfl
 liesBuilder := by kernel_rfl
 t5 := Tryz.underlying5
 a5 := Tryz.isAgg5
 z5 := Tryz.sizeOf5
 v5 := Tryz.zeroValue5
 infoByte := by kernel_rfl
 cellsByte := by kernel_rfl
 sizeByte := by kernel_rfl
 neB5 := by decide }
open Go.RowKit in
theorem Tryz.strings_Join_none (a : Option Addr) (c : Nat) (sep : ByteArray) (w : World) :
  Calls Tryz.prog 65 #[.slice a 0 c, .string sep] w fun e w' => e = .returned (.string ⟨#[]⟩) ∧ w' = w := Any.strings_Join_none Tryz.lays156 Tryz.Builder_Extra_156 a c sep w
open Go.RowKit in
theorem Tryz.strings_Join (bk o c : Nat) (xs : List ByteArray) (sep : ByteArray) (w : World) (hcells : ∀ (j : Nat) x, xs[j]? = some x → w.cell? ⟨bk, o + j, none⟩ = some (.string x)) (hbk : bk < w.heap.size) (hN : xs.length ≤ 140737488355328) (hcap : xs.length ≤ c) (hlen : (Lib.join (xs.map (·.data.toList)) sep.data.toList).length ≤ 140737488355328) :
  Calls Tryz.prog 65 #[.slice (some ⟨bk, o, none⟩) xs.length c, .string sep] w fun e w' => e = .returned (.string ⟨(Lib.join (xs.map (·.data.toList)) sep.data.toList).toArray⟩) ∧ Below w.heap.size w w' := Any.strings_Join Tryz.lays156 Tryz.Builder_Extra_156 bk o c xs sep w hcells hbk hN hcap hlen
def Tryz.lays106_ren : Go.Shelf.Ren := ⟨fun | 106 => 53 | 213 => 83 | 265 => 109 | n => n, fun | 9 => 9 | 3 => 3 | n => n, fun | n => n⟩
theorem Tryz.lays106 : Go.Proofs.Lays.n106 Tryz.prog Tryz.lays106_ren := {
 mixed := by kernel_rfl
 f106 := Tryz.func53.trans (congrArg some (by kernel_rfl))
 f213 := Tryz.func83.trans (congrArg some (by kernel_rfl))
 f265 := Tryz.func109.trans (congrArg some (by kernel_rfl))
 t3 := Tryz.underlying3
 a3 := Tryz.isAgg3
 z3 := Tryz.sizeOf3
 v3 := Tryz.zeroValue3
 t9 := Tryz.underlying9
 a9 := Tryz.isAgg9
 z9 := Tryz.sizeOf9
 v9 := Tryz.zeroValue9 }
open Go.RowKit in
theorem Tryz.strings_Compare (a b : ByteArray) (w : World) :
  Calls Tryz.prog 53 #[.string a, .string b] w fun e w' => e = .returned (.int .i64 (Lib.compareBytes a.data.toList b.data.toList)) ∧ w' = w := Any.strings_Compare Tryz.lays106 a b w
def Tryz.laysM173_ren : Go.Shelf.Ren := ⟨fun | 173 => 46 | 246 => 78 | 283 => 101 | 284 => 102 | 285 => 103 | 286 => 104 | 129 => 123 | 317 => 122 | 318 => 124 | 319 => 125 | 320 => 126 | 337 => 135 | 338 => 136 | n => n, fun | 2 => 2 | 3 => 3 | 9 => 9 | 4 => 4 | 171 => 142 | 0 => 0 | 53 => 83 | 37 => 22 | 5 => 5 | 173 => 145 | 212 => 160 | 51 => 161 | 20 => 20 | 213 => 162 | 46 => 125 | 232 => 176 | 233 => 177 | n => n, fun | 17 => 1 | 18 => 4 | 19 => 5 | n => n⟩
theorem Tryz.laysM173 : Go.Proofs.LaysM.n173 Tryz.prog Tryz.laysM173_ren := {
 mixed := by kernel_rfl
 f129 := Tryz.func123.trans (congrArg some (by kernel_rfl))
 f173 := Tryz.func46.trans (congrArg some (by kernel_rfl))
 f246 := Tryz.func78.trans (congrArg some (by kernel_rfl))
 f283 := Tryz.func101.trans (congrArg some (by kernel_rfl))
 f284 := Tryz.func102.trans (congrArg some (by kernel_rfl))
 f285 := Tryz.func103.trans (congrArg some (by kernel_rfl))
 f286 := Tryz.func104.trans (congrArg some (by kernel_rfl))
 f317 := Tryz.func122.trans (congrArg some (by kernel_rfl))
 f318 := Tryz.func124.trans (congrArg some (by kernel_rfl))
 f319 := Tryz.func125.trans (congrArg some (by kernel_rfl))
 f320 := Tryz.func126.trans (congrArg some (by kernel_rfl))
 f337 := Tryz.func135.trans (congrArg some (by kernel_rfl))
 f338 := Tryz.func136.trans (congrArg some (by kernel_rfl))
 t0 := Tryz.underlying0
 a0 := Tryz.isAgg0
 z0 := Tryz.sizeOf0
 v0 := Tryz.zeroValue0
 t2 := Tryz.underlying2
 a2 := Tryz.isAgg2
 z2 := Tryz.sizeOf2
 v2 := Tryz.zeroValue2
 t3 := Tryz.underlying3
 a3 := Tryz.isAgg3
 z3 := Tryz.sizeOf3
 v3 := Tryz.zeroValue3
 t4 := Tryz.underlying4
 a4 := Tryz.isAgg4
 z4 := Tryz.sizeOf4
 v4 := Tryz.zeroValue4
 t5 := Tryz.underlying5
 a5 := Tryz.isAgg5
 z5 := Tryz.sizeOf5
 v5 := Tryz.zeroValue5
 t9 := Tryz.underlying9
 a9 := Tryz.isAgg9
 z9 := Tryz.sizeOf9
 v9 := Tryz.zeroValue9
 t20 := Tryz.underlying20
 a20 := Tryz.isAgg20
 z20 := Tryz.sizeOf20
 v20 := Tryz.zeroValue20
 t37 := Tryz.underlying22
 a37 := Tryz.isAgg22
 z37 := Tryz.sizeOf22
 v37 := Tryz.zeroValue22
 t46 := Tryz.underlying125
 a46 := Tryz.isAgg125
 z46 := Tryz.sizeOf125
 v46 := Tryz.zeroValue125
 t51 := Tryz.underlying161
 a51 := Tryz.isAgg161
 z51 := Tryz.sizeOf161
 v51 := Tryz.zeroValue161
 t53 := Tryz.underlying83
 a53 := Tryz.isAgg83
 z53 := Tryz.sizeOf83
 v53 := Tryz.zeroValue83
 t171 := Tryz.underlying142
 a171 := Tryz.isAgg142
 z171 := Tryz.sizeOf142
 v171 := Tryz.zeroValue142
 t173 := Tryz.underlying145
 a173 := Tryz.isAgg145
 z173 := Tryz.sizeOf145
 v173 := Tryz.zeroValue145
 t212 := Tryz.underlying160
 a212 := Tryz.isAgg160
 z212 := Tryz.sizeOf160
 v212 := Tryz.zeroValue160
 t213 := Tryz.underlying162
 a213 := Tryz.isAgg162
 z213 := Tryz.sizeOf162
 t232 := Tryz.underlying176
 a232 := Tryz.isAgg176
 z232 := Tryz.sizeOf176
 v232 := Tryz.zeroValue176
 t233 := Tryz.underlying177
 a233 := Tryz.isAgg177
 z233 := Tryz.sizeOf177
 v233 := Tryz.zeroValue177
 g17 := by kernel_rfl
 g18 := by kernel_rfl
 g19 := by kernel_rfl
 i0 := by kernel_rfl
 i2 := by kernel_rfl
 i3 := by kernel_rfl
 i4 := by kernel_rfl
 i5 := by kernel_rfl
 i9 := by kernel_rfl
 i20 := by kernel_rfl
 i37 := by kernel_rfl
 i46 := by kernel_rfl
 i51 := by kernel_rfl
 i53 := by kernel_rfl
 i171 := by kernel_rfl
 i173 := by kernel_rfl
 i212 := by kernel_rfl
 i232 := by kernel_rfl
 i233 := by kernel_rfl
 m17 := by kernel_rfl
 m18 := by kernel_rfl
 m19 := by kernel_rfl }
open Go.RowKit Go.Sort Go.Lib in
theorem Tryz.strconv_FormatInt_10 (n : Int) (h0 : -9223372036854775808 ≤ n) (h1 : n ≤ 9223372036854775807) (w : World) (htab : Lib.TabIs Tryz.prog w "internal/strconv.uint64pow10" .u64 Lib.pow10Tab) :
  Calls Tryz.prog 46 #[.int .i64 n, .int .i64 10] w fun e w' => e = .returned (.string ⟨(Lib.itoa n).toArray⟩) ∧ ∃ k os, w' = grow (w.drewN k) os := Any.strconv_FormatInt_10 Tryz.laysM173 n h0 h1 w htab
def Tryz.lays144_ren : Go.Shelf.Ren := ⟨fun | 144 => 76 | 143 => 81 | 219 => 108 | 217 => 128 | 225 => 129 | 224 => 130 | 267 => 131 | 266 => 137 | 314 => 138 | n => n, fun | 9 => 9 | 4 => 4 | 3 => 3 | 5 => 5 | 46 => 125 | 146 => 174 | 51 => 161 | n => n, fun | 1 => 0 | n => n⟩
theorem Tryz.lays144 : Go.Proofs.Lays.n144 Tryz.prog Tryz.lays144_ren := {
 mixed := by kernel_rfl
 f143 := Tryz.func81.trans (congrArg some (by kernel_rfl))
 f144 := Tryz.func76.trans (congrArg some (by kernel_rfl))
 f217 := Tryz.func128.trans (congrArg some (by kernel_rfl))
 f219 := Tryz.func108.trans (congrArg some (by kernel_rfl))
 f224 := Tryz.func130.trans (congrArg some (by kernel_rfl))
 f225 := Tryz.func129.trans (congrArg some (by kernel_rfl))
 f266 := Tryz.func137.trans (congrArg some (by kernel_rfl))
 f267 := Tryz.func131.trans (congrArg some (by kernel_rfl))
 f314 := Tryz.func138.trans (congrArg some (by kernel_rfl))
 t3 := Tryz.underlying3
 a3 := Tryz.isAgg3
 z3 := Tryz.sizeOf3
 v3 := Tryz.zeroValue3
 t4 := Tryz.underlying4
 a4 := Tryz.isAgg4
 z4 := Tryz.sizeOf4
 v4 := Tryz.zeroValue4
 t5 := Tryz.underlying5
 a5 := Tryz.isAgg5
 z5 := Tryz.sizeOf5
 v5 := Tryz.zeroValue5
 t9 := Tryz.underlying9
 a9 := Tryz.isAgg9
 z9 := Tryz.sizeOf9
 v9 := Tryz.zeroValue9
 t46 := Tryz.underlying125
 a46 := Tryz.isAgg125
 z46 := Tryz.sizeOf125
 v46 := Tryz.zeroValue125
 t51 := Tryz.underlying161
 a51 := Tryz.isAgg161
 z51 := Tryz.sizeOf161
 v51 := Tryz.zeroValue161
 t146 := Tryz.underlying174
 a146 := Tryz.isAgg174
 z146 := Tryz.sizeOf174
 v146 := Tryz.zeroValue174
 g1 := by kernel_rfl }
open Go.RowKit Go.Lib in
theorem Tryz.strings_Contains_one (s : ByteArray) (c : UInt8) (w : World) :
  Calls Tryz.prog 76 #[.string s, .string ⟨#[c]⟩] w fun e w' => e = .returned (.bool (decide (0 ≤ Lib.indexByte s.data.toList c))) ∧ w' = w := Any.strings_Contains_one Tryz.lays144 s c w
def Tryz.lays145_ren : Go.Shelf.Ren := ⟨fun | 145 => 97 | 220 => 121 | 219 => 108 | 217 => 128 | 225 => 129 | 224 => 130 | 267 => 131 | 266 => 137 | 314 => 138 | n => n, fun | 9 => 9 | 4 => 4 | 59 => 135 | 3 => 3 | 5 => 5 | 46 => 125 | 146 => 174 | 51 => 161 | n => n, fun | 1 => 0 | n => n⟩
theorem Tryz.lays145 : Go.Proofs.Lays.n145 Tryz.prog Tryz.lays145_ren := {
 mixed := by kernel_rfl
 f145 := Tryz.func97.trans (congrArg some (by kernel_rfl))
 f217 := Tryz.func128.trans (congrArg some (by kernel_rfl))
 f219 := Tryz.func108.trans (congrArg some (by kernel_rfl))
 f220 := Tryz.func121.trans (congrArg some (by kernel_rfl))
 f224 := Tryz.func130.trans (congrArg some (by kernel_rfl))
 f225 := Tryz.func129.trans (congrArg some (by kernel_rfl))
 f266 := Tryz.func137.trans (congrArg some (by kernel_rfl))
 f267 := Tryz.func131.trans (congrArg some (by kernel_rfl))
 f314 := Tryz.func138.trans (congrArg some (by kernel_rfl))
 t3 := Tryz.underlying3
 a3 := Tryz.isAgg3
 z3 := Tryz.sizeOf3
 v3 := Tryz.zeroValue3
 t4 := Tryz.underlying4
 a4 := Tryz.isAgg4
 z4 := Tryz.sizeOf4
 v4 := Tryz.zeroValue4
 t5 := Tryz.underlying5
 a5 := Tryz.isAgg5
 z5 := Tryz.sizeOf5
 v5 := Tryz.zeroValue5
 t9 := Tryz.underlying9
 a9 := Tryz.isAgg9
 z9 := Tryz.sizeOf9
 v9 := Tryz.zeroValue9
 t46 := Tryz.underlying125
 a46 := Tryz.isAgg125
 z46 := Tryz.sizeOf125
 v46 := Tryz.zeroValue125
 t51 := Tryz.underlying161
 a51 := Tryz.isAgg161
 z51 := Tryz.sizeOf161
 v51 := Tryz.zeroValue161
 t59 := Tryz.underlying135
 a59 := Tryz.isAgg135
 z59 := Tryz.sizeOf135
 v59 := Tryz.zeroValue135
 t146 := Tryz.underlying174
 a146 := Tryz.isAgg174
 z146 := Tryz.sizeOf174
 v146 := Tryz.zeroValue174
 g1 := by kernel_rfl }
open Go.RowKit Go.Lib in
theorem Tryz.strings_Cut (s sep : ByteArray) (m : Int) (w : World) (hs : s.size < 4294967281) (hm : w.cell? ⟨0, 0, none⟩ = some (.int .i64 m)) :
  Calls Tryz.prog 97 #[.string s, .string sep] w fun e w' => e = .returned (.tuple #[.string ⟨(Lib.cut s.data.toList sep.data.toList).1.toArray⟩, .string ⟨(Lib.cut s.data.toList sep.data.toList).2.1.toArray⟩, .bool (Lib.cut s.data.toList sep.data.toList).2.2]) ∧ ∃ n, w' = w.drewN n := Any.strings_Cut Tryz.lays145 s sep m w hs hm
def Tryz.laysM219_ren : Go.Shelf.Ren := ⟨fun | 219 => 108 | 217 => 128 | 225 => 129 | 224 => 130 | 267 => 131 | 266 => 137 | 314 => 138 | n => n, fun | 9 => 9 | 3 => 3 | 4 => 4 | 5 => 5 | 46 => 125 | 146 => 174 | 51 => 161 | n => n, fun | 1 => 0 | n => n⟩
theorem Tryz.laysM219 : Go.Proofs.LaysM.n219 Tryz.prog Tryz.laysM219_ren := {
 mixed := by kernel_rfl
 f217 := Tryz.func128.trans (congrArg some (by kernel_rfl))
 f219 := Tryz.func108.trans (congrArg some (by kernel_rfl))
 f224 := Tryz.func130.trans (congrArg some (by kernel_rfl))
 f225 := Tryz.func129.trans (congrArg some (by kernel_rfl))
 f266 := Tryz.func137.trans (congrArg some (by kernel_rfl))
 f267 := Tryz.func131.trans (congrArg some (by kernel_rfl))
 f314 := Tryz.func138.trans (congrArg some (by kernel_rfl))
 t3 := Tryz.underlying3
 a3 := Tryz.isAgg3
 z3 := Tryz.sizeOf3
 v3 := Tryz.zeroValue3
 t4 := Tryz.underlying4
 a4 := Tryz.isAgg4
 z4 := Tryz.sizeOf4
 v4 := Tryz.zeroValue4
 t5 := Tryz.underlying5
 a5 := Tryz.isAgg5
 z5 := Tryz.sizeOf5
 v5 := Tryz.zeroValue5
 t9 := Tryz.underlying9
 a9 := Tryz.isAgg9
 z9 := Tryz.sizeOf9
 v9 := Tryz.zeroValue9
 t46 := Tryz.underlying125
 a46 := Tryz.isAgg125
 z46 := Tryz.sizeOf125
 v46 := Tryz.zeroValue125
 t51 := Tryz.underlying161
 a51 := Tryz.isAgg161
 z51 := Tryz.sizeOf161
 v51 := Tryz.zeroValue161
 t146 := Tryz.underlying174
 a146 := Tryz.isAgg174
 z146 := Tryz.sizeOf174
 v146 := Tryz.zeroValue174
 g1 := by kernel_rfl
 i3 := by kernel_rfl
 i4 := by kernel_rfl
 i5 := by kernel_rfl
 i9 := by kernel_rfl
 i46 := by kernel_rfl
 i51 := by kernel_rfl
 i146 := by kernel_rfl
 m1 := by kernel_rfl
 s1_3 := fun w h => Go.Proofs.cell_of_shapedOpen_int (zero := #[.int .i64 0]) (t := 3) h (of_decide_eq_true (by kernel_rfl)) (by kernel_rfl) rfl (by kernel_rfl) (by kernel_rfl) Tryz.underlying3 }
def Tryz.lays146_ren : Go.Shelf.Ren := ⟨fun | 146 => 26 | 221 => 49 | 268 => 79 | 138 => 80 | 143 => 81 | 195 => 105 | 197 => 106 | 218 => 107 | 219 => 108 | 260 => 127 | 217 => 128 | 225 => 129 | 224 => 130 | 267 => 131 | 266 => 137 | 314 => 138 | n => n, fun | 9 => 9 | 31 => 64 | 3 => 3 | 4 => 4 | 0 => 0 | 105 => 148 | 21 => 21 | 5 => 5 | 46 => 125 | 119 => 170 | 139 => 173 | 138 => 172 | 146 => 174 | 51 => 161 | n => n, fun | 1 => 0 | 3 => 2 | 4 => 3 | n => n⟩
theorem Tryz.lays146 : Go.Proofs.Lays.n146 Tryz.prog Tryz.lays146_ren := {
 mixed := by kernel_rfl
 f138 := Tryz.func80.trans (congrArg some (by kernel_rfl))
 f143 := Tryz.func81.trans (congrArg some (by kernel_rfl))
 f146 := Tryz.func26.trans (congrArg some (by kernel_rfl))
 f195 := Tryz.func105.trans (congrArg some (by kernel_rfl))
 f197 := Tryz.func106.trans (congrArg some (by kernel_rfl))
 f217 := Tryz.func128.trans (congrArg some (by kernel_rfl))
 f218 := Tryz.func107.trans (congrArg some (by kernel_rfl))
 f219 := Tryz.func108.trans (congrArg some (by kernel_rfl))
 f221 := Tryz.func49.trans (congrArg some (by kernel_rfl))
 f224 := Tryz.func130.trans (congrArg some (by kernel_rfl))
 f225 := Tryz.func129.trans (congrArg some (by kernel_rfl))
 f260 := Tryz.func127.trans (congrArg some (by kernel_rfl))
 f266 := Tryz.func137.trans (congrArg some (by kernel_rfl))
 f267 := Tryz.func131.trans (congrArg some (by kernel_rfl))
 f268 := Tryz.func79.trans (congrArg some (by kernel_rfl))
 f314 := Tryz.func138.trans (congrArg some (by kernel_rfl))
 t0 := Tryz.underlying0
 a0 := Tryz.isAgg0
 z0 := Tryz.sizeOf0
 v0 := Tryz.zeroValue0
 t3 := Tryz.underlying3
 a3 := Tryz.isAgg3
 z3 := Tryz.sizeOf3
 v3 := Tryz.zeroValue3
 t4 := Tryz.underlying4
 a4 := Tryz.isAgg4
 z4 := Tryz.sizeOf4
 v4 := Tryz.zeroValue4
 t5 := Tryz.underlying5
 a5 := Tryz.isAgg5
 z5 := Tryz.sizeOf5
 v5 := Tryz.zeroValue5
 t9 := Tryz.underlying9
 a9 := Tryz.isAgg9
 z9 := Tryz.sizeOf9
 v9 := Tryz.zeroValue9
 t21 := Tryz.underlying21
 a21 := Tryz.isAgg21
 z21 := Tryz.sizeOf21
 v21 := Tryz.zeroValue21
 t31 := Tryz.underlying64
 a31 := Tryz.isAgg64
 z31 := Tryz.sizeOf64
 v31 := Tryz.zeroValue64
 t46 := Tryz.underlying125
 a46 := Tryz.isAgg125
 z46 := Tryz.sizeOf125
 v46 := Tryz.zeroValue125
 t51 := Tryz.underlying161
 a51 := Tryz.isAgg161
 z51 := Tryz.sizeOf161
 v51 := Tryz.zeroValue161
 t105 := Tryz.underlying148
 a105 := Tryz.isAgg148
 z105 := Tryz.sizeOf148
 v105 := Tryz.zeroValue148
 t119 := Tryz.underlying170
 a119 := Tryz.isAgg170
 z119 := Tryz.sizeOf170
 t138 := Tryz.underlying172
 a138 := Tryz.isAgg172
 z138 := Tryz.sizeOf172
 v138 := Tryz.zeroValue172
 t139 := Tryz.underlying173
 a139 := Tryz.isAgg173
 z139 := Tryz.sizeOf173
 v139 := Tryz.zeroValue173
 t146 := Tryz.underlying174
 a146 := Tryz.isAgg174
 z146 := Tryz.sizeOf174
 v146 := Tryz.zeroValue174
 g1 := by kernel_rfl
 g3 := by kernel_rfl
 g4 := by kernel_rfl }
open Go.RowKit Go.Lib in
theorem Tryz.strings_Split (s sep : ByteArray) (m : Int) (w : World) (hs : s.size < 4294967281) (hm : w.cell? ⟨0, 0, none⟩ = some (.int .i64 m)) (h1 : 1 ≤ sep.size) :
  Calls Tryz.prog 26 #[.string s, .string sep] w fun e w' =>
   e = .returned (.slice (some ⟨w.heap.size, 0, none⟩) (Lib.countB s sep + 1) (Lib.countB s sep + 1)) ∧ w' = w.alloc (.cells ((Lib.splitB sep 0 (Lib.countB s sep) s).map Value.string).toArray 9) := Any.strings_Split Tryz.lays146 (by kernel_rfl) s sep m w hs hm h1
def Tryz.lays147_ren : Go.Shelf.Ren := ⟨fun | 147 => 52 | 221 => 49 | 268 => 79 | 138 => 80 | 143 => 81 | 195 => 105 | 197 => 106 | 218 => 107 | 219 => 108 | 260 => 127 | 217 => 128 | 225 => 129 | 224 => 130 | 267 => 131 | 266 => 137 | 314 => 138 | n => n, fun | 9 => 9 | 3 => 3 | 31 => 64 | 4 => 4 | 0 => 0 | 105 => 148 | 21 => 21 | 5 => 5 | 46 => 125 | 119 => 170 | 139 => 173 | 138 => 172 | 146 => 174 | 51 => 161 | n => n, fun | 1 => 0 | 3 => 2 | 4 => 3 | n => n⟩
theorem Tryz.lays147 : Go.Proofs.Lays.n147 Tryz.prog Tryz.lays147_ren := {
 mixed := by kernel_rfl
 f138 := Tryz.func80.trans (congrArg some (by kernel_rfl))
 f143 := Tryz.func81.trans (congrArg some (by kernel_rfl))
 f147 := Tryz.func52.trans (congrArg some (by kernel_rfl))
 f195 := Tryz.func105.trans (congrArg some (by kernel_rfl))
 f197 := Tryz.func106.trans (congrArg some (by kernel_rfl))
 f217 := Tryz.func128.trans (congrArg some (by kernel_rfl))
 f218 := Tryz.func107.trans (congrArg some (by kernel_rfl))
 f219 := Tryz.func108.trans (congrArg some (by kernel_rfl))
 f221 := Tryz.func49.trans (congrArg some (by kernel_rfl))
 f224 := Tryz.func130.trans (congrArg some (by kernel_rfl))
 f225 := Tryz.func129.trans (congrArg some (by kernel_rfl))
 f260 := Tryz.func127.trans (congrArg some (by kernel_rfl))
 f266 := Tryz.func137.trans (congrArg some (by kernel_rfl))
 f267 := Tryz.func131.trans (congrArg some (by kernel_rfl))
 f268 := Tryz.func79.trans (congrArg some (by kernel_rfl))
 f314 := Tryz.func138.trans (congrArg some (by kernel_rfl))
 t0 := Tryz.underlying0
 a0 := Tryz.isAgg0
 z0 := Tryz.sizeOf0
 v0 := Tryz.zeroValue0
 t3 := Tryz.underlying3
 a3 := Tryz.isAgg3
 z3 := Tryz.sizeOf3
 v3 := Tryz.zeroValue3
 t4 := Tryz.underlying4
 a4 := Tryz.isAgg4
 z4 := Tryz.sizeOf4
 v4 := Tryz.zeroValue4
 t5 := Tryz.underlying5
 a5 := Tryz.isAgg5
 z5 := Tryz.sizeOf5
 v5 := Tryz.zeroValue5
 t9 := Tryz.underlying9
 a9 := Tryz.isAgg9
 z9 := Tryz.sizeOf9
 v9 := Tryz.zeroValue9
 t21 := Tryz.underlying21
 a21 := Tryz.isAgg21
 z21 := Tryz.sizeOf21
 v21 := Tryz.zeroValue21
 t31 := Tryz.underlying64
 a31 := Tryz.isAgg64
 z31 := Tryz.sizeOf64
 v31 := Tryz.zeroValue64
 t46 := Tryz.underlying125
 a46 := Tryz.isAgg125
 z46 := Tryz.sizeOf125
 v46 := Tryz.zeroValue125
 t51 := Tryz.underlying161
 a51 := Tryz.isAgg161
 z51 := Tryz.sizeOf161
 v51 := Tryz.zeroValue161
 t105 := Tryz.underlying148
 a105 := Tryz.isAgg148
 z105 := Tryz.sizeOf148
 v105 := Tryz.zeroValue148
 t119 := Tryz.underlying170
 a119 := Tryz.isAgg170
 z119 := Tryz.sizeOf170
 t138 := Tryz.underlying172
 a138 := Tryz.isAgg172
 z138 := Tryz.sizeOf172
 v138 := Tryz.zeroValue172
 t139 := Tryz.underlying173
 a139 := Tryz.isAgg173
 z139 := Tryz.sizeOf173
 v139 := Tryz.zeroValue173
 t146 := Tryz.underlying174
 a146 := Tryz.isAgg174
 z146 := Tryz.sizeOf174
 v146 := Tryz.zeroValue174
 g1 := by kernel_rfl
 g3 := by kernel_rfl
 g4 := by kernel_rfl }
open Go.RowKit Go.Lib in
theorem Tryz.strings_SplitN (s sep : ByteArray) (n : Nat) (m : Int) (w : World) (hs : s.size < 4294967281) (hm : w.cell? ⟨0, 0, none⟩ = some (.int .i64 m)) (h1 : 1 ≤ sep.size) (hn : 1 ≤ n) (hn63 : n ≤ 9223372036854775807) :
  Calls Tryz.prog 52 #[.string s, .string sep, .int .i64 n] w fun e w' =>
   e = .returned (.slice (some ⟨w.heap.size, 0, none⟩) (Lib.splitB sep 0 (min n (s.size + 1) - 1) s).length (min n (s.size + 1))) ∧ w' = w.alloc (.cells (Lib.cellsOf (Lib.splitB sep 0 (min n (s.size + 1) - 1) s) (min n (s.size + 1))) 9) := Any.strings_SplitN Tryz.lays147 (by kernel_rfl) s sep n m w hs hm h1 hn hn63
end Go.Proofs
namespace Go.Proofs.YtjebkmfljcanlaaGreatDoor.Q
open Go.RowKit Go.Proofs.YtjebkmfljcanlaaGreatDoorW.PrintWords Go.Proofs.YtjebkmfljcanlaaGreatDoorW.PrintLast Go.Proofs.YtjebkmfljcanlaaGreatDoorW.PrintMore Go.Proofs.Tryz
attribute [local go_sem] ay_ ax_ aE_ aD_ an_ ao_ aw_ av_
def strings_Compare.f (a0 : ByteArray) (a1 : ByteArray) : Option (Int) := some (Go.Lib.compareBytes a0.data.toList a1.data.toList)
theorem strings_Compare.calls (a0 : ByteArray) (a1 : ByteArray) (r : Int) (w : World) (h : strings_Compare.f a0 a1 = some r) :
  Calls prog 53 #[.string a0, .string a1] w fun e w' => e = .returned (.int .i64 r) ∧ bR_ w w' := by
 obtain rfl := Option.some.inj h; refine (Go.Proofs.Tryz.strings_Compare a0 a1 w).mono ?_; rintro e w' ⟨rfl, rfl⟩; exact ⟨rfl, bR_.refl _⟩
def bi_.f (a0_0 : ByteArray) (a0_1 : ByteArray) (a0_2 : ByteArray) (a1_0 : ByteArray) (a1_1 : ByteArray) (a1_2 : ByteArray) : Option (Int) := (strings_Compare.f a0_0 a1_0).bind fun zY => (if zY = 0 then ((strings_Compare.f a0_1 a1_1).bind fun zi => (some zi)) else (some zY))
theorem bi_.calls (a0_0 : ByteArray) (a0_1 : ByteArray) (a0_2 : ByteArray) (a1_0 : ByteArray) (a1_1 : ByteArray) (a1_2 : ByteArray) (r : Int) (w : World) (h : bi_.f a0_0 a0_1 a0_2 a1_0 a1_1 a1_2 = some r) :
  Calls prog 31 #[.agg #[.string a0_0, .string a0_1, .string a0_2], .agg #[.string a1_0, .string a1_1, .string a1_2]] w fun e w' => e = .returned (.int .i64 r) ∧ Below w.heap.size w w' := by
 have hu60 := underlying60; have HB := ak (Below.refl w.heap.size w); have H : ((strings_Compare.f a0_0 a1_0).bind fun zY => (if zY = 0 then ((strings_Compare.f a0_1 a1_1).bind fun zi => (some zi)) else (some zY))) = some r := h; clear h; revert H; refine biB ?_; intro zY A3 H; (try dsimp only at H); have HC4 := ak H; clear H; go_enter func31, ntmps31; go_upto_if 12 with (first | (refine bxE 2 60 #[.string a0_0, .string a0_1, .string a0_2] ?_; intro zz hg w5 hbox hb; have z8 := ak (hbox); have y5 := ak ((raq : w.heap.size ≤ zz)); have xS := y5; replace HB := ak (ac_ (bz HB.1) hb); clear hb hbox hg) | (refine bxE 3 60 #[.string a1_0, .string a1_1, .string a1_2] ?_; intro zo hg w6 hbox hb; have zn := ak (hbox); have si := ak ((ra9 : w.heap.size ≤ zo)); have qy := si; replace HB := ak (ac_ (bq) hb); have lq := ak ((raw : zz ≠ zo)); have ll := ak ((rax : zo ≠ zz)); replace z8 := ak (ai_ (kz z8.1) hb); clear hb hbox hg; have hnb7 := lq.1; have hnc7 := ll.1; obtain ⟨ZH, ZG, ZF⟩ := cz3_ z8.1; obtain ⟨ZE, ZC, ZB⟩ := fz3_ z8.1; obtain ⟨fT, fQ, fP⟩ := cz3_ zn.1; obtain ⟨ZA, fO, fM⟩ := fz3_ zn.1) | (refine gL 53 10 func53 #[.string a0_0, .string a1_0] ?_; (with_reducible refine (strings_Compare.calls a0_0 a1_0 zY _ A3.1).mono ?_); rintro e w' ⟨rfl, ⟨nd, rfl⟩⟩; refine ⟨_, rfl, ?_⟩; (try (rw [bW_ w6]; generalize hq_ : World.drewN w6 _ = w6; have n0_ : Aside0 (w6.heap[zz]? = some (.cells #[.string a0_0, .string a0_1, .string a0_2] 60 (0, 0))) := ⟨by rw [← hq_]; exact (kz z8.1)⟩; have n1_ : Aside0 (w6.heap[zo]? = some (.cells #[.string a1_0, .string a1_1, .string a1_2] 60 (0, 0))) := ⟨by rw [← hq_]; exact (kz zn.1)⟩; have n2_ : Aside0 (Below w.heap.size w w6) := ⟨by rw [← hq_]; exact (bq)⟩; clear z8 zn HB hq_; have z8 := n0_; have zn := n1_; have HB := n2_; clear n0_ n1_ n2_)))); (try simp only [Act.put, lsa_, ls0_, ls1_]); have H := HC4.1; clear HC4; revert H; refine itEE ?_ ?_; rotate_left
 ·intro c10 xe tJ H; (first | rw [xe] | (simp only [i64_w, i32_w]; rw [xe]) | (simp only [tJ, nT_, nF_]) | (simp only [xe, nT_, nF_]) | skip); obtain rfl := Option.some.inj H; go_wp2; go_ret; exact ⟨raf, bq⟩
 intro xe tJ H; (first | rw [xe] | (simp only [i64_w, i32_w]; rw [xe]) | (simp only [tJ, nT_, nF_]) | (simp only [xe, nT_, nF_]) | skip); revert H; refine biB ?_; intro zi A11 H; (try dsimp only at H); obtain rfl := Option.some.inj H; have hnb12 := lq.1; have hnc12 := ll.1; obtain ⟨lD, lC, ky⟩ := cz3_ z8.1; obtain ⟨kw, kv, ku⟩ := fz3_ z8.1; obtain ⟨tZ, tY, tX⟩ := cz3_ zn.1; obtain ⟨tV, tT, tQ⟩ := fz3_ zn.1; go_wp2_with (first | (refine gL 53 18 func53 #[.string a0_1, .string a1_1] ?_; (with_reducible refine (strings_Compare.calls a0_1 a1_1 zi _ A11.1).mono ?_); rintro e w' ⟨rfl, ⟨nd, rfl⟩⟩; refine ⟨_, rfl, ?_⟩; (try (rw [bW_ w6]; generalize hq_ : World.drewN w6 _ = w6; have n0_ : Aside0 (w6.heap[zz]? = some (.cells #[.string a0_0, .string a0_1, .string a0_2] 60 (0, 0))) := ⟨by rw [← hq_]; exact (kz z8.1)⟩; have n1_ : Aside0 (w6.heap[zo]? = some (.cells #[.string a1_0, .string a1_1, .string a1_2] 60 (0, 0))) := ⟨by rw [← hq_]; exact (kz zn.1)⟩; have n2_ : Aside0 (Below w.heap.size w w6) := ⟨by rw [← hq_]; exact (bq)⟩; clear z8 zn HB hq_; have z8 := n0_; have zn := n1_; have HB := n2_; clear n0_ n1_ n2_)))); go_ret; exact ⟨raf, bq⟩
mutual
def al_.j0 : Nat → ByteArray → Bool → Option (Bool)
 | 0, _, _ => none
 | k + 1, x0, x21 => if x21 = true then (some false) else (al_.l0 k x0 0)
def al_.l0 : Nat → ByteArray → Int → Option (Bool)
 | 0, _, _ => none
 | k + 1, x0, x3 => if x3 < (x0.size : Int) then (if 0 ≤ x3 then (if (bt x0 x3) < 97 then (if (bt x0 x3) < 48 then (some false) else (if (bt x0 x3) > 57 then (some false) else (al_.l0 k x0 (wrap64 (x3 + 1))))) else (if (bt x0 x3) > 122 then (if (bt x0 x3) < 48 then (some false) else (if (bt x0 x3) > 57 then (some false) else (al_.l0 k x0 (wrap64 (x3 + 1))))) else (al_.l0 k x0 (wrap64 (x3 + 1))))) else (none)) else (some true)
end
def al_.f (k : Nat) (a0 : ByteArray) : Option (Bool) := if (a0.size : Int) < 1 then (al_.j0 k a0 true) else (if (a0.size : Int) > 10 then (al_.j0 k a0 true) else (if 0 < (a0.size : Int) then (if (bt a0 0) < 97 then (al_.j0 k a0 true) else (al_.j0 k a0 (decide ((bt a0 0) > 122)))) else (none)))
theorem al_.calls (k : Nat) (a0 : ByteArray) (r : Bool) (w : World) (h : al_.f k a0 = some r) :
  Calls prog 75 #[.string a0] w fun e w' => e = .returned (.bool r) ∧ bR_ w w' := by
 have H : (if (a0.size : Int) < 1 then (al_.j0 k a0 true) else (if (a0.size : Int) > 10 then (al_.j0 k a0 true) else (if 0 < (a0.size : Int) then (if (bt a0 0) < 97 then (al_.j0 k a0 true) else (al_.j0 k a0 (decide ((bt a0 0) > 122)))) else (none)))) = some r := h; clear h; have HC2 := ak H; clear H; go_enter func75, ntmps75; go_upto_region 1 with (fail)
 go_cut [21] (fun v21 wc => ∃ (kq : Nat) (bM : Bool), v21 = .bool bM ∧ Aside0 (al_.j0 kq a0 bM = some r) ∧ Aside0 (kq ≤ k) ∧ bR_ w wc)
 case first =>
  have H := HC2.1; clear HC2; revert H; refine itPP ?_ ?_; rotate_left
  ·intro c3 H; have xP : decide ((a0.size : Int) < 1) = false := def_ c3; have tK : decide (a0.size < 1) = false := def_ rae; clear c3; (first | rw [xP] | (simp only [i64_w, i32_w]; rw [xP]) | (simp only [tK, nT_, nF_]) | (simp only [xP, nT_, nF_]) | skip); revert H; refine itPP ?_ ?_; rotate_left
   ·intro c4 H; have wh : decide (10 < (a0.size : Int)) = false := def_ c4; have rY : decide (10 < a0.size) = false := def_ rae; clear c4; revert H; refine itPN ?_; intro c5 H; have uj : decide (0 < (a0.size : Int)) = true := det c5; have oP : decide (0 < a0.size) = true := det rae; clear c5; revert H; refine itDD ?_ ?_; rotate_left
    ·intro yE H; have H' := ak H; clear H; have p6 : 0 ≤ (0 : Int) := rae; have q6 : 0 < a0.size := (by have : (0 : Int) < (a0.size : Int) := ode ram; omega); have hx6 : ∀ h : 0 < a0.size, ((a0[0]'h).toNat : Int) = bt a0 0 := bt_at a0 0; clear p6; have qi6 : (0 < (a0.size : Int)) = True := eq_true (ode ram); replace q6 := eq_true q6; have p8 : 0 ≤ (0 : Int) := rae; have q8 : 0 < a0.size := (by have : (0 : Int) < (a0.size : Int) := ode ram; omega); have hx8 : ∀ h : 0 < a0.size, ((a0[0]'h).toNat : Int) = bt a0 0 := bt_at a0 0; clear p8; have qi8 : (0 < (a0.size : Int)) = True := eq_true (ode ram); replace q8 := eq_true q8; go_wp2; go_meet
     case rel => exact ⟨_, (decide ((bt a0 0) > 122)), rad, H', ⟨rar⟩, rag⟩
    intro yE H; have H' := ak H; clear H; have p6 : 0 ≤ (0 : Int) := rae; have q6 : 0 < a0.size := (by have : (0 : Int) < (a0.size : Int) := ode ram; omega); have hx6 : ∀ h : 0 < a0.size, ((a0[0]'h).toNat : Int) = bt a0 0 := bt_at a0 0; clear p6; have qi6 : (0 < (a0.size : Int)) = True := eq_true (ode ram); replace q6 := eq_true q6; go_wp2; go_meet
    case rel => exact ⟨_, (true), rad, H', ⟨rar⟩, rag⟩
   intro c4 H; have wh : decide (10 < (a0.size : Int)) = true := det c4; have rY : decide (10 < a0.size) = true := det rae; clear c4; have H' := ak H; clear H; go_wp2; go_meet
   case rel => exact ⟨_, (true), rad, H', ⟨rar⟩, rag⟩
  intro c3 H; have xP : decide ((a0.size : Int) < 1) = true := det c3; have tK : decide (a0.size < 1) = true := det rae; clear c3; (first | rw [xP] | (simp only [i64_w, i32_w]; rw [xP]) | (simp only [tK, nT_, nF_]) | (simp only [xP, nT_, nF_]) | skip); have H' := ak H; clear H; go_wp2; go_meet
  case rel => exact ⟨_, (true), rad, H', ⟨rar⟩, rag⟩
 case rest =>
  clear HC2; obtain ⟨kq, bM, rfl, HA, HJ1, ⟨mc1, rfl⟩⟩ := hcut
  cases kq with
  | zero => exact absurd HA.1 (by simp [al_.j0])
  | succ kj1 =>
   have H := HA.1; clear HA; simp only [al_.j0] at H; by_cases c9 : bM = true; rotate_left
   ·replace c9 := Bool.eq_false_iff.mpr c9; subst c9; replace H := ifF H; have H' := ak H; clear H; go_wp2; (try simp only [Act.put, lsa_, ls0_, ls1_])
    go_loopg [3] kj1 (fun kq v3 w' => ∃ (yl : Int), v3 = .int .i64 yl ∧ Aside0 (al_.l0 kq a0 yl = some r) ∧ Aside0 (kq ≤ kj1) ∧ bR_ w w')
    case atStart => exact ⟨(0), rad, H', ⟨Nat.le_refl _⟩, rag⟩
    case round =>
     clear H'; obtain ⟨yl, rfl, HA, HK2, ⟨m2, rfl⟩⟩ := hrel
     cases gk with
     | zero => exact absurd HA.1 (by simp [al_.l0])
     | succ k2 =>
      have H := HA.1; clear HA; simp only [al_.l0] at H; revert H; refine itDD ?_ ?_; rotate_left
      ·intro xe H; obtain rfl := Option.some.inj H; go_wp2; go_ret; exact ⟨rad, rag⟩
      intro xe H; revert H; refine itDN ?_; intro rJ H; revert H; refine itDD ?_ ?_; rotate_left
      ·intro wU H; revert H; refine itDD ?_ ?_; rotate_left
       ·intro sS H; have H' := ak H; clear H; have p12 : 0 ≤ (yl : Int) := ode ram; have q12 : yl < (a0.size : Int) := ode ram; have Zq := bt_at a0 yl; replace p12 := eq_true p12; replace q12 := eq_true q12; have p18 : 0 ≤ (yl : Int) := ode ram; have q18 : yl < (a0.size : Int) := ode ram; have Tp := bt_at a0 yl; replace p18 := eq_true p18; replace q18 := eq_true q18; go_wp2
        go_roundg k2
        case measure => have := HJ1.1; have := HK2.1; omega
        case rel => exact ⟨(wrap64 (yl + 1)), rad, H', ⟨by have := HJ1.1; have := HK2.1; omega⟩, rag⟩
       intro sS H; revert H; refine itDD ?_ ?_; rotate_left
       ·intro sN H; revert H; refine itDD ?_ ?_; rotate_left
        ·intro kJ H; have H' := ak H; clear H; have p12 : 0 ≤ (yl : Int) := ode ram; have q12 : yl < (a0.size : Int) := ode ram; have Zq := bt_at a0 yl; replace p12 := eq_true p12; replace q12 := eq_true q12; have p18 : 0 ≤ (yl : Int) := ode ram; have q18 : yl < (a0.size : Int) := ode ram; have Tp := bt_at a0 yl; replace p18 := eq_true p18; replace q18 := eq_true q18; have p20 : 0 ≤ (yl : Int) := ode ram; have q20 : yl < (a0.size : Int) := ode ram; have SQ := bt_at a0 yl; replace p20 := eq_true p20; replace q20 := eq_true q20; have p22 : 0 ≤ (yl : Int) := ode ram; have q22 : yl < (a0.size : Int) := ode ram; have I7 := bt_at a0 yl; replace p22 := eq_true p22; replace q22 := eq_true q22; go_wp2
         go_roundg k2
         case measure => have := HJ1.1; have := HK2.1; omega
         case rel => exact ⟨(wrap64 (yl + 1)), rad, H', ⟨by have := HJ1.1; have := HK2.1; omega⟩, rag⟩
        intro kJ H; obtain rfl := Option.some.inj H; have p12 : 0 ≤ (yl : Int) := ode ram; have q12 : yl < (a0.size : Int) := ode ram; have Zq := bt_at a0 yl; replace p12 := eq_true p12; replace q12 := eq_true q12; have p18 : 0 ≤ (yl : Int) := ode ram; have q18 : yl < (a0.size : Int) := ode ram; have Tp := bt_at a0 yl; replace p18 := eq_true p18; replace q18 := eq_true q18; have p20 : 0 ≤ (yl : Int) := ode ram; have q20 : yl < (a0.size : Int) := ode ram; have SQ := bt_at a0 yl; replace p20 := eq_true p20; replace q20 := eq_true q20; have p22 : 0 ≤ (yl : Int) := ode ram; have q22 : yl < (a0.size : Int) := ode ram; have I7 := bt_at a0 yl; replace p22 := eq_true p22; replace q22 := eq_true q22; go_wp2; go_ret; exact ⟨rad, rag⟩
       intro sN H; obtain rfl := Option.some.inj H; have p12 : 0 ≤ (yl : Int) := ode ram; have q12 : yl < (a0.size : Int) := ode ram; have Zq := bt_at a0 yl; replace p12 := eq_true p12; replace q12 := eq_true q12; have p18 : 0 ≤ (yl : Int) := ode ram; have q18 : yl < (a0.size : Int) := ode ram; have Tp := bt_at a0 yl; replace p18 := eq_true p18; replace q18 := eq_true q18; have p20 : 0 ≤ (yl : Int) := ode ram; have q20 : yl < (a0.size : Int) := ode ram; have SQ := bt_at a0 yl; replace p20 := eq_true p20; replace q20 := eq_true q20; go_wp2; go_ret; exact ⟨rad, rag⟩
      intro wU H; revert H; refine itDD ?_ ?_; rotate_left
      ·intro xA H; revert H; refine itDD ?_ ?_; rotate_left
       ·intro oH H; have H' := ak H; clear H; have p12 : 0 ≤ (yl : Int) := ode ram; have q12 : yl < (a0.size : Int) := ode ram; have Zq := bt_at a0 yl; replace p12 := eq_true p12; replace q12 := eq_true q12; have p14 : 0 ≤ (yl : Int) := ode ram; have q14 : yl < (a0.size : Int) := ode ram; have Ui := bt_at a0 yl; replace p14 := eq_true p14; replace q14 := eq_true q14; have p16 : 0 ≤ (yl : Int) := ode ram; have q16 : yl < (a0.size : Int) := ode ram; have hx16 := bt_at a0 yl; replace p16 := eq_true p16; replace q16 := eq_true q16; go_wp2
        go_roundg k2
        case measure => have := HJ1.1; have := HK2.1; omega
        case rel => exact ⟨(wrap64 (yl + 1)), rad, H', ⟨by have := HJ1.1; have := HK2.1; omega⟩, rag⟩
       intro oH H; obtain rfl := Option.some.inj H; have p12 : 0 ≤ (yl : Int) := ode ram; have q12 : yl < (a0.size : Int) := ode ram; have Zq := bt_at a0 yl; replace p12 := eq_true p12; replace q12 := eq_true q12; have p14 : 0 ≤ (yl : Int) := ode ram; have q14 : yl < (a0.size : Int) := ode ram; have Ui := bt_at a0 yl; replace p14 := eq_true p14; replace q14 := eq_true q14; have p16 : 0 ≤ (yl : Int) := ode ram; have q16 : yl < (a0.size : Int) := ode ram; have hx16 := bt_at a0 yl; replace p16 := eq_true p16; replace q16 := eq_true q16; go_wp2; go_ret; exact ⟨rad, rag⟩
      intro xA H; obtain rfl := Option.some.inj H; have p12 : 0 ≤ (yl : Int) := ode ram; have q12 : yl < (a0.size : Int) := ode ram; have Zq := bt_at a0 yl; replace p12 := eq_true p12; replace q12 := eq_true q12; have p14 : 0 ≤ (yl : Int) := ode ram; have q14 : yl < (a0.size : Int) := ode ram; have Ui := bt_at a0 yl; replace p14 := eq_true p14; replace q14 := eq_true q14; go_wp2; go_ret; exact ⟨rad, rag⟩
   subst c9; replace H := ifT H; obtain rfl := Option.some.inj H; go_wp2; go_ret; exact ⟨rad, rag⟩
def strings_Contains.f (a0 : ByteArray) (a1 : ByteArray) : Option (Bool) := match a1.data.toList with
 | [c] => some (decide (0 ≤ Go.Lib.indexByte a0.data.toList c))
 | _ => none
theorem strings_Contains.calls (a0 : ByteArray) (a1 : ByteArray) (r : Bool) (w : World) (h : strings_Contains.f a0 a1 = some r) :
  Calls prog 76 #[.string a0, .string a1] w fun e w' => e = .returned (.bool r) ∧ bR_ w w' := by
 obtain ⟨d⟩ := a1; obtain ⟨l⟩ := d
 match l, h with
 | [c], h =>
  obtain rfl := Option.some.inj h; refine (Go.Proofs.Tryz.strings_Contains_one a0 c w).mono ?_; rintro e w' ⟨rfl, rfl⟩; exact ⟨rfl, bR_.refl _⟩
def bo_.f (k : Nat) (a0_0 : ByteArray) (a0_1 : ByteArray) (a0_2 : ByteArray) : Option (Bool) := (al_.f k a0_0).bind fun zy => (if zy = true then ((al_.f k a0_1).bind fun zY => (if zY = true then (if (a0_2.size : Int) ≤ 400 then ((strings_Contains.f a0_2 (⟨#[10]⟩ : ByteArray)).bind fun zi => (some (!zi))) else (some false)) else (some false))) else (some false))
theorem bo_.calls (k : Nat) (a0_0 : ByteArray) (a0_1 : ByteArray) (a0_2 : ByteArray) (r : Bool) (w : World) (h : bo_.f k a0_0 a0_1 a0_2 = some r) :
  Calls prog 44 #[.agg #[.string a0_0, .string a0_1, .string a0_2]] w fun e w' => e = .returned (.bool r) ∧ Below w.heap.size w w' := by
 have hu60 := underlying60; have HB := ak (Below.refl w.heap.size w); have H : ((al_.f k a0_0).bind fun zy => (if zy = true then ((al_.f k a0_1).bind fun zY => (if zY = true then (if (a0_2.size : Int) ≤ 400 then ((strings_Contains.f a0_2 (⟨#[10]⟩ : ByteArray)).bind fun zi => (some (!zi))) else (some false)) else (some false))) else (some false))) = some r := h; clear h; revert H; refine biB ?_; intro zy A2 H; (try dsimp only at H); by_cases c3 : zy = true; rotate_left
 ·replace c3 := Bool.eq_false_iff.mpr c3; subst c3; replace H := ifF H; obtain rfl := Option.some.inj H; go_enter func44, ntmps44; go_wp2_with (first | ((with_reducible refine bp_ (N := 1) rfl ?_); (try (refine dn_ rbj ?_; dsimp only)); refine dx_ ?hg (N := 1) ?hd (cs := #[.string a0_0, .string a0_1, .string a0_2]) (t := 60) ?hr ?_; (case hd => rfl); (case hg => rfl); (case hr => (go_simp; try rfl)); intro zz hg w14 hbox hb; have z8 := ak (hbox); have y5 := ak ((raq : w.heap.size ≤ zz)); have xS := y5; replace HB := ak (ac_ (bz HB.1) hb); clear hb hbox hg; obtain ⟨nK, nJ, nI⟩ := cz3_ z8.1; obtain ⟨lH, lG, lF⟩ := fz3_ z8.1) | (refine gL 75 5 func75 #[.string a0_0] ?_; (with_reducible refine (al_.calls k a0_0 false _ A2.1).mono ?_); rintro e w' ⟨rfl, ⟨nd, rfl⟩⟩; refine ⟨_, rfl, ?_⟩)); go_ret; exact ⟨raf, bq⟩
 subst c3; replace H := ifT H; revert H; refine biB ?_; intro zY A4 H; (try dsimp only at H); by_cases c5 : zY = true; rotate_left
 ·replace c5 := Bool.eq_false_iff.mpr c5; subst c5; replace H := ifF H; obtain rfl := Option.some.inj H; go_enter func44, ntmps44; go_wp2_with (first | ((with_reducible refine bp_ (N := 1) rfl ?_); (try (refine dn_ rbj ?_; dsimp only)); refine dx_ ?hg (N := 1) ?hd (cs := #[.string a0_0, .string a0_1, .string a0_2]) (t := 60) ?hr ?_; (case hd => rfl); (case hg => rfl); (case hr => (go_simp; try rfl)); intro zz hg w12 hbox hb; have z8 := ak (hbox); have y5 := ak ((raq : w.heap.size ≤ zz)); have xS := y5; replace HB := ak (ac_ (bz HB.1) hb); clear hb hbox hg; obtain ⟨lD, lC, ky⟩ := cz3_ z8.1; obtain ⟨kw, kv, ku⟩ := fz3_ z8.1) | (refine gL 75 5 func75 #[.string a0_0] ?_; (with_reducible refine (al_.calls k a0_0 true _ A2.1).mono ?_); rintro e w' ⟨rfl, ⟨nd, rfl⟩⟩; refine ⟨_, rfl, ?_⟩) | (go_at_call 75; (with_reducible refine (al_.calls k a0_1 false _ A4.1).mono ?_); rintro e w' ⟨rfl, ⟨nd, rfl⟩⟩)); go_ret; exact ⟨raf, bq⟩
 subst c5; replace H := ifT H; revert H; refine itPP ?_ ?_; rotate_left
 ·intro c6 H; have xG : decide ((a0_2.size : Int) ≤ 400) = false := def_ c6; have sK : decide (a0_2.size ≤ 400) = false := def_ rae; clear c6; obtain rfl := Option.some.inj H; go_enter func44, ntmps44; go_wp2_with (first | ((with_reducible refine bp_ (N := 1) rfl ?_); (try (refine dn_ rbj ?_; dsimp only)); refine dx_ ?hg (N := 1) ?hd (cs := #[.string a0_0, .string a0_1, .string a0_2]) (t := 60) ?hr ?_; (case hd => rfl); (case hg => rfl); (case hr => (go_simp; try rfl)); intro zz hg w10 hbox hb; have z8 := ak (hbox); have y5 := ak ((raq : w.heap.size ≤ zz)); have xS := y5; replace HB := ak (ac_ (bz HB.1) hb); clear hb hbox hg; obtain ⟨jk, ji, jh⟩ := cz3_ z8.1; obtain ⟨dZ, jg, je⟩ := fz3_ z8.1) | (refine gL 75 5 func75 #[.string a0_0] ?_; (with_reducible refine (al_.calls k a0_0 true _ A2.1).mono ?_); rintro e w' ⟨rfl, ⟨nd, rfl⟩⟩; refine ⟨_, rfl, ?_⟩) | (go_at_call 75; (with_reducible refine (al_.calls k a0_1 true _ A4.1).mono ?_); rintro e w' ⟨rfl, ⟨nd, rfl⟩⟩)); go_ret; exact ⟨raf, bq⟩
 intro c6 H; have xG : decide ((a0_2.size : Int) ≤ 400) = true := det c6; have sK : decide (a0_2.size ≤ 400) = true := det rae; clear c6; revert H; refine biB ?_; intro zi A7 H; (try dsimp only at H); obtain rfl := Option.some.inj H; go_enter func44, ntmps44; go_wp2_with (first | ((with_reducible refine bp_ (N := 1) rfl ?_); (try (refine dn_ rbj ?_; dsimp only)); refine dx_ ?hg (N := 1) ?hd (cs := #[.string a0_0, .string a0_1, .string a0_2]) (t := 60) ?hr ?_; (case hd => rfl); (case hg => rfl); (case hr => (go_simp; try rfl)); intro zz hg w8 hbox hb; have z8 := ak (hbox); have y5 := ak ((raq : w.heap.size ≤ zz)); have xS := y5; replace HB := ak (ac_ (bz HB.1) hb); clear hb hbox hg; obtain ⟨fT, fQ, fP⟩ := cz3_ z8.1; obtain ⟨ZA, fO, fM⟩ := fz3_ z8.1) | (refine gL 75 5 func75 #[.string a0_0] ?_; (with_reducible refine (al_.calls k a0_0 true _ A2.1).mono ?_); rintro e w' ⟨rfl, ⟨nd, rfl⟩⟩; refine ⟨_, rfl, ?_⟩) | (go_at_call 75; (with_reducible refine (al_.calls k a0_1 true _ A4.1).mono ?_); rintro e w' ⟨rfl, ⟨nd, rfl⟩⟩) | (go_at_call 76; (with_reducible refine (strings_Contains.calls a0_2 (⟨#[10]⟩ : ByteArray) zi _ A7.1).mono ?_); rintro e w' ⟨rfl, ⟨nd, rfl⟩⟩)); go_ret; exact ⟨raf, bq⟩
def aq_.l0 : Nat → List (S60) → List (S60) → Int → Int → Option (Bool)
 | 0, _, _, _, _ => none
 | k + 1, x0, x5, x6, x7 => if x7 < x6 then (if 0 ≤ x7 then (if x7 < (x5.length : Int) then ((bo_.f k ((ab_ x5 x7).f0) ((ab_ x5 x7).f1) ((ab_ x5 x7).f2)).bind fun zY => (if zY = true then (if x7 > 0 then (if 0 ≤ (wrap64 (x7 - 1)) then (if (wrap64 (x7 - 1)) < (x0.length : Int) then ((bi_.f ((ab_ x0 (wrap64 (x7 - 1))).f0) ((ab_ x0 (wrap64 (x7 - 1))).f1) ((ab_ x0 (wrap64 (x7 - 1))).f2) ((ab_ x5 x7).f0) ((ab_ x5 x7).f1) ((ab_ x5 x7).f2)).bind fun t105 => (if t105 ≥ 0 then (some false) else (aq_.l0 k x0 x5 x6 (wrap64 (x7 + 1))))) else (none)) else (none)) else (aq_.l0 k x0 x5 x6 (wrap64 (x7 + 1)))) else (some false))) else (none)) else (none)) else (some (decide ((x0.length : Int) ≤ 32)))
def aq_.f (k : Nat) (l0 : List (S60)) : Option (Bool) := aq_.l0 k l0 l0 (l0.length : Int) 0
def aq_.T4 : Bool × List (List Nat × List Nat) := (true, [([], []), ([0], [0]), ([1], [1]), ([2, 1], [2]), ([3], [3]), ([4, 3], [3, 4]), ([5, 3, 3], [3, 5]), ([6], [6]), ([6], [6]), ([8, 6], [6, 8]), ([7, 9, 6], [6, 7, 9]), ([10, 6], [6, 10]), ([6], [6]), ([11, 12, 6, 6], [6, 11, 12]), ([13, 6], [6, 13]), ([6, 14, 3], [3, 6, 14]), ([3, 15], [3, 15])])
def aq_.B4 : List Nat := [0, 1, 3, 7, 15, 31, 63, 127, 127, 383, 1023, 2047, 127, 8191, 16383, 32767, 65535]
theorem aq_.tab4 : rtab .any (opsOf Tryz.f20 4) = aq_.T4 := by kernel_rfl
theorem aq_.bits4 : cw_ aq_.T4.2 aq_.B4 = true := by kernel_rfl
theorem aq_.calls (k : Nat) (A0 : Option Addr) (c0 : Nat) (l0 : List (S60)) (r : Bool) (w : World) (hr0 : Kd.C k60 w A0 l0.length l0) (hc0 : l0.length ≤ c0) (h : aq_.f k l0 = some r) :
  Calls prog 20 #[.slice A0 l0.length c0] w fun e w' => e = .returned (.bool r) ∧ Below w.heap.size w w' := by
 have hu60 := underlying60; have HR0 := ak hr0; have HC0 := ak hc0; clear hr0 hc0; have HB := ak (Below.refl w.heap.size w); have H : (aq_.l0 k l0 l0 (l0.length : Int) 0) = some r := h; clear h; have H' := ak H; clear H; go_enter func20, ntmps20; go_wp2; (try simp only [Act.put, lsa_, ls0_, ls1_])
 go_loopg [7] k (fun kq v7 w' => ∃ (zx : Int), v7 = .int .i64 zx ∧ Aside0 (aq_.l0 kq l0 l0 (l0.length : Int) zx = some r) ∧ Aside0 (kq ≤ k) ∧ Aside0 (Below w.heap.size w w'))
 case atStart => exact ⟨(0), rad, H', ⟨Nat.le_refl _⟩, ⟨bz HB.1⟩⟩
 case round =>
  clear H'; obtain ⟨zx, rfl, HA, HK1, HB⟩ := hrel
  cases gk with
  | zero => exact absurd HA.1 (by simp [aq_.l0])
  | succ k1 =>
   have H := HA.1; clear HA; simp only [aq_.l0] at H; revert H; refine itDD ?_ ?_; rotate_left
   ·intro ug H; obtain rfl := Option.some.inj H; go_wp2; go_ret; exact ⟨raf, bz HB.1⟩
   intro ug H; revert H; refine itDN ?_; intro xP H; revert H; refine itDN ?_; intro wh H; revert H; refine biB ?_; intro zY A5 H; (try dsimp only at H); by_cases c6 : zY = true; rotate_left
   ·replace c6 := Bool.eq_false_iff.mpr c6; subst c6; replace H := ifF H; obtain rfl := Option.some.inj H; obtain ⟨zu, rfl, zU, zA, y9, xR, xQ⟩ := cp_ HR0.1 HB.1 zx
    try go_wp2_with (first | (refine bxE 4 60 #[.string (⟨#[]⟩ : ByteArray), .string (⟨#[]⟩ : ByteArray), .string (⟨#[]⟩ : ByteArray)] ?_; intro zo hg w25 hbox hb; have zn := ak (hbox); have si := ak ((raq : w.heap.size ≤ zo)); have qy := si; replace HB := ak (ac_ (bz HB.1) hb); clear hb hbox hg; obtain ⟨nY, nX, nW⟩ := cz3_ zn.1; obtain ⟨nV, nU, nT⟩ := fz3_ zn.1))
    have n0_ : Aside0 ((((w25.setCell ⟨zo, 0, none⟩ (.string ((ab_ l0 zx).f0))).setCell ⟨zo, 1, none⟩ (.string ((ab_ l0 zx).f1))).setCell ⟨zo, 2, none⟩ (.string ((ab_ l0 zx).f2))).heap[zo]? = some (.cells #[.string ((ab_ l0 zx).f0), .string ((ab_ l0 zx).f1), .string ((ab_ l0 zx).f2)] 60 (0, 0))) := ⟨(by exact kj3_2 (kj3_1 (kj3_0 (kz zn.1))))⟩; have n1_ : Aside0 (Below w.heap.size w (((w25.setCell ⟨zo, 0, none⟩ (.string ((ab_ l0 zx).f0))).setCell ⟨zo, 1, none⟩ (.string ((ab_ l0 zx).f1))).setCell ⟨zo, 2, none⟩ (.string ((ab_ l0 zx).f2)))) := ⟨bq⟩; (try clear zn); (try clear HB); generalize (((w25.setCell ⟨zo, 0, none⟩ (.string ((ab_ l0 zx).f0))).setCell ⟨zo, 1, none⟩ (.string ((ab_ l0 zx).f1))).setCell ⟨zo, 2, none⟩ (.string ((ab_ l0 zx).f2))) = w27 at n0_ n1_ ⊢; have zn := n0_; have HB := n1_; clear n0_ n1_; replace zn := ak (aL_ zn.1); replace HB := ak (bD_ HB.1); refine cJ_ (n := 17) (S := fun w' => w'.cell? ⟨zo, 0, none⟩ = some (.string ((ab_ l0 zx).f0)) ∧ w'.cell? ⟨zo, 1, none⟩ = some (.string ((ab_ l0 zx).f1)) ∧ w'.cell? ⟨zo, 2, none⟩ = some (.string ((ab_ l0 zx).f2))) (ds := []) (tb 0 17) ras rfl rfl ⟨(ad_ zn.1 0).trans rfl, (ad_ zn.1 1).trans rfl, (ad_ zn.1 2).trans rfl⟩ (fun hHeld => ?_); refine bU_ aq_.tab4 aq_.bits4 (fun HT_ HW_ => ?_); generalize w27.drew = w28 at zn HB hHeld ⊢; refine tk 0 12 (tb 1 16) HT_ HW_ hHeld ?_ (hv := by rintro w' ⟨s0, s1, s2⟩; go_simp; with_reducible rfl); refine on_ 1 13 (tb 2 15) HT_ (fun K hK => ?_); (first | refine gs_ func44 #[.agg #[.string ((ab_ l0 zx).f0), .string ((ab_ l0 zx).f1), .string ((ab_ l0 zx).f2)]] ?_ | refine gsV_ func44 #[.agg #[.string ((ab_ l0 zx).f0), .string ((ab_ l0 zx).f1), .string ((ab_ l0 zx).f2)]] ?_ | refine gsC_ func44 #[.agg #[.string ((ab_ l0 zx).f0), .string ((ab_ l0 zx).f1), .string ((ab_ l0 zx).f2)]] ?_); with_reducible refine (bo_.calls k1 ((ab_ l0 zx).f0) ((ab_ l0 zx).f1) ((ab_ l0 zx).f2) false _ A5.1).mono ?_
    rintro e w29 ⟨rfl, hb⟩; refine ⟨_, rfl, ?_⟩; replace zn := ak (ai_ (kz zn.1) hb); replace HB := ak (ac_ (bq) hb); (try clear hb); refine hK.out _ _ ⟨(ad_ zn.1 0).trans rfl, (ad_ zn.1 1).trans rfl, (ad_ zn.1 2).trans rfl⟩ (fun hHeld => ?_); clear hK K; refine nm_ 13 ?_; refine pu 2 14 (tb 3 14) HT_ ?_; refine pu 3 15 (tb 4 13) HT_ ?_; refine pn 4 16 (tb 5 12) HT_ ?_; refine pn 5 17 (tb 6 11) HT_ ?_; refine pn 6 18 (tb 7 10) HT_ ?_; refine pn 7 19 (tb 8 9) HT_ ?_; refine pn 8 20 (tb 9 8) HT_ ?_; refine pn 9 21 (tb 10 7) HT_ ?_; refine pn 10 22 (tb 11 6) HT_ ?_; refine pn 11 23 (tb 12 5) HT_ ?_; refine pn 12 24 (tb 13 4) HT_ ?_; refine pn 13 25 (tb 14 3) HT_ ?_; refine pn 14 26 (tb 15 2) HT_ ?_; refine pn 15 27 (tb 16 1) HT_ ?_; refine pu 16 28 (tb 17 0) HT_ ?_; refine done_ (ct_ HT_.1 ras) ?_
    try go_wp2
    go_ret; exact ⟨raf, bq⟩
   subst c6; replace H := ifT H; revert H; refine itDD ?_ ?_; rotate_left
   ·intro yE H; have H' := ak H; clear H; obtain ⟨zu, rfl, zU, zA, y9, xR, xQ⟩ := cp_ HR0.1 HB.1 zx
    try go_wp2_with (first | (refine bxE 4 60 #[.string (⟨#[]⟩ : ByteArray), .string (⟨#[]⟩ : ByteArray), .string (⟨#[]⟩ : ByteArray)] ?_; intro zo hg w20 hbox hb; have zn := ak (hbox); have si := ak ((raq : w.heap.size ≤ zo)); have qy := si; replace HB := ak (ac_ (bz HB.1) hb); clear hb hbox hg; obtain ⟨nH, nG, nE⟩ := cz3_ zn.1; obtain ⟨nD, nC, mr⟩ := fz3_ zn.1))
    have n0_ : Aside0 ((((w20.setCell ⟨zo, 0, none⟩ (.string ((ab_ l0 zx).f0))).setCell ⟨zo, 1, none⟩ (.string ((ab_ l0 zx).f1))).setCell ⟨zo, 2, none⟩ (.string ((ab_ l0 zx).f2))).heap[zo]? = some (.cells #[.string ((ab_ l0 zx).f0), .string ((ab_ l0 zx).f1), .string ((ab_ l0 zx).f2)] 60 (0, 0))) := ⟨(by exact kj3_2 (kj3_1 (kj3_0 (kz zn.1))))⟩; have n1_ : Aside0 (Below w.heap.size w (((w20.setCell ⟨zo, 0, none⟩ (.string ((ab_ l0 zx).f0))).setCell ⟨zo, 1, none⟩ (.string ((ab_ l0 zx).f1))).setCell ⟨zo, 2, none⟩ (.string ((ab_ l0 zx).f2)))) := ⟨bq⟩; (try clear zn); (try clear HB); generalize (((w20.setCell ⟨zo, 0, none⟩ (.string ((ab_ l0 zx).f0))).setCell ⟨zo, 1, none⟩ (.string ((ab_ l0 zx).f1))).setCell ⟨zo, 2, none⟩ (.string ((ab_ l0 zx).f2))) = w22 at n0_ n1_ ⊢; have zn := n0_; have HB := n1_; clear n0_ n1_; replace zn := ak (aL_ zn.1); replace HB := ak (bD_ HB.1); refine cJ_ (n := 17) (S := fun w' => w'.cell? ⟨zo, 0, none⟩ = some (.string ((ab_ l0 zx).f0)) ∧ w'.cell? ⟨zo, 1, none⟩ = some (.string ((ab_ l0 zx).f1)) ∧ w'.cell? ⟨zo, 2, none⟩ = some (.string ((ab_ l0 zx).f2))) (ds := []) (tb 0 17) ras rfl rfl ⟨(ad_ zn.1 0).trans rfl, (ad_ zn.1 1).trans rfl, (ad_ zn.1 2).trans rfl⟩ (fun hHeld => ?_); refine bU_ aq_.tab4 aq_.bits4 (fun HT_ HW_ => ?_); generalize w22.drew = w23 at zn HB hHeld ⊢; refine tk 0 12 (tb 1 16) HT_ HW_ hHeld ?_ (hv := by rintro w' ⟨s0, s1, s2⟩; go_simp; with_reducible rfl); refine on_ 1 13 (tb 2 15) HT_ (fun K hK => ?_); (first | refine gs_ func44 #[.agg #[.string ((ab_ l0 zx).f0), .string ((ab_ l0 zx).f1), .string ((ab_ l0 zx).f2)]] ?_ | refine gsV_ func44 #[.agg #[.string ((ab_ l0 zx).f0), .string ((ab_ l0 zx).f1), .string ((ab_ l0 zx).f2)]] ?_ | refine gsC_ func44 #[.agg #[.string ((ab_ l0 zx).f0), .string ((ab_ l0 zx).f1), .string ((ab_ l0 zx).f2)]] ?_); with_reducible refine (bo_.calls k1 ((ab_ l0 zx).f0) ((ab_ l0 zx).f1) ((ab_ l0 zx).f2) true _ A5.1).mono ?_
    rintro e w24 ⟨rfl, hb⟩; refine ⟨_, rfl, ?_⟩; replace zn := ak (ai_ (kz zn.1) hb); replace HB := ak (ac_ (bq) hb); (try clear hb); refine hK.out _ _ ⟨(ad_ zn.1 0).trans rfl, (ad_ zn.1 1).trans rfl, (ad_ zn.1 2).trans rfl⟩ (fun hHeld => ?_); clear hK K; refine nm_ 13 ?_; refine pu 2 14 (tb 3 14) HT_ ?_; refine pu 3 15 (tb 4 13) HT_ ?_; refine pu 4 16 (tb 5 12) HT_ ?_; refine pu 5 17 (tb 6 11) HT_ ?_; refine pu 6 18 (tb 7 10) HT_ ?_; refine pn 7 19 (tb 8 9) HT_ ?_; refine pn 8 20 (tb 9 8) HT_ ?_; refine pn 9 21 (tb 10 7) HT_ ?_; refine pn 10 22 (tb 11 6) HT_ ?_; refine pn 11 23 (tb 12 5) HT_ ?_; refine pn 12 24 (tb 13 4) HT_ ?_; refine pn 13 25 (tb 14 3) HT_ ?_; refine pn 14 26 (tb 15 2) HT_ ?_; refine pu 15 27 (tb 16 1) HT_ ?_; refine pu 16 28 (tb 17 0) HT_ ?_; refine done_ (ct_ HT_.1 ras) ?_
    try go_wp2
    go_roundg k1
    case measure => have := HK1.1; omega
    case rel => exact ⟨(wrap64 (zx + 1)), rad, H', ⟨by have := HK1.1; omega⟩, ⟨bq⟩⟩
   intro yE H; obtain ⟨ji8, hji8⟩ : ∃ j_ : Int, (wrap64 (zx - 1)) = j_ := ⟨_, rfl⟩; replace H : (if 0 ≤ (ji8) then (if (ji8) < (l0.length : Int) then ((bi_.f ((ab_ l0 (ji8)).f0) ((ab_ l0 (ji8)).f1) ((ab_ l0 (ji8)).f2) ((ab_ l0 zx).f0) ((ab_ l0 zx).f1) ((ab_ l0 zx).f2)).bind fun t105 => (if t105 ≥ 0 then (some false) else (aq_.l0 k1 l0 l0 (l0.length : Int) (wrap64 (zx + 1))))) else (none)) else (none)) = some r := by first | (rw [hji8] at H; exact H) | (simp only [hji8] at H ⊢; exact H)
   (try rw [hji8] at A5); have hji8w : (IntKind.i64.wrap (zx - 1)) = ji8 := (i64_w _).trans hji8; revert H; refine itDN ?_; intro vX H; revert H; refine itDN ?_; intro xe H; revert H; refine biB ?_; intro t105 A11 H; (try dsimp only at H); have iY := ak H; clear H; obtain ⟨zu, rfl, zU, zA, y9, xR, xQ⟩ := cp_ HR0.1 HB.1 zx
   try go_wp2_with (first | (refine bxE 4 60 #[.string (⟨#[]⟩ : ByteArray), .string (⟨#[]⟩ : ByteArray), .string (⟨#[]⟩ : ByteArray)] ?_; intro zo hg w13 hbox hb; have zn := ak (hbox); have si := ak ((raq : w.heap.size ≤ zo)); have qy := si; replace HB := ak (ac_ (bz HB.1) hb); clear hb hbox hg; obtain ⟨tZ, tY, tX⟩ := cz3_ zn.1; obtain ⟨tV, tT, tQ⟩ := fz3_ zn.1))
   have n0_ : Aside0 ((((w13.setCell ⟨zo, 0, none⟩ (.string ((ab_ l0 zx).f0))).setCell ⟨zo, 1, none⟩ (.string ((ab_ l0 zx).f1))).setCell ⟨zo, 2, none⟩ (.string ((ab_ l0 zx).f2))).heap[zo]? = some (.cells #[.string ((ab_ l0 zx).f0), .string ((ab_ l0 zx).f1), .string ((ab_ l0 zx).f2)] 60 (0, 0))) := ⟨(by exact kj3_2 (kj3_1 (kj3_0 (kz zn.1))))⟩; have n1_ : Aside0 (Below w.heap.size w (((w13.setCell ⟨zo, 0, none⟩ (.string ((ab_ l0 zx).f0))).setCell ⟨zo, 1, none⟩ (.string ((ab_ l0 zx).f1))).setCell ⟨zo, 2, none⟩ (.string ((ab_ l0 zx).f2)))) := ⟨bq⟩; (try clear zn); (try clear HB); generalize (((w13.setCell ⟨zo, 0, none⟩ (.string ((ab_ l0 zx).f0))).setCell ⟨zo, 1, none⟩ (.string ((ab_ l0 zx).f1))).setCell ⟨zo, 2, none⟩ (.string ((ab_ l0 zx).f2))) = w15 at n0_ n1_ ⊢; have zn := n0_; have HB := n1_; clear n0_ n1_; replace zn := ak (aL_ zn.1); replace HB := ak (bD_ HB.1); have vK : 0 ≤ ((ji8) : Int) := ode ram; have vJ : (ji8) < (l0.length : Int) := ode ram; obtain ⟨vL, rG, yO, xn, xm⟩ := at_T60 HR0.1 (ji8) vK vJ; have wD := xm; have wC := xn; have wB := yO; obtain rfl : zu = vL := (by injection rG); replace yO := bu_ HB.1 yO; replace xn := bu_ HB.1 xn; replace xm := bu_ HB.1 xm; replace vK := eq_true vK; replace vJ := eq_true vJ; refine cJ_ (n := 17) (S := fun w' => w'.cell? ⟨zo, 0, none⟩ = some (.string ((ab_ l0 zx).f0)) ∧ w'.cell? ⟨zo, 1, none⟩ = some (.string ((ab_ l0 zx).f1)) ∧ w'.cell? ⟨zo, 2, none⟩ = some (.string ((ab_ l0 zx).f2)) ∧ w'.cell? (zu.add (((ji8)).toNat * 3)) = some (.string ((ab_ l0 (ji8)).f0)) ∧ w'.cell? ⟨(zu.add (((ji8)).toNat * 3)).block, (zu.add (((ji8)).toNat * 3)).off + 1, none⟩ = some (.string ((ab_ l0 (ji8)).f1)) ∧ w'.cell? ⟨(zu.add (((ji8)).toNat * 3)).block, (zu.add (((ji8)).toNat * 3)).off + 2, none⟩ = some (.string ((ab_ l0 (ji8)).f2))) (ds := []) (tb 0 17) ras rfl rfl ⟨(ad_ zn.1 0).trans rfl, (ad_ zn.1 1).trans rfl, (ad_ zn.1 2).trans rfl, (bv_ HB.1 wB), (bv_ HB.1 wC), (bv_ HB.1 wD)⟩ (fun hHeld => ?_); refine bU_ aq_.tab4 aq_.bits4 (fun HT_ HW_ => ?_); generalize w15.drew = w16 at zn HB yO xn xm hHeld ⊢; refine tk 0 12 (tb 1 16) HT_ HW_ hHeld ?_ (hv := by rintro w' ⟨s0, s1, s2, s3, s4, s5⟩; go_simp; with_reducible rfl); refine on_ 1 13 (tb 2 15) HT_ (fun K hK => ?_); (first | refine gs_ func44 #[.agg #[.string ((ab_ l0 zx).f0), .string ((ab_ l0 zx).f1), .string ((ab_ l0 zx).f2)]] ?_ | refine gsV_ func44 #[.agg #[.string ((ab_ l0 zx).f0), .string ((ab_ l0 zx).f1), .string ((ab_ l0 zx).f2)]] ?_ | refine gsC_ func44 #[.agg #[.string ((ab_ l0 zx).f0), .string ((ab_ l0 zx).f1), .string ((ab_ l0 zx).f2)]] ?_); with_reducible refine (bo_.calls k1 ((ab_ l0 zx).f0) ((ab_ l0 zx).f1) ((ab_ l0 zx).f2) true _ A5.1).mono ?_
   rintro e w17 ⟨rfl, hb⟩; refine ⟨_, rfl, ?_⟩; replace zn := ak (ai_ (kz zn.1) hb); replace HB := ak (ac_ (bq) hb); (try clear hb); refine hK.out _ _ ⟨(ad_ zn.1 0).trans rfl, (ad_ zn.1 1).trans rfl, (ad_ zn.1 2).trans rfl, (bv_ HB.1 wB), (bv_ HB.1 wC), (bv_ HB.1 wD)⟩ (fun hHeld => ?_); clear hK K; refine nm_ 13 ?_; refine pu 2 14 (tb 3 14) HT_ ?_; refine pu 3 15 (tb 4 13) HT_ ?_; refine pu 4 16 (tb 5 12) HT_ ?_; refine pu 5 17 (tb 6 11) HT_ ?_; refine pu 6 18 (tb 7 10) HT_ ?_; refine pu 7 19 (tb 8 9) HT_ ?_; refine pu 8 20 (tb 9 8) HT_ ?_; refine pu 9 21 (tb 10 7) HT_ ?_; refine pu 10 22 (tb 11 6) HT_ ?_; refine tk 11 23 (tb 12 5) HT_ HW_ hHeld ?_ (hv := by rintro w' ⟨s0, s1, s2, s3, s4, s5⟩; go_simp; with_reducible rfl); refine tk 12 24 (tb 13 4) HT_ HW_ hHeld ?_ (hv := by rintro w' ⟨s0, s1, s2, s3, s4, s5⟩; go_simp; with_reducible rfl); refine on_ 13 25 (tb 14 3) HT_ (fun K hK => ?_); (first | refine goes_ func31 ras rfl #[.agg #[.string ((ab_ l0 (ji8)).f0), .string ((ab_ l0 (ji8)).f1), .string ((ab_ l0 (ji8)).f2)], .agg #[.string ((ab_ l0 zx).f0), .string ((ab_ l0 zx).f1), .string ((ab_ l0 zx).f2)]] rbj rfl rfl rbd ?_ | refine RPW.goesV_ func31 ras rfl #[.agg #[.string ((ab_ l0 (ji8)).f0), .string ((ab_ l0 (ji8)).f1), .string ((ab_ l0 (ji8)).f2)], .agg #[.string ((ab_ l0 zx).f0), .string ((ab_ l0 zx).f1), .string ((ab_ l0 zx).f2)]] rbj rfl rfl rfl rbd ?_ | refine RPW.goesC_ func31 ras rfl #[.agg #[.string ((ab_ l0 (ji8)).f0), .string ((ab_ l0 (ji8)).f1), .string ((ab_ l0 (ji8)).f2)], .agg #[.string ((ab_ l0 zx).f0), .string ((ab_ l0 zx).f1), .string ((ab_ l0 zx).f2)]] rbj rfl rfl rfl rbd ?_); with_reducible refine (bi_.calls ((ab_ l0 (ji8)).f0) ((ab_ l0 (ji8)).f1) ((ab_ l0 (ji8)).f2) ((ab_ l0 zx).f0) ((ab_ l0 zx).f1) ((ab_ l0 zx).f2) t105 _ A11.1).mono ?_
   rintro e w18 ⟨rfl, hb⟩; refine ⟨_, rfl, ?_⟩; replace zn := ak (ai_ (kz zn.1) hb); replace HB := ak (ac_ (bq) hb); (try clear hb); refine hK.out _ _ ⟨(ad_ zn.1 0).trans rfl, (ad_ zn.1 1).trans rfl, (ad_ zn.1 2).trans rfl, (bv_ HB.1 wB), (bv_ HB.1 wC), (bv_ HB.1 wD)⟩ (fun hHeld => ?_); clear hK K; refine nm_ 25 ?_; refine pu 14 26 (tb 15 2) HT_ ?_; refine pu 15 27 (tb 16 1) HT_ ?_; refine pu 16 28 (tb 17 0) HT_ ?_; refine done_ (ct_ HT_.1 ras) ?_; go_upto_if 28 with (fail); have H := iY.1; clear iY; revert H; refine itDD ?_ ?_; rotate_left
   ·intro sS H; (first | rw [sS] | (simp only [i64_w, i32_w]; rw [sS]) | (simp only [Y9, nT_, nF_]) | (simp only [sS, nT_, nF_]) | skip); have H' := ak H; clear H; go_wp2
    go_roundg k1
    case measure => have := HK1.1; omega
    case rel => exact ⟨(wrap64 (zx + 1)), rad, H', ⟨by have := HK1.1; omega⟩, ⟨bq⟩⟩
   intro sS H; (first | rw [sS] | (simp only [i64_w, i32_w]; rw [sS]) | (simp only [Y9, nT_, nF_]) | (simp only [sS, nT_, nF_]) | skip); obtain rfl := Option.some.inj H; go_wp2; go_ret; exact ⟨(by first | rfl | (simp [cl_, cn_] <;> rfl) | (simp only [← hji8]; first | rfl | (simp [cl_, cn_] <;> rfl)) | (simp [*, cl_, cn_] <;> rfl)), bq⟩
end Go.Proofs.YtjebkmfljcanlaaGreatDoor.Q
namespace Go.Proofs.YtjebkmfljcanlaaGreatDoor.Q
open Go Go.RowKit
def Tab_ (w : World) : Prop := (Lib.TabIs Tryz.prog w "internal/strconv.uint64pow10" .u64 Lib.pow10Tab) ∧ (∃ m : Int, w.cell? ⟨0, 0, none⟩ = some (.int .i64 m))
theorem aI_ {w w' : World} (h : Tab_ w) (hb : Below w.heap.size w w') : Tab_ w' := by
 obtain ⟨h1, h2⟩ := h
 refine ⟨?_, ?_⟩
 ·have h3 := h1
  unfold Lib.TabIs World.var? at h3
  obtain ⟨g, hg, h4⟩ := Option.bind_eq_some_iff.1 h3
  refine var?_below hb hg ?_ h1
  split at h4
  ·rename_i hh
   exact (Array.getElem?_eq_some_iff.1 hh).1
  ·cases h4
 ·obtain ⟨m, hm⟩ := h2
  exact ⟨m, (hb.cell (bl_ w _ hm)).trans hm⟩
end Go.Proofs.YtjebkmfljcanlaaGreatDoor.Q
namespace Go.Proofs.YtjebkmfljcanlaaGreatDoor.Q
open Go.RowKit Go.Proofs.YtjebkmfljcanlaaGreatDoorW.PrintWords Go.Proofs.YtjebkmfljcanlaaGreatDoorW.PrintLast Go.Proofs.YtjebkmfljcanlaaGreatDoorW.PrintMore Go.Proofs.Tryz
attribute [local go_sem] ay_ ax_ aE_ aD_ an_ ao_ aw_ av_
def ce_.f (a0 : Int) (a1 : Int) : Option (ByteArray) := if a1 = 10 ∧ -9223372036854775808 ≤ a0 ∧ a0 ≤ 9223372036854775807 then some (⟨(Go.Lib.itoa a0).toArray⟩ : ByteArray) else none
theorem ce_.calls (a0 : Int) (a1 : Int) (r : ByteArray) (w : World) (hTab_ : Tab_ w) (h : ce_.f a0 a1 = some r) :
  Calls prog 46 #[.int .i64 a0, .int .i64 a1] w fun e w' => e = .returned (.string r) ∧ Below w.heap.size w w' := by
 unfold ce_.f at h
 split at h
 case isFalse => cases h
 rename_i hc; obtain ⟨rfl, h0, h1⟩ := hc; obtain rfl := Option.some.inj h; refine (Go.Proofs.Tryz.strconv_FormatInt_10 a0 h0 h1 w hTab_.1).mono ?_; rintro e w' ⟨rfl, k, os, rfl⟩; exact ⟨rfl, Go.Lib.below_grow _ _ (Nat.le_refl _) _ _⟩
def bh_.f (a0 : Int) : Option (ByteArray) := (ce_.f a0 10).bind fun zh => (some zh)
theorem bh_.calls (a0 : Int) (r : ByteArray) (w : World) (hTab_ : Tab_ w) (h : bh_.f a0 = some r) :
  Calls prog 22 #[.int .i64 a0] w fun e w' => e = .returned (.string r) ∧ Below w.heap.size w w' := by
 have HTab_ := ak hTab_; clear hTab_; have HB := ak (Below.refl w.heap.size w); have H : ((ce_.f a0 10).bind fun zh => (some zh)) = some r := h; clear h; revert H; refine biB ?_; intro zh A2 H; (try dsimp only at H); obtain rfl := Option.some.inj H; go_enter func22, ntmps22; go_wp2_with (first | (refine gL 46 4 func46 #[.int .i64 a0, .int .i64 10] ?_; (with_reducible refine (ce_.calls a0 10 zh _ ?zw A2.1).mono ?_); (case zw => exact aI_ HTab_.1 (bz HB.1)); rintro e w3 ⟨rfl, hb⟩; refine ⟨_, rfl, ?_⟩; replace HB := ak (ac_ (bz HB.1) hb); (try clear hb))); go_ret; exact ⟨raf, bz HB.1⟩
def as_.f (a0 : Int) (a1 : Int) (a2 : Int) : Option (Bool) := if a0 ≥ a1 then (some (decide (a0 ≤ a2))) else (some false)
theorem as_.calls (a0 : Int) (a1 : Int) (a2 : Int) (r : Bool) (w : World) (h : as_.f a0 a1 a2 = some r) :
  Calls prog 29 #[.int .i64 a0, .int .i64 a1, .int .i64 a2] w fun e w' => e = .returned (.bool r) ∧ bR_ w w' := by
 have H : (if a0 ≥ a1 then (some (decide (a0 ≤ a2))) else (some false)) = some r := h; clear h; revert H; refine itDD ?_ ?_; rotate_left
 ·intro wh H; obtain rfl := Option.some.inj H; go_enter func29, ntmps29; go_wp2; go_ret; exact ⟨rad, rag⟩
 intro wh H; obtain rfl := Option.some.inj H; go_enter func29, ntmps29; go_wp2; go_ret; exact ⟨rad, rag⟩
mutual
def bw_.l0 : Nat → ByteArray → Int → Int → Option (Int)
 | 0, _, _, _ => none
 | k + 1, x0, x5, x6 => if x6 < (x0.size : Int) then (if 0 ≤ x6 then (bw_.l1 k x0 (Go.bits .xor .i64 x5 (wrap64 ((wrap64 (bt x0 x6)) * 256))) x6 0) else (none)) else (some x5)
def bw_.l1 : Nat → ByteArray → Int → Int → Int → Option (Int)
 | 0, _, _, _, _ => none
 | k + 1, x0, x5, x6, x7 => if x7 < 8 then (if (wrap64 (x5 * 2)) > 65535 then (bw_.l1 k x0 (Go.bits .xor .i64 (Go.bits .and .i64 (wrap64 (x5 * 2)) 65535) 4129) x6 (wrap64 (x7 + 1))) else (bw_.l1 k x0 (wrap64 (x5 * 2)) x6 (wrap64 (x7 + 1)))) else (bw_.l0 k x0 x5 (wrap64 (x6 + 1)))
end
def bw_.f (k : Nat) (a0 : ByteArray) (a1 : Int) : Option (Int) := (as_.f a1 0 65535).bind fun zh => (if zh = true then (bw_.l0 k a0 a1 0) else (some 0))
theorem bw_.calls (k : Nat) (a0 : ByteArray) (a1 : Int) (r : Int) (w : World) (h : bw_.f k a0 a1 = some r) :
  Calls prog 47 #[.string a0, .int .i64 a1] w fun e w' => e = .returned (.int .i64 r) ∧ bR_ w w' := by
 have H : ((as_.f a1 0 65535).bind fun zh => (if zh = true then (bw_.l0 k a0 a1 0) else (some 0))) = some r := h; clear h; revert H; refine biB ?_; intro zh A3 H; (try dsimp only at H); have HC4 := ak H; clear H; go_enter func47, ntmps47; go_upto_if 10 with (first | (refine gL 29 9 func29 #[.int .i64 a1, .int .i64 0, .int .i64 65535] ?_; (with_reducible refine (as_.calls a1 0 65535 zh _ A3.1).mono ?_); rintro e w' ⟨rfl, ⟨nd, rfl⟩⟩; refine ⟨_, rfl, ?_⟩)); (try simp only [Act.put, lsa_, ls0_, ls1_]); have H := HC4.1; clear HC4; by_cases c5 : zh = true; rotate_left
 ·replace c5 := Bool.eq_false_iff.mpr c5; subst c5; replace H := ifF H; obtain rfl := Option.some.inj H; go_wp2; go_ret; exact ⟨rad, rag⟩
 subst c5; replace H := ifT H; have H' := ak H; clear H; go_wp2; (try simp only [Act.put, lsa_, ls0_, ls1_])
 go_loopg [5, 6] k (fun kq v5 v6 w' => ∃ (yz : Int) (xk : Int), v5 = .int .i64 yz ∧ v6 = .int .i64 xk ∧ Aside0 (bw_.l0 kq a0 yz xk = some r) ∧ Aside0 (kq ≤ k) ∧ bR_ w w')
 case atStart => exact ⟨(a1), (0), rad, rad, H', ⟨Nat.le_refl _⟩, rag⟩
 case round =>
  clear H'; obtain ⟨yz, xk, rfl, rfl, HA, HK1, ⟨m1, rfl⟩⟩ := hrel
  cases gk with
  | zero => exact absurd HA.1 (by simp [bw_.l0])
  | succ k1 =>
   have H := HA.1; clear HA; simp only [bw_.l0] at H; revert H; refine itDD ?_ ?_; rotate_left
   ·intro xG H; (first | rw [xG] | (simp only [i64_w, i32_w]; rw [xG]) | (simp only [sK, nT_, nF_]) | (simp only [xG, nT_, nF_]) | skip); obtain rfl := Option.some.inj H; go_wp2; go_ret; exact ⟨rad, rag⟩
   intro xG H; (first | rw [xG] | (simp only [i64_w, i32_w]; rw [xG]) | (simp only [sK, nT_, nF_]) | (simp only [xG, nT_, nF_]) | skip); revert H; refine itDN ?_; intro yE H; have H' := ak H; clear H; have p8 : 0 ≤ (xk : Int) := ode ram; have q8 : xk < (a0.size : Int) := ode ram; have hx8 := bt_at a0 xk; replace p8 := eq_true p8; replace q8 := eq_true q8; go_wp2; (try simp only [Act.put, lsa_, ls0_, ls1_])
   go_loopg [5, 7] k1 (fun kq v5 v7 w' => ∃ (wN : Int) (Y8 : Int), v5 = .int .i64 wN ∧ v7 = .int .i64 Y8 ∧ Aside0 (bw_.l1 kq a0 wN xk Y8 = some r) ∧ Aside0 (kq ≤ k1) ∧ bR_ w w')
   case atStart => exact ⟨(Go.bits .xor .i64 yz (wrap64 ((wrap64 (bt a0 xk)) * 256))), (0), rad, rad, H', ⟨Nat.le_refl _⟩, rag⟩
   case round =>
    clear H'; obtain ⟨wN, Y8, rfl, rfl, HA, HK2, ⟨m2, rfl⟩⟩ := hrel
    cases gk with
    | zero => exact absurd HA.1 (by simp [bw_.l1])
    | succ k2 =>
     have H := HA.1; clear HA; simp only [bw_.l1] at H; revert H; refine itDD ?_ ?_; rotate_left
     ·intro vX H; have H' := ak H; clear H; go_wp2
      go_roundg k2
      case measure => have := HK1.1; have := HK2.1; omega
      case rel => exact ⟨(wN), (wrap64 (xk + 1)), rad, rad, H', ⟨by have := HK1.1; have := HK2.1; omega⟩, rag⟩
     intro vX H; revert H; refine itDD ?_ ?_; rotate_left
     ·intro xe H; have H' := ak H; clear H; go_wp2
      go_roundg k2
      case measure => have := HK1.1; have := HK2.1; omega
      case rel => exact ⟨(wrap64 (wN * 2)), (wrap64 (Y8 + 1)), rad, rad, H', ⟨by have := HK1.1; have := HK2.1; omega⟩, rag⟩
     intro xe H; have H' := ak H; clear H; go_wp2
     go_roundg k2
     case measure => have := HK1.1; have := HK2.1; omega
     case rel => exact ⟨(Go.bits .xor .i64 (Go.bits .and .i64 (wrap64 (wN * 2)) 65535) 4129), (wrap64 (Y8 + 1)), rad, rad, H', ⟨by have := HK1.1; have := HK2.1; omega⟩, rag⟩
def bM_.f (k : Nat) (a0 : ByteArray) : Option (ByteArray) := (bw_.f k a0 65535).bind fun zh => ((bh_.f zh).bind fun zy => (if 0 ≤ (zy.size : Int) then (if (zy.size : Int) ≤ 5 then (if ((⟨#[48, 48, 48, 48, 48]⟩ : ByteArray).extract ((zy.size : Int) : Int).toNat (⟨#[48, 48, 48, 48, 48]⟩ : ByteArray).size).size + zy.size ≤ 9223372036854775807 then (some (((⟨#[48, 48, 48, 48, 48]⟩ : ByteArray).extract ((zy.size : Int) : Int).toNat (⟨#[48, 48, 48, 48, 48]⟩ : ByteArray).size) ++ zy)) else (none)) else (none)) else (none)))
theorem bM_.calls (k : Nat) (a0 : ByteArray) (r : ByteArray) (w : World) (hTab_ : Tab_ w) (h : bM_.f k a0 = some r) :
  Calls prog 23 #[.string a0] w fun e w' => e = .returned (.string r) ∧ Below w.heap.size w w' := by
 have HTab_ := ak hTab_; clear hTab_; have HB := ak (Below.refl w.heap.size w); have H : ((bw_.f k a0 65535).bind fun zh => ((bh_.f zh).bind fun zy => (if 0 ≤ (zy.size : Int) then (if (zy.size : Int) ≤ 5 then (if ((⟨#[48, 48, 48, 48, 48]⟩ : ByteArray).extract ((zy.size : Int) : Int).toNat (⟨#[48, 48, 48, 48, 48]⟩ : ByteArray).size).size + zy.size ≤ 9223372036854775807 then (some (((⟨#[48, 48, 48, 48, 48]⟩ : ByteArray).extract ((zy.size : Int) : Int).toNat (⟨#[48, 48, 48, 48, 48]⟩ : ByteArray).size) ++ zy)) else (none)) else (none)) else (none)))) = some r := h; clear h; revert H; refine biB ?_; intro zh A2 H; (try dsimp only at H); revert H; refine biB ?_; intro zy A3 H; (try dsimp only at H); revert H; refine itPN ?_; intro c4 H; have wh := eq_true c4; have rY : decide (0 ≤ (zy.size : Int)) = true := det c4; clear c4; revert H; refine itPN ?_; intro c5 H; have uj := eq_true c5; have oP : decide ((zy.size : Int) ≤ 5) = true := det c5; clear c5; revert H; refine itPN ?_; intro c6 H; have xG := eq_true c6; have sK : decide (((⟨#[48, 48, 48, 48, 48]⟩ : ByteArray).extract ((zy.size : Int) : Int).toNat (⟨#[48, 48, 48, 48, 48]⟩ : ByteArray).size).size + zy.size ≤ 9223372036854775807) = true := det c6
 try have Si : (9223372036854775807 < ((⟨#[48, 48, 48, 48, 48]⟩ : ByteArray).extract ((zy.size : Int) : Int).toNat (⟨#[48, 48, 48, 48, 48]⟩ : ByteArray).size).size + zy.size) = False := eq_false (Nat.not_lt.2 c6)
 obtain rfl := Option.some.inj H; go_enter func23, ntmps23; go_wp2_with (first | (refine gL 47 5 func47 #[.string a0, .int .i64 65535] ?_; (with_reducible refine (bw_.calls k a0 65535 zh _ A2.1).mono ?_); rintro e w' ⟨rfl, ⟨nd, rfl⟩⟩; refine ⟨_, rfl, ?_⟩) | (refine gL 22 6 func22 #[.int .i64 zh] ?_; (with_reducible refine (bh_.calls zh zy _ ?zw A3.1).mono ?_); (case zw => exact aI_ HTab_.1 (bz HB.1)); rintro e w7 ⟨rfl, hb⟩; refine ⟨_, rfl, ?_⟩; replace HB := ak (ac_ (bz HB.1) hb); (try clear hb))); go_ret; exact ⟨raf, bz HB.1⟩
end Go.Proofs.YtjebkmfljcanlaaGreatDoor.Q
namespace Go.Proofs
open Go.Shelf Go.RowKit
def Tryz.lays166_ren : Go.Shelf.Ren := ⟨fun | 240 => 45 | 276 => 77 | 166 => 21 | n => n, fun | 0 => 0 | 3 => 3 | 4 => 4 | 5 => 5 | 9 => 9 | 20 => 20 | 37 => 22 | 70 => 51 | 72 => 53 | 75 => 55 | 80 => 62 | 164 => 122 | n => n, fun | n => n⟩
theorem Tryz.lays166 : Go.Proofs.Lays.n166 Tryz.prog Tryz.lays166_ren := {
 mixed := by kernel_rfl
 f166 := Tryz.func21.trans (congrArg some (by kernel_rfl))
 f240 := Tryz.func45.trans (congrArg some (by kernel_rfl))
 f276 := Tryz.func77.trans (congrArg some (by kernel_rfl))
 t0 := Tryz.underlying0
 a0 := Tryz.isAgg0
 z0 := Tryz.sizeOf0
 v0 := Tryz.zeroValue0
 t3 := Tryz.underlying3
 a3 := Tryz.isAgg3
 z3 := Tryz.sizeOf3
 v3 := Tryz.zeroValue3
 t4 := Tryz.underlying4
 a4 := Tryz.isAgg4
 z4 := Tryz.sizeOf4
 v4 := Tryz.zeroValue4
 t9 := Tryz.underlying9
 a9 := Tryz.isAgg9
 z9 := Tryz.sizeOf9
 v9 := Tryz.zeroValue9
 t20 := Tryz.underlying20
 a20 := Tryz.isAgg20
 z20 := Tryz.sizeOf20
 v20 := Tryz.zeroValue20
 t37 := Tryz.underlying22
 a37 := Tryz.isAgg22
 z37 := Tryz.sizeOf22
 v37 := Tryz.zeroValue22
 t70 := Tryz.underlying51
 a70 := Tryz.isAgg51
 z70 := Tryz.sizeOf51
 v70 := Tryz.zeroValue51
 t72 := Tryz.underlying53
 a72 := Tryz.isAgg53
 z72 := Tryz.sizeOf53
 v72 := Tryz.zeroValue53
 t75 := Tryz.underlying55
 a75 := Tryz.isAgg55
 z75 := Tryz.sizeOf55
 v75 := Tryz.zeroValue55
 t164 := Tryz.underlying122
 a164 := Tryz.isAgg122
 z164 := Tryz.sizeOf122
 v164 := Tryz.zeroValue122 }
theorem Tryz.Builder_Extra_166 : Builder.Extra Tryz.prog Tryz.lays166_ren where
 sizeBuilder := by kernel_rfl
 liesBuilder := by kernel_rfl
 t5 := Tryz.underlying5
 a5 := Tryz.isAgg5
 z5 := Tryz.sizeOf5
 v5 := Tryz.zeroValue5
 infoByte := by kernel_rfl
 cellsByte := by kernel_rfl
 sizeByte := by kernel_rfl
 neB5 := by decide
theorem Tryz.B_write (B b : Nat) (bs : List Value) (s : ByteArray) (w : World) (h : Lib.IsBuilder 53 5 B b bs w) (hlen : bs.length + s.size ≤ 140737488355328) (hBw : B ≤ w.heap.size) :
  Calls Tryz.prog 21 #[.pointer (some ⟨b, 0, none⟩), .string s] w fun e w' => e = .returned (.tuple #[.int .i64 s.size, .nilIface]) ∧ (Lib.BuilderAt 53 5 B b (.pointer (some ⟨b, 0, none⟩)) (bs ++ Lib.strCells s) w' ∧ Below B w w') := Any.Builder_WriteString Tryz.lays166 Tryz.Builder_Extra_166 B b bs s w h hlen hBw
theorem isB_below {B b : Nat} {bs : List Value} {w w' : World} (h : Lib.IsBuilder 53 5 B b bs w) (hb : Below w.heap.size w w') : Lib.IsBuilder 53 5 B b bs w' := by
 have key : ∀ p, Lib.BuilderAt 53 5 B b p bs w → Lib.BuilderAt 53 5 B b p bs w' := by
  rintro p ⟨h1, v, h2, h3, h4⟩; have lt : ∀ (g : Nat) (o : Obj), w.heap[g]? = some o → w'.heap[g]? = some o := fun g o hg => (hb.block g (Array.getElem?_eq_some_iff.1 hg).1).trans hg; refine ⟨h1, v, lt _ _ h2, ⟨h3.1, ?_⟩, h4⟩
  rcases h3.2 with q | ⟨g, cap, cur, e, q1, q2, q3⟩
  ·exact .inl q
  ·exact .inr ⟨g, cap, cur, e, q1, lt _ _ q2, q3⟩
 exact h.elim (fun x => .inl (key _ x)) (fun x => .inr (key _ x))
end Go.Proofs
namespace Go.Proofs.YtjebkmfljcanlaaGreatDoor.Q
open Go.RowKit Go.Proofs.YtjebkmfljcanlaaGreatDoorW.PrintWords Go.Proofs.YtjebkmfljcanlaaGreatDoorW.PrintLast Go.Proofs.YtjebkmfljcanlaaGreatDoorW.PrintMore Go.Proofs.Tryz
attribute [local go_sem] ay_ ax_ aE_ aD_ an_ ao_ aw_ av_
def sbRest (x : S60) : ByteArray := x.f0 ++ (⟨#[32]⟩ : ByteArray) ++ x.f1 ++ (⟨#[32]⟩ : ByteArray) ++ x.f2
def bq_.l0 : Nat → List (S60) → ByteArray → Int → Option (ByteArray)
 | 0, _, _, _ => none
 | k + 1, x0, a, i => if i < (x0.length : Int) then (if 0 ≤ i then (if (ab_ x0 i).f0.size + (ab_ x0 i).f1.size + (ab_ x0 i).f2.size + a.size ≤ 70000000000000 then ((bM_.f k (sbRest (ab_ x0 i))).bind fun t => (if t.size ≤ 1000 then (bq_.l0 k x0 (a ++ (t ++ (⟨#[32]⟩ : ByteArray) ++ sbRest (ab_ x0 i) ++ (⟨#[10]⟩ : ByteArray))) (wrap64 (i + 1))) else (none))) else (none)) else (none)) else (some a)
def bq_.f (k : Nat) (l0 : List (S60)) : Option (ByteArray × Int) := (aq_.f k l0).bind fun v => (if v = true then ((bh_.f (l0.length : Int)).bind fun t => (if t.size ≤ 1000 then ((bq_.l0 k l0 ((⟨#[97, 114, 99, 104, 105, 118, 101, 32]⟩ : ByteArray) ++ t ++ (⟨#[10]⟩ : ByteArray)) 0).bind fun r => (some (r, 0))) else (none))) else (some ((⟨#[]⟩ : ByteArray), 1)))
theorem strCells_app (a b : ByteArray) : Lib.strCells a ++ Lib.strCells b = Lib.strCells (a ++ b) := by
 simp [Lib.strCells]
theorem below_two {w W W' : World} {B : Nat} (h : Below w.heap.size w W) (hB : w.heap.size ≤ B) (k : Below B W W') : Below w.heap.size w W' := h.trans ⟨k.os, k.tape, k.output, k.size, fun i hi => k.block i (Nat.lt_of_lt_of_le hi hB)⟩
theorem bq_.calls (k : Nat) (A0 : Option Addr) (c0 : Nat) (l0 : List (S60)) (r1 : ByteArray) (r2 : Int) (w : World) (hr0 : Kd.C k60 w A0 l0.length l0) (hc0 : l0.length ≤ c0) (hTab_ : Tab_ w) (h : bq_.f k l0 = some (r1, r2)) :
  Calls prog 6 #[.slice A0 l0.length c0] w fun e w' => e = .returned (.tuple #[.string r1, .int .i64 r2]) ∧ Below w.heap.size w w' := by
 have hu60 := underlying60; have HTab_ := ak hTab_; clear hTab_; have HR0 := ak hr0; have HC0 := ak hc0; clear hr0 hc0; have HB := ak (Below.refl w.heap.size w); unfold bq_.f at h; obtain ⟨v, A1, H⟩ := Option.bind_eq_some_iff.1 h; clear h; have A1' := ak A1; clear A1; have A1 := A1'; clear A1'
 cases v with
 | false =>
  have H : some ((⟨#[]⟩ : ByteArray), (1 : Int)) = some (r1, r2) := H; injection H with H; injection H with H1 H2; subst H1 H2; go_enter func6, ntmps6; go_wp2_with (go_at_call 20; (with_reducible refine (aq_.calls k _ _ l0 false _ ?zw ?zq A1.1).mono ?_); (case zw => exact cz HR0.1); (case zq => exact HC0.1); rintro e w3 ⟨rfl, hb⟩; have n0_ := ak (ac_ (bz HB.1) hb); clear HB; have HB := n0_; clear n0_ hb)
  go_ret2
  exact ⟨(by first | rfl | (simp; done)), bz HB.1⟩
 | true =>
  obtain ⟨t, A2, H⟩ := Option.bind_eq_some_iff.1 (show ((bh_.f (l0.length : Int)).bind fun t => (if t.size ≤ 1000 then ((bq_.l0 k l0 ((⟨#[97, 114, 99, 104, 105, 118, 101, 32]⟩ : ByteArray) ++ t ++ (⟨#[10]⟩ : ByteArray)) 0).bind fun r => (some (r, (0 : Int)))) else (none))) = some (r1, r2) from H); have A2' := ak A2; clear A2; have A2 := A2'; clear A2'; by_cases ht : t.size ≤ 1000
  case neg => rw [if_neg ht] at H; cases H
  rw [if_pos ht] at H; obtain ⟨r, H', H2⟩ := Option.bind_eq_some_iff.1 H; clear H; injection H2 with H2; injection H2 with H3 H4; subst H3 H4; obtain ⟨a0, ha0⟩ : ∃ a0, a0 = (⟨#[97, 114, 99, 104, 105, 118, 101, 32]⟩ : ByteArray) ++ t ++ (⟨#[10]⟩ : ByteArray) := ⟨_, rfl⟩; rw [← ha0] at H'; have HH := ak H'; clear H'; have H' := HH; clear HH; have ha0s : a0.size ≤ 2000 := by rw [ha0]; simp [ByteArray.size_append]; show 8 + t.size + 1 ≤ 2000; omega
  have f1 : 8 + t.size ≤ 9223372036854775807 := by omega
  have f2 : 8 + t.size + 1 ≤ 9223372036854775807 := by omega
  have Ha0 := ak ha0; have Ha0s := ak ha0s; clear ha0 ha0s; go_enter func6, ntmps6; go_wp2_with (first
   | (go_at_call 20; (with_reducible refine (aq_.calls k _ _ l0 true _ ?zw ?zq A1.1).mono ?_); (case zw => exact cz HR0.1); (case zq => exact HC0.1); rintro e w3 ⟨rfl, hb⟩; have n0_ := ak (ac_ (bz HB.1) hb); clear HB; have HB := n0_; clear n0_ hb)
   | (go_at_call 22; (with_reducible refine (bh_.calls (l0.length : Int) t _ ?zw A2.1).mono ?_); (case zw => exact aI_ HTab_.1 (bz HB.1)); rintro e w4 ⟨rfl, hb⟩; have n0_ := ak (ac_ (bz HB.1) hb); have HI := ak (isB_below (Lib.fresh_isBuilder 53 5 w3) hb); have HG := ak (aj_ HB.1); have HS := ak (Nat.le_trans (Nat.le_of_lt ((Lib.fresh_isBuilder 53 5 w3).elim (fun x => x.lt) (fun x => x.lt))) hb.size); clear HB; have HB := n0_; clear n0_ hb)
   | (go_at_call 21; (with_reducible refine (Tryz.B_write w3.heap.size w3.heap.size [] ((⟨#[97, 114, 99, 104, 105, 118, 101, 32]⟩ : ByteArray) ++ t ++ (⟨#[10]⟩ : ByteArray)) _ HI.1 ?zw HS.1).mono ?_); (case zw => have q_ := Ha0s.1; rw [Ha0.1] at q_; simp only [List.length_nil]; omega); rintro e w5 ⟨rfl, hbd, hb⟩; have n1_ := ak (show Lib.IsBuilder 53 5 w3.heap.size w3.heap.size (Lib.strCells a0) w5 from by rw [Ha0.1]; exact Or.inr hbd); have n2_ := ak (Nat.le_trans HS.1 hb.size); have n0_ := ak (below_two HB.1 HG.1 hb); clear HB HI HS; have HB := n0_; have HI := n1_; have HS := n2_; clear n0_ n1_ n2_ hb hbd))
  (try simp only [Act.put, lsa_, ls0_, ls1_])
  go_loopg [19] k (fun kq v19 w' => ∃ (x19 : Int) (a : ByteArray), v19 = .int .i64 x19 ∧ Aside0 (bq_.l0 kq l0 a x19 = some r) ∧ Aside0 (kq ≤ k) ∧ Aside0 (Lib.IsBuilder 53 5 w3.heap.size w3.heap.size (Lib.strCells a) w') ∧ Aside0 (w3.heap.size ≤ w'.heap.size) ∧ Aside0 (Below w.heap.size w w'))
  case atStart => exact ⟨0, a0, (by first | rfl | (simp; done)), H', ⟨Nat.le_refl _⟩, HI, HS, HB⟩
  case round =>
   clear H' HI HS HB Ha0 Ha0s; obtain ⟨x19, a, rfl, HA, HK1, HI, HS, HB⟩ := hrel
   cases gk with
   | zero => exact absurd HA.1 (by simp [bq_.l0])
   | succ k1 =>
    have H := HA.1; clear HA; simp only [bq_.l0] at H; revert H; refine itPP ?_ ?_; rotate_left
    ·intro c2 H; obtain rfl := Option.some.inj H; have ug : decide (x19 < (l0.length : Int)) = false := def_ c2; clear c2 H; have HI2 := ak (show Lib.IsBuilder 53 5 w3.heap.size w3.heap.size (Lib.byteCells a.data.toList) wr from HI.1); go_wp2_with (go_at_call 24; (with_reducible refine (Tryz.Builder_String_any w3.heap.size w3.heap.size a.data.toList _ HI2.1 HS.1).mono ?_); rintro e w8 ⟨rfl, hb⟩; have ea : (⟨a.data.toList.toArray⟩ : ByteArray) = a := (by cases a; rfl); have n0_ := ak (below_two HB.1 HG.1 hb); clear HB; have HB := n0_; clear n0_ hb)
     go_ret2
     exact ⟨(by first | rfl | (rw [ea]; done) | (simp [ea]; done) | (simp; done)), bz HB.1⟩
    intro c2 H; by_cases c3 : 0 ≤ x19
    case neg => rw [if_neg c3] at H; cases H
    rw [if_pos c3] at H; by_cases c4 : (ab_ l0 x19).f0.size + (ab_ l0 x19).f1.size + (ab_ l0 x19).f2.size + a.size ≤ 70000000000000
    case neg => rw [if_neg c4] at H; cases H
    rw [if_pos c4] at H; obtain ⟨t', A50, H⟩ := Option.bind_eq_some_iff.1 H; have A5 : Aside0 (bM_.f k1 ((ab_ l0 x19).f0 ++ (⟨#[32]⟩ : ByteArray) ++ (ab_ l0 x19).f1 ++ (⟨#[32]⟩ : ByteArray) ++ (ab_ l0 x19).f2) = some t') := ⟨A50⟩; clear A50; by_cases c5 : t'.size ≤ 1000
    case neg => rw [if_neg c5] at H; cases H
    rw [if_pos c5] at H; have H' := ak H; clear H; have g1 : (ab_ l0 x19).f0.size + 1 ≤ 9223372036854775807 := by omega
    have g2 : (ab_ l0 x19).f0.size + 1 + (ab_ l0 x19).f1.size ≤ 9223372036854775807 := by omega
    have g3 : (ab_ l0 x19).f0.size + 1 + (ab_ l0 x19).f1.size + 1 ≤ 9223372036854775807 := by omega
    have g4 : (ab_ l0 x19).f0.size + 1 + (ab_ l0 x19).f1.size + 1 + (ab_ l0 x19).f2.size ≤ 9223372036854775807 := by omega
    have g5 : t'.size + 1 ≤ 9223372036854775807 := by omega
    have g6 : t'.size + 1 + ((ab_ l0 x19).f0.size + 1 + (ab_ l0 x19).f1.size + 1 + (ab_ l0 x19).f2.size) ≤ 9223372036854775807 := by omega
    have g7 : t'.size + 1 + ((ab_ l0 x19).f0.size + 1 + (ab_ l0 x19).f1.size + 1 + (ab_ l0 x19).f2.size) + 1 ≤ 9223372036854775807 := by omega
    have C4 := ak c4; have C5 := ak c5; have ug : decide (x19 < (l0.length : Int)) = true := det c2; have xP : decide (0 ≤ x19) = true := det c3; clear c4 c5; obtain ⟨zu, mF, zU, zA, y9⟩ := at_T60 HR0.1 x19 c3 c2; cases mF; replace zU := bu_ HB.1 zU; replace zA := bu_ HB.1 zA; replace y9 := bu_ HB.1 y9; have xR := eq_true c3; have xQ := eq_true c2; clear c2 c3; go_upto_region 8 with (first | (refine bxE 6 60 #[.string (⟨#[]⟩ : ByteArray), .string (⟨#[]⟩ : ByteArray), .string (⟨#[]⟩ : ByteArray)] ?_; intro zo hg w13 hbox hb; have n0_ := ak (ac_ HB.1 hb); have n1_ := ak (hbox); have n2_ := ak ((by rw [hg]; exact (aj_ HB.1)) : w.heap.size ≤ zo); have n3_ := ak (isB_below HI.1 hb); have n4_ := ak (Nat.le_trans HS.1 hb.size); have HN := ak hb; have GN102 := ak (Nat.le_of_eq hg.symm); clear HB; have HB := n0_; have zn := n1_; have qy := n2_; clear n0_ n1_ n2_; clear hb hbox hg; obtain ⟨tZ, tY, tX⟩ := cz3_ zn.1; obtain ⟨tV, tT, tQ⟩ := fz3_ zn.1)); have n0_ : Aside0 ((((w13.setCell ⟨zo, 0, none⟩ (.string ((ab_ l0 x19).f0))).setCell ⟨zo, 1, none⟩ (.string ((ab_ l0 x19).f1))).setCell ⟨zo, 2, none⟩ (.string ((ab_ l0 x19).f2))).heap[zo]? = some (.cells #[.string ((ab_ l0 x19).f0), .string ((ab_ l0 x19).f1), .string ((ab_ l0 x19).f2)] 60 (0, 0))) := ⟨by refine cP_ (cs := #[.string ((ab_ l0 x19).f0), .string ((ab_ l0 x19).f1), .string (⟨#[]⟩ : ByteArray)]) ?_ 2 _ rfl; refine cP_ (cs := #[.string ((ab_ l0 x19).f0), .string (⟨#[]⟩ : ByteArray), .string (⟨#[]⟩ : ByteArray)]) ?_ 1 _ rfl; refine cP_ (cs := #[.string (⟨#[]⟩ : ByteArray), .string (⟨#[]⟩ : ByteArray), .string (⟨#[]⟩ : ByteArray)]) ?_ 0 _ rfl; exact zn.1⟩; have n1_ : Aside0 (Below w.heap.size w (((w13.setCell ⟨zo, 0, none⟩ (.string ((ab_ l0 x19).f0))).setCell ⟨zo, 1, none⟩ (.string ((ab_ l0 x19).f1))).setCell ⟨zo, 2, none⟩ (.string ((ab_ l0 x19).f2)))) := ⟨cm_ (cm_ (cm_ HB.1 qy.1) qy.1) qy.1⟩; have n5_ : Aside0 (Below wr.heap.size wr (((w13.setCell ⟨zo, 0, none⟩ (.string ((ab_ l0 x19).f0))).setCell ⟨zo, 1, none⟩ (.string ((ab_ l0 x19).f1))).setCell ⟨zo, 2, none⟩ (.string ((ab_ l0 x19).f2)))) := ⟨cm_ (cm_ (cm_ HN.1 GN102.1) GN102.1) GN102.1⟩; clear zn HB HN n3_ n4_ tZ tY tX tV tT tQ; generalize (((w13.setCell ⟨zo, 0, none⟩ (.string ((ab_ l0 x19).f0))).setCell ⟨zo, 1, none⟩ (.string ((ab_ l0 x19).f1))).setCell ⟨zo, 2, none⟩ (.string ((ab_ l0 x19).f2))) = w15 at n0_ n1_ n5_ ⊢; have zn := n0_; have HB := n1_; have HN := n5_; clear n0_ n1_ n5_; obtain ⟨nK, nJ, nI⟩ := cz3_ zn.1; have hl_ : Aside0 ((Lib.strCells a).length + (t' ++ (⟨#[32]⟩ : ByteArray) ++ ((ab_ l0 x19).f0 ++ (⟨#[32]⟩ : ByteArray) ++ (ab_ l0 x19).f1 ++ (⟨#[32]⟩ : ByteArray) ++ (ab_ l0 x19).f2) ++ (⟨#[10]⟩ : ByteArray)).size ≤ 140737488355328) := ⟨by rw [Lib.strCells_length]; have := C4.1; have := C5.1; simp only [ByteArray.size_append]; show a.size + (t'.size + 1 + ((ab_ l0 x19).f0.size + 1 + (ab_ l0 x19).f1.size + 1 + (ab_ l0 x19).f2.size) + 1) ≤ _; omega⟩; go_wp2_with (first
     | (go_at_call 23; (with_reducible refine (bM_.calls k1 ((ab_ l0 x19).f0 ++ (⟨#[32]⟩ : ByteArray) ++ (ab_ l0 x19).f1 ++ (⟨#[32]⟩ : ByteArray) ++ (ab_ l0 x19).f2) t' _ ?zw A5.1).mono ?_); (case zw => exact aI_ HTab_.1 (bz HB.1)); rintro e w16 ⟨rfl, hb⟩; have n0_ := ak (ac_ (bz HB.1) hb); have n1_ := ak (ac_ rbf hb); clear HB HN; have HB := n0_; have HN := n1_; clear n0_ n1_ hb)
     | (go_at_call 21; (with_reducible refine (Tryz.B_write w3.heap.size w3.heap.size (Lib.strCells a) (t' ++ (⟨#[32]⟩ : ByteArray) ++ ((ab_ l0 x19).f0 ++ (⟨#[32]⟩ : ByteArray) ++ (ab_ l0 x19).f1 ++ (⟨#[32]⟩ : ByteArray) ++ (ab_ l0 x19).f2) ++ (⟨#[10]⟩ : ByteArray)) _ ?zw hl_.1 ?zq).mono ?_); (case zw => exact isB_below HI.1 rbf); (case zq => exact Nat.le_trans HS.1 (Below.size rbf)); rintro e w17 ⟨rfl, hbd, hb⟩; have n1_ := ak (show Lib.IsBuilder 53 5 w3.heap.size w3.heap.size (Lib.strCells (a ++ (t' ++ (⟨#[32]⟩ : ByteArray) ++ ((ab_ l0 x19).f0 ++ (⟨#[32]⟩ : ByteArray) ++ (ab_ l0 x19).f1 ++ (⟨#[32]⟩ : ByteArray) ++ (ab_ l0 x19).f2) ++ (⟨#[10]⟩ : ByteArray)))) w17 from by rw [← strCells_app]; exact Or.inr hbd); have n2_ := ak (Nat.le_trans (Nat.le_trans HS.1 (Below.size rbf)) hb.size); have n0_ := ak (below_two (bz HB.1) HG.1 hb); clear HB HI HS HN; have HB := n0_; have HI := n1_; have HS := n2_; clear n0_ n1_ n2_ hb hbd))
    go_roundg k1
    case measure => have := HK1.1; omega
    case rel => exact ⟨wrap64 (x19 + 1), a ++ (t' ++ (⟨#[32]⟩ : ByteArray) ++ ((ab_ l0 x19).f0 ++ (⟨#[32]⟩ : ByteArray) ++ (ab_ l0 x19).f1 ++ (⟨#[32]⟩ : ByteArray) ++ (ab_ l0 x19).f2) ++ (⟨#[10]⟩ : ByteArray)), (by first | rfl | (simp; done)), H', ⟨by have := HK1.1; omega⟩, HI, HS, HB⟩
def stringslite_HasSuffix.f (a0 : ByteArray) (a1 : ByteArray) : Option (Bool) := if (a0.size : Int) ≥ (a1.size : Int) then (if 0 ≤ (wrap64 ((a0.size : Int) - (a1.size : Int))) then (if (wrap64 ((a0.size : Int) - (a1.size : Int))) ≤ (a0.size : Int) then (some ((a0.extract ((wrap64 ((a0.size : Int) - (a1.size : Int))) : Int).toNat a0.size).toList == a1.toList)) else (none)) else (none)) else (some false)
theorem stringslite_HasSuffix.calls (a0 : ByteArray) (a1 : ByteArray) (r : Bool) (w : World) (h : stringslite_HasSuffix.f a0 a1 = some r) :
  Calls prog 48 #[.string a0, .string a1] w fun e w' => e = .returned (.bool r) ∧ bR_ w w' := by
 have H : (if (a0.size : Int) ≥ (a1.size : Int) then (if 0 ≤ (wrap64 ((a0.size : Int) - (a1.size : Int))) then (if (wrap64 ((a0.size : Int) - (a1.size : Int))) ≤ (a0.size : Int) then (some ((a0.extract ((wrap64 ((a0.size : Int) - (a1.size : Int))) : Int).toNat a0.size).toList == a1.toList)) else (none)) else (none)) else (some false)) = some r := h; clear h; revert H; refine itPP ?_ ?_; rotate_left
 ·intro c3 H; have xP : decide ((a1.size : Int) ≤ (a0.size : Int)) = false := def_ c3; have tK : decide (a1.size ≤ a0.size) = false := def_ (fun h => c3 (Int.ofNat_le.mpr h)); clear c3; obtain rfl := Option.some.inj H; go_enter func48, ntmps48; go_wp2; go_ret; exact ⟨rad, rag⟩
 intro c3 H; have xP : decide ((a1.size : Int) ≤ (a0.size : Int)) = true := det c3; have tK : decide (a1.size ≤ a0.size) = true := det (Int.ofNat_le.mp c3); clear c3; obtain ⟨ji4, hji4⟩ : ∃ j_ : Int, (wrap64 ((a0.size : Int) - (a1.size : Int))) = j_ := ⟨_, rfl⟩; replace H : (if 0 ≤ (ji4) then (if (ji4) ≤ (a0.size : Int) then (some ((a0.extract ((ji4) : Int).toNat a0.size).toList == a1.toList)) else (none)) else (none)) = some r := by first | (rw [hji4] at H; exact H) | (simp only [hji4] at H ⊢; exact H)
 have hji4w : (IntKind.i64.wrap ((a0.size : Int) - (a1.size : Int))) = ji4 := (i64_w _).trans hji4; revert H; refine itPN ?_; intro c5 H; have uj := eq_true c5; have oP : decide (0 ≤ (ji4)) = true := det c5; clear c5; revert H; refine itPN ?_; intro c6 H; have xG := eq_true c6; have sK : decide ((ji4) ≤ (a0.size : Int)) = true := det c6; clear c6; obtain rfl := Option.some.inj H; go_enter func48, ntmps48; go_wp2; go_ret; exact ⟨(by first | rfl | (simp; done) | (simp only [← hji4] <;> (first | rfl | simp)) | (simp [*]; done)), rag⟩
def strings_HasSuffix.f (a0 : ByteArray) (a1 : ByteArray) : Option (Bool) := (stringslite_HasSuffix.f a0 a1).bind fun zh => (some zh)
theorem strings_HasSuffix.calls (a0 : ByteArray) (a1 : ByteArray) (r : Bool) (w : World) (h : strings_HasSuffix.f a0 a1 = some r) :
  Calls prog 25 #[.string a0, .string a1] w fun e w' => e = .returned (.bool r) ∧ bR_ w w' := by
 have H : ((stringslite_HasSuffix.f a0 a1).bind fun zh => (some zh)) = some r := h; clear h; revert H; refine biB ?_; intro zh A3 H; (try dsimp only at H); obtain rfl := Option.some.inj H; go_enter func25, ntmps25; go_wp2_with (first | (refine gL 48 7 func48 #[.string a0, .string a1] ?_; (with_reducible refine (stringslite_HasSuffix.calls a0 a1 zh _ A3.1).mono ?_); rintro e w' ⟨rfl, ⟨nd, rfl⟩⟩; refine ⟨_, rfl, ?_⟩)); go_ret; exact ⟨rad, rag⟩
def strings_Split.f (a0 : ByteArray) (a1 : ByteArray) : Option (List ByteArray) := if a0.size < 4294967281 ∧ 1 ≤ a1.size then some (Go.Lib.splitB a1 0 (Go.Lib.countB a0 a1) a0) else none
theorem strings_Split.calls (a0 : ByteArray) (a1 : ByteArray) (r : List ByteArray) (w : World) (hTab_ : Tab_ w) (h : strings_Split.f a0 a1 = some r) :
  Calls prog 26 #[.string a0, .string a1] w fun e w' => ∃ v0_ : Value, e = .returned (v0_) ∧ Kd.R Kd.string 9 w' w.heap.size (fun _ => True) v0_ r ∧ Below w.heap.size w w' := by
 unfold strings_Split.f at h
 split at h
 case isFalse => cases h
 rename_i hc; obtain ⟨hs, h1⟩ := hc; obtain rfl := Option.some.inj h; obtain ⟨m, hm⟩ := hTab_.2; refine (Go.Proofs.Tryz.strings_Split a0 a1 m w hs hm h1).mono ?_; rintro e w' ⟨rfl, rfl⟩; have hlen := Go.Lib.splitB_all a1 h1 0 (Go.Lib.countB a0 a1) a0 rfl; obtain ⟨l, hl⟩ : ∃ l, l = Go.Lib.splitB a1 0 (Go.Lib.countB a0 a1) a0 := ⟨_, rfl⟩; rw [← hl] at hlen ⊢; have hsz : Go.Lib.countB a0 a1 + 1 = l.length := hlen.symm; rw [hsz]
 have hll : l.length ≤ 9223372036854775807 := by
  have := Go.Lib.countB_le a1 h1 a0.size a0 (Nat.le_refl _)
  omega
 refine ⟨_, rfl, ⟨fun _ _ => trivial, l.map Value.string, ?_, ?_⟩, bA_ (Below.refl _ _) _⟩
 ·have h2 := World.ownsRow_lit (base := w.heap.size) (e := 9) (size := Kd.string.sz) w (l.map Value.string).toArray l.length (Nat.le_refl _) (by simpa [maxLen] using hll) (by show _ = l.length * 1; simp)
  simpa using h2
 ·refine ⟨by show _ = l.length * 1; simp, fun j p hj => ?_⟩; show ((l.map Value.string).drop (j * 1)).take 1 = [Value.string p]; obtain ⟨hj1, hj2⟩ := List.getElem?_eq_some_iff.1 hj; rw [Nat.mul_one, ← List.map_drop, ← List.map_take, List.drop_eq_getElem_cons hj1, List.take_succ_cons, List.take_zero, hj2]; rfl
def stringslite_HasPrefix.f (a0 : ByteArray) (a1 : ByteArray) : Option (Bool) := if (a0.size : Int) ≥ (a1.size : Int) then (if 0 ≤ (a1.size : Int) then (if (a1.size : Int) ≤ (a0.size : Int) then (some ((a0.extract 0 ((a1.size : Int) : Int).toNat).toList == a1.toList)) else (none)) else (none)) else (some false)
theorem stringslite_HasPrefix.calls (a0 : ByteArray) (a1 : ByteArray) (r : Bool) (w : World) (h : stringslite_HasPrefix.f a0 a1 = some r) :
  Calls prog 82 #[.string a0, .string a1] w fun e w' => e = .returned (.bool r) ∧ bR_ w w' := by
 have H : (if (a0.size : Int) ≥ (a1.size : Int) then (if 0 ≤ (a1.size : Int) then (if (a1.size : Int) ≤ (a0.size : Int) then (some ((a0.extract 0 ((a1.size : Int) : Int).toNat).toList == a1.toList)) else (none)) else (none)) else (some false)) = some r := h; clear h; revert H; refine itPP ?_ ?_; rotate_left
 ·intro c3 H; have xP : decide ((a1.size : Int) ≤ (a0.size : Int)) = false := def_ c3; have tK : decide (a1.size ≤ a0.size) = false := def_ (fun h => c3 (Int.ofNat_le.mpr h)); clear c3; obtain rfl := Option.some.inj H; go_enter func82, ntmps82; go_wp2; go_ret; exact ⟨rad, rag⟩
 intro c3 H; have xP : decide ((a1.size : Int) ≤ (a0.size : Int)) = true := det c3; have tK : decide (a1.size ≤ a0.size) = true := det (Int.ofNat_le.mp c3); clear c3; revert H; refine itPN ?_; intro c4 H; have wh := eq_true c4; have rY : decide (0 ≤ (a1.size : Int)) = true := det c4; clear c4; revert H; refine itPN ?_; intro c5 H; have uj := eq_true c5; have oP : decide ((a1.size : Int) ≤ (a0.size : Int)) = true := det c5; clear c5; obtain rfl := Option.some.inj H; go_enter func82, ntmps82; go_wp2; go_ret; exact ⟨rad, rag⟩
def stringslite_CutPrefix.f (a0 : ByteArray) (a1 : ByteArray) : Option (ByteArray × Bool) := (stringslite_HasPrefix.f a0 a1).bind fun zh => (if zh = true then (if 0 ≤ (a1.size : Int) then (if (a1.size : Int) ≤ (a0.size : Int) then (some (a0.extract ((a1.size : Int) : Int).toNat a0.size, true)) else (none)) else (none)) else (some (a0, false)))
theorem stringslite_CutPrefix.calls (a0 : ByteArray) (a1 : ByteArray) (r1 : ByteArray) (r2 : Bool) (w : World) (h : stringslite_CutPrefix.f a0 a1 = some (r1, r2)) :
  Calls prog 50 #[.string a0, .string a1] w fun e w' => e = .returned (.tuple #[.string r1, .bool r2]) ∧ bR_ w w' := by
 have H : ((stringslite_HasPrefix.f a0 a1).bind fun zh => (if zh = true then (if 0 ≤ (a1.size : Int) then (if (a1.size : Int) ≤ (a0.size : Int) then (some (a0.extract ((a1.size : Int) : Int).toNat a0.size, true)) else (none)) else (none)) else (some (a0, false)))) = some (r1, r2) := h; clear h; revert H; refine biB ?_; intro zh A3 H; (try dsimp only at H); have HC4 := ak H; clear H; go_enter func50, ntmps50; go_upto_if 9 with (first | (refine gL 82 8 func82 #[.string a0, .string a1] ?_; (with_reducible refine (stringslite_HasPrefix.calls a0 a1 zh _ A3.1).mono ?_); rintro e w' ⟨rfl, ⟨nd, rfl⟩⟩; refine ⟨_, rfl, ?_⟩)); (try simp only [Act.put, lsa_, ls0_, ls1_]); have H := HC4.1; clear HC4; by_cases c5 : zh = true; rotate_left
 ·replace c5 := Bool.eq_false_iff.mpr c5; subst c5; replace H := ifF H; simp only [Option.some.injEq, Prod.mk.injEq] at H; obtain ⟨rfl, rfl⟩ := H; go_wp2
  go_ret2
  exact ⟨rad, rag⟩
 subst c5; replace H := ifT H; revert H; refine itPN ?_; intro c6 H; have xG := eq_true c6; have sK : decide (0 ≤ (a1.size : Int)) = true := det c6; clear c6; revert H; refine itPN ?_; intro c7 H; have yE := eq_true c7; have sZ : decide ((a1.size : Int) ≤ (a0.size : Int)) = true := det c7; clear c7; simp only [Option.some.injEq, Prod.mk.injEq] at H; obtain ⟨rfl, rfl⟩ := H; go_wp2
 go_ret2
 exact ⟨rad, rag⟩
def strings_CutPrefix.f (a0 : ByteArray) (a1 : ByteArray) : Option (ByteArray × Bool) := (stringslite_CutPrefix.f a0 a1).bind fun bt101 => (some (bt101.1, bt101.2))
theorem strings_CutPrefix.calls (a0 : ByteArray) (a1 : ByteArray) (r1 : ByteArray) (r2 : Bool) (w : World) (h : strings_CutPrefix.f a0 a1 = some (r1, r2)) :
  Calls prog 27 #[.string a0, .string a1] w fun e w' => e = .returned (.tuple #[.string r1, .bool r2]) ∧ bR_ w w' := by
 have H : ((stringslite_CutPrefix.f a0 a1).bind fun bt101 => (some (bt101.1, bt101.2))) = some (r1, r2) := h; clear h; revert H; refine biB ?_; rintro ⟨zh, zy⟩ A3 H; (try dsimp only at H); simp only [Option.some.injEq, Prod.mk.injEq] at H; obtain ⟨rfl, rfl⟩ := H; go_enter func27, ntmps27; go_wp2_with (first | (refine gL 50 8 func50 #[.string a0, .string a1] ?_; (with_reducible refine (stringslite_CutPrefix.calls a0 a1 zh zy _ A3.1).mono ?_); rintro e w' ⟨rfl, ⟨nd, rfl⟩⟩; refine ⟨_, rfl, ?_⟩))
 go_ret2
 exact ⟨rad, rag⟩
def strings_HasPrefix.f (a0 : ByteArray) (a1 : ByteArray) : Option (Bool) := (stringslite_HasPrefix.f a0 a1).bind fun zh => (some zh)
theorem strings_HasPrefix.calls (a0 : ByteArray) (a1 : ByteArray) (r : Bool) (w : World) (h : strings_HasPrefix.f a0 a1 = some r) :
  Calls prog 51 #[.string a0, .string a1] w fun e w' => e = .returned (.bool r) ∧ bR_ w w' := by
 have H : ((stringslite_HasPrefix.f a0 a1).bind fun zh => (some zh)) = some r := h; clear h; revert H; refine biB ?_; intro zh A3 H; (try dsimp only at H); obtain rfl := Option.some.inj H; go_enter func51, ntmps51; go_wp2_with (first | (refine gL 82 7 func82 #[.string a0, .string a1] ?_; (with_reducible refine (stringslite_HasPrefix.calls a0 a1 zh _ A3.1).mono ?_); rintro e w' ⟨rfl, ⟨nd, rfl⟩⟩; refine ⟨_, rfl, ?_⟩)); go_ret; exact ⟨rad, rag⟩
mutual
def ah_.j0 : Nat → ByteArray → ByteArray → Option (Int × Bool)
 | 0, _, _ => none
 | k + 1, x0, x4 => if (x4.size : Int) < 1 then (ah_.j1 k x0 x4 true) else (ah_.j1 k x0 x4 (decide ((x4.size : Int) > 18)))
def ah_.j1 : Nat → ByteArray → ByteArray → Bool → Option (Int × Bool)
 | 0, _, _, _ => none
 | k + 1, x0, x4, x19 => if x19 = true then (some (0, false)) else (ah_.l0 k x0 x4 0 0)
def ah_.l0 : Nat → ByteArray → ByteArray → Int → Int → Option (Int × Bool)
 | 0, _, _, _, _ => none
 | k + 1, x0, x4, x5, x6 => if x6 < (x4.size : Int) then (if 0 ≤ x6 then (if (bt x4 x6) < 48 then (some (0, false)) else (if (bt x4 x6) > 57 then (some (0, false)) else (ah_.l0 k x0 x4 (wrap64 ((wrap64 (x5 * 10)) + (((bt x4 x6) - 48) % 256))) (wrap64 (x6 + 1))))) else (none)) else (if (x4.size : Int) < (x0.size : Int) then ((bh_.f (wrap64 (-x5))).bind fun zy => (if zy.toList = x0.toList then (some (wrap64 (-x5), true)) else (some (0, false)))) else ((bh_.f x5).bind fun zY => (if zY.toList = x0.toList then (some (x5, true)) else (some (0, false)))))
end
def ah_.f (k : Nat) (a0 : ByteArray) : Option (Int × Bool) := (strings_HasPrefix.f a0 (⟨#[45]⟩ : ByteArray)).bind fun zh => (if zh = true then (if 1 ≤ (a0.size : Int) then (ah_.j0 k a0 (a0.extract 1 a0.size)) else (none)) else (ah_.j0 k a0 a0))
theorem ah_.calls (k : Nat) (a0 : ByteArray) (r1 : Int) (r2 : Bool) (w : World) (hTab_ : Tab_ w) (h : ah_.f k a0 = some (r1, r2)) :
  Calls prog 28 #[.string a0] w fun e w' => e = .returned (.tuple #[.int .i64 r1, .bool r2]) ∧ Below w.heap.size w w' := by
 have HTab_ := ak hTab_; clear hTab_; have HB := ak (Below.refl w.heap.size w); have H : ((strings_HasPrefix.f a0 (⟨#[45]⟩ : ByteArray)).bind fun zh => (if zh = true then (if 1 ≤ (a0.size : Int) then (ah_.j0 k a0 (a0.extract 1 a0.size)) else (none)) else (ah_.j0 k a0 a0))) = some (r1, r2) := h; clear h; revert H; refine biB ?_; intro zh A2 H; (try dsimp only at H); have HC3 := ak H; clear H; go_enter func28, ntmps28; go_upto_if 9 with (first | (refine gL 51 9 func51 #[.string a0, .string (⟨#[45]⟩ : ByteArray)] ?_; (with_reducible refine (strings_HasPrefix.calls a0 (⟨#[45]⟩ : ByteArray) zh _ A2.1).mono ?_); rintro e w' ⟨rfl, ⟨nd, rfl⟩⟩; refine ⟨_, rfl, ?_⟩)); (try simp only [Act.put, lsa_, ls0_, ls1_])
 go_cut [4] (fun v4 wc => ∃ (kq : Nat) (uX : ByteArray), v4 = .string uX ∧ Aside0 (ah_.j0 kq a0 uX = some (r1, r2)) ∧ Aside0 (kq ≤ k) ∧ Aside0 (Below w.heap.size w wc))
 case first =>
  have H := HC3.1; clear HC3; by_cases c4 : zh = true; rotate_left
  ·replace c4 := Bool.eq_false_iff.mpr c4; subst c4; replace H := ifF H; have H' := ak H; clear H; go_wp2; go_meet
   case rel => exact ⟨_, (a0), rad, H', ⟨rar⟩, ⟨bz HB.1⟩⟩
  subst c4; replace H := ifT H; revert H; refine itPN ?_; intro c5 H; have uj := eq_true c5; have oP : decide (1 ≤ (a0.size : Int)) = true := det c5; clear c5; have H' := ak H; clear H; go_wp2; go_meet
  case rel => exact ⟨_, (a0.extract 1 a0.size), rad, H', ⟨rar⟩, ⟨bz HB.1⟩⟩
 case rest =>
  clear HC3; obtain ⟨kq, uX, rfl, HA, HJ2, HB⟩ := hcut
  cases kq with
  | zero => exact absurd HA.1 (by simp [ah_.j0])
  | succ kj2 =>
   have H := HA.1; clear HA; simp only [ah_.j0] at H; have HC6 := ak H; clear H; go_upto_region 4 with (fail)
   go_cut [19] (fun v19 wc => ∃ (kq : Nat) (bL : Bool), v19 = .bool bL ∧ Aside0 (ah_.j1 kq a0 uX bL = some (r1, r2)) ∧ Aside0 (kq ≤ kj2) ∧ Aside0 (Below w.heap.size w wc))
   case first =>
    have H := HC6.1; clear HC6; revert H; refine itPP ?_ ?_; rotate_left
    ·intro c7 H; have yE : decide ((uX.size : Int) < 1) = false := def_ c7; have sZ : decide (uX.size < 1) = false := def_ rae; clear c7; (first | rw [yE] | (simp only [i64_w, i32_w]; rw [yE]) | (simp only [sZ, nT_, nF_]) | (simp only [yE, nT_, nF_]) | skip); have H' := ak H; clear H; go_wp2; go_meet
     case rel => exact ⟨_, (decide ((uX.size : Int) > 18)), rad, H', ⟨by have := HJ2.1; first | omega | exact Nat.le_refl _⟩, ⟨bz HB.1⟩⟩
    intro c7 H; have yE : decide ((uX.size : Int) < 1) = true := det c7; have sZ : decide (uX.size < 1) = true := det rae; clear c7; (first | rw [yE] | (simp only [i64_w, i32_w]; rw [yE]) | (simp only [sZ, nT_, nF_]) | (simp only [yE, nT_, nF_]) | skip); have H' := ak H; clear H; go_wp2; go_meet
    case rel => exact ⟨_, (true), rad, H', ⟨by have := HJ2.1; first | omega | exact Nat.le_refl _⟩, ⟨bz HB.1⟩⟩
   case rest =>
    clear HC6; obtain ⟨kq, bL, rfl, HA, HJ5, HB⟩ := hcut
    cases kq with
    | zero => exact absurd HA.1 (by simp [ah_.j1])
    | succ kj5 =>
     have H := HA.1; clear HA; simp only [ah_.j1] at H; by_cases c8 : bL = true; rotate_left
     ·replace c8 := Bool.eq_false_iff.mpr c8; subst c8; replace H := ifF H; have H' := ak H; clear H; go_wp2; (try simp only [Act.put, lsa_, ls0_, ls1_])
      go_loopg [5, 6] kj5 (fun kq v5 v6 w' => ∃ (fw : Int) (uq : Int), v5 = .int .i64 fw ∧ v6 = .int .i64 uq ∧ Aside0 (ah_.l0 kq a0 uX fw uq = some (r1, r2)) ∧ Aside0 (kq ≤ kj5) ∧ Aside0 (Below w.heap.size w w'))
      case atStart => exact ⟨(0), (0), rad, rad, H', ⟨Nat.le_refl _⟩, ⟨bz HB.1⟩⟩
      case round =>
       clear H'; obtain ⟨fw, uq, rfl, rfl, HA, HK3, HB⟩ := hrel
       cases gk with
       | zero => exact absurd HA.1 (by simp [ah_.l0])
       | succ k3 =>
        have H := HA.1; clear HA; simp only [ah_.l0] at H; revert H; refine itDD ?_ ?_; rotate_left
        ·intro vX H; revert H; refine itPP ?_ ?_; rotate_left
         ·intro c16 H; have rR : decide ((uX.size : Int) < (a0.size : Int)) = false := def_ c16; have kK : decide (uX.size < a0.size) = false := def_ (fun h => c16 (Int.ofNat_lt.mpr h)); clear c16; revert H; refine biB ?_; intro zY A21 H; (try dsimp only at H); have SN := ak H; clear H; go_upto_if 54 with (first | (refine gL 22 52 func22 #[.int .i64 fw] ?_; (with_reducible refine (bh_.calls fw zY _ ?zw A21.1).mono ?_); (case zw => exact aI_ HTab_.1 (bz HB.1)); rintro e w23 ⟨rfl, hb⟩; refine ⟨_, rfl, ?_⟩; replace HB := ak (ac_ (bz HB.1) hb); (try clear hb))); (try simp only [Act.put, lsa_, ls0_, ls1_]); have H := SN.1; clear SN; revert H; refine itEE ?_ ?_; rotate_left
          ·intro c24 rQ bK H; (first | rw [rQ] | (simp only [i64_w, i32_w]; rw [rQ]) | (simp only [bK, nT_, nF_]) | (simp only [rQ, nT_, nF_]) | skip); simp only [Option.some.injEq, Prod.mk.injEq] at H; obtain ⟨rfl, rfl⟩ := H; go_wp2
           go_ret2
           exact ⟨raf, bz HB.1⟩
          intro rQ bK H; (first | rw [rQ] | (simp only [i64_w, i32_w]; rw [rQ]) | (simp only [bK, nT_, nF_]) | (simp only [rQ, nT_, nF_]) | skip); simp only [Option.some.injEq, Prod.mk.injEq] at H; obtain ⟨rfl, rfl⟩ := H; go_wp2
          go_ret2
          exact ⟨raf, bz HB.1⟩
         intro c16 H; have rR : decide ((uX.size : Int) < (a0.size : Int)) = true := det c16; have kK : decide (uX.size < a0.size) = true := det (Int.ofNat_lt.mp c16); clear c16; revert H; refine biB ?_; intro zy A17 H; (try dsimp only at H); have Y7 := ak H; clear H; go_upto_if 54 with (first | (refine gL 22 52 func22 #[.int .i64 (wrap64 (-fw))] ?_; (with_reducible refine (bh_.calls (wrap64 (-fw)) zy _ ?zw A17.1).mono ?_); (case zw => exact aI_ HTab_.1 (bz HB.1)); rintro e w19 ⟨rfl, hb⟩; refine ⟨_, rfl, ?_⟩; replace HB := ak (ac_ (bz HB.1) hb); (try clear hb))); (try simp only [Act.put, lsa_, ls0_, ls1_]); have H := Y7.1; clear Y7; revert H; refine itEE ?_ ?_; rotate_left
         ·intro c20 xJ uP H; (first | rw [xJ] | (simp only [i64_w, i32_w]; rw [xJ]) | (simp only [uP, nT_, nF_]) | (simp only [xJ, nT_, nF_]) | skip); simp only [Option.some.injEq, Prod.mk.injEq] at H; obtain ⟨rfl, rfl⟩ := H; go_wp2
          go_ret2
          exact ⟨raf, bz HB.1⟩
         intro xJ uP H; (first | rw [xJ] | (simp only [i64_w, i32_w]; rw [xJ]) | (simp only [uP, nT_, nF_]) | (simp only [xJ, nT_, nF_]) | skip); simp only [Option.some.injEq, Prod.mk.injEq] at H; obtain ⟨rfl, rfl⟩ := H; go_wp2
         go_ret2
         exact ⟨raf, bz HB.1⟩
        intro vX H; revert H; refine itDN ?_; intro xe H; revert H; refine itDD ?_ ?_; rotate_left
        ·intro jy H; revert H; refine itDD ?_ ?_; rotate_left
         ·intro uQ H; have H' := ak H; clear H; have p11 : 0 ≤ (uq : Int) := ode ram; have q11 : uq < (uX.size : Int) := ode ram; have Yl := bt_at uX uq; replace p11 := eq_true p11; replace q11 := eq_true q11; have p13 : 0 ≤ (uq : Int) := ode ram; have q13 : uq < (uX.size : Int) := ode ram; have I6 := bt_at uX uq; replace p13 := eq_true p13; replace q13 := eq_true q13; have p15 : 0 ≤ (uq : Int) := ode ram; have q15 : uq < (uX.size : Int) := ode ram; have F8 := bt_at uX uq; replace p15 := eq_true p15; replace q15 := eq_true q15; go_wp2
          go_roundg k3
          case measure => have := HJ2.1; have := HJ5.1; have := HK3.1; omega
          case rel => exact ⟨(wrap64 ((wrap64 (fw * 10)) + (((bt uX uq) - 48) % 256))), (wrap64 (uq + 1)), rad, rad, H', ⟨by have := HJ2.1; have := HJ5.1; have := HK3.1; omega⟩, ⟨bz HB.1⟩⟩
         intro uQ H; simp only [Option.some.injEq, Prod.mk.injEq] at H; obtain ⟨rfl, rfl⟩ := H; have p11 : 0 ≤ (uq : Int) := ode ram; have q11 : uq < (uX.size : Int) := ode ram; have Yl := bt_at uX uq; replace p11 := eq_true p11; replace q11 := eq_true q11; have p13 : 0 ≤ (uq : Int) := ode ram; have q13 : uq < (uX.size : Int) := ode ram; have I6 := bt_at uX uq; replace p13 := eq_true p13; replace q13 := eq_true q13; go_wp2
         go_ret2
         exact ⟨raf, bz HB.1⟩
        intro jy H; simp only [Option.some.injEq, Prod.mk.injEq] at H; obtain ⟨rfl, rfl⟩ := H; have p11 : 0 ≤ (uq : Int) := ode ram; have q11 : uq < (uX.size : Int) := ode ram; have Yl := bt_at uX uq; replace p11 := eq_true p11; replace q11 := eq_true q11; go_wp2
        go_ret2
        exact ⟨raf, bz HB.1⟩
     subst c8; replace H := ifT H; simp only [Option.some.injEq, Prod.mk.injEq] at H; obtain ⟨rfl, rfl⟩ := H; go_wp2
     go_ret2
     exact ⟨raf, bz HB.1⟩
def strings_SplitN.f (a0 : ByteArray) (a1 : ByteArray) (a2 : Int) : Option (List ByteArray) := if a0.size < 4294967281 ∧ 1 ≤ a1.size ∧ 1 ≤ a2 ∧ a2 ≤ 9223372036854775807 then some (Go.Lib.splitB a1 0 (min a2.toNat (a0.size + 1) - 1) a0) else none
theorem strings_SplitN.len (sep : ByteArray) (save : Nat) : ∀ (k : Nat) (s : ByteArray), (Go.Lib.splitB sep save k s).length ≤ k + 1
 | 0, s => by simp [Go.Lib.splitB]
 | k + 1, s => by
  unfold Go.Lib.splitB
  split
  ·simp
  ·have := strings_SplitN.len sep save k (s.extract ((Go.Lib.indexB s sep).toNat + sep.size) s.size); rw [List.length_cons]
   omega
theorem strings_SplitN.calls (a0 : ByteArray) (a1 : ByteArray) (a2 : Int) (r : List ByteArray) (w : World) (hTab_ : Tab_ w) (h : strings_SplitN.f a0 a1 a2 = some r) :
  Calls prog 52 #[.string a0, .string a1, .int .i64 a2] w fun e w' => ∃ v0_ : Value, e = .returned (v0_) ∧ Kd.R Kd.string 9 w' w.heap.size (fun _ => True) v0_ r ∧ Below w.heap.size w w' := by
 unfold strings_SplitN.f at h
 split at h
 case isFalse => cases h
 rename_i hc; obtain ⟨hs, h1, h2, h3⟩ := hc; obtain rfl := Option.some.inj h; obtain ⟨n, rfl⟩ := Int.eq_ofNat_of_zero_le (show 0 ≤ a2 by omega); obtain ⟨m, hm⟩ := hTab_.2; rw [Int.toNat_natCast]; refine (Go.Proofs.Tryz.strings_SplitN a0 a1 n m w hs hm h1 rae rae).mono ?_; rintro e w' ⟨rfl, rfl⟩; have hlen := strings_SplitN.len a1 0 (min n (a0.size + 1) - 1) a0; obtain ⟨l, hl⟩ : ∃ l, l = Go.Lib.splitB a1 0 (min n (a0.size + 1) - 1) a0 := ⟨_, rfl⟩; obtain ⟨c, hc⟩ : ∃ c, c = min n (a0.size + 1) := ⟨_, rfl⟩; rw [← hc] at hl hlen; rw [← hc, ← hl]; rw [← hl] at hlen; have hc1 : 1 ≤ c := by omega
 have hcm : c ≤ 9223372036854775807 := by omega
 have hlc : l.length ≤ c := by omega
 have hsz : (Go.Lib.cellsOf l c).size = c := by simp [Go.Lib.cellsOf]; omega
 refine ⟨_, rfl, ⟨fun _ _ => trivial, l.map Value.string, ⟨by show _ = l.length * 1; simp, .inr ⟨w.heap.size, c, Go.Lib.cellsOf l c, rfl, Nat.le_refl _, heap_alloc_new w _, hlc, (by simpa [maxLen] using hcm), by show _ = c * 1; rw [hsz]; omega, ?_⟩⟩, ?_⟩, bA_ (Below.refl _ _) _⟩
 ·show (Go.Lib.cellsOf l c).toList.take (l.length * 1) = _; rw [Nat.mul_one]
  simp [Go.Lib.cellsOf]
 ·refine ⟨by show _ = l.length * 1; simp, fun j p hj => ?_⟩; show ((l.map Value.string).drop (j * 1)).take 1 = [Value.string p]; obtain ⟨hj1, hj2⟩ := List.getElem?_eq_some_iff.1 hj; rw [Nat.mul_one, ← List.map_drop, ← List.map_take, List.drop_eq_getElem_cons hj1, List.take_succ_cons, List.take_zero, hj2]; rfl
end Go.Proofs.YtjebkmfljcanlaaGreatDoor.Q
