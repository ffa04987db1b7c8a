/- The statement FnExactLeavesOfBlocks: for all lists of blocks the program and the reference give the same leaves and the same code; the lists handed over stay as they are, and the leaves are new. This text holds the last walks, the plain law and the row. -/
import Derived.HandedShaped
import Derived.Test.YtckboiphlhhckaaGreatDoorRows
import Derived.Test.YtckboiphlhhckaaGreatDoorCards
import Derived.Test.YtckboiphlhhckaaGreatDoorTie
import Derived.Stop.LaidErr
import Derived.LaidMore
import Derived.Lay
import Derived.SevenTiedAt
import Derived.Stop.Joined
import Derived.Lib.LaidTab
import Derived.WalkKit
import Derived.ProofKit
import Derived.OpenShut
import Derived.ShutString
import Derived.ChangeOld
import Derived.Below
import Derived.SizedLaws
import Derived.Carry
import Derived.Test.YtckboiphlhhckaaGreatDoorKFnExactLeavesOfBlocksa
import Derived.Test.YtckboiphlhhckaaGreatDoorKFnExactLeavesOfBlocksc
import Derived.Test.YtckboiphlhhckaaGreatDoorKFnExactLeavesOfBlockse
import Derived.Test.YtckboiphlhhckaaGreatDoorKFnExactLeavesOfBlocksb
import Derived.Test.YtckboiphlhhckaaGreatDoorKFnExactLeavesOfBlocksd
import Derived.Test.YtckboiphlhhckaaGreatDoorKFnExactLeavesOfBlocksf
set_option linter.unusedVariables false
set_option linter.unusedSimpArgs false
namespace Go.Proofs.YtckboiphlhhckaaGreatDoor.Q
open Go.RowKit Go.Proofs.YtckboiphlhhckaaGreatDoorW.PrintWords Go.Proofs.YtckboiphlhhckaaGreatDoorW.PrintLast Go.Proofs.YtckboiphlhhckaaGreatDoorW.PrintMore
def bTx (b : Bx) : ByteArray := LT_ (bLi b)
def lPs (x : Lf) : List ByteArray := [x.f0, x.f1, its x.f2, vtx x.f3.f0 x.f3.f1 x.f3.f2, (its x.f4 ++ (⟨#[120]⟩ : ByteArray)) ++ its x.f5]
theorem vVen_rg (l : List UInt8) (s g : Int) (h : vVen l s g = true) : (0 ≤ s ∧ s ≤ 100) ∧ 0 ≤ g ∧ g ≤ 179 := by
 unfold vVen at h
 simp only [Bool.and_eq_true, decide_eq_true_eq] at h
 omega
theorem ltext_ev (x : Lf) (s : ByteArray) (hs : (s.size : Int) ≤ 1048576) (hx : lPs x ++ x.f6.map bTx = (spl 47 s.data.toList).map Bs) (h : lOk x) (hbn : ∀ b ∈ x.f6, ∀ n ∈ bLi b, nmOk n) (hv : Ev (fun k => aG_.f k x.f0 x.f1 x.f2 x.f3.f0 x.f3.f1 x.f3.f2 x.f4 x.f5 x.f6) true) :
  Ev (fun k => aT_.f k x.f0 x.f1 x.f2 x.f3.f0 x.f3.f1 x.f3.f2 x.f4 x.f5 x.f6) s := by
 obtain ⟨n2, vv, n4, n5, l6, hb⟩ := h
 obtain ⟨sr, gr⟩ := vVen_rg _ _ _ vv
 have hL : s.data.toList.length = s.size := Array.length_toList
 have hall : ∀ y ∈ lPs x ++ x.f6.map bTx, (y.size : Int) ≤ 1048576 := by
  intro y hy
  rw [hx] at hy
  obtain ⟨l, hl, rfl⟩ := List.mem_map.1 hy
  have := spl_short 47 s.data.toList l hl
  rw [bR_]
  omega
 have z0 : x.f0.size ≤ 1048576 := by have := hall x.f0 (by simp [lPs]); omega
 have zv := hall (vtx x.f3.f0 x.f3.f1 x.f3.f2) (by simp [lPs])
 have zs := hall ((its x.f4 ++ (⟨#[120]⟩ : ByteArray)) ++ its x.f5) (by simp [lPs])
 have q1 : (⟨#[32]⟩ : ByteArray).size = 1 := rfl
 have q2 : (⟨#[120]⟩ : ByteArray).size = 1 := rfl
 unfold vtx at zv
 simp only [ByteArray.size_append] at zv zs
 have i2 := cZ_ x.f2 (by omega) (by omega)
 have i31 := cZ_ x.f3.f1 (by omega) (by omega)
 have i32 := cZ_ x.f3.f2 (by omega) (by omega)
 have i4 := cZ_ x.f4 (by omega) (by omega)
 have i5 := cZ_ x.f5 (by omega) (by omega)
 have iv : bo_.f x.f3.f0 x.f3.f1 x.f3.f2 = some (vtx x.f3.f0 x.f3.f1 x.f3.f2) := by
  unfold bo_.f
  rw [iValidVeneer_f, vv, Option.bind_some, if_pos rfl, if_pos (by omega), i31, Option.bind_some, if_pos (by omega), if_pos (by omega), i32, Option.bind_some, if_pos (by omega)]
  rfl
 have hr : ∀ i (hi : i < x.f6.length), al_ x.f6 (i : Int) = x.f6[i] := fun i hi => by unfold al_; exact getD_in x.f6 _ i hi
 simp only [aT_.f]
 have fin : strings_Join.f (lPs x ++ x.f6.map bTx) (⟨#[47]⟩ : ByteArray) = some s := by
  have e : Go.Lib.join ((lPs x ++ x.f6.map bTx).map (·.data.toList)) (⟨#[47]⟩ : ByteArray).data.toList = s.data.toList := by
   rw [hx, List.map_map, show (⟨#[47]⟩ : ByteArray).data.toList = [47] from rfl]
   have : ((fun y : ByteArray => y.data.toList) ∘ Bs) = id := by funext l; simp
   rw [this, List.map_id, join_spl]
  unfold strings_Join.f
  rw [e, if_pos ⟨by simp [lPs]; omega, by omega⟩]
 have go : ∀ (d i : Nat), i + d = x.f6.length → Ev (fun k => aT_.l0 k (lPs x ++ (x.f6.take i).map bTx) x.f6 (x.f6.length : Int) i) s := by
  intro d
  induction d with
  | zero =>
   intro i h
   refine be_ ?_
   simp only [aT_.l0]
   refine Ev_f (by omega) ?_
   rw [List.take_of_length_le (by omega), fin]
   exact Ev_s (Ev_n rfl)
  | succ d ih =>
   intro i h
   have hi : i < x.f6.length := by omega
   have hm := List.getElem_mem hi
   have t1 := list_impl (bLi x.f6[i]) (by simp [bLi]) (hbn _ hm)
   have t2 : Ev (fun k => cR_.f k x.f6[i].f0 x.f6[i].f1 x.f6[i].f2 x.f6[i].f3) (bTx x.f6[i]) := by
    simp only [cR_.f]
    exact Ev_b t1 (Ev_n rfl)
   refine be_ ?_
   simp only [aT_.l0]
   rw [hr i hi, wr64s i (by omega)]
   have nx := ih (i + 1) (by omega)
   rw [List.take_succ_eq_append_getElem hi, List.map_append, ← List.append_assoc] at nx
   exact Ev_t (by omega) (Ev_t (by omega) (Ev_t (by omega) (Ev_b t2 (Ev_t (by simp [lPs]; omega) nx))))
 have g0 := go x.f6.length 0 (by omega)
 rw [List.take_zero, List.map_nil, List.append_nil] at g0
 exact Ev_b hv (Ev_t rfl (Ev_b (Ev_c i2) (Ev_b (Ev_c iv) (Ev_b (Ev_c i4) (Ev_t (by omega) (Ev_b (Ev_c i5) (Ev_t (by omega) g0)))))))
abbrev Rec := ByteArray × ByteArray × Int × ByteArray × Int × Int × Int × Int × List Bx × Bool
def rZ : Rec := ((⟨#[]⟩ : ByteArray), (⟨#[]⟩ : ByteArray), 0, (⟨#[]⟩ : ByteArray), 0, 0, 0, 0, ([] : List Bx), false)
theorem rb_spec (s : ByteArray) (hs : (s.size : Int) ≤ 1048576) : Ev (fun k => bM_.f k s) (match rb s with | some b => (b.f0, b.f1, b.f2, b.f3, true) | none => (0, 0, 0, 0, false)) := by
 obtain ⟨e1, e2⟩ := readlist_ev s hs
 simp only [bM_.f]
 unfold rb
 by_cases c : (RL s.data.toList).2 = true
 rotate_left
 ·rw [if_neg (fun h => c h.1)]
  exact Ev_b e2 (Ev_f c (Ev_n rfl))
 by_cases c4 : (RL s.data.toList).1.length = 4
 rotate_left
 ·rw [if_neg (fun h => c4 h.2)]
  exact Ev_b e2 (Ev_t c (Ev_f (by omega) (Ev_n rfl)))
 rw [if_pos ⟨c, c4⟩]
 exact Ev_b e2 (Ev_t c (Ev_t (by omega) (Ev_t (by omega) (Ev_t (by omega) (Ev_t (by omega) (Ev_t (by omega) (Ev_n rfl)))))))
theorem readleaf_ev (s : ByteArray) (hs : (s.size : Int) ≤ 1048576) : ∃ r : Rec, Ev (fun k => ax_.f k s) r ∧ Ev (fun k => az_.f k s) r ∧ (r.2.2.2.2.2.2.2.2.1.length : Int) ≤ 1048576 := by
 obtain ⟨L, hL⟩ : ∃ L, L = s.data.toList := ⟨_, rfl⟩
 have hsB : s = Bs L := by rw [hL, de_]
 subst hsB
 have hs0 := hs
 rw [bR_] at hs0
 have hsplit : Ev (fun k => aP_.f k (Bs L) 47) ((spl 47 L).map Bs) := split_spec L hs0 47
 have hspl : strings_Split.f (Bs L) (⟨#[47]⟩ : ByteArray) = some ((spl 47 L).map Bs) := by
  have := split_f (Bs L) hs 47
  rw [dd_] at this
  exact this
 have hsz : ∀ x ∈ spl 47 L, x.length ≤ L.length := spl_short 47 L
 have hlen := spl_len 47 L
 simp only [ax_.f, az_.f]
 rw [hspl]
 by_cases h5 : (spl 47 L).length < 5
 ·exact ⟨rZ, Ev_b hsplit (Ev_t (by rw [List.length_map]; omega) (Ev_n rfl)), Ev_s (Ev_t (by rw [List.length_map]; omega) (Ev_n rfl)), by simp [rZ]⟩
 cases hs1 : spl 47 L with
 | nil => rw [hs1] at h5; simp at h5
 | cons a t =>
 cases t with
 | nil => rw [hs1] at h5; simp at h5
 | cons b t =>
 cases t with
 | nil => rw [hs1] at h5; simp at h5
 | cons c t =>
 cases t with
 | nil => rw [hs1] at h5; simp at h5
 | cons d t =>
 cases t with
 | nil => rw [hs1] at h5; simp at h5
 | cons e R =>
 rw [hs1] at hsplit hsz hlen
 obtain ⟨P, hP⟩ : ∃ P, P = (a :: b :: c :: d :: e :: R).map Bs := ⟨_, rfl⟩
 rw [← hP] at hsplit ⊢
 have hPl : P.length = R.length + 5 := by rw [hP]; simp
 simp only [List.length_cons] at hlen
 have r0 : rdOf ByteArray.empty P 0 = Bs a := by rw [hP]; rfl
 have r1 : rdOf ByteArray.empty P 1 = Bs b := by rw [hP]; rfl
 have r2 : rdOf ByteArray.empty P 2 = Bs c := by rw [hP]; rfl
 have r3 : rdOf ByteArray.empty P 3 = Bs d := by rw [hP]; rfl
 have r4 : rdOf ByteArray.empty P 4 = Bs e := by rw [hP]; rfl
 have szP : ∀ y ∈ P, (y.size : Int) ≤ 1048576 := by
  intro y hy
  rw [hP] at hy
  obtain ⟨l, hl, rfl⟩ := List.mem_map.1 hy
  have := hsz l hl
  rw [bR_]
  omega
 have d5 : P.drop 5 = R.map Bs := by rw [hP]; rfl
 have e1 := read_spec (Bs c) (szP _ (by rw [hP]; simp))
 have i1 := da_ (Bs c)
 obtain ⟨v, e2, i2, hv⟩ := ven_ev (Bs d) (szP _ (by rw [hP]; simp))
 obtain ⟨A, B, A', B', u, e3, i3, hu⟩ := size_ev (Bs e) (szP _ (by rw [hP]; simp))
 have sl : ∀ (ok : Bool) (p0 p1 : ByteArray) (n : Int) (w0 : ByteArray) (w1 w2 A B : Int) (fin : List Bx → Rec), (∀ acc : List Bx, (acc.length : Int) ≤ 1048576 → Ev (fun k => if ok = true then ((as_.f k [(⟨p0, p1, n, (⟨w0, w1, w2⟩ : S40), A, B, acc⟩ : Lf)]).bind fun t133 => (if t133 = true then (some (p0, p1, n, w0, w1, w2, A, B, acc, true)) else (some rZ))) else (some rZ)) (fin acc)) →
   ∀ (m i : Nat) (acc : List Bx), i + m = P.length → 5 ≤ i → acc.length + 5 = i → Ev (fun k => ax_.l0 k P ok i p0 p1 n w0 w1 w2 A B acc) (match rbs (P.drop i) with | some bs => fin (acc ++ bs) | none => rZ) := by
  intro ok p0 p1 n w0 w1 w2 A B fin hfin m
  induction m with
  | zero =>
   intro i acc h1 h2 h3
   refine be_ ?_
   simp only [ax_.l0]
   rw [List.drop_of_length_le (by omega)]
   refine Ev_f (by omega) ?_
   have := hfin acc (by omega)
   simp only [rbs, List.append_nil]
   exact this
  | succ m ih =>
   intro i acc h1 h2 h3
   have hi : i < P.length := by omega
   refine be_ ?_
   simp only [ax_.l0]
   rw [rdO_in P i hi, List.drop_eq_getElem_cons hi, rbs]
   have hl := (readlist_ev P[i] (szP _ (List.getElem_mem _))).1
   refine Ev_t (by omega) (Ev_t (by omega) (Ev_b hl ?_))
   by_cases c : (RL P[i].data.toList).2 = true
   rotate_left
   ·have hb : rb P[i] = none := by unfold rb; rw [if_neg (fun h => c h.1)]
    rw [hb]
    exact Ev_f c (Ev_n rfl)
   refine Ev_t c ?_
   by_cases c4 : (RL P[i].data.toList).1.length = 4
   rotate_left
   ·have hb : rb P[i] = none := by unfold rb; rw [if_neg (fun h => c4 h.2)]
    rw [hb]
    exact Ev_f (by omega) (Ev_n rfl)
   have hb : rb P[i] = some ⟨rd (RL P[i].data.toList).1 0, rd (RL P[i].data.toList).1 1, rd (RL P[i].data.toList).1 2, rd (RL P[i].data.toList).1 3⟩ := by unfold rb; rw [if_pos ⟨c, c4⟩]
   refine Ev_t (by omega) (Ev_t (by omega) (Ev_t (by omega) (Ev_t (by omega) (Ev_t (by omega) (Ev_t (by omega) ?_)))))
   rw [wr64s i (by omega), hb]
   refine Ev_at (ih (i + 1) _ (by omega) (by omega) (by simp; omega)) ?_
   simp only []
   cases rbs (P.drop (i + 1)) with
   | none => rfl
   | some q => simp
 have sj : ∀ (ok : Bool) (p0 p1 : ByteArray) (n : Int) (w0 : ByteArray) (w1 w2 A B : Int) (r : Rec), Ev (fun k => ax_.l0 k P ok 5 p0 p1 n w0 w1 w2 A B []) r → Ev (fun k => ax_.j0 k P ok p0 p1 n w0 w1 w2 A B) r := by
  intro ok p0 p1 n w0 w1 w2 A B r h
  refine be_ ?_
  simp only [ax_.j0]
  exact h
 have bad : ∀ (p0 p1 : ByteArray) (n : Int) (w0 : ByteArray) (w1 w2 A B : Int), Ev (fun k => ax_.j0 k P false p0 p1 n w0 w1 w2 A B) rZ := by
  intro p0 p1 n w0 w1 w2 A B
  have := sl false p0 p1 n w0 w1 w2 A B (fun _ => rZ) (fun acc _ => Ev_f (by decide) (Ev_n rfl)) R.length 5 [] (by omega) (by omega) rfl
  refine sj _ _ _ _ _ _ _ _ _ _ (Ev_at this ?_)
  cases rbs (P.drop 5) <;> rfl
 have ibad : ∀ (n A B : Int) (w0 : ByteArray) (w1 w2 : Int), Ev (fun k => az_.j0 k (Bs L) P n A B true w0 w1 w2) rZ := by
  intro n A B w0 w1 w2
  refine be_ ?_
  simp only [az_.j0]
  exact Ev_t (by simp) (Ev_n rfl)
 by_cases c1 : (rdec (Bs c)).2 = true
 case neg =>
  refine ⟨rZ, Ev_b hsplit (Ev_f (by omega) (Ev_t (by omega) ?_)), Ev_s (Ev_f (by omega) (Ev_t (by omega) ?_)), by simp [rZ]⟩
  ·rw [r0, r1, r2, r3, r4]
   exact Ev_b e1 (Ev_t (by omega) (Ev_b e2 (Ev_t (by omega) (Ev_b e3 (Ev_t (by omega) (Ev_t (by omega) (Ev_f c1 (bad _ _ _ _ _ _ _ _))))))))
  ·rw [r2, r3, r4]
   exact Ev_b i1 (Ev_t (by omega) (Ev_b i2 (Ev_t (by omega) (Ev_b i3 (Ev_f c1 (ibad _ _ _ _ _ _))))))
 by_cases c2 : v.2.2.2 = true
 case neg =>
  refine ⟨rZ, Ev_b hsplit (Ev_f (by omega) (Ev_t (by omega) ?_)), Ev_s (Ev_f (by omega) (Ev_t (by omega) ?_)), by simp [rZ]⟩
  ·rw [r0, r1, r2, r3, r4]
   exact Ev_b e1 (Ev_t (by omega) (Ev_b e2 (Ev_t (by omega) (Ev_b e3 (Ev_t (by omega) (Ev_t (by omega) (Ev_t c1 (Ev_f c2 (bad _ _ _ _ _ _ _ _)))))))))
  ·rw [r2, r3, r4]
   exact Ev_b i1 (Ev_t (by omega) (Ev_b i2 (Ev_t (by omega) (Ev_b i3 (Ev_t c1 (Ev_f c2 (ibad _ _ _ _ _ _)))))))
 have top : ∀ r : Rec, Ev (fun k => ax_.j0 k P u (Bs a) (Bs b) (rdec (Bs c)).1 v.1 v.2.1 v.2.2.1 A B) r → Ev (fun k => az_.j0 k (Bs L) P (rdec (Bs c)).1 A' B' (!u) v.1 v.2.1 v.2.2.1) r → (r.2.2.2.2.2.2.2.2.1.length : Int) ≤ 1048576 →
   ∃ r : Rec, Ev (fun k => (aP_.f k (Bs L) 47).bind fun t102 => (if (t102.length : Int) < 5 then (some rZ) else (if 2 < (t102.length : Int) then ((aj_.f k (rdOf ByteArray.empty t102 2)).bind fun bt106 => (if 3 < (t102.length : Int) then ((cv_.f k (rdOf ByteArray.empty t102 3)).bind fun bt109 => (if 4 < (t102.length : Int) then ((cc_.f k (rdOf ByteArray.empty t102 4)).bind fun bt115 => (if 0 < (t102.length : Int) then (if 1 < (t102.length : Int) then (if bt106.2 = true then (if bt109.2.2.2 = true then (ax_.j0 k t102 bt115.2.2 (rdOf ByteArray.empty t102 0) (rdOf ByteArray.empty t102 1) bt106.1 bt109.1 bt109.2.1 bt109.2.2.1 bt115.1 bt115.2.1) else (ax_.j0 k t102 false (rdOf ByteArray.empty t102 0) (rdOf ByteArray.empty t102 1) bt106.1 bt109.1 bt109.2.1 bt109.2.2.1 bt115.1 bt115.2.1)) else (ax_.j0 k t102 false (rdOf ByteArray.empty t102 0) (rdOf ByteArray.empty t102 1) bt106.1 bt109.1 bt109.2.1 bt109.2.2.1 bt115.1 bt115.2.1)) else (none)) else (none))) else (none))) else (none))) else (none)))) r ∧ Ev (fun k => (some P).bind fun t102 => (if (t102.length : Int) < 5 then (some rZ) else (if 2 < (t102.length : Int) then ((ak_.f k (rdOf ByteArray.empty t102 2)).bind fun bt106 => (if 3 < (t102.length : Int) then ((ch_.f k (rdOf ByteArray.empty t102 3)).bind fun bt109 => (if 4 < (t102.length : Int) then ((cp_.f k (rdOf ByteArray.empty t102 4)).bind fun bt115 => (if bt106.2 = true then (if bt109.2.2.2 = true then (az_.j0 k (Bs L) t102 bt106.1 bt115.1 bt115.2.1 (!bt115.2.2) bt109.1 bt109.2.1 bt109.2.2.1) else (az_.j0 k (Bs L) t102 bt106.1 bt115.1 bt115.2.1 true bt109.1 bt109.2.1 bt109.2.2.1)) else (az_.j0 k (Bs L) t102 bt106.1 bt115.1 bt115.2.1 true bt109.1 bt109.2.1 bt109.2.2.1))) else (none))) else (none))) else (none)))) r ∧ (r.2.2.2.2.2.2.2.2.1.length : Int) ≤ 1048576 := by
  intro r hr1 hr2 hr3
  refine ⟨r, Ev_b hsplit (Ev_f (by omega) (Ev_t (by omega) ?_)), Ev_s (Ev_f (by omega) (Ev_t (by omega) ?_)), hr3⟩
  ·rw [r0, r1, r2, r3, r4]
   exact Ev_b e1 (Ev_t (by omega) (Ev_b e2 (Ev_t (by omega) (Ev_b e3 (Ev_t (by omega) (Ev_t (by omega) (Ev_t c1 (Ev_t c2 hr1))))))))
  ·rw [r2, r3, r4]
   exact Ev_b i1 (Ev_t (by omega) (Ev_b i2 (Ev_t (by omega) (Ev_b i3 (Ev_t c1 (Ev_t c2 hr2))))))
 cases u with
 | false => exact top rZ (bad _ _ _ _ _ _ _ _) (ibad _ _ _ _ _ _) (by simp [rZ])
 | true =>
 obtain ⟨rfl, rfl, hsx⟩ := hu rfl
 obtain ⟨hvv, hvx⟩ := hv c2
 have lf : ∀ acc : List Bx, (acc.length : Int) ≤ 1048576 → ∃ w, Ev (fun k => as_.f k [(⟨Bs a, Bs b, (rdec (Bs c)).1, (⟨v.1, v.2.1, v.2.2.1⟩ : S40), A, B, acc⟩ : Lf)]) w ∧ Ev (fun k => aG_.f k (Bs a) (Bs b) (rdec (Bs c)).1 v.1 v.2.1 v.2.2.1 A B acc) w ∧ (w = true → lOk (⟨Bs a, Bs b, (rdec (Bs c)).1, (⟨v.1, v.2.1, v.2.2.1⟩ : S40), A, B, acc⟩ : Lf)) := fun acc ha => leaf_ev (⟨Bs a, Bs b, (rdec (Bs c)).1, (⟨v.1, v.2.1, v.2.2.1⟩ : S40), A, B, acc⟩ : Lf) ha
 obtain ⟨W, hW⟩ : ∃ W : List Bx → Bool, ∀ acc : List Bx, (acc.length : Int) ≤ 1048576 → Ev (fun k => as_.f k [(⟨Bs a, Bs b, (rdec (Bs c)).1, (⟨v.1, v.2.1, v.2.2.1⟩ : S40), A, B, acc⟩ : Lf)]) (W acc) ∧ Ev (fun k => aG_.f k (Bs a) (Bs b) (rdec (Bs c)).1 v.1 v.2.1 v.2.2.1 A B acc) (W acc) ∧ (W acc = true → lOk (⟨Bs a, Bs b, (rdec (Bs c)).1, (⟨v.1, v.2.1, v.2.2.1⟩ : S40), A, B, acc⟩ : Lf)) := by
  classical
  refine ⟨fun acc => if h : (acc.length : Int) ≤ 1048576 then Classical.choose (lf acc h) else false, fun acc h => ?_⟩
  simp only [dif_pos h]
  exact Classical.choose_spec (lf acc h)
 obtain ⟨fin, hfn⟩ : ∃ fin : List Bx → Rec, fin = fun acc => if W acc = true then (Bs a, Bs b, (rdec (Bs c)).1, v.1, v.2.1, v.2.2.1, A, B, acc, true) else rZ := ⟨_, rfl⟩
 have hfin : ∀ acc : List Bx, (acc.length : Int) ≤ 1048576 → Ev (fun k => if true = true then ((as_.f k [(⟨Bs a, Bs b, (rdec (Bs c)).1, (⟨v.1, v.2.1, v.2.2.1⟩ : S40), A, B, acc⟩ : Lf)]).bind fun t133 => (if t133 = true then (some (Bs a, Bs b, (rdec (Bs c)).1, v.1, v.2.1, v.2.2.1, A, B, acc, true)) else (some rZ))) else (some rZ)) (fin acc) := by
  intro acc ha
  refine Ev_t rfl (Ev_b (hW acc ha).1 ?_)
  rw [hfn]
  by_cases cw : W acc = true
  rotate_left
  ·simp only [if_neg cw]; exact Ev_n rfl
  simp only [if_pos cw]; exact Ev_n rfl
 have s0 := sl true (Bs a) (Bs b) (rdec (Bs c)).1 v.1 v.2.1 v.2.2.1 A B fin hfin R.length 5 [] (by omega) (by omega) rfl
 rw [d5] at s0
 simp only [List.nil_append] at s0
 obtain ⟨Y, hY⟩ : ∃ Y, Y = P.drop 5 := ⟨_, rfl⟩
 have hYl : Y.length = R.length := by rw [hY, d5, List.length_map]
 have hYR : Y = R.map Bs := by rw [hY, d5]
 have szY : ∀ y ∈ Y, (y.size : Int) ≤ 1048576 := fun y hy => szP y (by rw [hY] at hy; exact List.mem_of_mem_drop hy)
 have il : ∀ (m i : Nat) (acc : List Bx), i + m = Y.length → acc.length = i → (∀ bs, rbs (Y.drop i) = some bs → rbs Y = some (acc ++ bs)) → Ev (fun k => az_.l0 k (Bs L) P Y (Y.length : Int) i (Bs a) (Bs b) (rdec (Bs c)).1 v.1 v.2.1 v.2.2.1 A B acc) (match rbs (Y.drop i) with | some bs => fin (acc ++ bs) | none => rZ) := by
  intro m
  induction m with
  | zero =>
   intro i acc h1 h2 h3
   refine be_ ?_
   simp only [az_.l0]
   rw [List.drop_of_length_le (by omega)] at h3 ⊢
   refine Ev_f (by omega) ?_
   simp only [rbs, List.append_nil]
   have hrb := h3 [] rfl
   rw [List.append_nil] at hrb
   obtain ⟨w1, w2, w3⟩ := hW acc (by omega)
   by_cases cw : W acc = true
   rotate_left
   ·have cf : W acc = false := by simpa using cw
    rw [cf] at w2
    rw [hfn]
    simp only [if_neg cw]
    have lt : Ev (fun k => aT_.f k (Bs a) (Bs b) (rdec (Bs c)).1 v.1 v.2.1 v.2.2.1 A B acc) (⟨#[]⟩ : ByteArray) := by
     simp only [aT_.f]
     exact Ev_b w2 (Ev_f (by decide) (Ev_n rfl))
    have ne : ¬ (⟨#[]⟩ : ByteArray).toList = (Bs L).toList := by
     rw [ByteArray.toList_eq, ByteArray.toList_eq, dd_]
     intro h
     have := congrArg List.length h
     simp only [List.length_nil] at this
     omega
    exact Ev_b lt (Ev_f ne (Ev_n rfl))
   rw [cw] at w2
   have tx : lPs (⟨Bs a, Bs b, (rdec (Bs c)).1, (⟨v.1, v.2.1, v.2.2.1⟩ : S40), A, B, acc⟩ : Lf) ++ acc.map bTx = (spl 47 (Bs L).data.toList).map Bs := by
    rw [show (Bs L).data.toList = L from dd_ L, hs1, List.map_cons, List.map_cons, List.map_cons, List.map_cons, List.map_cons, ← hYR, ← (rbs_text Y acc hrb).1]
    unfold lPs
    simp only []
    rw [rd_its _ c1, hvx, hsx]
    rfl
   have lt := ltext_ev (⟨Bs a, Bs b, (rdec (Bs c)).1, (⟨v.1, v.2.1, v.2.2.1⟩ : S40), A, B, acc⟩ : Lf) (Bs L) hs tx (w3 cw) (rbs_text Y acc hrb).2 w2
   rw [hfn]
   simp only [if_pos cw]
   exact Ev_b lt (Ev_t (by simp) (Ev_n rfl))
  | succ m ih =>
   intro i acc h1 h2 h3
   have hi : i < Y.length := by omega
   refine be_ ?_
   simp only [az_.l0]
   rw [rdO_in Y i hi]
   rw [List.drop_eq_getElem_cons hi, rbs] at h3 ⊢
   have hb := rb_spec Y[i] (szY _ (List.getElem_mem _))
   refine Ev_t (by omega) (Ev_t (by omega) (Ev_t (by omega) (Ev_b hb ?_)))
   cases hc : rb Y[i] with
   | none => exact Ev_f (by simp) (Ev_n rfl)
   | some b =>
    rw [hc] at h3
    simp only [] at h3 ⊢
    refine Ev_t (by first | rfl | trivial) (Ev_t (by omega) ?_)
    rw [wr64s i (by omega)]
    refine Ev_at (ih (i + 1) (acc ++ [b]) (by omega) (by simp [h2]) (fun bs hbs => ?_)) ?_
    ·have := h3 (b :: bs) (by rw [hbs]; rfl)
     simpa using this
    ·cases rbs (Y.drop (i + 1)) with
     | none => rfl
     | some q => simp
 have i0 := il Y.length 0 [] (by omega) rfl (fun bs h => by simpa using h)
 rw [List.drop_zero] at i0
 simp only [List.nil_append] at i0
 rw [hYR] at i0
 refine top _ (sj _ _ _ _ _ _ _ _ _ _ s0) ?_ ?_
 ·refine be_ ?_
  simp only [az_.j0]
  rw [r0, r1]
  refine Ev_f (by simp) (Ev_t (by omega) (Ev_t (by omega) (Ev_t (by omega) (Ev_s ?_))))
  rw [d5]
  exact i0
 ·cases hq : rbs (R.map Bs) with
  | none => simp [rZ]
  | some q =>
   have := rbs_len _ q hq
   rw [List.length_map] at this
   simp only []
   rw [hfn]
   simp only []
   split
   ·simp only []; omega
   ·simp [rZ]
abbrev Blk := S38
theorem lob_ev (m : List Blk) (hl : (m.length : Int) ≤ 1048576) (hw : ∀ y ∈ m, (y.f2.size : Int) ≤ 1048576) : ∃ (r0 : List Lf) (r1 : Int), (r0.length : Int) ≤ 1048576 ∧ (∀ y ∈ r0, (y.f6.length : Int) ≤ 1048576) ∧ Ev (fun k => aF_.f k m) (r0, r1) ∧ Ev (fun k => aB_.f k m) (r0, r1) := by
 obtain ⟨b, hb⟩ := validBS_ev m hl hw
 have b1 : Ev (fun k => bs_.f k m) b := ⟨4000001, fun k hk => (hb k (by omega)).1⟩
 have b2 : Ev (fun k => aA_.f k m) b := ⟨4000001, fun k hk => (hb k (by omega)).2⟩
 simp only [aF_.f, aB_.f]
 cases b with
 | false => exact ⟨[], 1, by simp, by simp, Ev_b b1 (Ev_f (by decide) (Ev_n rfl)), Ev_b b2 (Ev_f (by decide) (Ev_n rfl))⟩
 | true =>
  have go : ∀ (d i : Nat) (acc : List Lf), i + d = m.length → acc.length ≤ i → (∀ y ∈ acc, (y.f6.length : Int) ≤ 1048576) → ∃ (r0 : List Lf) (r1 : Int), (r0.length : Int) ≤ 1048576 ∧ (∀ y ∈ r0, (y.f6.length : Int) ≤ 1048576) ∧ Ev (fun k => aF_.l0 k m acc i) (r0, r1) ∧ Ev (fun k => aB_.l0 k acc m (m.length : Int) i) (r0, r1) := by
   intro d
   induction d with
   | zero =>
    intro i acc h1 h2 h3
    by_cases c : (acc.length : Int) > 16
    rotate_left
    ·refine ⟨acc, 0, by omega, h3, be_ ?_, be_ ?_⟩
     ·simp only [aF_.l0]; exact Ev_f (by omega) (Ev_f c (Ev_n rfl))
     ·simp only [aB_.l0]; exact Ev_f (by omega) (Ev_f c (Ev_n rfl))
    refine ⟨[], 5, by simp, by simp, be_ ?_, be_ ?_⟩
    ·simp only [aF_.l0]; exact Ev_f (by omega) (Ev_t c (Ev_n rfl))
    ·simp only [aB_.l0]; exact Ev_f (by omega) (Ev_t c (Ev_n rfl))
   | succ d ih =>
    intro i acc h1 h2 h3
    have hi : i < m.length := by omega
    have hr : ag_ m (i : Int) = m[i] := by unfold ag_; exact getD_in m _ i hi
    have e1 : wrap64 ((i : Int) + 1) = ((i + 1 : Nat) : Int) := wr64s i (by omega)
    by_cases c : (m[i].f0).toList = ([108, 101, 97, 102] : List UInt8)
    case neg =>
     obtain ⟨r0, r1, q1, q2, q3, q4⟩ := ih (i + 1) acc (by omega) (by omega) h3
     refine ⟨r0, r1, q1, q2, be_ ?_, be_ ?_⟩
     ·simp only [aF_.l0, hr, e1]; exact Ev_t (by omega) (Ev_t (by omega) (Ev_f c q3))
     ·simp only [aB_.l0, hr, e1]; exact Ev_t (by omega) (Ev_t (by omega) (Ev_t (by omega) (Ev_f c q4)))
    obtain ⟨r, l1, l2, l3⟩ := readleaf_ev m[i].f2 (hw _ (List.getElem_mem _))
    by_cases co : r.2.2.2.2.2.2.2.2.2 = true
    case neg =>
     refine ⟨[], 9, by simp, by simp, be_ ?_, be_ ?_⟩
     ·simp only [aF_.l0, hr, e1]; exact Ev_t (by omega) (Ev_t (by omega) (Ev_t c (Ev_b l1 (Ev_f co (Ev_n rfl)))))
     ·simp only [aB_.l0, hr, e1]; exact Ev_t (by omega) (Ev_t (by omega) (Ev_t (by omega) (Ev_t c (Ev_b l2 (Ev_f co (Ev_n rfl))))))
    by_cases cn : r.1.toList = (m[i].f1).toList
    case neg =>
     refine ⟨[], 6, by simp, by simp, be_ ?_, be_ ?_⟩
     ·simp only [aF_.l0, hr, e1]; exact Ev_t (by omega) (Ev_t (by omega) (Ev_t c (Ev_b l1 (Ev_t co (Ev_f cn (Ev_n rfl))))))
     ·simp only [aB_.l0, hr, e1]; exact Ev_t (by omega) (Ev_t (by omega) (Ev_t (by omega) (Ev_t c (Ev_b l2 (Ev_t co (Ev_f cn (Ev_n rfl)))))))
    obtain ⟨r0, r1, q1, q2, q3, q4⟩ := ih (i + 1) (acc ++ [(⟨r.1, r.2.1, r.2.2.1, (⟨r.2.2.2.1, r.2.2.2.2.1, r.2.2.2.2.2.1⟩ : S40), r.2.2.2.2.2.2.1, r.2.2.2.2.2.2.2.1, r.2.2.2.2.2.2.2.2.1⟩ : Lf)]) (by omega) (by simp; omega) (by
     intro y hy
     rcases List.mem_append.1 hy with h | h
     ·exact h3 y h
     ·rw [List.mem_singleton.1 h]; exact l3)
    refine ⟨r0, r1, q1, q2, be_ ?_, be_ ?_⟩
    ·simp only [aF_.l0, hr, e1]; exact Ev_t (by omega) (Ev_t (by omega) (Ev_t c (Ev_b l1 (Ev_t co (Ev_t cn (Ev_t (by omega) q3))))))
    ·simp only [aB_.l0, hr, e1]; exact Ev_t (by omega) (Ev_t (by omega) (Ev_t (by omega) (Ev_t c (Ev_b l2 (Ev_t co (Ev_t cn (Ev_t (by omega) q4)))))))
  obtain ⟨r0, r1, q1, q2, q3, q4⟩ := go m.length 0 [] (by omega) (by simp) (by simp)
  exact ⟨r0, r1, q1, q2, Ev_b b1 (Ev_t rfl q3), Ev_b b2 (Ev_t rfl q4)⟩
theorem mkB_ev (l : List Blk) (hl : (l.length : Int) ≤ 1048576) : ∃ r l', 0 ≤ r ∧ Ev (fun k => bb_.f k l 1) (r, l') := by
 have go : ∀ (q p : List Blk) (i : Nat) (c : Int), p.length = i → 0 ≤ c → c + 3 * q.length ≤ 100000000000000000 → (i : Int) + q.length ≤ 1000000000000 → ∃ r l', 0 ≤ r ∧ Ev (fun k => bb_.l0 k (p ++ q) c i) (r, l') := by
  intro q
  induction q with
  | nil =>
   intro p i c q1 q2 q3 q4
   refine ⟨c, p ++ [], q2, be_ ?_⟩
   simp only [bb_.l0]
   exact Ev_f (by simp; omega) (Ev_n (by simp))
  | cons x q ih =>
   intro p i c q1 q2 q3 q4
   simp only [List.length_cons] at q3 q4
   have e0 : wrap64 (c + 1) = c + 1 := (wr64 (by omega) (by omega)).trans (by omega)
   have e1 : wrap64 (c + 1 + 1) = c + 2 := (wr64 (by omega) (by omega)).trans (by omega)
   have e2 : wrap64 (c + 2 + 1) = c + 3 := (wr64 (by omega) (by omega)).trans (by omega)
   obtain ⟨t0, ht0⟩ := cX_ (c) (by omega) (by omega)
   obtain ⟨t1, ht1⟩ := cX_ (c + 1) (by omega) (by omega)
   obtain ⟨t2, ht2⟩ := cX_ (c + 2) (by omega) (by omega)
   obtain ⟨r, l', hq, hm⟩ := ih (p ++ [(⟨t0, t1, t2⟩ : Blk)]) (i + 1) (c + 3) (by simp; omega) (by omega) (by omega) (by omega)
   refine ⟨r, l', hq, be_ ?_⟩
   simp only [bb_.l0, e0, e1, e2, set_at p q _ _ i q1, rda_Block p q _ i q1]
   refine Ev_t (by simp; omega) ?_
   refine Ev_b ht0 ?_
   refine Ev_t (by omega) ?_
   refine Ev_s ?_
   try simp only [e0, e1, e2, set_at p q _ _ i q1, rda_Block p q _ i q1]
   refine Ev_b ht1 ?_
   refine Ev_s ?_
   try simp only [e0, e1, e2, set_at p q _ _ i q1, rda_Block p q _ i q1]
   refine Ev_b ht2 ?_
   try simp only [e0, e1, e2, set_at p q _ _ i q1, rda_Block p q _ i q1]
   rw [wr64s i (by omega)]
   rw [List.append_assoc, List.singleton_append] at hm
   exact hm
 simp only [bb_.f]
 exact go l [] 0 1 rfl (by omega) (by omega) (by simpa using (by omega : (l.length : Int) ≤ 1000000000000))
theorem mkh_ev (l : List Lf) (hl : (l.length : Int) ≤ 1048576) (hs : ∀ y ∈ l, (y.f6.length : Int) ≤ 1048576) : ∃ r l', 0 ≤ r ∧ Ev (fun k => aw_.f k l 1) (r, l') ∧ Ev (fun k => ay_.f k l' 1) r := by
 have go : ∀ (q p : List Lf) (i : Nat) (c : Int), (∀ y ∈ q, (y.f6.length : Int) ≤ 1048576) → p.length = i → 0 ≤ c → c ≤ 1 + 5000000 * (i : Int) → (i : Int) + q.length ≤ 1048576 → ∃ r q', q'.length = q.length ∧ 0 ≤ r ∧ Ev (fun k => aw_.l0 k (p ++ q) c i) (r, p ++ q') ∧ ∀ s : List Lf, s.length = i → Ev (fun k => ay_.l0 k (s ++ q') c i) r := by
  intro q
  induction q with
  | nil =>
   intro p i c q0 q1 q2 q3 q4
   refine ⟨c, [], rfl, q2, be_ ?_, fun s hs => be_ ?_⟩
   ·simp only [aw_.l0]
    exact Ev_f (by simp; omega) (Ev_n (by simp))
   ·simp only [ay_.l0]
    exact Ev_f (by simp; omega) (Ev_n rfl)
  | cons x q ih =>
   intro p i c q0 q1 q2 q3 q4
   simp only [List.length_cons] at q4
   have hx := q0 x (List.mem_cons_self ..)
   have e0 : wrap64 (c + 1) = c + 1 := (wr64 (by omega) (by omega)).trans (by omega)
   have e1 : wrap64 (c + 1 + 1) = c + 2 := (wr64 (by omega) (by omega)).trans (by omega)
   have e2 : wrap64 (c + 2 + 1) = c + 3 := (wr64 (by omega) (by omega)).trans (by omega)
   have e3 : wrap64 (c + 3 + 1) = c + 4 := (wr64 (by omega) (by omega)).trans (by omega)
   have e4 : wrap64 (c + 4 + 1) = c + 5 := (wr64 (by omega) (by omega)).trans (by omega)
   have e5 : wrap64 (c + 5 + 1) = c + 6 := (wr64 (by omega) (by omega)).trans (by omega)
   have e6 : wrap64 (c + 6 + 1) = c + 7 := (wr64 (by omega) (by omega)).trans (by omega)
   have e7 : wrap64 (c + 7 + 1) = c + 8 := (wr64 (by omega) (by omega)).trans (by omega)
   obtain ⟨t0, ht0⟩ := cX_ c (by omega) (by omega)
   obtain ⟨t1, ht1⟩ := cX_ (c + 1) (by omega) (by omega)
   obtain ⟨t2, ht2⟩ := cX_ (c + 3) (by omega) (by omega)
   obtain ⟨st, hsl, hst, hsh⟩ := mk_Box x.f6 (c + 8) (by omega) (by omega) (by omega)
   obtain ⟨r, q', hq', hr, he, hh⟩ := ih (p ++ [(⟨t0, t1, c + 2, ⟨t2, c + 4, c + 5⟩, c + 6, c + 7, st⟩ : Lf)]) (i + 1) (c + 8 + 4 * x.f6.length) (fun y hy => q0 y (List.mem_cons_of_mem _ hy)) (by simp; omega) (by omega) (by omega) (by omega)
   refine ⟨r, (⟨t0, t1, c + 2, ⟨t2, c + 4, c + 5⟩, c + 6, c + 7, st⟩ : Lf) :: q', by simp [hq'], hr, be_ ?_, fun s hs => be_ ?_⟩
   ·simp only [aw_.l0, e0, e1, e2, e3, e4, e5, e6, e7, set_at p q _ _ i q1, rda_Leaf p q _ i q1]
    refine Ev_t (by simp; omega) (Ev_b ht0 (Ev_b ht1 (Ev_b ht2 (Ev_b hst (Ev_t (by omega) ?_)))))
    rw [wr64s i (by omega)]
    rw [List.append_assoc, List.singleton_append, List.append_assoc, List.singleton_append] at he
    exact he
   ·simp only [ay_.l0, e0, e1, e2, e3, e4, e5, e6, e7, rda_Leaf s q' _ i hs]
    have hh' := hh (s ++ [(⟨t0, t1, c + 2, ⟨t2, c + 4, c + 5⟩, c + 6, c + 7, st⟩ : Lf)]) (by simp; omega)
    rw [List.append_assoc, List.singleton_append] at hh'
    refine Ev_t (by simp; omega) (Ev_t (by omega) (Ev_b ht0 (Ev_t (by first | rfl | exact True.intro) (Ev_b ht1 (Ev_t (by first | rfl | exact True.intro) (Ev_t (by first | rfl | exact True.intro) (Ev_b ht2 (Ev_t (by first | rfl | exact True.intro) (Ev_t (by first | rfl | exact True.intro) (Ev_t (by first | rfl | exact True.intro) (Ev_t (by first | rfl | exact True.intro) (Ev_t (by first | rfl | exact True.intro) (Ev_b hsh (Ev_f (by omega) ?_))))))))))))))
    rw [wr64s i (by omega)]
    exact hh'
 obtain ⟨r, l', h1, h2, h3, h4⟩ := go l [] 0 1 hs rfl (by omega) (by omega) (by simpa using hl)
 exact ⟨r, l', h2, by simp only [aw_.f]; exact h3, by simp only [ay_.f]; exact h4 [] rfl⟩
theorem law_LeavesOfBlocks : ae_.Pure := by
 intro x hx
 have hM : maxLen = 9223372036854775807 := by decide
 refine Ev.rounds (r := true) ?_
 simp only [ae_.f]
 refine Ev_b (szS_Block x hx.1 hx.2 (1048576) (by omega) (by omega)) ?_
 by_cases cx : ((ZS_Block x : Nat) : Int) ≤ 1048576
 case neg => rw [cut_neg cx]; exact Ev_t (by decide) (Ev_n rfl)
 rw [cut_pos cx]
 refine Ev_f (by omega) ?_
 have nx : (x.length : Int) ≤ 1048576 := by have := (ZS_in_Block x).1; omega
 have bx : ∀ q_ ∈ x, B_Block q_ := fun q_ hq_ => B_of_Block q_ (by have := (ZS_in_Block x).2 q_ hq_; omega)
 have mx : ((x.map cb_).length : Int) ≤ 1048576 := by simpa using nx
 have Ex : ∀ q_ ∈ x.map cb_, E_Block q_ := fun y hy => by obtain ⟨u, hu, rfl⟩ := List.mem_map.1 hy; exact E_of_Block u (bx u hu)
 have tx := toS_Block x nx bx
 have qx := eqS_Block (x.map cb_) mx Ex
 have zx : ∀ q_ ∈ x.map cb_, ∃ u ∈ x, cb_ u = q_ ∧ ((cM_ u : Nat) : Int) ≤ 1048576 := fun y hy => by obtain ⟨u, hu, e⟩ := List.mem_map.1 hy; exact ⟨u, hu, e, by have := (ZS_in_Block x).2 u hu; omega⟩
 have vnx : ∀ y ∈ x.map cb_, (y.f2.size : Int) ≤ 1048576 := by
  intro y hy
  obtain ⟨u_, _, rfl, h_⟩ := zx y hy
  unfold cM_ at h_
  show ((u_.f2.size : Nat) : Int) ≤ 1048576
  omega
 obtain ⟨r0, r1, hr0, hr0s, e1, e2⟩ := lob_ev (x.map cb_) mx vnx
 have qr0 := eqS_Leaf r0 (by omega) (fun y hy => ⟨trivial, hr0s y hy, fun _ _ => trivial⟩)
 obtain ⟨Rx, px, hRx, mmx⟩ := mkB_ev (x.map cb_) mx
 obtain ⟨Rr, pr0, hRr, mr0, hdr0⟩ := mkh_ev r0 (by omega) hr0s
 repeat' (first | ((first | (with_reducible refine Ev_b e1 ?_) | (with_reducible refine Ev_b e2 ?_) | (with_reducible refine Ev_b tx ?_) | (with_reducible refine Ev_b qx ?_) | (with_reducible refine Ev_b qr0 ?_) | (with_reducible refine Ev_b mmx ?_) | (with_reducible refine Ev_b mr0 ?_) | (with_reducible refine Ev_b hdr0 ?_)); try dsimp only) | (with_reducible refine Ev_t rfl ?_) | (with_reducible refine Ev_t True.intro ?_) | (refine Ev_f (by omega) ?_) | (refine Ev_t (by omega) ?_) | (refine Ev_f (by simp) ?_) | exact Ev_n rfl | (refine be_ ?_; first | simp only [ae_.j0] | simp only [ae_.j1] | simp only [ae_.j2]))
end Go.Proofs.YtckboiphlhhckaaGreatDoor.Q
namespace Go.Proofs.YtckboiphlhhckaaGreatDoor.Pure
open Go.Proofs.YtckboiphlhhckaaGreatDoor.Q
theorem FnExactLeavesOfBlocks : ae_.Pure := law_LeavesOfBlocks
end Go.Proofs.YtckboiphlhhckaaGreatDoor.Pure
namespace Go.Proofs.YtckboiphlhhckaaGreatDoor.OPN
open Go
theorem wrap_and_shaped {H : Type} {enc : TypeId × Value → H} {a : Assume} {C : Checked} {os : Os} {f : FuncId} {fn : Func} {s : ChangeSpec} {conds : List PathCond} {apart fresh handsOn again : Bool} {X : World → Array Value → Prop}
  (hX : ∀ (w w' : World) (args : Array Value), w.heap = w'.heap → X w args → X w' args)
  (own : ownKnob C.prog.godebug = none) (started : os.Started) (noInit : C.prog.inits.idxOf? f = none) (hfn : C.prog.funcs[f]? = some fn)
  (witness : ∃ (w : World) (tape : Tape) (i : Input), w.os = os ∧ (w.forCall tape i).Shaped C.prog ∧ i.vars = [] ∧ Input.okWide C.prog (w.forCall tape i) .any w.heap.size f i ∧
   ((s.pre enc C.prog fn conds apart (w.forCall tape i).memory i.args ∧ X (w.forCall tape i).memory i.args) ∧ sizedMet enc C.prog fn (OpenSpec.ofChange s) apart (w.forCall tape i).memory i.args) ∧ a.holds C.prog (lone (Frame.enter C.prog f i.args .normal) [] (w.forCall tape i)))
  (contract : ∀ (W : World) (base : Nat) (args : Array Value) (ds gs : List (DataW H)) (before : List MemPlace),
   (∀ (j : Nat) t v, fn.params[j]? = some t → args[j]? = some v → Value.okWide C.prog W .any base t v) →
   DataW.Whole enc C.prog fn.params.toList s.vars apart W args.toList ds gs before →
   conds.all (PathCond.test C.prog ⟨fn.params.toList, ds, s.plain.varTypes C.prog, gs⟩) = true →
   (DataW.weightsEach C.prog (fn.params.toList ++ s.plain.varTypes C.prog) (ds ++ gs)).all (· ≤ reachBytes) = true → X W args → W.ShapedOpen C.prog →
   a.holds C.prog (lone (Frame.enter C.prog f args .normal) [] W) →
   Calls C.prog f args W fun e W' => ∃ v, e = .returned v ∧ s.post enc C.prog fn apart fresh handsOn again W args v W') :
  ReturnsInHanded a C os f .any (fun w args => (s.pre enc C.prog fn conds apart w args ∧ X w args) ∧ sizedMet enc C.prog fn (OpenSpec.ofChange s) apart w args) (s.post enc C.prog fn apart fresh handsOn again) := by
 refine returnsInHanded_of_calls own started noInit witness ?_
 intro w tape i _ hsh _ hok hpre hholds
 obtain ⟨_, _, _, fn', hfn', _, _, _, _, hval⟩ := hok
 have e : fn' = fn := Option.some.inj (hfn'.symm.trans hfn)
 subst e
 obtain ⟨⟨⟨ds, gs, before, hw, hc⟩, hx⟩, hz⟩ := hpre
 have hw' := DataW.Whole.of_heap (w' := w.forCall tape i) (by rfl) hw
 refine (contract (w.forCall tape i) w.heap.size i.args ds gs before hval hw' hc (hz.weights hw) (hX _ _ _ (by rfl) hx) hsh hholds).mono fun e W' ⟨v, he, hp⟩ => ?_
 subst he
 exact ChangeSpec.post_blind hp
end Go.Proofs.YtckboiphlhhckaaGreatDoor.OPN
namespace Go.Proofs.YtckboiphlhhckaaGreatDoor.fnExactLeavesOfBlocks
open Go.ChangeShapes Go.WideShapes Go.ChangeAt Go.RowKit Go.Proofs.YtckboiphlhhckaaGreatDoor.OPN Go.Proofs.YtckboiphlhhckaaGreatDoor.Q Go.Proofs.YtckboiphlhhckaaGreatDoorW.PrintWords
open Go.ChangeMaps (open_string shut_string)
theorem own : ownKnob Tryz.prog.godebug = none := by kernel_rfl
theorem laidOut : laidOutB Tryz.prog = true := by kernel_rfl
theorem tab_of {W : World} (hL : laidMetH Tryz.prog Rows.fnExactLeavesOfBlocksRow.laid W) (hsh : W.ShapedOpen Tryz.prog) : Tab_ W := by
 refine ⟨?_, ?_⟩
 ·have hl := hL
  rw [MakeChecks.laidMetH_plain _ _ _ (by kernel_rfl)] at hl
  have h1 := (laidMet.tail (laidMet.tail hl))
  have e_ : (Rows.laid_internal_strconv_uint64pow10 : DataW Unit) = Lib.tabData .u64 Lib.pow10Tab := by rfl
  refine Lib.tabIs_of_head (g := 3) (t := 143) (e := 127) (n := 20) (rest := [("unicode/utf8.acceptRanges", Rows.laid_unicode_utf8_acceptRanges), ("unicode/utf8.first", Rows.laid_unicode_utf8_first)]) (by kernel_rfl) (by kernel_rfl) Tryz.underlying143 Tryz.underlying127 (by kernel_rfl) (by kernel_rfl) ?_
  rw [← e_]
  exact h1
 ·exact Tryz.laysM219.s1_3 W hsh
set_option maxRecDepth 100000 in
theorem lifted (os : Os) (started : os.Started) (H : Type) (enc : TypeId × Value → H) :
  ReturnsInHanded {} Tryz.checked os 3 .any (fun w args => (Rows.fnExactLeavesOfBlocksSpec.pre enc Tryz.prog Tryz.f3 Rows.fnExactLeavesOfBlocksRow.domain false w args ∧ laidMetH Tryz.prog Rows.fnExactLeavesOfBlocksRow.laid w) ∧ sizedMet enc Tryz.prog Tryz.f3 (OpenSpec.ofChange Rows.fnExactLeavesOfBlocksSpec) false w args) (Rows.fnExactLeavesOfBlocksSpec.post enc Tryz.prog Tryz.f3 false true false false) := by
 refine wrap_and_shaped (C := Tryz.checked) (X := fun w _ => laidMetH Tryz.prog Rows.fnExactLeavesOfBlocksRow.laid w) (fun _ _ _ hh h => h.of_heap hh) own started (by kernel_rfl) Tryz.func3
  (ChangeSpec.witness_shaped (enc := enc) (C := Tryz.checked) (os := os) (X := fun w _ => laidMetH Tryz.prog Rows.fnExactLeavesOfBlocksRow.laid w) false (World.laidAll Tryz.prog os Rows.fnExactLeavesOfBlocksRow.laid) #[.slice none 0 0] 8 (World.laidAll_os _ _ _) (World.shaped_of_ZipB (by kernel_rfl) (by kernel_rfl)) (by kernel_rfl) (by kernel_rfl) (by kernel_rfl) (by rw [MakeChecks.laidMetH_plain _ _ _ (by kernel_rfl)]; exact laidMet_laidAll _ (by kernel_rfl) (by kernel_rfl))) ?_
 intro W base args ds gs before hval0 hW hcnd hsz0 hL hsh _
 have hTab := tab_of hL hsh
 clear hL hsh
 have hval : ∀ (j : Nat) t v, Tryz.f3.params[j]? = some t → args[j]? = some v → Value.okWide Tryz.prog W .any base t v := hval0
 have hW' := hW
 obtain ⟨p, q, hA0, hV, rfl, hfz, hnd⟩ := hW
 have hA : DataW.TrodAll enc Tryz.prog W 0 (fun _ => true) true Tryz.f3.params.toList args.toList ds p := hA0
 rw [Tryz.params3] at hA hval
 obtain ⟨v0, vs0, d0, ds0, p0, q0, hargs, rfl, rfl, h0, r0⟩ := trodAll_cons hA
 obtain ⟨rfl, rfl, rfl⟩ := trodAll_nil r0
 obtain rfl : args = #[v0] := by cases args; simp_all
 obtain ⟨rfl, rfl⟩ := trodVars_none hV
 have lt0 : ∀ x ∈ p0, x.block < W.heap.size := by obtain ⟨m, hm⟩ := h0; exact DataW.trod_lt m _ _ _ hm
 have k0 := h0
 obtain ⟨z0, y0, u0, rfl⟩ := okWide_slice Tryz.underlying22 (hval 0 22 v0 rfl rfl)
 obtain ⟨fu0, hf0⟩ := h0
 obtain ⟨x0, ⟨A0, c0, hcs0, hc0, hr0⟩, w0⟩ := ((opn_slice Tryz.underlying22 (by kernel_rfl) opn36) : Opn _ _ (Kd.slice 36 k36) _).get rfl hf0
 obtain ⟨rfl, rfl, rfl⟩ : A0 = z0 ∧ x0.length = y0 ∧ c0 = u0 := (fun (h_ : z0 = A0 ∧ y0 = x0.length ∧ u0 = c0) => ⟨h_.1.symm, h_.2.1.symm, h_.2.2.symm⟩) (by simpa [Value.cells] using hcs0)
 clear hA0 hval0 hsz0
 obtain ⟨k, hP⟩ := Pure.FnExactLeavesOfBlocks x0 w0
 refine (ae_.calls k A0 c0 x0 true W hr0 hc0 hTab hP).mono fun e W' hh => ?_
 obtain ⟨rfl, bel0⟩ := hh
 have bel : Below W.heap.size W W' := bel0
 exact ⟨_, rfl, _, _, _, [], _, [], hW', trodAll_mk1 (shut_bool Tryz.underlying4 _), (trodAll_cons_mk (Below.trod laidOut (by kernel_rfl) (of_decide_eq_true (by kernel_rfl)) k0 bel lt0) trodAll_mk0), rfl, bel.frame _, fun h => by cases h⟩
theorem over : Rows.fnExactLeavesOfBlocksRow.holds Tryz.pinned (OpenSpec.ofChange Rows.fnExactLeavesOfBlocksSpec) :=
 OpenClaim.holds_of_wide 3 Tryz.f3 rfl rfl rfl rfl rfl rfl rfl ⟨rfl, rfl, rfl, rfl, rfl⟩ rfl rfl rfl rfl rfl (by kernel_rfl) Tryz.func3 (by kernel_rfl)
  (of_decide_eq_true (by kernel_rfl)) (by unfold Func.isWrapper; first | (rw [if_pos (by decide +kernel)]; kernel_rfl) | (rw [if_neg (by decide +kernel)]; exact ⟨rfl, rfl⟩))
  (fun os started H enc _ => lifted os started H enc)
theorem proved : Rows.FnExactLeavesOfBlocksSaid := over
#print axioms proved
end Go.Proofs.YtckboiphlhhckaaGreatDoor.fnExactLeavesOfBlocks
namespace Go.Proofs.YtckboiphlhhckaaGreatDoor
open Go
theorem fnExactLeavesOfBlocks_holds : Rows.FnExactLeavesOfBlocksCardSaid :=
 Claim7.holds_tied_plain_at .later [] [.data, .data, .data, .data, .pinned] true (true, "729a8db152dac35a151ad5378f322b0d0f33f79355cf5c829ee7a70d26b0a690") false fnExactLeavesOfBlocks.proved (fun _ h => by cases h) (by kernel_rfl) (fun _ h => by cases h) fnExactLeavesOfBlocks_row_tie rfl ⟨rfl, rfl⟩ (by kernel_rfl) rfl
  (fun f fn hf hfn => by
   obtain rfl : f = 3 := Option.some.inj ((show Tryz.prog.funcNamed "loop.example/g00956/laws.FnExactLeavesOfBlocks" = some 3 by kernel_rfl).symm.trans hf) |>.symm
   obtain rfl : fn = Tryz.f3 := (Option.some.inj (Tryz.func3.symm.trans hfn)).symm
   exact ⟨by kernel_rfl, fun j t ht => by
    rw [Tryz.params3] at ht
    have hm : t ∈ [22] := by simpa using Array.mem_of_getElem? ht
    have hall : ([22].all fun u => !Tryz.prog.wantsStandIn u) = true := by kernel_rfl
    exact (show Tryz.prog.wantsStandIn t = false by simpa using List.all_eq_true.1 hall t hm)⟩)
  (by kernel_rfl)
end Go.Proofs.YtckboiphlhhckaaGreatDoor
