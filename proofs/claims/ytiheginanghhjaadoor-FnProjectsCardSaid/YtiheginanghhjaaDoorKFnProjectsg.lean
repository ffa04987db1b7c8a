/- changes lead from one state to the other, undoing gives the state before, versions come from earlier ones This text holds the last walks, the plain law and the row. -/
import Derived.HandedShaped
import Derived.Test.YtiheginanghhjaaDoorRows
import Derived.Test.YtiheginanghhjaaDoorCards
import Derived.Test.YtiheginanghhjaaDoorTie
import Derived.Stop.LaidErr
import Derived.LaidMore
import Derived.Lay
import Derived.SevenTiedAt
import Derived.Stop.Joined
import Derived.Lib.LaidTab
import Derived.WalkKit
import Derived.ProofKit
import Derived.OpenShut
import Derived.ShutString
import Derived.ChangeOld
import Derived.Below
import Derived.SizedLaws
import Derived.Carry
import Derived.Test.YtiheginanghhjaaDoorKFnProjectsa
import Derived.Test.YtiheginanghhjaaDoorKFnProjectsd
import Derived.Test.YtiheginanghhjaaDoorKFnProjectse
import Derived.Test.YtiheginanghhjaaDoorKFnProjectsc
import Derived.Test.YtiheginanghhjaaDoorKFnProjectsf
set_option linter.unusedVariables false
set_option linter.unusedSimpArgs false
namespace Go.Proofs.YtiheginanghhjaaDoor.Q
open Go.RowKit Go.Proofs.YtiheginanghhjaaDoorW.PrintWords Go.Proofs.YtiheginanghhjaaDoorW.PrintLast Go.Proofs.YtiheginanghhjaaDoorW.PrintMore
abbrev Chg := S63
theorem rdChg (l : List Chg) (i : Nat) (h : i < l.length) : ak_ l (i : Int) = l[i] := by unfold ak_; exact getD_in l _ i h
theorem r8At_ok (c : List Int) (hc : u8s c) (i n : Int) (hi : 0 ≤ i) (hn : 1 ≤ n) (hn2 : n ≤ 1000) : ∃ t, dv_.f c i n = some t ∧ 0 ≤ t ∧ t < n := by
 unfold dv_.f
 by_cases c1 : n ≤ 1
 rotate_left
 ·rw [if_neg c1]
  by_cases c2 : i ≥ (c.length : Int)
  rotate_left
  ·rw [if_neg c2, if_pos hi, if_pos (by omega), if_neg (by omega)]
   have hv : 0 ≤ rd c i ∧ rd c i < 256 := by
    unfold rd
    have h : i.toNat < c.length := by omega
    rw [List.getD_eq_getElem?_getD, List.getElem?_eq_getElem h]
    exact hc.2 _ (List.getElem_mem h)
   rw [wr64 (by omega) (by omega)]
   exact ⟨_, rfl, Int.tmod_nonneg _ (by omega), Int.tmod_lt_of_pos _ (by omega)⟩
  rw [if_pos c2]; exact ⟨0, rfl, by omega, by omega⟩
 rw [if_pos c1]; exact ⟨0, rfl, by omega, by omega⟩
theorem r8Has_ev (l : List Int) (hl : (l.length : Int) ≤ 1048576) (x : Int) : Ev (fun k => ba_.f k l x) (decide (x ∈ l)) := by
 have go : ∀ (d i : Nat), i + d = l.length → Ev (fun k => ba_.l0 k l x i) (decide (x ∈ l.drop i)) := by
  intro d
  induction d with
  | zero =>
   intro i hi
   refine bf_ ?_
   simp only [ba_.l0]
   rw [List.drop_of_length_le (by omega)]
   exact Ev_f (by omega) (Ev_n (by simp))
  | succ d ih =>
   intro i hi
   have hi2 : i < l.length := by omega
   have er : rd l (i : Int) = l[i] := by unfold rd; exact getD_in l _ i hi2
   refine bf_ ?_
   simp only [ba_.l0]
   rw [er, wr64s i (by omega), List.drop_eq_getElem_cons hi2]
   refine Ev_t (by omega) (Ev_t (by omega) ?_)
   by_cases e : l[i] = x
   rotate_left
   ·refine Ev_f e (Ev_at (ih (i + 1) (by omega)) ?_)
    have e2 : ¬ x = l[i] := fun h => e h.symm
    simp only [List.mem_cons, e2, false_or]
   exact Ev_t e (Ev_n (by simp [e]))
 simp only [ba_.f]
 have g := go l.length 0 (by omega)
 rw [List.drop_zero] at g
 exact g
theorem sameS_self' (m : List Ent) (hl : (m.length : Int) ≤ 1048576) : Ev (fun k => aU_.f k m m) true := by
 have go : ∀ (d i : Nat), i + d = m.length → Ev (fun k => bV_.l0 k m m i) true := by
  intro d
  induction d with
  | zero => intro i hi; refine bf_ ?_; simp only [bV_.l0]; exact Ev_f (by omega) (Ev_n rfl)
  | succ d ih =>
   intro i hi
   refine bf_ ?_
   simp only [bV_.l0]
   rw [wr64s i (by omega)]
   exact Ev_t (by omega) (Ev_t (by omega) (Ev_t (by omega) (Ev_f (by simp) (ih (i + 1) (by omega)))))
 simp only [aU_.f]
 refine Ev_b (a := true) ?_ (Ev_n rfl)
 simp only [bV_.f]
 exact Ev_t (by trivial) (go m.length 0 (by omega))
abbrev plK (m : List Ent) (e : Ent) : Nat := plc (fun x => Go.Lib.compareBytes (fcE x) (fcE e)) m
abbrev fdK (m : List Ent) (e : Ent) : Bool := fnd (fun x => Go.Lib.compareBytes (fcE x) (fcE e)) m
theorem place_x {m : List Ent} (h : risE m) (hl : m.length ≤ 24) (e : Ent) : Ev (fun k => bM_.f k m e.f0) (((plK m e : Nat) : Int), fdK m e) := placeE_ev m (by omega) e.f0 (rsgG dq_ h _)
theorem fd_iff {m : List Ent} (h : risE m) (e : Ent) : fdK m e = true ↔ ∃ y ∈ m, fcE y = fcE e := by
 constructor
 ·intro hf
  obtain ⟨hp, h0⟩ := fnd_t hf
  exact ⟨_, List.getElem_mem hp, (dq_.zero _ _).1 h0⟩
 ·rintro ⟨y, hy, he⟩
  cases hf : fdK m e with
  | true => rfl
  | false =>
   obtain ⟨i, hi, rfl⟩ := List.mem_iff_getElem.1 hy
   exact absurd ((dq_.zero _ _).2 he) (fnd_f (rsgG dq_ h _) hf i hi)
theorem at_pl {m : List Ent} (h : risE m) {e : Ent} (he : e ∈ m) : ∃ hp : plK m e < m.length, m[plK m e]'hp = e := by
 obtain ⟨hp, h0⟩ := fnd_t ((fd_iff h e).2 ⟨e, he, rfl⟩)
 exact ⟨hp, ris_uniq h (List.getElem_mem hp) he ((dq_.zero _ _).1 h0)⟩
def drL (a b : List Ent) : List Chg := (a.filter (fun x => !fdK b x)).map (fun x => (⟨2, x⟩ : Chg))
def stL (a b : List Ent) : List Chg := (b.filter (fun y => dV (gE a y.f0) y)).map (fun y => (⟨1, y⟩ : Chg))
theorem diff_x {a b : List Ent} (ha : okS a) (hb : okS b) : Ev (fun k => av_.f k a b) (drL a b ++ stL a b, 0) := by
 have la := ha.1
 have lb := hb.1
 have two : ∀ (d i : Nat) (out : List Chg), i + d = b.length → out.length ≤ 24 + i → Ev (fun k => av_.l1 k a out b (b.length : Int) i) (out ++ ((b.drop i).filter (fun y => dV (gE a y.f0) y)).map (fun y => (⟨1, y⟩ : Chg)), 0) := by
  intro d
  induction d with
  | zero =>
   intro i out h1 h2
   refine bf_ ?_
   simp only [av_.l1]
   rw [List.drop_of_length_le (by omega)]
   exact Ev_f (by omega) (Ev_n (by simp))
  | succ d ih =>
   intro i out h1 h2
   have hi : i < b.length := by omega
   have f3 := getI_ev a ha.stn.1.1 b[i].f0
   refine bf_ ?_
   simp only [av_.l1]
   rw [bL_ b i hi, wr64s i (by omega), List.drop_eq_getElem_cons hi]
   refine Ev_t (by omega) (Ev_t (by omega) (Ev_t (by omega) (Ev_b f3 ?_)))
   cases hd : dV (gE a b[i].f0) b[i] with
   | true =>
    have nx := ih (i + 1) (out ++ [(⟨1, b[i]⟩ : Chg)]) (by omega) (by simp; omega)
    rw [List.filter_cons_of_pos (by simpa using hd), List.map_cons]
    rw [List.append_assoc, List.singleton_append] at nx
    exact Ev_t hd (Ev_t (by omega) nx)
   | false =>
    rw [List.filter_cons_of_neg (by simpa using hd)]
    exact Ev_f (by intro g; have g2 : dV (gE a b[i].f0) b[i] = true := g; rw [hd] at g2; cases g2) (ih (i + 1) out (by omega) (by omega))
 have one : ∀ (d i : Nat) (out : List Chg), i + d = a.length → out.length ≤ i → Ev (fun k => av_.l0 k a b out a (a.length : Int) i) (out ++ (((a.drop i).filter (fun x => !fdK b x)).map (fun x => (⟨2, x⟩ : Chg)) ++ stL a b), 0) := by
  intro d
  induction d with
  | zero =>
   intro i out h1 h2
   refine bf_ ?_
   simp only [av_.l0]
   rw [List.drop_of_length_le (by omega)]
   refine Ev_f (by omega) ?_
   have g := two b.length 0 out (by omega) (by omega)
   rw [List.drop_zero] at g
   exact g
  | succ d ih =>
   intro i out h1 h2
   have hi : i < a.length := by omega
   have f2 := place_x hb.2.1 lb a[i]
   refine bf_ ?_
   simp only [av_.l0]
   rw [bL_ a i hi, wr64s i (by omega), List.drop_eq_getElem_cons hi]
   refine Ev_t (by omega) (Ev_t (by omega) (Ev_t (by omega) (Ev_b f2 ?_)))
   cases hd : fdK b a[i] with
   | true =>
    rw [List.filter_cons_of_neg (by simp [hd])]
    exact Ev_t rfl (ih (i + 1) out (by omega) (by omega))
   | false =>
    have nx := ih (i + 1) (out ++ [(⟨2, a[i]⟩ : Chg)]) (by omega) (by simp; omega)
    rw [List.filter_cons_of_pos (by simp [hd]), List.map_cons, List.cons_append]
    rw [List.append_assoc, List.singleton_append] at nx
    exact Ev_f (by simp) (Ev_t (by omega) nx)
 simp only [av_.f]
 refine Ev_b ha.stn.2 (Ev_t rfl (Ev_b hb.stn.2 (bf_ ?_)))
 simp only [av_.j0]
 have g := one a.length 0 [] (by omega) (by simp)
 rw [List.nil_append, List.drop_zero] at g
 exact Ev_f (by decide) g
def stepC (out : List Ent) (c : Chg) : List Ent := if c.f0 = 1 then putE out c.f1 else out.take (plK out c.f1) ++ out.drop (plK out c.f1 + 1)
def Good : List Ent → List Chg → Prop
 | _, [] => True
 | out, c :: r => ((c.f0 = 1 ∧ (putE out c.f1).length ≤ 24) ∨ (c.f0 = 2 ∧ c.f1 ∈ out)) ∧ Good (stepC out c) r
theorem cut_ris {out : List Ent} (h : risE out) (p : Nat) : risE (out.take p ++ out.drop (p + 1)) := by
 have := h.sublist (List.eraseIdx_sublist out p)
 rwa [List.eraseIdx_eq_take_drop_succ] at this
theorem run_x : ∀ (rest pre : List Chg) (out : List Ent), (pre ++ rest).length ≤ 1000 → risE out → out.length ≤ 24 → Good out rest → Ev (fun k => aq_.l0 k out (pre ++ rest) ((pre ++ rest).length : Int) (pre.length : Int)) (rest.foldl stepC out, 0)
 | [], pre, out, hl, hr, ho, hg => by
  refine bf_ ?_
  simp only [aq_.l0]
  rw [List.append_nil]
  exact Ev_f (by omega) (Ev_n rfl)
 | c :: rest, pre, out, hl, hr, ho, hg => by
  obtain ⟨hc, hg2⟩ := hg
  have hlen : (pre ++ c :: rest).length = pre.length + rest.length + 1 := by simp; omega
  have hi : pre.length < (pre ++ c :: rest).length := by omega
  have rx : ak_ (pre ++ c :: rest) (pre.length : Int) = c := by unfold ak_; exact getD_at pre rest _ c _ rfl
  have w := wr64s pre.length (by omega)
  have f2 := place_x hr ho c.f1
  have nx : ∀ out', risE out' → out'.length ≤ 24 → Good out' rest → stepC out c = out' → Ev (fun k => aq_.l0 k out' (pre ++ c :: rest) ((pre ++ c :: rest).length : Int) ((pre.length + 1 : Nat) : Int)) ((c :: rest).foldl stepC out, 0) := by
   intro out' g1 g2 g3 g4
   have ih := run_x rest (pre ++ [c]) out' (by simp at hl ⊢; omega) g1 g2 g3
   rw [show pre ++ [c] ++ rest = pre ++ c :: rest by simp, show (pre ++ [c]).length = pre.length + 1 by simp] at ih
   rw [List.foldl_cons, g4]
   exact ih
  have hb : ∀ y : Ent, (⟨y.f0, (⟨y.f1.f0, y.f1.f1, y.f1.f2⟩ : S57)⟩ : Ent) = y := fun y => rfl
  refine bf_ ?_
  simp only [aq_.l0]
  rw [rx]
  refine Ev_t (by omega) (Ev_t (by omega) (Ev_t (by omega) (Ev_b f2 ?_)))
  rcases hc with ⟨k1, hp⟩ | ⟨k2, hm⟩
  ·have st : stepC out c = putE out c.f1 := by unfold stepC; rw [if_pos k1]
   rw [st] at hg2
   have pw : risE (putE out c.f1) := putG_pw dq_ hr c.f1
   have go := nx _ pw hp hg2 st
   have unf : putE out c.f1 = if fdK out c.f1 = true then out.take (plK out c.f1) ++ c.f1 :: out.drop (plK out c.f1 + 1) else out.take (plK out c.f1) ++ c.f1 :: out.drop (plK out c.f1) := rfl
   have hpl : plK out c.f1 ≤ out.length := plc_le _ out
   refine Ev_t k1 (bf_ ?_)
   simp only [aq_.j2]
   rw [w, hb]
   cases hf : fdK out c.f1 with
   | true =>
    obtain ⟨hlt, _⟩ := fnd_t hf
    rw [if_pos hf] at unf
    refine Ev_t (by first | exact True.intro | rfl) (Ev_t (by show (0 : Int) ≤ _; omega) (Ev_t (by show ((plK out c.f1 : Nat) : Int) < (out.length : Int); exact Int.ofNat_lt.2 hlt) ?_))
    have e : out.set (plK out c.f1) c.f1 = putE out c.f1 := by rw [unf, List.set_eq_take_append_cons_drop, if_pos hlt]
    rw [Int.toNat_natCast, e]
    exact go
   | false =>
    rw [if_neg (by rw [hf]; decide)] at unf
    have lp : (putE out c.f1).length = out.length + 1 := (putG_len (c := Go.Lib.compareBytes) (key := fcE) out c.f1).2.2 hf
    refine Ev_f (by decide) (Ev_t k1 (bf_ ?_))
    simp only [aq_.j3]
    rw [w, hb]
    refine Ev_f (by simp; omega) (Ev_t k1 (Ev_b (a := putE out c.f1) (Ev_c ?_) go))
    unfold cA_.f
    simp only
    rw [if_pos ⟨by omega, by omega, by omega⟩, Int.toNat_natCast, unf, List.append_assoc]
    rfl
  ·have k1 : ¬ c.f0 = 1 := by omega
   have st : stepC out c = out.take (plK out c.f1) ++ out.drop (plK out c.f1 + 1) := by unfold stepC; rw [if_neg k1]
   rw [st] at hg2
   have go := nx _ (cut_ris hr _) (by simp; omega) hg2 st
   obtain ⟨hlt, hat⟩ := at_pl hr hm
   have hf : fdK out c.f1 = true := (fd_iff hr c.f1).2 ⟨_, hm, rfl⟩
   have ro := bL_ out _ hlt
   rw [hat] at ro
   generalize plK out c.f1 = p at hlt go ro
   refine Ev_f k1 (bf_ ?_)
   simp only [aq_.j2]
   refine Ev_f (by decide) (Ev_f k1 (bf_ ?_))
   simp only [aq_.j3]
   rw [w, wr64s p (by omega)]
   refine Ev_f (by decide) (Ev_f k1 (Ev_t (by rw [hf]) (Ev_t (by omega) (Ev_t (by omega) ?_))))
   rw [ro]
   refine Ev_f (by simp) (Ev_b (a := out.take p ++ out.drop (p + 1)) (Ev_c ?_) go)
   unfold cz_.f
   rw [if_pos ⟨by omega, by omega, by omega⟩, Int.toNat_natCast, List.eraseIdx_eq_take_drop_succ]
theorem chk_x (x : List Chg) (hx : (x.length : Int) ≤ 1048576) (h : ∀ y ∈ x, (1 ≤ y.f0 ∧ y.f0 ≤ 2) ∧ entV y.f1) : Ev (fun k => cp_.f k x) false := by
 have go : ∀ (d i : Nat), i + d = x.length → Ev (fun k => bI_.l0 k x (x.length : Int) i) (-1) := by
  intro d
  induction d with
  | zero =>
   intro i h1
   refine bf_ ?_
   simp only [bI_.l0]
   exact Ev_f (by omega) (Ev_n rfl)
  | succ d ih =>
   intro i h1
   have hi : i < x.length := by omega
   obtain ⟨hk, hv⟩ := h _ (List.getElem_mem hi)
   have v2 : Ev (fun k => cx_.f k x[i].f0 x[i].f1.f0 x[i].f1.f1.f0 x[i].f1.f1.f1 x[i].f1.f1.f2) false := by
    obtain ⟨b, b1, b2, _⟩ := entry_ev x[i].f1
    obtain rfl : b = true := Ev_one b1 hv
    simp only [cx_.f]
    refine Ev_b (a := true) (Ev_c ?_) (Ev_t rfl (Ev_b b2 (Ev_n rfl)))
    rw [within_f]
    simp
    omega
   refine bf_ ?_
   simp only [bI_.l0]
   rw [rdChg x i hi, wr64s i (by omega)]
   exact Ev_t (by omega) (Ev_t (by omega) (Ev_t (by omega) (Ev_b v2 (Ev_f (by decide) (ih (i + 1) (by omega))))))
 simp only [cp_.f, bI_.f]
 exact Ev_b (go x.length 0 (by omega)) (Ev_n rfl)
theorem putE_mem_ {l : List Ent} (h : risE l) (b x : Ent) : x ∈ putE l b ↔ x = b ∨ (x ∈ l ∧ fcE x ≠ fcE b) := by
 have hr : Rsg (fun x => Go.Lib.compareBytes (fcE x) (fcE b)) l := rsgG dq_ h _
 have z : ∀ y : Ent, Go.Lib.compareBytes (fcE y) (fcE b) = 0 ↔ fcE y = fcE b := fun y => dq_.zero _ _
 have hpl := plc_le (fun x => Go.Lib.compareBytes (fcE x) (fcE b)) l
 unfold putE putG
 cases hf : fnd (fun x => Go.Lib.compareBytes (fcE x) (fcE b)) l with
 | true =>
  obtain ⟨hp, h0⟩ := fnd_t hf
  rw [if_pos rfl, List.mem_append, List.mem_cons]
  constructor
  ·rintro (g | g | g)
   ·exact Or.inr ⟨List.mem_of_mem_take g, fun e => by have := aheadG (c := Go.Lib.compareBytes) (key := fcE) g; rw [(z x).2 e] at this; omega⟩
   ·exact Or.inl g
   ·exact Or.inr ⟨List.mem_of_mem_drop g, fun e => by have := behindG hr g; rw [(z x).2 e] at this; omega⟩
  ·rintro (g | ⟨g, ne⟩)
   ·exact Or.inr (Or.inl g)
   ·obtain ⟨i, hi, rfl⟩ := List.mem_iff_getElem.1 g
    rcases Nat.lt_trichotomy i (plc (fun x => Go.Lib.compareBytes (fcE x) (fcE b)) l) with q | q | q
    ·exact Or.inl (List.mem_iff_getElem.2 ⟨i, by simp; omega, by rw [List.getElem_take]⟩)
    ·subst q; exact absurd ((z _).1 h0) ne
    ·exact Or.inr (Or.inr (List.mem_iff_getElem.2 ⟨i - (plc (fun x => Go.Lib.compareBytes (fcE x) (fcE b)) l + 1), by simp; omega, by rw [List.getElem_drop]; congr 1; omega⟩))
 | false =>
  rw [if_neg (by decide), List.mem_append, List.mem_cons]
  have no : ∀ y ∈ l, fcE y ≠ fcE b := by
   intro y hy e
   obtain ⟨i, hi, rfl⟩ := List.mem_iff_getElem.1 hy
   exact fnd_f hr hf i hi ((z _).2 e)
  constructor
  ·rintro (g | g | g)
   ·exact Or.inr ⟨List.mem_of_mem_take g, no x (List.mem_of_mem_take g)⟩
   ·exact Or.inl g
   ·exact Or.inr ⟨List.mem_of_mem_drop g, no x (List.mem_of_mem_drop g)⟩
  ·rintro (g | ⟨g, _⟩)
   ·exact Or.inr (Or.inl g)
   ·rw [← List.take_append_drop (plc (fun x => Go.Lib.compareBytes (fcE x) (fcE b)) l) l, List.mem_append] at g
    rcases g with g | g
    ·exact Or.inl g
    ·exact Or.inr (Or.inr g)
theorem cut_mem {l : List Ent} (h : risE l) {e : Ent} (he : e ∈ l) (x : Ent) : x ∈ l.take (plK l e) ++ l.drop (plK l e + 1) ↔ x ∈ l ∧ x ≠ e := by
 obtain ⟨hp, hat⟩ := at_pl h he
 rw [List.mem_append]
 constructor
 ·rintro (g | g)
  ·exact ⟨List.mem_of_mem_take g, fun q => by subst q; have := aheadG (c := Go.Lib.compareBytes) (key := fcE) g; rw [(dq_.zero _ _).2 rfl] at this; omega⟩
  ·exact ⟨List.mem_of_mem_drop g, fun q => by subst q; have := behindG (rsgG dq_ h _) g; rw [(dq_.zero _ _).2 rfl] at this; omega⟩
 ·rintro ⟨g, ne⟩
  obtain ⟨i, hi, rfl⟩ := List.mem_iff_getElem.1 g
  rcases Nat.lt_trichotomy i (plK l e) with q | q | q
  ·exact Or.inl (List.mem_iff_getElem.2 ⟨i, by simp; omega, by rw [List.getElem_take]⟩)
  ·subst q; exact absurd hat ne
  ·exact Or.inr (List.mem_iff_getElem.2 ⟨i - (plK l e + 1), by simp; omega, by rw [List.getElem_drop]; congr 1; omega⟩)
theorem drops_x : ∀ (es : List Ent) (out : List Ent) (R : List Chg), risE out → out.length ≤ 24 → es.Pairwise (· ≠ ·) → (∀ e ∈ es, e ∈ out) →
  ∃ out', (es.map (fun x => (⟨2, x⟩ : Chg))).foldl stepC out = out' ∧ risE out' ∧ out'.length ≤ out.length ∧ (∀ x, x ∈ out' ↔ x ∈ out ∧ x ∉ es) ∧ (Good out' R → Good out (es.map (fun x => (⟨2, x⟩ : Chg)) ++ R))
 | [], out, R, hr, hl, hn, hm => ⟨out, rfl, hr, Nat.le_refl _, fun x => by simp, fun h => h⟩
 | e :: es, out, R, hr, hl, hn, hm => by
  obtain ⟨n1, n2⟩ := List.pairwise_cons.1 hn
  have he := hm e (List.mem_cons_self ..)
  have st : stepC out (⟨2, e⟩ : Chg) = out.take (plK out e) ++ out.drop (plK out e + 1) := by unfold stepC; rw [if_neg (show ¬ (2 : Int) = 1 by decide)]
  obtain ⟨out', f1, f2, f3, f4, f5⟩ := drops_x es (out.take (plK out e) ++ out.drop (plK out e + 1)) R (cut_ris hr _) (by simp; omega) n2 (fun y hy => (cut_mem hr he y).2 ⟨hm y (List.mem_cons_of_mem _ hy), fun q => n1 y hy q.symm⟩)
  refine ⟨out', by rw [List.map_cons, List.foldl_cons, st]; exact f1, f2, Nat.le_trans f3 (by simp; omega), fun x => ?_, fun h => ?_⟩
  ·rw [f4, cut_mem hr he, List.mem_cons]
   constructor
   ·rintro ⟨⟨g1, g2⟩, g3⟩; exact ⟨g1, fun q => q.elim g2 g3⟩
   ·rintro ⟨g1, g2⟩; exact ⟨⟨g1, fun q => g2 (Or.inl q)⟩, fun q => g2 (Or.inr q)⟩
  ·rw [List.map_cons, List.cons_append]
   exact ⟨Or.inr ⟨rfl, he⟩, by rw [st]; exact f5 h⟩
theorem sets_x : ∀ (es : List Ent) (out : List Ent), risE out → out.length + es.length ≤ 24 → risE es →
  ∃ out', (es.map (fun x => (⟨1, x⟩ : Chg))).foldl stepC out = out' ∧ risE out' ∧ out'.length ≤ 24 ∧ (∀ x, x ∈ out' ↔ x ∈ es ∨ (x ∈ out ∧ ∀ e ∈ es, fcE x ≠ fcE e)) ∧ Good out (es.map (fun x => (⟨1, x⟩ : Chg)))
 | [], out, hr, hl, hn => ⟨out, rfl, hr, by simp at hl; exact hl, fun x => by simp, True.intro⟩
 | e :: es, out, hr, hl, hn => by
  obtain ⟨n1, n2⟩ := List.pairwise_cons.1 hn
  have st : stepC out (⟨1, e⟩ : Chg) = putE out e := by unfold stepC; rw [if_pos rfl]
  have pl : (putE out e).length ≤ out.length + 1 := (putG_len (c := Go.Lib.compareBytes) (key := fcE) out e).1
  simp only [List.length_cons] at hl
  obtain ⟨out', f1, f2, f3, f4, f5⟩ := sets_x es (putE out e) (putG_pw dq_ hr e) (by omega) n2
  refine ⟨out', by rw [List.map_cons, List.foldl_cons, st]; exact f1, f2, f3, fun x => ?_, ⟨Or.inl ⟨rfl, by dsimp only; omega⟩, by rw [st]; exact f5⟩⟩
  rw [f4, putE_mem_ hr, List.mem_cons]
  have ne : ∀ y ∈ es, fcE e ≠ fcE y := fun y hy q => by have := n1 y hy; rw [q] at this; exact absurd this (fc_irr y)
  constructor
  ·rintro (g | ⟨g | ⟨g, g2⟩, g3⟩)
   ·exact Or.inl (Or.inr g)
   ·exact Or.inl (Or.inl g)
   ·exact Or.inr ⟨g, fun y hy => by
     rcases List.mem_cons.1 hy with rfl | q
     ·exact g2
     ·exact g3 y q⟩
  ·rintro ((g | g) | ⟨g, g2⟩)
   ·subst g; exact Or.inr ⟨Or.inl rfl, ne⟩
   ·exact Or.inl g
   ·exact Or.inr ⟨Or.inr ⟨g, g2 e (List.mem_cons_self ..)⟩, fun y hy => g2 y (List.mem_cons_of_mem _ hy)⟩
theorem dV_false {x y : Ent} (h : dV x y = false) : x.f1 = y.f1 := by
 obtain ⟨a, b, c, d⟩ := x
 obtain ⟨a', b', c', d'⟩ := y
 unfold dV at h
 simp only [Bool.or_eq_false_iff, Bool.not_eq_false', beq_iff_eq, Go.ByteArray.toList_eq] at h
 obtain ⟨h2, h3, h4⟩ := h
 have e2 : b = b' := ByteArray.ext (Array.ext' h2)
 subst e2 h3 h4
 rfl
theorem apply_x {a b : List Ent} (ha : okS a) (hb : okS b) (hl : a.length + b.length ≤ 24) : Ev (fun k => aq_.f k a (drL a b ++ stL a b)) (b, 0) := by
 have sa := ha.stn.1
 have sb := hb.stn.1
 have fa := List.length_filter_le (fun x => !fdK b x) a
 have fb := List.length_filter_le (fun y => dV (gE a y.f0) y) b
 have hD : (a.filter (fun x => !fdK b x)).Pairwise (· ≠ ·) := (ha.2.1.sublist List.filter_sublist).imp (fun h q => by subst q; exact absurd h (fc_irr _))
 obtain ⟨o1, f1, f2, f3, f4, f5⟩ := drops_x (a.filter (fun x => !fdK b x)) a (stL a b) ha.2.1 ha.1 hD (fun e he => (List.mem_filter.1 he).1)
 obtain ⟨o2, g1, g2, g3, g4, g5⟩ := sets_x (b.filter (fun y => dV (gE a y.f0) y)) o1 f2 (by omega) (hb.2.1.sublist List.filter_sublist)
 have key : ∀ {x y : Ent}, fcE x = fcE y → x.f0 = y.f0 := fun h => ByteArray.ext (Array.ext' h)
 have gEx : ∀ {x : Ent}, x ∈ a → gE a x.f0 = x := by
  intro x hx
  rcases gE_cases a sa x.f0 with ⟨_, q⟩ | ⟨q, _, q3, _⟩
  ·exact absurd (List.mem_map.2 ⟨x, hx, rfl⟩) q
  ·rcases gE_in a x.f0 with w | w
   ·rw [w] at q
    have := zt.1
    rw [q] at this
    exact absurd this q3
   ·exact ris_uniq ha.2.1 w hx (by unfold fcE; rw [q])
 have eb : o2 = b := by
  refine ris_ext _ _ g2 hb.2.1 (fun x => ?_)
  rw [g4, f4]
  simp only [List.mem_filter]
  constructor
  ·rintro (⟨q, _⟩ | ⟨⟨q1, q2⟩, q3⟩)
   ·exact q
   ·have hf : fdK b x = true := by
     cases h : fdK b x with
     | true => rfl
     | false => exact absurd ⟨q1, by simp [h]⟩ q2
    obtain ⟨y, hy, e⟩ := (fd_iff hb.2.1 x).1 hf
    have hx0 := key e
    cases hd : dV (gE a y.f0) y with
    | true => exact absurd e.symm (q3 y ⟨hy, hd⟩)
    | false =>
     rw [hx0, gEx q1] at hd
     have e1 := dV_false hd
     have : x = y := by
      obtain ⟨a1, a2⟩ := x
      obtain ⟨b1, b2⟩ := y
      simp only at hx0 e1
      rw [hx0, e1]
     rw [this]; exact hy
  ·intro hx
   cases hd : dV (gE a x.f0) x with
   | true => exact Or.inl ⟨hx, rfl⟩
   | false =>
    right
    have e1 := dV_false hd
    have hv := sb.1.2.2 x hx
    have hin : gE a x.f0 ∈ a ∧ (gE a x.f0).f0 = x.f0 := by
     rcases gE_cases a sa x.f0 with ⟨q, _⟩ | ⟨q, _⟩
     ·rw [q] at e1
      have h0 := zt.2
      rw [e1] at h0
      exact absurd h0 (ven_ne hv)
     ·rcases gE_in a x.f0 with w | w
      ·rw [w] at e1
       have h0 := zt.2
       rw [e1] at h0
       exact absurd h0 (ven_ne hv)
      ·exact ⟨w, q⟩
    have ex : gE a x.f0 = x := by
     generalize gE a x.f0 = z at hin e1
     obtain ⟨a1, a2⟩ := x
     obtain ⟨b1, b2⟩ := z
     simp only at hin e1
     rw [hin.2, e1]
    rw [ex] at hin
    refine ⟨⟨hin.1, fun q => ?_⟩, fun y hy q => ?_⟩
    ·have := (fd_iff hb.2.1 x).2 ⟨x, hx, rfl⟩
     rw [this] at q
     simp at q
    ·have := ris_uniq hb.2.1 hx hy.1 q
     subst this
     rw [hd] at hy
     exact absurd hy.2 (by decide)
 have hall : ∀ y ∈ drL a b ++ stL a b, (1 ≤ y.f0 ∧ y.f0 ≤ 2) ∧ entV y.f1 := by
  intro y hy
  rcases List.mem_append.1 hy with q | q
  ·obtain ⟨x, hx, rfl⟩ := List.mem_map.1 q
   exact ⟨⟨show (1 : Int) ≤ 2 by decide, show (2 : Int) ≤ 2 by decide⟩, ha.2.2 x (List.mem_filter.1 hx).1⟩
  ·obtain ⟨x, hx, rfl⟩ := List.mem_map.1 q
   exact ⟨⟨show (1 : Int) ≤ 1 by decide, show (1 : Int) ≤ 2 by decide⟩, hb.2.2 x (List.mem_filter.1 hx).1⟩
 have hlen : (drL a b ++ stL a b).length ≤ 48 := by
  unfold drL stL
  rw [List.length_append, List.length_map, List.length_map]
  omega
 have r := run_x (drL a b ++ stL a b) [] a (by rw [List.nil_append]; omega) ha.2.1 ha.1 (f5 g5)
 rw [List.nil_append] at r
 have ef : (drL a b ++ stL a b).foldl stepC a = b := by
  rw [List.foldl_append]
  unfold drL stL
  rw [f1, g1, eb]
 rw [ef] at r
 simp only [aq_.f]
 refine Ev_b ha.stn.2 (Ev_t rfl (Ev_b (chk_x _ (by omega) hall) (bf_ ?_)))
 simp only [aq_.j0]
 have la := ha.1
 refine Ev_f (by decide) (Ev_b (a := a) (Ev_c ?_) r)
 unfold cj_.f
 rw [if_pos (by omega)]
theorem addV_x {m : List Ver} (h : okP m) (hl : m.length < 16) (a : Int) (nt : ByteArray) (st : List Ent) (hst : okS st) : Ev (fun k => aZ_.f k m a nt st) (m ++ [⟨(m.length : Int) + 1, a, nt, st⟩], 0) := by
 have hw : wrap64 ((m.length : Int) + 1) = (m.length : Int) + 1 := wr64 (by omega) (by omega)
 have hs := fun y hy => (h.w y hy).2
 simp only [aZ_.f, hw]
 obtain ⟨y, hy⟩ : ∃ y : List Ver, y = m ++ [⟨(m.length : Int) + 1, a, nt, st⟩] := ⟨_, rfl⟩
 have hyl : y.length = m.length + 1 := by rw [hy]; simp
 have hys : ∀ z ∈ y, (z.f3.length : Int) ≤ 1048576 := by
  intro z hz
  rw [hy] at hz
  rcases List.mem_append.1 hz with h | h
  ·exact hs z h
  ·rw [List.mem_singleton.1 h]; exact hst.len
 have go : ∀ (d i : Nat), i + d = y.length → Ev (fun k => aZ_.l0 k (y.take i) y (y.length : Int) i) (y, 0) := by
  intro d
  induction d with
  | zero =>
   intro i h
   refine bf_ ?_
   simp only [aZ_.l0]
   exact Ev_f (by omega) (Ev_n (by rw [List.take_of_length_le (by omega)]))
  | succ d ih =>
   intro i h
   have hi : i < y.length := by omega
   have h1 := hys y[i] (List.getElem_mem _)
   refine bf_ ?_
   simp only [aZ_.l0]
   rw [cg_ y i hi, wr64s i (by omega)]
   have := ih (i + 1) (by omega)
   rw [List.take_succ_eq_append_getElem hi] at this
   refine Ev_t (by omega) (Ev_t (by omega) (Ev_t (by omega) (Ev_b (a := y[i].f3) (Ev_c ?_) (Ev_t (by rw [List.length_take]; omega) this))))
   unfold cj_.f
   rw [if_pos (by omega)]
 have hc : cE_.f m = some m := by
  unfold cE_.f
  simp only [Option.bind_some, List.length_nil, List.nil_append]
  rw [if_pos (by omega)]
 rw [hc]
 refine Ev_f (by omega) (Ev_b (Ev_n rfl) (Ev_t (by omega) (Ev_b (Ev_n rfl) ?_)))
 rw [← hy]
 exact go y.length 0 (by omega)
theorem noteI {x : ByteArray} (hs : x.size ≤ 20) (h : Ev (fun k => bb_.f k x) true) : Ev (fun k => aQ_.f k x) true := by
 obtain ⟨b, n1, n2⟩ := note_ev x (by omega)
 obtain rfl : b = true := Ev_one n1 h
 exact n2
theorem commit_x {m : List Ver} (h : okP m) (hl : m.length < 16) (p : Int) (p0 : 0 ≤ p) (p1 : p ≤ (m.length : Int)) (nt : ByteArray) (hs : nt.size ≤ 20) (hn : Ev (fun k => bb_.f k nt) true) (st : List Ent) (hst : okS st) : Ev (fun k => aV_.f k m p nt st) (m ++ [⟨(m.length : Int) + 1, p, nt, st⟩], 0) := by
 simp only [aV_.f]
 refine Ev_b h.prj.2.1 (Ev_t rfl (Ev_b (noteI hs hn) (Ev_t rfl (Ev_b hst.stn.2 (bf_ ?_)))))
 simp only [aV_.j0]
 refine Ev_f (by decide) (Ev_b (a := true) (Ev_c ?_) (Ev_t rfl (Ev_b (addV_x h hl p nt st hst) (Ev_n rfl))))
 rw [within_f]
 simp
 omega
theorem code1_x {m : List Ver} (h : okP m) (a : Nat) (a1 : 1 ≤ a) (a2 : a ≤ m.length) : Ev (fun k => aE_.f k m [(a : Int)]) 0 := by
 have hl := h.1
 have wa : aF_.f (a : Int) 1 (m.length : Int) = some true := by rw [within_f]; simp; omega
 have ra : rd [(a : Int)] 0 = (a : Int) := rfl
 simp only [aE_.f]
 refine Ev_b h.prj.2.1 (Ev_t rfl (bf_ ?_))
 simp only [aE_.l0]
 rw [ra]
 refine Ev_t (by simp) (Ev_t (by decide) (Ev_t (by simp) (Ev_b (Ev_c wa) (Ev_t rfl (bf_ ?_)))))
 rw [show wrap64 ((0 : Int) + 1) = 1 by rw [wr64 (by omega) (by omega)]; rfl]
 simp only [aE_.l0]
 exact Ev_f (by simp) (Ev_n rfl)
theorem code2_x {m : List Ver} (h : okP m) (a : Nat) (a1 : 1 ≤ a) (a2 : a ≤ m.length) : Ev (fun k => aE_.f k m [(a : Int), (a : Int)]) 0 := by
 have hl := h.1
 have wa : aF_.f (a : Int) 1 (m.length : Int) = some true := by rw [within_f]; simp; omega
 have ra : rd [(a : Int), (a : Int)] 0 = (a : Int) := rfl
 have rb : rd [(a : Int), (a : Int)] 1 = (a : Int) := rfl
 simp only [aE_.f]
 refine Ev_b h.prj.2.1 (Ev_t rfl (bf_ ?_))
 simp only [aE_.l0]
 rw [ra]
 refine Ev_t (by simp) (Ev_t (by decide) (Ev_t (by simp) (Ev_b (Ev_c wa) (Ev_t rfl (bf_ ?_)))))
 rw [show wrap64 ((0 : Int) + 1) = 1 by rw [wr64 (by omega) (by omega)]; rfl]
 simp only [aE_.l0]
 rw [rb]
 refine Ev_t (by simp) (Ev_t (by decide) (Ev_t (by simp) (Ev_b (Ev_c wa) (Ev_t rfl (bf_ ?_)))))
 rw [show wrap64 ((1 : Int) + 1) = 2 by rw [wr64 (by omega) (by omega)]; rfl]
 simp only [aE_.l0]
 exact Ev_f (by simp) (Ev_n rfl)
theorem stateP_x {m : List Ver} (h : okP m) (n : Nat) (h1 : n ≤ m.length) : ∃ s : List Ent, okS s ∧ cK_.f m (n : Int) = some s ∧ (n = 0 → s = []) ∧ (∀ (g : n - 1 < m.length), 0 < n → s = m[n - 1].f3) := by
 have h16 := h.1
 by_cases c : n = 0
 rotate_left
 ·have hv1 : n - 1 < m.length := by omega
  have ew : wrap64 ((n : Int) - 1) = ((n - 1 : Nat) : Int) := by rw [wr64 (by omega) (by omega)]; omega
  refine ⟨(m[n - 1]'hv1).f3, (h.2 _ hv1).2.2.2.2, ?_, fun g => absurd g c, fun _ _ => rfl⟩
  unfold cK_.f
  rw [if_neg (by omega), ew, if_pos (by omega), if_pos (by omega), cg_ m (n - 1) hv1]
 subst c
 exact ⟨[], okS_nil, by simp [cK_.f], fun _ => rfl, fun _ g => by omega⟩
abbrev undoT (a : Nat) : ByteArray := (⟨#[117, 110, 100, 111, 32]⟩ : ByteArray) ++ its (a : Int)
theorem its_one (a : Nat) (h : 1 ≤ a) (h2 : a ≤ 9) : its (a : Int) = ⟨#[UInt8.ofNat (48 + a)]⟩ := by
 unfold its Go.Lib.itoa
 rw [if_neg (by omega)]
 have e : ((a : Int)).toNat = a := by omega
 have e2 : (a : Int).natAbs = a := by omega
 first
  | rw [e, Go.Lib.decDigits, dif_pos (by omega)]
  | rw [e2, Go.Lib.decDigits, dif_pos (by omega)]
  | rw [Go.Lib.decDigits, dif_pos (by omega)]
theorem undo_note (a : Nat) (h : 1 ≤ a) (h2 : a ≤ 9) : (undoT a).size ≤ 20 ∧ Ev (fun k => bb_.f k (undoT a)) true := by
 unfold undoT
 rw [its_one a h h2]
 have ha : a = 1 ∨ a = 2 ∨ a = 3 ∨ a = 4 ∨ a = 5 ∨ a = 6 ∨ a = 7 ∨ a = 8 ∨ a = 9 := by omega
 rcases ha with rfl | rfl | rfl | rfl | rfl | rfl | rfl | rfl | rfl <;> exact ⟨by decide +kernel, note_is _ (by decide +kernel) (by decide +kernel)⟩
theorem undo_x {m : List Ver} (h : okP m) (hl : m.length < 16) (a : Nat) (a1 : 1 ≤ a) (a2 : a ≤ m.length) (a9 : a ≤ 9) : ∃ s : List Ent, okS s ∧ Ev (fun k => bt_.f k m (a : Int)) (m ++ [⟨(m.length : Int) + 1, (a : Int), undoT a, s⟩], 0) ∧ (par m a = 0 → s = []) ∧ (∀ (g : par m a - 1 < m.length), 0 < par m a → s = m[par m a - 1].f3) := by
 obtain ⟨p1, p2⟩ := par_at h a a1 a2
 obtain ⟨s, os, es, s0, s1⟩ := stateP_x h (par m a) (by omega)
 refine ⟨s, os, ?_, s0, s1⟩
 have ew : wrap64 ((a : Int) - 1) = ((a - 1 : Nat) : Int) := by rw [wr64 (by omega) (by omega)]; omega
 have hz : (its (a : Int)).size ≤ 21 := by rw [its_one a a1 a9]; show (1 : Nat) ≤ 21; decide
 simp only [bt_.f]
 refine Ev_b (code1_x h a a1 a2) (Ev_t rfl (Ev_b (Ev_c (Decimal_f (a : Int) (by omega) (by omega))) (Ev_t (by omega) ?_)))
 rw [ew, cg_ m (a - 1) (by omega), p2]
 exact Ev_t (by omega) (Ev_t (by omega) (Ev_b (Ev_c es) (Ev_b (addV_x h hl (a : Int) (undoT a) s os) (Ev_n rfl))))
theorem anc_x {m : List Ver} (h : okP m) : ∀ (n a : Nat), a ≤ n → a ≤ m.length → ∀ out : List Int, out.length + a ≤ 2000 → Ev (fun k => bg_.l0 k m out (a : Int)) (out ++ chn m a a)
 | 0, a, h1, h2, out, ho => by
  obtain rfl : a = 0 := by omega
  refine bf_ ?_
  simp only [bg_.l0]
  exact Ev_f (by simp) (Ev_n (by simp [chn]))
 | n + 1, a, h1, h2, out, ho => by
  have hl := h.1
  by_cases h0 : a = 0
  rotate_left
  ·obtain ⟨p, q⟩ := par_at h a (by omega) h2
   have ew : wrap64 ((a : Int) - 1) = ((a - 1 : Nat) : Int) := by rw [wr64 (by omega) (by omega)]; omega
   refine bf_ ?_
   simp only [bg_.l0]
   rw [ew, cg_ m (a - 1) (by omega), q]
   have ih := anc_x h n (par m a) (by omega) (by omega) (out ++ [(a : Int)]) (by simp; omega)
   rw [List.append_assoc, List.singleton_append, ← chn_step h a (by omega) h2] at ih
   exact Ev_t (by omega) (Ev_t (by omega) (Ev_t (by omega) (Ev_t (by omega) ih)))
  subst h0
  refine bf_ ?_
  simp only [bg_.l0]
  exact Ev_f (by simp) (Ev_n (by simp [chn]))
theorem ancF_x {m : List Ver} (h : okP m) (a : Nat) (a1 : 1 ≤ a) (a2 : a ≤ m.length) : Ev (fun k => bg_.f k m (a : Int)) (chn m (par m a) (par m a)) := by
 have hl := h.1
 obtain ⟨p, q⟩ := par_at h a a1 a2
 have ew : wrap64 ((a : Int) - 1) = ((a - 1 : Nat) : Int) := by rw [wr64 (by omega) (by omega)]; omega
 simp only [bg_.f]
 rw [ew, cg_ m (a - 1) (by omega), q]
 have g := anc_x h (par m a) (par m a) (Nat.le_refl _) (by omega) [] (by simp; omega)
 rw [List.nil_append] at g
 exact Ev_t (by omega) (Ev_t (by omega) g)
theorem ancO_x {m : List Ver} (h : okP m) (a : Nat) (a1 : 1 ≤ a) (a2 : a ≤ m.length) : Ev (fun k => ch_.f k m (a : Int)) (chn m (par m a) (par m a), 0) := by
 simp only [ch_.f]
 exact Ev_b (code1_x h a a1 a2) (Ev_t rfl (Ev_b (ancF_x h a a1 a2) (Ev_n rfl)))
theorem comS_x {m : List Ver} (h : okP m) (a : Nat) (a1 : 1 ≤ a) (a2 : a ≤ m.length) : Ev (fun k => bS_.f k m (a : Int) (a : Int)) ((a : Int), 0) := by
 have hl := h.1
 obtain ⟨p, q⟩ := par_at h a a1 a2
 have lc := (chn_in h _ _ (Nat.le_refl _) (show par m a ≤ m.length by omega)).1
 simp only [bS_.f]
 refine Ev_b (code2_x h a a1 a2) (Ev_t rfl (Ev_b (a := (a : Int)) ?_ (Ev_n rfl)))
 simp only [be_.f]
 refine Ev_b (ancF_x h a a1 a2) (Ev_t (by omega) (bf_ ?_))
 simp only [be_.l0]
 refine Ev_t (by omega) (Ev_b (contains_ev _ (by simp; omega) _) (Ev_t (by simp) (Ev_n rfl)))
theorem heads_x {m : List Ver} (h : okP m) (hn : 1 ≤ m.length) : ∃ R : List Int, R.length ≤ m.length ∧ (m.length : Int) ∈ R ∧ Ev (fun k => bx_.f k m) (R, 0) := by
 have hl := h.1
 have ix : ∀ (v : Ver) (d i : Nat), i + d = m.length → ∃ r : Int, ((∀ j (hj : j < m.length), i ≤ j → m[j].f1 ≠ v.f0) → r < 0) ∧ Ev (fun k => bB_.l0 k m (m.length : Int) (i : Int) [v]) r := by
  intro v d
  induction d with
  | zero =>
   intro i hi
   refine ⟨-1, fun _ => by decide, bf_ ?_⟩
   simp only [bB_.l0]
   exact Ev_f (by omega) (Ev_n rfl)
  | succ d ih =>
   intro i hi
   have hi2 : i < m.length := by omega
   have er := cg_ m i hi2
   have e0 : (ar_ [v] 0) = v := rfl
   obtain ⟨r, h1, h2⟩ := ih (i + 1) (by omega)
   have ec : ∀ b : Bool, (m[i].f1 == v.f0) = b → dd_.f m[i].f0 m[i].f1 m[i].f2 m[i].f3 [v] = some b := fun b hb => by
    unfold dd_.f
    rw [if_pos (by simp), e0, hb]
   cases hb : (m[i].f1 == v.f0) with
   | true =>
    refine ⟨(i : Int), fun g => absurd (eq_of_beq hb) (g i hi2 (Nat.le_refl _)), bf_ ?_⟩
    simp only [bB_.l0, er]
    exact Ev_t (by omega) (Ev_t (by omega) (Ev_t (by omega) (Ev_b (Ev_c (ec true hb)) (Ev_t rfl (Ev_n rfl)))))
   | false =>
    refine ⟨r, fun g => h1 (fun j hj hij => g j hj (by omega)), bf_ ?_⟩
    simp only [bB_.l0, er]
    refine Ev_t (by omega) (Ev_t (by omega) (Ev_t (by omega) (Ev_b (Ev_c (ec false hb)) (Ev_f (by decide) ?_))))
    rw [wr64s i (by omega)]
    exact h2
 have cf : ∀ v : Ver, ∃ b, ((∀ j (hj : j < m.length), m[j].f1 ≠ v.f0) → b = false) ∧ Ev (fun k => cU_.f k m [v]) b := by
  intro v
  obtain ⟨r, h1, h2⟩ := ix v m.length 0 (by omega)
  refine ⟨decide (r ≥ 0), fun g => decide_eq_false (by have := h1 (fun j hj _ => g j hj); omega), ?_⟩
  simp only [cU_.f, bB_.f]
  exact Ev_b h2 (Ev_n rfl)
 have go : ∀ (d i : Nat) (out : List Int), i + d = m.length → out.length ≤ i → ∃ R : List Int, R.length ≤ m.length ∧ (∀ x ∈ out, x ∈ R) ∧ (i < m.length → (m.length : Int) ∈ R) ∧ Ev (fun k => bx_.l0 k m out m (m.length : Int) (i : Int)) (R, 0) := by
  intro d
  induction d with
  | zero =>
   intro i out hi ho
   refine ⟨out, by omega, fun x hx => hx, fun g => by omega, bf_ ?_⟩
   simp only [bx_.l0]
   exact Ev_f (by omega) (Ev_n rfl)
  | succ d ih =>
   intro i out hi ho
   have hi2 : i < m.length := by omega
   obtain ⟨b, b1, b2⟩ := cf m[i]
   have f0 := (h.2 i hi2).1
   cases b with
   | true =>
    obtain ⟨R, r1, r2, r3, r4⟩ := ih (i + 1) out (by omega) (by omega)
    refine ⟨R, r1, r2, fun _ => ?_, bf_ ?_⟩
    ·by_cases c : i + 1 < m.length
     ·exact r3 c
     ·have : true = false := b1 (fun j hj e => by have := (h.2 j hj).2.2.1; rw [e, f0] at this; omega)
      cases this
    ·simp only [bx_.l0]
     rw [cg_ m i hi2, wr64s i (by omega)]
     exact Ev_t (by omega) (Ev_t (by omega) (Ev_t (by omega) (Ev_b b2 (Ev_t rfl r4))))
   | false =>
    obtain ⟨R, r1, r2, r3, r4⟩ := ih (i + 1) (out ++ [m[i].f0]) (by omega) (by simp; omega)
    refine ⟨R, r1, fun x hx => r2 x (List.mem_append_left _ hx), fun _ => ?_, bf_ ?_⟩
    ·by_cases c : i + 1 < m.length
     ·exact r3 c
     ·have e : m[i].f0 = (m.length : Int) := by omega
      exact r2 _ (by rw [e]; simp)
    ·simp only [bx_.l0]
     rw [cg_ m i hi2, wr64s i (by omega)]
     exact Ev_t (by omega) (Ev_t (by omega) (Ev_t (by omega) (Ev_b b2 (Ev_f (by decide) (Ev_t (by omega) r4)))))
 obtain ⟨R, r1, _, r3, r4⟩ := go m.length 0 [] (by omega) (by simp)
 refine ⟨R, r1, r3 (by omega), ?_⟩
 simp only [bx_.f]
 exact Ev_b h.prj.2.1 (Ev_t rfl r4)
theorem its_sz (n : Int) (h0 : -1000000 ≤ n) (h1 : n ≤ 1000000) : (its n).size ≤ 21 := by
 unfold its
 rw [Bs_size]
 exact Go.Lib.itoa_length_le n (by omega) (by omega)
theorem its_ne (n : Nat) (h1 : 1 ≤ n) (h2 : n ≤ 9) : (its (n : Int)).size = 1 := by rw [its_one n h1 h2]; rfl
theorem vtext_x (a p : Nat) (a1 : 1 ≤ a) (a2 : a ≤ 9) (hp : p < a) (nt : ByteArray) (hs : nt.size ≤ 20) (hn : Ev (fun k => bb_.f k nt) true) (st : List Ent) (hst : okS st) (hz : ∀ y ∈ st, y.f0.size ≤ 100 ∧ y.f1.f0.size ≤ 100) : ∃ t, t.size ≠ 0 ∧ Ev (fun k => am_.f k (a : Int) (p : Int) nt st) t := by
 have hl := hst.1
 have hv := hst.stn.1.1.2.2
 have sa := its_ne a a1 a2
 have sp := its_sz (p : Int) (by omega) (by omega)
 have q1 : (⟨#[32]⟩ : ByteArray).size = 1 := rfl
 have q2 : (⟨#[61]⟩ : ByteArray).size = 1 := rfl
 have q3 : (⟨#[58]⟩ : ByteArray).size = 1 := rfl
 have q4 : (⟨#[60]⟩ : ByteArray).size = 1 := rfl
 have q5 : (⟨#[32, 35, 32]⟩ : ByteArray).size = 3 := rfl
 have go : ∀ (d i : Nat) (acc : ByteArray), i + d = st.length → acc.size ≤ 100 + i * 1000 → acc.size ≠ 0 → ∃ t, t.size ≠ 0 ∧ Ev (fun k => am_.l0 k acc st (st.length : Int) i (a : Int) (p : Int) nt st) t := by
  intro d
  induction d with
  | zero =>
   intro i acc hi h1 h2
   by_cases e : nt.toList = ([] : List UInt8)
   rotate_left
   ·refine ⟨acc ++ ((⟨#[32, 35, 32]⟩ : ByteArray) ++ nt), by simp only [ByteArray.size_append]; omega, bf_ ?_⟩
    simp only [am_.l0]
    exact Ev_f (by omega) (Ev_f e (Ev_t (by omega) (Ev_t (by omega) (Ev_n rfl))))
   refine ⟨acc, h2, bf_ ?_⟩
   simp only [am_.l0]
   exact Ev_f (by omega) (Ev_t e (Ev_n rfl))
  | succ d ih =>
   intro i acc hi h1 h2
   have hi2 : i < st.length := by omega
   obtain ⟨z1, z2⟩ := hz _ (List.getElem_mem hi2)
   have hvv := hv _ (List.getElem_mem hi2)
   have hr : (0 ≤ st[i].f1.f1 ∧ st[i].f1.f1 ≤ 100) ∧ 0 ≤ st[i].f1.f2 ∧ st[i].f1.f2 ≤ 179 := by
    unfold vVen at hvv
    simp only [Bool.and_eq_true, decide_eq_true_eq] at hvv
    exact ⟨hvv.2.1, hvv.2.2.2⟩
   have s1 := its_sz st[i].f1.f1 (by omega) (by omega)
   have s2 := its_sz st[i].f1.f2 (by omega) (by omega)
   obtain ⟨t, t1, t2⟩ := ih (i + 1) (acc ++ ((((((((⟨#[32]⟩ : ByteArray) ++ st[i].f0) ++ (⟨#[61]⟩ : ByteArray)) ++ st[i].f1.f0) ++ (⟨#[58]⟩ : ByteArray)) ++ its st[i].f1.f1) ++ (⟨#[58]⟩ : ByteArray)) ++ its st[i].f1.f2)) (by omega) (by simp only [ByteArray.size_append]; omega) (by simp only [ByteArray.size_append]; omega)
   refine ⟨t, t1, bf_ ?_⟩
   simp only [am_.l0]
   rw [bL_ st i hi2, wr64s i (by omega)]
   exact Ev_t (by omega) (Ev_t (by omega) (Ev_t (by omega) (Ev_t (by omega) (Ev_t (by omega) (Ev_t (by omega) (Ev_t (by omega) (Ev_b (Ev_c (Decimal_f _ (by omega) (by omega))) (Ev_t (by omega) (Ev_t (by omega) (Ev_b (Ev_c (Decimal_f _ (by omega) (by omega))) (Ev_t (by omega) (Ev_t (by omega) t2))))))))))))
 obtain ⟨t, t1, t2⟩ := go st.length 0 ((its (a : Int) ++ (⟨#[60]⟩ : ByteArray)) ++ its (p : Int)) (by omega) (by simp only [ByteArray.size_append]; omega) (by simp only [ByteArray.size_append]; omega)
 refine ⟨t, t1, ?_⟩
 simp only [am_.f]
 have w1 : aF_.f (a : Int) 1 16 = some true := by rw [within_f]; simp; omega
 have w2 : aF_.f (p : Int) 0 (wrap64 ((a : Int) - 1)) = some true := by rw [within_f, wr64 (by omega) (by omega)]; simp; omega
 refine Ev_b (Ev_c w1) (Ev_t rfl (Ev_b (Ev_c w2) (Ev_t rfl (Ev_b (noteI hs hn) (Ev_t rfl (Ev_b hst.stn.2 (bf_ ?_)))))))
 simp only [am_.j0]
 exact Ev_f (by decide) (Ev_b (Ev_c (Decimal_f _ (by omega) (by omega))) (Ev_t (by omega) (Ev_b (Ev_c (Decimal_f _ (by omega) (by omega))) (Ev_t (by omega) t2))))
theorem spi_len (l : List UInt8) (h : 0 ≤ spi l) : l.length ≤ 100 := by
 rcases sp_cases l with h' | h' | h' | h' | h' | h' | h' | h' | h' | h' | h'
 all_goals first | (subst h'; decide) | (obtain ⟨h0, h1, h2, h3, h4, h5, h6, h7, h8, h9⟩ := h'; unfold spi at h; simp only [h0, h1, h2, h3, h4, h5, h6, h7, h8, h9, if_false] at h; omega)
theorem ven_sz {x : ByteArray} {a b : Int} (h : vVen x.toList a b = true) : x.size ≤ 100 := by
 unfold vVen at h
 simp only [Bool.and_eq_true, decide_eq_true_eq] at h
 have := spi_len _ h.1
 rw [Go.ByteArray.toList_eq] at this
 have e : x.data.toList.length = x.size := by rw [Array.length_toList]; rfl
 omega
theorem nmG_sz : ∀ j, j < 5 → (nmG j).size ≤ 100 := by
 intro j hj
 have : ∀ j : Fin 5, (nmG j.1).size ≤ 100 := by decide
 exact this ⟨j, hj⟩
theorem anc_l0 (m : List Ver) (n : Nat) (n1 : 1 ≤ n) (nl : n ≤ m.length) (hl : m.length ≤ 1000) (up : List Int) (hul : up.length ≤ 1000) (hu : ∀ x ∈ up, 1 ≤ x ∧ x < (n : Int)) (hp : up.Pairwise (fun x y => y < x))
  (t : ByteArray) (ht : t.size ≠ 0) (hv : Ev (fun k => am_.f k ((m[n - 1]'(by omega)).f0) ((m[n - 1]'(by omega)).f1) ((m[n - 1]'(by omega)).f2) ((m[n - 1]'(by omega)).f3)) t) :
  ∀ d i : Nat, i + d = up.length → Ev (fun k => ae_.l0 k m (n : Int) up (i : Int)) true := by
 intro d
 induction d with
 | zero =>
  intro i hi
  refine bf_ ?_
  simp only [ae_.l0]
  have ew : wrap64 ((n : Int) - 1) = ((n - 1 : Nat) : Int) := by rw [wr64 (by omega) (by omega)]; omega
  rw [ew, cg_ m (n - 1) (by omega)]
  have hb : (t.toList != ([] : List UInt8)) = true := by
   rw [bne_iff_ne]
   intro e
   rw [Go.ByteArray.toList_eq] at e
   have e2 : t.data.toList.length = t.size := by rw [Array.length_toList]; rfl
   rw [e] at e2
   simp at e2
   omega
  refine Ev_f (by omega) (Ev_t (by omega) (Ev_t (by omega) (Ev_b hv ?_)))
  rw [hb]
  exact Ev_n rfl
 | succ d ih =>
  intro i hi
  have hi2 : i < up.length := by omega
  have nx := ih (i + 1) (by omega)
  have rx : rd up (i : Int) = up[i] := by unfold rd; exact getD_in up 0 i hi2
  have hx := hu _ (List.getElem_mem hi2)
  refine bf_ ?_
  simp only [ae_.l0]
  rw [rx, wr64s i (by omega)]
  refine Ev_t (by omega) (Ev_t (by omega) (Ev_f (by omega) (Ev_f (by omega) ?_)))
  by_cases c : (i : Int) > 0
  rotate_left
  ·exact Ev_f c nx
  have ew : wrap64 ((i : Int) - 1) = ((i - 1 : Nat) : Int) := by rw [wr64 (by omega) (by omega)]; omega
  have ry : rd up ((i - 1 : Nat) : Int) = up[i - 1]'(by omega) := by unfold rd; exact getD_in up 0 (i - 1) (by omega)
  have hlt := List.pairwise_iff_getElem.1 hp (i - 1) i (by omega) hi2 (by omega)
  rw [ew, ry]
  exact Ev_t c (Ev_t (by omega) (Ev_t (by omega) (Ev_f (by omega) nx)))
abbrev ntNext : ByteArray := ⟨#[110, 101, 120, 116]⟩
theorem next_is : ntNext.size ≤ 20 ∧ Ev (fun k => bb_.f k ntNext) true := ⟨by decide, note_is _ (by decide) (by decide +kernel)⟩
theorem law_Projects : ae_.Pure := by
 intro l0 l1 w0 w1
 have hw0 := w0.2
 have hw1 := w1.2
 suffices hs : Ev (fun k => ae_.f k l0 l1) true from hs.rounds
 simp only [ae_.f]
 by_cases c0 : (l0.length : Int) > 1048576
 ·exact Ev_b (a := true) (Ev_c (by unfold cT_.f; rw [if_pos c0])) (Ev_t rfl (Ev_n rfl))
 by_cases c1 : (l1.length : Int) > 1048576
 ·exact Ev_b (a := true) (Ev_c (by unfold cT_.f; rw [if_neg c0, decide_eq_true c1])) (Ev_t rfl (Ev_n rfl))
 refine Ev_b (a := false) (Ev_c (by unfold cT_.f; rw [if_neg c0, decide_eq_false c1])) (Ev_f (by decide) ?_)
 have u0 := u8s_of c0 hw0
 have u1 := u8s_of c1 hw1
 obtain ⟨m, em, om, lm⟩ := project_draw l0 u0
 obtain ⟨a, ea, oa, la, na⟩ := state_draw2 l1 u1
 obtain ⟨b, eb, ob, lb⟩ := changed_draw2 l0 u0 a oa (by omega)
 have ed := diff_x oa ob
 have ep := apply_x oa ob (by omega)
 have sb := sameS_self' b ob.len
 refine Ev_b em (Ev_b ea (Ev_b eb (Ev_b ed (Ev_b ep (Ev_t rfl (Ev_t rfl (Ev_b sb ?_)))))))
 refine bf_ ?_
 simp only [ae_.j0]
 have ew : wrap64 ((m.length : Int) + 1) = ((m.length + 1 : Nat) : Int) := by rw [wr64 (by omega) (by omega)]; omega
 have ew2 : wrap64 (((m.length + 1 : Nat) : Int) + 1) = ((m.length + 2 : Nat) : Int) := by rw [wr64 (by omega) (by omega)]; omega
 rw [ew, ew2]
 obtain ⟨t, et, t0, t1⟩ := r8At_ok l1 u1 0 ((m.length + 1 : Nat) : Int) (by omega) (by omega) (by omega)
 obtain ⟨p, rfl⟩ := Int.eq_ofNat_of_zero_le t0
 have ec := commit_x om (by omega) (p : Int) (by omega) (by omega) ntNext next_is.1 next_is.2 a oa
 have oN : okP (m ++ [⟨(m.length : Int) + 1, (p : Int), ntNext, a⟩]) := om.snoc (by omega) rfl (by dsimp only; omega) (by dsimp only; omega) next_is.1 next_is.2 oa
 generalize hN : m ++ [(⟨(m.length : Int) + 1, (p : Int), ntNext, a⟩ : Ver)] = nx at ec oN
 have nl : nx.length = m.length + 1 := by rw [← hN]; simp
 have nlast : ∀ (g : m.length + 1 - 1 < nx.length), nx[m.length + 1 - 1]'g = ⟨(m.length : Int) + 1, (p : Int), ntNext, a⟩ := by
  subst hN
  intro g
  simp only [Nat.add_sub_cancel]
  rw [List.getElem_append_right (Nat.le_refl _)]
  simp
 have nold : ∀ (i : Nat) (h : i < m.length) (g : i < nx.length), nx[i]'g = m[i] := by
  subst hN
  intro i h g
  exact List.getElem_append_left h
 obtain ⟨pp, pe⟩ := par_at oN (m.length + 1) (by omega) (by omega)
 have hpar : par nx (m.length + 1) = p := by rw [nlast] at pe; dsimp only at pe; omega
 obtain ⟨s, os, eu, su0, su1⟩ := undo_x oN (by omega) (m.length + 1) (by omega) (by omega) (by omega)
 have ean := ancO_x oN (m.length + 1) (by omega) (by omega)
 have eco := comS_x oN (m.length + 1) (by omega) (by omega)
 obtain ⟨R, R1, R2, eh⟩ := heads_x oN (by omega)
 have oU : okP (nx ++ [⟨(nx.length : Int) + 1, ((m.length + 1 : Nat) : Int), undoT (m.length + 1), s⟩]) := oN.snoc (by omega) rfl (by dsimp only; omega) (by dsimp only; omega) (undo_note _ (by omega) (by omega)).1 (undo_note _ (by omega) (by omega)).2 os
 rw [hpar] at ean su0 su1
 generalize hU : nx ++ [(⟨(nx.length : Int) + 1, ((m.length + 1 : Nat) : Int), undoT (m.length + 1), s⟩ : Ver)] = un at eu oU
 have ul : un.length = m.length + 2 := by rw [← hU]; simp; omega
 have ulast : ∀ g : m.length + 1 < un.length, un[m.length + 1]'g = ⟨(nx.length : Int) + 1, ((m.length + 1 : Nat) : Int), undoT (m.length + 1), s⟩ := by
  subst hU
  intro g
  rw [List.getElem_append_right (by omega)]
  simp
 have rh := r8Has_ev R (by omega) ((m.length + 1 : Nat) : Int)
 rw [decide_eq_true (by rw [nl] at R2; exact R2)] at rh
 have vu : Ev (fun k => bU_.f k un) true := by
  simp only [bU_.f]
  exact Ev_b oU.ev (Ev_n rfl)
 refine Ev_f (by decide) (Ev_b (Ev_c et) (Ev_b ec (Ev_b eu (Ev_b ean (Ev_b eh (Ev_b eco (Ev_t rfl (Ev_t (by dsimp only; omega) (Ev_t rfl (Ev_t (by dsimp only; omega) (Ev_t rfl (Ev_t rfl (Ev_b rh (Ev_t rfl (Ev_t rfl (Ev_t rfl (Ev_b vu ?_)))))))))))))))))
 have ruN : ar_ un ((m.length + 1 : Nat) : Int) = un[m.length + 1]'(by omega) := cg_ un (m.length + 1) (by omega)
 have cin := chn_in oN p p (Nat.le_refl _) (by omega)
 obtain ⟨vt, vt0, vt1⟩ := vtext_x (m.length + 1) p (by omega) (by omega) (by omega) ntNext next_is.1 next_is.2 a oa (fun y hy => ⟨by obtain ⟨j, j1, j2⟩ := na y hy; rw [j2]; exact nmG_sz j j1, ven_sz (oa.stn.1.1.2.2 y hy)⟩)
 rw [show ((m.length + 1 : Nat) : Int) = (m.length : Int) + 1 by omega] at vt1
 have hv : Ev (fun k => am_.f k ((nx[m.length + 1 - 1]'(by omega)).f0) ((nx[m.length + 1 - 1]'(by omega)).f1) ((nx[m.length + 1 - 1]'(by omega)).f2) ((nx[m.length + 1 - 1]'(by omega)).f3)) vt := by
  rw [nlast]
  exact vt1
 have lo := anc_l0 nx (m.length + 1) (by omega) (by omega) (by omega) (chn nx p p) (by omega) (fun x hx => by have := cin.2.1 x hx; omega) cin.2.2 vt vt0 hv (chn nx p p).length 0 (by omega)
 have sm := sameS_self' s os.len
 have hup := r8Has_ev (chn nx p p) (by omega) (p : Int)
 refine bf_ ?_
 simp only [ae_.j1]
 rw [ruN, ulast]
 refine Ev_f (by decide) ?_
 by_cases hp : (p : Int) > 0
 rotate_left
 ·obtain rfl : p = 0 := by omega
  have hs : s = [] := su0 rfl
  rw [hs] at sm ⊢
  have hm : decide (((0 : Nat) : Int) ∈ chn nx 0 0) = false := by simp [chn]
  rw [hm] at hup
  refine Ev_f hp (Ev_t (by omega) (Ev_t (by omega) (Ev_b sm (Ev_t rfl (Ev_b hup ?_)))))
  rw [decide_eq_false hp]
  refine bf_ ?_
  simp only [ae_.j4]
  exact Ev_f (by decide) lo
 have ewp : wrap64 ((p : Int) - 1) = ((p - 1 : Nat) : Int) := by rw [wr64 (by omega) (by omega)]; omega
 have hs : s = (m[p - 1]'(by omega)).f3 := by rw [su1 (by omega) (by omega), nold (p - 1) (by omega)]
 rw [ewp, cg_ m (p - 1) (by omega), ← hs]
 have hm : decide ((p : Int) ∈ chn nx p p) = true := by rw [chn_step oN p (by omega) (by omega)]; simp
 rw [hm] at hup
 refine Ev_t hp (Ev_t (by omega) (Ev_t (by omega) (Ev_t (by omega) (Ev_t (by omega) (Ev_b sm (Ev_t rfl (Ev_b hup ?_)))))))
 rw [decide_eq_true hp]
 refine bf_ ?_
 simp only [ae_.j2]
 exact Ev_f (by decide) lo
end Go.Proofs.YtiheginanghhjaaDoor.Q
namespace Go.Proofs.YtiheginanghhjaaDoor.Pure
open Go.Proofs.YtiheginanghhjaaDoor.Q
theorem FnProjects : ae_.Pure := law_Projects
end Go.Proofs.YtiheginanghhjaaDoor.Pure
namespace Go.Proofs.YtiheginanghhjaaDoor.OPN
open Go
theorem wrap_and_shaped {H : Type} {enc : TypeId × Value → H} {a : Assume} {C : Checked} {os : Os} {f : FuncId} {fn : Func} {s : ChangeSpec} {conds : List PathCond} {apart fresh handsOn again : Bool} {X : World → Array Value → Prop}
  (hX : ∀ (w w' : World) (args : Array Value), w.heap = w'.heap → X w args → X w' args)
  (own : ownKnob C.prog.godebug = none) (started : os.Started) (noInit : C.prog.inits.idxOf? f = none) (hfn : C.prog.funcs[f]? = some fn)
  (witness : ∃ (w : World) (tape : Tape) (i : Input), w.os = os ∧ (w.forCall tape i).Shaped C.prog ∧ i.vars = [] ∧ Input.okWide C.prog (w.forCall tape i) .any w.heap.size f i ∧
   ((s.pre enc C.prog fn conds apart (w.forCall tape i).memory i.args ∧ X (w.forCall tape i).memory i.args) ∧ sizedMet enc C.prog fn (OpenSpec.ofChange s) apart (w.forCall tape i).memory i.args) ∧ a.holds C.prog (lone (Frame.enter C.prog f i.args .normal) [] (w.forCall tape i)))
  (contract : ∀ (W : World) (base : Nat) (args : Array Value) (ds gs : List (DataW H)) (before : List MemPlace),
   (∀ (j : Nat) t v, fn.params[j]? = some t → args[j]? = some v → Value.okWide C.prog W .any base t v) →
   DataW.Whole enc C.prog fn.params.toList s.vars apart W args.toList ds gs before →
   conds.all (PathCond.test C.prog ⟨fn.params.toList, ds, s.plain.varTypes C.prog, gs⟩) = true →
   (DataW.weightsEach C.prog (fn.params.toList ++ s.plain.varTypes C.prog) (ds ++ gs)).all (· ≤ reachBytes) = true → X W args → W.ShapedOpen C.prog →
   a.holds C.prog (lone (Frame.enter C.prog f args .normal) [] W) →
   Calls C.prog f args W fun e W' => ∃ v, e = .returned v ∧ s.post enc C.prog fn apart fresh handsOn again W args v W') :
  ReturnsInHanded a C os f .any (fun w args => (s.pre enc C.prog fn conds apart w args ∧ X w args) ∧ sizedMet enc C.prog fn (OpenSpec.ofChange s) apart w args) (s.post enc C.prog fn apart fresh handsOn again) := by
 refine returnsInHanded_of_calls own started noInit witness ?_
 intro w tape i _ hsh _ hok hpre hholds
 obtain ⟨_, _, _, fn', hfn', _, _, _, _, hval⟩ := hok
 have e : fn' = fn := Option.some.inj (hfn'.symm.trans hfn)
 subst e
 obtain ⟨⟨⟨ds, gs, before, hw, hc⟩, hx⟩, hz⟩ := hpre
 have hw' := DataW.Whole.of_heap (w' := w.forCall tape i) (by rfl) hw
 refine (contract (w.forCall tape i) w.heap.size i.args ds gs before hval hw' hc (hz.weights hw) (hX _ _ _ (by rfl) hx) hsh hholds).mono fun e W' ⟨v, he, hp⟩ => ?_
 subst he
 exact ChangeSpec.post_blind hp
end Go.Proofs.YtiheginanghhjaaDoor.OPN
namespace Go.Proofs.YtiheginanghhjaaDoor.fnProjects
open Go.ChangeShapes Go.WideShapes Go.ChangeAt Go.RowKit Go.Proofs.YtiheginanghhjaaDoor.OPN Go.Proofs.YtiheginanghhjaaDoor.Q Go.Proofs.YtiheginanghhjaaDoorW.PrintWords
open Go.ChangeMaps (open_string shut_string)
theorem own : ownKnob Tryd.prog.godebug = none := by kernel_rfl
theorem laidOut : laidOutB Tryd.prog = true := by kernel_rfl
theorem tab_of {W : World} (hL : laidMetH Tryd.prog Rows.fnProjectsRow.laid W) (hsh : W.ShapedOpen Tryd.prog) : Tab_ W := by
 refine ⟨?_, ?_⟩
 ·have hl := hL
  rw [MakeChecks.laidMetH_plain _ _ _ (by kernel_rfl)] at hl
  have h1 := (laidMet.tail (laidMet.tail hl))
  have e_ : (Rows.laid_internal_strconv_uint64pow10 : DataW Unit) = Lib.tabData .u64 Lib.pow10Tab := by rfl
  refine Lib.tabIs_of_head (g := 1) (t := 124) (e := 80) (n := 20) (rest := []) (by kernel_rfl) (by kernel_rfl) Tryd.underlying124 Tryd.underlying80 (by kernel_rfl) (by kernel_rfl) ?_
  rw [← e_]
  exact h1
 ·trivial
set_option maxRecDepth 100000 in
theorem lifted (os : Os) (started : os.Started) (H : Type) (enc : TypeId × Value → H) :
  ReturnsInHanded {} Tryd.checked os 3 .any (fun w args => (Rows.fnProjectsSpec.pre enc Tryd.prog Tryd.f3 Rows.fnProjectsRow.domain false w args ∧ laidMetH Tryd.prog Rows.fnProjectsRow.laid w) ∧ sizedMet enc Tryd.prog Tryd.f3 (OpenSpec.ofChange Rows.fnProjectsSpec) false w args) (Rows.fnProjectsSpec.post enc Tryd.prog Tryd.f3 false true false false) := by
 refine wrap_and_shaped (C := Tryd.checked) (X := fun w _ => laidMetH Tryd.prog Rows.fnProjectsRow.laid w) (fun _ _ _ hh h => h.of_heap hh) own started (by kernel_rfl) Tryd.func3
  (ChangeSpec.witness_shaped (enc := enc) (C := Tryd.checked) (os := os) (X := fun w _ => laidMetH Tryd.prog Rows.fnProjectsRow.laid w) false (World.laidAll Tryd.prog os Rows.fnProjectsRow.laid) #[.slice none 0 0, .slice none 0 0] 8 (World.laidAll_os _ _ _) (World.shaped_of_ZipB (by kernel_rfl) (by kernel_rfl)) (by kernel_rfl) (by kernel_rfl) (by kernel_rfl) (by rw [MakeChecks.laidMetH_plain _ _ _ (by kernel_rfl)]; exact laidMet_laidAll _ (by kernel_rfl) (by kernel_rfl))) ?_
 intro W base args ds gs before hval0 hW hcnd hsz0 hL hsh _
 have hTab := tab_of hL hsh
 clear hL hsh
 have hval : ∀ (j : Nat) t v, Tryd.f3.params[j]? = some t → args[j]? = some v → Value.okWide Tryd.prog W .any base t v := hval0
 have hW' := hW
 obtain ⟨p, q, hA0, hV, rfl, hfz, hnd⟩ := hW
 have hA : DataW.TrodAll enc Tryd.prog W 0 (fun _ => true) true Tryd.f3.params.toList args.toList ds p := hA0
 rw [Tryd.params3] at hA hval
 obtain ⟨v0, vs0, d0, ds0, p0, q0, hargs, rfl, rfl, h0, r0⟩ := trodAll_cons hA
 obtain ⟨v1, vs1, d1, ds1, p1, q1, rfl, rfl, rfl, h1, r1⟩ := trodAll_cons r0
 obtain ⟨rfl, rfl, rfl⟩ := trodAll_nil r1
 obtain rfl : args = #[v0, v1] := by cases args; simp_all
 obtain ⟨rfl, rfl⟩ := trodVars_none hV
 have lt0 : ∀ x ∈ p0, x.block < W.heap.size := by obtain ⟨m, hm⟩ := h0; exact DataW.trod_lt m _ _ _ hm
 have k0 := h0
 obtain ⟨z0, y0, u0, rfl⟩ := okWide_slice Tryd.underlying22 (hval 0 22 v0 rfl rfl)
 obtain ⟨fu0, hf0⟩ := h0
 obtain ⟨x0, ⟨A0, c0, hcs0, hc0, hr0⟩, w0⟩ := ((opn_slice Tryd.underlying22 (by kernel_rfl) (opn_int Tryd.underlying5 (by kernel_rfl))) : Opn _ _ (Kd.slice 5 (Kd.int .u8)) _).get rfl hf0
 obtain ⟨rfl, rfl, rfl⟩ : A0 = z0 ∧ x0.length = y0 ∧ c0 = u0 := (fun (h_ : z0 = A0 ∧ y0 = x0.length ∧ u0 = c0) => ⟨h_.1.symm, h_.2.1.symm, h_.2.2.symm⟩) (by simpa [Value.cells] using hcs0)
 have lt1 : ∀ x ∈ p1, x.block < W.heap.size := by obtain ⟨m, hm⟩ := h1; exact DataW.trod_lt m _ _ _ hm
 have k1 := h1
 obtain ⟨z1, y1, u1, rfl⟩ := okWide_slice Tryd.underlying22 (hval 1 22 v1 rfl rfl)
 obtain ⟨fu1, hf1⟩ := h1
 obtain ⟨x1, ⟨A1, c1, hcs1, hc1, hr1⟩, w1⟩ := ((opn_slice Tryd.underlying22 (by kernel_rfl) (opn_int Tryd.underlying5 (by kernel_rfl))) : Opn _ _ (Kd.slice 5 (Kd.int .u8)) _).get rfl hf1
 obtain ⟨rfl, rfl, rfl⟩ : A1 = z1 ∧ x1.length = y1 ∧ c1 = u1 := (fun (h_ : z1 = A1 ∧ y1 = x1.length ∧ u1 = c1) => ⟨h_.1.symm, h_.2.1.symm, h_.2.2.symm⟩) (by simpa [Value.cells] using hcs1)
 clear hA0 hval0 hsz0
 obtain ⟨k, hP⟩ := Pure.FnProjects x0 x1 w0 w1
 refine (ae_.calls k A0 c0 x0 A1 c1 x1 true W hr0 hc0 hr1 hc1 hTab hP).mono fun e W' hh => ?_
 obtain ⟨rfl, bel0⟩ := hh
 have bel : Below W.heap.size W W' := bel0
 exact ⟨_, rfl, _, _, _, [], _, [], hW', trodAll_mk1 (shut_bool Tryd.underlying4 _), (trodAll_cons_mk (Below.trod laidOut (by kernel_rfl) (of_decide_eq_true (by kernel_rfl)) k0 bel lt0) (trodAll_cons_mk (Below.trod laidOut (by kernel_rfl) (of_decide_eq_true (by kernel_rfl)) k1 bel lt1) trodAll_mk0)), rfl, bel.frame _, fun h => by cases h⟩
theorem over : Rows.fnProjectsRow.holds Tryd.pinned (OpenSpec.ofChange Rows.fnProjectsSpec) :=
 OpenClaim.holds_of_wide 3 Tryd.f3 rfl rfl rfl rfl rfl rfl rfl ⟨rfl, rfl, rfl, rfl, rfl⟩ rfl rfl rfl rfl rfl (by kernel_rfl) Tryd.func3 (by kernel_rfl)
  (of_decide_eq_true (by kernel_rfl)) (by unfold Func.isWrapper; first | (rw [if_pos (by decide +kernel)]; kernel_rfl) | (rw [if_neg (by decide +kernel)]; exact ⟨rfl, rfl⟩))
  (fun os started H enc _ => lifted os started H enc)
theorem proved : Rows.FnProjectsSaid := over
#print axioms proved
end Go.Proofs.YtiheginanghhjaaDoor.fnProjects
namespace Go.Proofs.YtiheginanghhjaaDoor
open Go
theorem fnProjects_holds : Rows.FnProjectsCardSaid :=
 Claim7.holds_tied_plain_at .later [] [.data, .data, .data] true (true, "41643b89d8c2eac8877ee8fb01a3f78a06fd2be1af342040932683c2e44dc987") false fnProjects.proved (fun _ h => by cases h) (by kernel_rfl) (fun _ h => by cases h) fnProjects_row_tie rfl ⟨rfl, rfl⟩ (by kernel_rfl) rfl
  (fun f fn hf hfn => by
   obtain rfl : f = 3 := Option.some.inj ((show Tryd.prog.funcNamed "loop.example/g00956/laws.FnProjects" = some 3 by kernel_rfl).symm.trans hf) |>.symm
   obtain rfl : fn = Tryd.f3 := (Option.some.inj (Tryd.func3.symm.trans hfn)).symm
   exact ⟨by kernel_rfl, fun j t ht => by
    rw [Tryd.params3] at ht
    have hm : t ∈ [22, 22] := by simpa using Array.mem_of_getElem? ht
    have hall : ([22, 22].all fun u => !Tryd.prog.wantsStandIn u) = true := by kernel_rfl
    exact (show Tryd.prog.wantsStandIn t = false by simpa using List.all_eq_true.1 hall t hm)⟩)
  (by kernel_rfl)
end Go.Proofs.YtiheginanghhjaaDoor
