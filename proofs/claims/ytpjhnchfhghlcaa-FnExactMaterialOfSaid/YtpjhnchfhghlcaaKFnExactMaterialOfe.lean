/- The statement FnExactMaterialOf: for all pictures and rates the program and the reference give the same cost of the veneers and the same code; what is handed over stays as it is. This text holds the functions' walks and the words for them. -/
import Derived.Test.YtpjhnchfhghlcaaKFnExactMaterialOfa
import Derived.Test.YtpjhnchfhghlcaaKFnExactMaterialOfd
import Derived.Test.YtpjhnchfhghlcaaKFnExactMaterialOfb
set_option linter.unusedVariables false
set_option linter.unusedSimpArgs false
namespace Go.Proofs.Ytpjhnchfhghlcaa.Q
open Go.RowKit Go.Proofs.YtpjhnchfhghlcaaW.PrintWords Go.Proofs.YtpjhnchfhghlcaaW.PrintLast Go.Proofs.YtpjhnchfhghlcaaW.PrintMore
attribute [local go_sem] aB_ aE_ aN_ aO_ ax_ aw_ aD_ aC_
def ch_.f (a0_0 : Int) (a0_1 : Int) (a1_0 : Int) (a1_1 : Int) (a2_0 : Int) (a2_1 : Int) (a3_0 : Int) (a3_1 : Int) : Option (Bool) := (be_.f a0_0 a0_1 a1_0 a1_1 a2_0 a2_1 a3_0 a3_1).bind fun t105 => (if t105 = true then (some true) else ((bt_.f a0_0 a0_1 a1_0 a1_1 a2_0 a2_1).bind fun t106 => (if t106 = true then (some true) else ((bt_.f a0_0 a0_1 a1_0 a1_1 a3_0 a3_1).bind fun t107 => (if t107 = true then (some true) else ((bt_.f a2_0 a2_1 a3_0 a3_1 a0_0 a0_1).bind fun t108 => (if t108 = true then (some true) else ((bt_.f a2_0 a2_1 a3_0 a3_1 a1_0 a1_1).bind fun t109 => (some t109)))))))))
set_option maxHeartbeats 8000000 in
set_option maxRecDepth 100000 in
theorem ch_.calls (a0_0 : Int) (a0_1 : Int) (a1_0 : Int) (a1_1 : Int) (a2_0 : Int) (a2_1 : Int) (a3_0 : Int) (a3_1 : Int) (r : Bool) (w : World) (h : ch_.f a0_0 a0_1 a1_0 a1_1 a2_0 a2_1 a3_0 a3_1 = some r) :
  Calls Try.prog 69 #[.agg #[.int .i64 a0_0, .int .i64 a0_1], .agg #[.int .i64 a1_0, .int .i64 a1_1], .agg #[.int .i64 a2_0, .int .i64 a2_1], .agg #[.int .i64 a3_0, .int .i64 a3_1]] w fun e w' => e = .returned (.bool r) ∧ Below w.heap.size w w' := by
 have hu81 := Try.underlying81
 have HB := Aside0.mk (Below.refl w.heap.size w)
 have H : ((be_.f a0_0 a0_1 a1_0 a1_1 a2_0 a2_1 a3_0 a3_1).bind fun t105 => (if t105 = true then (some true) else ((bt_.f a0_0 a0_1 a1_0 a1_1 a2_0 a2_1).bind fun t106 => (if t106 = true then (some true) else ((bt_.f a0_0 a0_1 a1_0 a1_1 a3_0 a3_1).bind fun t107 => (if t107 = true then (some true) else ((bt_.f a2_0 a2_1 a3_0 a3_1 a0_0 a0_1).bind fun t108 => (if t108 = true then (some true) else ((bt_.f a2_0 a2_1 a3_0 a3_1 a1_0 a1_1).bind fun t109 => (some t109)))))))))) = some r := h
 clear h
 replace H := Option.bind_eq_some_iff.mp H
 obtain ⟨t105, A50, H⟩ := H
 (try dsimp only at H)
 have A5 := Aside0.mk A50
 clear A50
 by_cases c6 : t105 = true
 rotate_left
 ·replace c6 := Bool.eq_false_iff.mpr c6
  subst c6
  have H1 : ((bt_.f a0_0 a0_1 a1_0 a1_1 a2_0 a2_1).bind fun t106 => (if t106 = true then (some true) else ((bt_.f a0_0 a0_1 a1_0 a1_1 a3_0 a3_1).bind fun t107 => (if t107 = true then (some true) else ((bt_.f a2_0 a2_1 a3_0 a3_1 a0_0 a0_1).bind fun t108 => (if t108 = true then (some true) else ((bt_.f a2_0 a2_1 a3_0 a3_1 a1_0 a1_1).bind fun t109 => (some t109)))))))) = some r := by rw [if_neg (show ¬ (false = true) by decide)] at H; exact H
  clear H
  have H := H1
  clear H1
  replace H := Option.bind_eq_some_iff.mp H
  obtain ⟨t106, A220, H⟩ := H
  (try dsimp only at H)
  have A22 := Aside0.mk A220
  clear A220
  by_cases c23 : t106 = true
  rotate_left
  ·replace c23 := Bool.eq_false_iff.mpr c23
   subst c23
   have H1 : ((bt_.f a0_0 a0_1 a1_0 a1_1 a3_0 a3_1).bind fun t107 => (if t107 = true then (some true) else ((bt_.f a2_0 a2_1 a3_0 a3_1 a0_0 a0_1).bind fun t108 => (if t108 = true then (some true) else ((bt_.f a2_0 a2_1 a3_0 a3_1 a1_0 a1_1).bind fun t109 => (some t109)))))) = some r := by rw [if_neg (show ¬ (false = true) by decide)] at H; exact H
   clear H
   have H := H1
   clear H1
   replace H := Option.bind_eq_some_iff.mp H
   obtain ⟨t107, A430, H⟩ := H
   (try dsimp only at H)
   have A43 := Aside0.mk A430
   clear A430
   by_cases c44 : t107 = true
   rotate_left
   ·replace c44 := Bool.eq_false_iff.mpr c44
    subst c44
    have H1 : ((bt_.f a2_0 a2_1 a3_0 a3_1 a0_0 a0_1).bind fun t108 => (if t108 = true then (some true) else ((bt_.f a2_0 a2_1 a3_0 a3_1 a1_0 a1_1).bind fun t109 => (some t109)))) = some r := by rw [if_neg (show ¬ (false = true) by decide)] at H; exact H
    clear H
    have H := H1
    clear H1
    replace H := Option.bind_eq_some_iff.mp H
    obtain ⟨t108, A680, H⟩ := H
    (try dsimp only at H)
    have A68 := Aside0.mk A680
    clear A680
    by_cases c69 : t108 = true
    rotate_left
    ·replace c69 := Bool.eq_false_iff.mpr c69
     subst c69
     have H1 : ((bt_.f a2_0 a2_1 a3_0 a3_1 a1_0 a1_1).bind fun t109 => (some t109)) = some r := by rw [if_neg (show ¬ (false = true) by decide)] at H; exact H
     clear H
     have H := H1
     clear H1
     replace H := Option.bind_eq_some_iff.mp H
     obtain ⟨t109, A970, H⟩ := H
     (try dsimp only at H)
     have A97 := Aside0.mk A970
     clear A970
     obtain rfl := Option.some.inj H
     go_enter Try.func69, Try.ntmps69
     go_wp2_with (first | ((with_reducible refine al_ (N := 4) rfl ?_); refine ak_ ?hg (N := 4) ?hd (cs := #[.int .i64 a0_0, .int .i64 a0_1]) (t := 81) ?hr ?_; (case hd => rfl); (case hg => rfl); (case hr => (go_simp; try rfl)); intro gb101 hg w98 hbox hb; have BK101 := Aside0.mk (hbox); have GW101 := Aside0.mk ((by rw [hg]; exact (ae_ (bz HB.out)) : w.heap.size ≤ gb101)); have GE101 := GW101; replace HB := Aside0.mk (ad_ (bz HB.out) hb); clear hb hbox hg) | ((with_reducible refine al_ (N := 5) rfl ?_); refine ak_ ?hg (N := 5) ?hd (cs := #[.int .i64 a1_0, .int .i64 a1_1]) (t := 81) ?hr ?_; (case hd => rfl); (case hg => rfl); (case hr => (go_simp; try rfl)); intro gb102 hg w99 hbox hb; have BK102 := Aside0.mk (hbox); have GW102 := Aside0.mk ((by rw [hg]; exact (ae_ (bq)) : w.heap.size ≤ gb102)); have GE102 := GW102; replace HB := Aside0.mk (ad_ (bq) hb); have NB101_102 := Aside0.mk ((by rw [hg]; exact Nat.ne_of_lt (aj_ (kz BK101.out)) : gb101 ≠ gb102)); have NB102_101 := Aside0.mk ((by rw [hg]; exact Nat.ne_of_gt (aj_ (kz BK101.out)) : gb102 ≠ gb101)); replace BK101 := Aside0.mk (aa_ (kz BK101.out) hb); clear hb hbox hg) | ((with_reducible refine al_ (N := 6) rfl ?_); refine ak_ ?hg (N := 6) ?hd (cs := #[.int .i64 a2_0, .int .i64 a2_1]) (t := 81) ?hr ?_; (case hd => rfl); (case hg => rfl); (case hr => (go_simp; try rfl)); intro gb103 hg w100 hbox hb; have BK103 := Aside0.mk (hbox); have GW103 := Aside0.mk ((by rw [hg]; exact (ae_ (bq)) : w.heap.size ≤ gb103)); have GE103 := GW103; replace HB := Aside0.mk (ad_ (bq) hb); have NB101_103 := Aside0.mk ((by rw [hg]; exact Nat.ne_of_lt (aj_ (kz BK101.out)) : gb101 ≠ gb103)); have NB103_101 := Aside0.mk ((by rw [hg]; exact Nat.ne_of_gt (aj_ (kz BK101.out)) : gb103 ≠ gb101)); replace BK101 := Aside0.mk (aa_ (kz BK101.out) hb); have NB102_103 := Aside0.mk ((by rw [hg]; exact Nat.ne_of_lt (aj_ (kz BK102.out)) : gb102 ≠ gb103)); have NB103_102 := Aside0.mk ((by rw [hg]; exact Nat.ne_of_gt (aj_ (kz BK102.out)) : gb103 ≠ gb102)); replace BK102 := Aside0.mk (aa_ (kz BK102.out) hb); clear hb hbox hg) | ((with_reducible refine al_ (N := 7) rfl ?_); refine ak_ ?hg (N := 7) ?hd (cs := #[.int .i64 a3_0, .int .i64 a3_1]) (t := 81) ?hr ?_; (case hd => rfl); (case hg => rfl); (case hr => (go_simp; try rfl)); intro gb104 hg w101 hbox hb; have BK104 := Aside0.mk (hbox); have GW104 := Aside0.mk ((by rw [hg]; exact (ae_ (bq)) : w.heap.size ≤ gb104)); have GE104 := GW104; replace HB := Aside0.mk (ad_ (bq) hb); have NB101_104 := Aside0.mk ((by rw [hg]; exact Nat.ne_of_lt (aj_ (kz BK101.out)) : gb101 ≠ gb104)); have NB104_101 := Aside0.mk ((by rw [hg]; exact Nat.ne_of_gt (aj_ (kz BK101.out)) : gb104 ≠ gb101)); replace BK101 := Aside0.mk (aa_ (kz BK101.out) hb); have NB102_104 := Aside0.mk ((by rw [hg]; exact Nat.ne_of_lt (aj_ (kz BK102.out)) : gb102 ≠ gb104)); have NB104_102 := Aside0.mk ((by rw [hg]; exact Nat.ne_of_gt (aj_ (kz BK102.out)) : gb104 ≠ gb102)); replace BK102 := Aside0.mk (aa_ (kz BK102.out) hb); have NB103_104 := Aside0.mk ((by rw [hg]; exact Nat.ne_of_lt (aj_ (kz BK103.out)) : gb103 ≠ gb104)); have NB104_103 := Aside0.mk ((by rw [hg]; exact Nat.ne_of_gt (aj_ (kz BK103.out)) : gb104 ≠ gb103)); replace BK103 := Aside0.mk (aa_ (kz BK103.out) hb); clear hb hbox hg; have hnb102 := NB101_102.out; have hnc102 := NB102_101.out; have hnb103 := NB101_103.out; have hnc103 := NB103_101.out; have hnb104 := NB101_104.out; have hnc104 := NB104_101.out; obtain ⟨hcz105_0, hcz105_1⟩ := cz2_ BK101.out; obtain ⟨hfz105_0, hfz105_1⟩ := fz2_ BK101.out; have hnb106 := NB102_103.out; have hnc106 := NB103_102.out; have hnb107 := NB102_104.out; have hnc107 := NB104_102.out; obtain ⟨hcz108_0, hcz108_1⟩ := cz2_ BK102.out; obtain ⟨hfz108_0, hfz108_1⟩ := fz2_ BK102.out; have hnb109 := NB103_104.out; have hnc109 := NB104_103.out; obtain ⟨hcz110_0, hcz110_1⟩ := cz2_ BK103.out; obtain ⟨hfz110_0, hfz110_1⟩ := fz2_ BK103.out; obtain ⟨hcz111_0, hcz111_1⟩ := cz2_ BK104.out; obtain ⟨hfz111_0, hfz111_1⟩ := fz2_ BK104.out) | ((with_reducible refine an_ (f := 82) rfl ?_); refine aU_ (some 13) rfl rfl Try.func82 (by kernel_rfl) rfl #[.agg #[.int .i64 a0_0, .int .i64 a0_1], .agg #[.int .i64 a1_0, .int .i64 a1_1], .agg #[.int .i64 a2_0, .int .i64 a2_1], .agg #[.int .i64 a3_0, .int .i64 a3_1]] rfl (by first | rfl | (simp only [lma_, lmc_, lmn_]; first | done | rfl)) ?_; (with_reducible refine (be_.calls a0_0 a0_1 a1_0 a1_1 a2_0 a2_1 a3_0 a3_1 false _ A5.out).mono ?_); rintro e w112 ⟨rfl, hb⟩; refine ⟨_, rfl, ?_⟩; replace BK101 := Aside0.mk (aa_ (kz BK101.out) hb); replace BK102 := Aside0.mk (aa_ (kz BK102.out) hb); replace BK103 := Aside0.mk (aa_ (kz BK103.out) hb); replace BK104 := Aside0.mk (aa_ (kz BK104.out) hb); replace HB := Aside0.mk (ad_ (bq) hb); (try clear hb); obtain ⟨hcz113_0, hcz113_1⟩ := cz2_ BK101.out; obtain ⟨hfz113_0, hfz113_1⟩ := fz2_ BK101.out; obtain ⟨hcz114_0, hcz114_1⟩ := cz2_ BK102.out; obtain ⟨hfz114_0, hfz114_1⟩ := fz2_ BK102.out; obtain ⟨hcz115_0, hcz115_1⟩ := cz2_ BK103.out; obtain ⟨hfz115_0, hfz115_1⟩ := fz2_ BK103.out) | (go_at_call 68; (with_reducible refine (bt_.calls a0_0 a0_1 a1_0 a1_1 a2_0 a2_1 false _ A22.out).mono ?_); rintro e w116 ⟨rfl, hb⟩; replace BK101 := Aside0.mk (aa_ (kz BK101.out) hb); replace BK102 := Aside0.mk (aa_ (kz BK102.out) hb); replace BK103 := Aside0.mk (aa_ (kz BK103.out) hb); replace BK104 := Aside0.mk (aa_ (kz BK104.out) hb); replace HB := Aside0.mk (ad_ (bq) hb); (try clear hb); obtain ⟨hcz117_0, hcz117_1⟩ := cz2_ BK101.out; obtain ⟨hfz117_0, hfz117_1⟩ := fz2_ BK101.out; obtain ⟨hcz118_0, hcz118_1⟩ := cz2_ BK102.out; obtain ⟨hfz118_0, hfz118_1⟩ := fz2_ BK102.out; obtain ⟨hcz119_0, hcz119_1⟩ := cz2_ BK104.out; obtain ⟨hfz119_0, hfz119_1⟩ := fz2_ BK104.out) | (go_at_call 68; (with_reducible refine (bt_.calls a0_0 a0_1 a1_0 a1_1 a3_0 a3_1 false _ A43.out).mono ?_); rintro e w120 ⟨rfl, hb⟩; replace BK101 := Aside0.mk (aa_ (kz BK101.out) hb); replace BK102 := Aside0.mk (aa_ (kz BK102.out) hb); replace BK103 := Aside0.mk (aa_ (kz BK103.out) hb); replace BK104 := Aside0.mk (aa_ (kz BK104.out) hb); replace HB := Aside0.mk (ad_ (bq) hb); (try clear hb); obtain ⟨hcz121_0, hcz121_1⟩ := cz2_ BK103.out; obtain ⟨hfz121_0, hfz121_1⟩ := fz2_ BK103.out; obtain ⟨hcz122_0, hcz122_1⟩ := cz2_ BK104.out; obtain ⟨hfz122_0, hfz122_1⟩ := fz2_ BK104.out; obtain ⟨hcz123_0, hcz123_1⟩ := cz2_ BK101.out; obtain ⟨hfz123_0, hfz123_1⟩ := fz2_ BK101.out) | (go_at_call 68; (with_reducible refine (bt_.calls a2_0 a2_1 a3_0 a3_1 a0_0 a0_1 false _ A68.out).mono ?_); rintro e w124 ⟨rfl, hb⟩; replace BK101 := Aside0.mk (aa_ (kz BK101.out) hb); replace BK102 := Aside0.mk (aa_ (kz BK102.out) hb); replace BK103 := Aside0.mk (aa_ (kz BK103.out) hb); replace BK104 := Aside0.mk (aa_ (kz BK104.out) hb); replace HB := Aside0.mk (ad_ (bq) hb); (try clear hb); obtain ⟨hcz125_0, hcz125_1⟩ := cz2_ BK103.out; obtain ⟨hfz125_0, hfz125_1⟩ := fz2_ BK103.out; obtain ⟨hcz126_0, hcz126_1⟩ := cz2_ BK104.out; obtain ⟨hfz126_0, hfz126_1⟩ := fz2_ BK104.out; obtain ⟨hcz127_0, hcz127_1⟩ := cz2_ BK102.out; obtain ⟨hfz127_0, hfz127_1⟩ := fz2_ BK102.out) | (go_at_call 68; (with_reducible refine (bt_.calls a2_0 a2_1 a3_0 a3_1 a1_0 a1_1 t109 _ A97.out).mono ?_); rintro e w128 ⟨rfl, hb⟩; replace BK101 := Aside0.mk (aa_ (kz BK101.out) hb); replace BK102 := Aside0.mk (aa_ (kz BK102.out) hb); replace BK103 := Aside0.mk (aa_ (kz BK103.out) hb); replace BK104 := Aside0.mk (aa_ (kz BK104.out) hb); replace HB := Aside0.mk (ad_ (bq) hb); (try clear hb)))
     go_ret
     exact ⟨by first | rfl | (simp [*, ah_, ai_] <;> rfl), bq⟩
    subst c69
    have H1 : (some true) = some r := by rw [if_pos rfl] at H; exact H
    clear H
    have H := H1
    clear H1
    obtain rfl := Option.some.inj H
    go_enter Try.func69, Try.ntmps69
    go_wp2_with (first | ((with_reducible refine al_ (N := 4) rfl ?_); refine ak_ ?hg (N := 4) ?hd (cs := #[.int .i64 a0_0, .int .i64 a0_1]) (t := 81) ?hr ?_; (case hd => rfl); (case hg => rfl); (case hr => (go_simp; try rfl)); intro gb101 hg w70 hbox hb; have BK101 := Aside0.mk (hbox); have GW101 := Aside0.mk ((by rw [hg]; exact (ae_ (bz HB.out)) : w.heap.size ≤ gb101)); have GE101 := GW101; replace HB := Aside0.mk (ad_ (bz HB.out) hb); clear hb hbox hg) | ((with_reducible refine al_ (N := 5) rfl ?_); refine ak_ ?hg (N := 5) ?hd (cs := #[.int .i64 a1_0, .int .i64 a1_1]) (t := 81) ?hr ?_; (case hd => rfl); (case hg => rfl); (case hr => (go_simp; try rfl)); intro gb102 hg w71 hbox hb; have BK102 := Aside0.mk (hbox); have GW102 := Aside0.mk ((by rw [hg]; exact (ae_ (bq)) : w.heap.size ≤ gb102)); have GE102 := GW102; replace HB := Aside0.mk (ad_ (bq) hb); have NB101_102 := Aside0.mk ((by rw [hg]; exact Nat.ne_of_lt (aj_ (kz BK101.out)) : gb101 ≠ gb102)); have NB102_101 := Aside0.mk ((by rw [hg]; exact Nat.ne_of_gt (aj_ (kz BK101.out)) : gb102 ≠ gb101)); replace BK101 := Aside0.mk (aa_ (kz BK101.out) hb); clear hb hbox hg) | ((with_reducible refine al_ (N := 6) rfl ?_); refine ak_ ?hg (N := 6) ?hd (cs := #[.int .i64 a2_0, .int .i64 a2_1]) (t := 81) ?hr ?_; (case hd => rfl); (case hg => rfl); (case hr => (go_simp; try rfl)); intro gb103 hg w72 hbox hb; have BK103 := Aside0.mk (hbox); have GW103 := Aside0.mk ((by rw [hg]; exact (ae_ (bq)) : w.heap.size ≤ gb103)); have GE103 := GW103; replace HB := Aside0.mk (ad_ (bq) hb); have NB101_103 := Aside0.mk ((by rw [hg]; exact Nat.ne_of_lt (aj_ (kz BK101.out)) : gb101 ≠ gb103)); have NB103_101 := Aside0.mk ((by rw [hg]; exact Nat.ne_of_gt (aj_ (kz BK101.out)) : gb103 ≠ gb101)); replace BK101 := Aside0.mk (aa_ (kz BK101.out) hb); have NB102_103 := Aside0.mk ((by rw [hg]; exact Nat.ne_of_lt (aj_ (kz BK102.out)) : gb102 ≠ gb103)); have NB103_102 := Aside0.mk ((by rw [hg]; exact Nat.ne_of_gt (aj_ (kz BK102.out)) : gb103 ≠ gb102)); replace BK102 := Aside0.mk (aa_ (kz BK102.out) hb); clear hb hbox hg) | ((with_reducible refine al_ (N := 7) rfl ?_); refine ak_ ?hg (N := 7) ?hd (cs := #[.int .i64 a3_0, .int .i64 a3_1]) (t := 81) ?hr ?_; (case hd => rfl); (case hg => rfl); (case hr => (go_simp; try rfl)); intro gb104 hg w73 hbox hb; have BK104 := Aside0.mk (hbox); have GW104 := Aside0.mk ((by rw [hg]; exact (ae_ (bq)) : w.heap.size ≤ gb104)); have GE104 := GW104; replace HB := Aside0.mk (ad_ (bq) hb); have NB101_104 := Aside0.mk ((by rw [hg]; exact Nat.ne_of_lt (aj_ (kz BK101.out)) : gb101 ≠ gb104)); have NB104_101 := Aside0.mk ((by rw [hg]; exact Nat.ne_of_gt (aj_ (kz BK101.out)) : gb104 ≠ gb101)); replace BK101 := Aside0.mk (aa_ (kz BK101.out) hb); have NB102_104 := Aside0.mk ((by rw [hg]; exact Nat.ne_of_lt (aj_ (kz BK102.out)) : gb102 ≠ gb104)); have NB104_102 := Aside0.mk ((by rw [hg]; exact Nat.ne_of_gt (aj_ (kz BK102.out)) : gb104 ≠ gb102)); replace BK102 := Aside0.mk (aa_ (kz BK102.out) hb); have NB103_104 := Aside0.mk ((by rw [hg]; exact Nat.ne_of_lt (aj_ (kz BK103.out)) : gb103 ≠ gb104)); have NB104_103 := Aside0.mk ((by rw [hg]; exact Nat.ne_of_gt (aj_ (kz BK103.out)) : gb104 ≠ gb103)); replace BK103 := Aside0.mk (aa_ (kz BK103.out) hb); clear hb hbox hg; have hnb74 := NB101_102.out; have hnc74 := NB102_101.out; have hnb75 := NB101_103.out; have hnc75 := NB103_101.out; have hnb76 := NB101_104.out; have hnc76 := NB104_101.out; obtain ⟨hcz77_0, hcz77_1⟩ := cz2_ BK101.out; obtain ⟨hfz77_0, hfz77_1⟩ := fz2_ BK101.out; have hnb78 := NB102_103.out; have hnc78 := NB103_102.out; have hnb79 := NB102_104.out; have hnc79 := NB104_102.out; obtain ⟨hcz80_0, hcz80_1⟩ := cz2_ BK102.out; obtain ⟨hfz80_0, hfz80_1⟩ := fz2_ BK102.out; have hnb81 := NB103_104.out; have hnc81 := NB104_103.out; obtain ⟨hcz82_0, hcz82_1⟩ := cz2_ BK103.out; obtain ⟨hfz82_0, hfz82_1⟩ := fz2_ BK103.out; obtain ⟨hcz83_0, hcz83_1⟩ := cz2_ BK104.out; obtain ⟨hfz83_0, hfz83_1⟩ := fz2_ BK104.out) | ((with_reducible refine an_ (f := 82) rfl ?_); refine aU_ (some 13) rfl rfl Try.func82 (by kernel_rfl) rfl #[.agg #[.int .i64 a0_0, .int .i64 a0_1], .agg #[.int .i64 a1_0, .int .i64 a1_1], .agg #[.int .i64 a2_0, .int .i64 a2_1], .agg #[.int .i64 a3_0, .int .i64 a3_1]] rfl (by first | rfl | (simp only [lma_, lmc_, lmn_]; first | done | rfl)) ?_; (with_reducible refine (be_.calls a0_0 a0_1 a1_0 a1_1 a2_0 a2_1 a3_0 a3_1 false _ A5.out).mono ?_); rintro e w84 ⟨rfl, hb⟩; refine ⟨_, rfl, ?_⟩; replace BK101 := Aside0.mk (aa_ (kz BK101.out) hb); replace BK102 := Aside0.mk (aa_ (kz BK102.out) hb); replace BK103 := Aside0.mk (aa_ (kz BK103.out) hb); replace BK104 := Aside0.mk (aa_ (kz BK104.out) hb); replace HB := Aside0.mk (ad_ (bq) hb); (try clear hb); obtain ⟨hcz85_0, hcz85_1⟩ := cz2_ BK101.out; obtain ⟨hfz85_0, hfz85_1⟩ := fz2_ BK101.out; obtain ⟨hcz86_0, hcz86_1⟩ := cz2_ BK102.out; obtain ⟨hfz86_0, hfz86_1⟩ := fz2_ BK102.out; obtain ⟨hcz87_0, hcz87_1⟩ := cz2_ BK103.out; obtain ⟨hfz87_0, hfz87_1⟩ := fz2_ BK103.out) | (go_at_call 68; (with_reducible refine (bt_.calls a0_0 a0_1 a1_0 a1_1 a2_0 a2_1 false _ A22.out).mono ?_); rintro e w88 ⟨rfl, hb⟩; replace BK101 := Aside0.mk (aa_ (kz BK101.out) hb); replace BK102 := Aside0.mk (aa_ (kz BK102.out) hb); replace BK103 := Aside0.mk (aa_ (kz BK103.out) hb); replace BK104 := Aside0.mk (aa_ (kz BK104.out) hb); replace HB := Aside0.mk (ad_ (bq) hb); (try clear hb); obtain ⟨hcz89_0, hcz89_1⟩ := cz2_ BK101.out; obtain ⟨hfz89_0, hfz89_1⟩ := fz2_ BK101.out; obtain ⟨hcz90_0, hcz90_1⟩ := cz2_ BK102.out; obtain ⟨hfz90_0, hfz90_1⟩ := fz2_ BK102.out; obtain ⟨hcz91_0, hcz91_1⟩ := cz2_ BK104.out; obtain ⟨hfz91_0, hfz91_1⟩ := fz2_ BK104.out) | (go_at_call 68; (with_reducible refine (bt_.calls a0_0 a0_1 a1_0 a1_1 a3_0 a3_1 false _ A43.out).mono ?_); rintro e w92 ⟨rfl, hb⟩; replace BK101 := Aside0.mk (aa_ (kz BK101.out) hb); replace BK102 := Aside0.mk (aa_ (kz BK102.out) hb); replace BK103 := Aside0.mk (aa_ (kz BK103.out) hb); replace BK104 := Aside0.mk (aa_ (kz BK104.out) hb); replace HB := Aside0.mk (ad_ (bq) hb); (try clear hb); obtain ⟨hcz93_0, hcz93_1⟩ := cz2_ BK103.out; obtain ⟨hfz93_0, hfz93_1⟩ := fz2_ BK103.out; obtain ⟨hcz94_0, hcz94_1⟩ := cz2_ BK104.out; obtain ⟨hfz94_0, hfz94_1⟩ := fz2_ BK104.out; obtain ⟨hcz95_0, hcz95_1⟩ := cz2_ BK101.out; obtain ⟨hfz95_0, hfz95_1⟩ := fz2_ BK101.out) | (go_at_call 68; (with_reducible refine (bt_.calls a2_0 a2_1 a3_0 a3_1 a0_0 a0_1 true _ A68.out).mono ?_); rintro e w96 ⟨rfl, hb⟩; replace BK101 := Aside0.mk (aa_ (kz BK101.out) hb); replace BK102 := Aside0.mk (aa_ (kz BK102.out) hb); replace BK103 := Aside0.mk (aa_ (kz BK103.out) hb); replace BK104 := Aside0.mk (aa_ (kz BK104.out) hb); replace HB := Aside0.mk (ad_ (bq) hb); (try clear hb)))
    go_ret
    exact ⟨by first | rfl | (simp [*, ah_, ai_] <;> rfl), bq⟩
   subst c44
   have H1 : (some true) = some r := by rw [if_pos rfl] at H; exact H
   clear H
   have H := H1
   clear H1
   obtain rfl := Option.some.inj H
   go_enter Try.func69, Try.ntmps69
   go_wp2_with (first | ((with_reducible refine al_ (N := 4) rfl ?_); refine ak_ ?hg (N := 4) ?hd (cs := #[.int .i64 a0_0, .int .i64 a0_1]) (t := 81) ?hr ?_; (case hd => rfl); (case hg => rfl); (case hr => (go_simp; try rfl)); intro gb101 hg w45 hbox hb; have BK101 := Aside0.mk (hbox); have GW101 := Aside0.mk ((by rw [hg]; exact (ae_ (bz HB.out)) : w.heap.size ≤ gb101)); have GE101 := GW101; replace HB := Aside0.mk (ad_ (bz HB.out) hb); clear hb hbox hg) | ((with_reducible refine al_ (N := 5) rfl ?_); refine ak_ ?hg (N := 5) ?hd (cs := #[.int .i64 a1_0, .int .i64 a1_1]) (t := 81) ?hr ?_; (case hd => rfl); (case hg => rfl); (case hr => (go_simp; try rfl)); intro gb102 hg w46 hbox hb; have BK102 := Aside0.mk (hbox); have GW102 := Aside0.mk ((by rw [hg]; exact (ae_ (bq)) : w.heap.size ≤ gb102)); have GE102 := GW102; replace HB := Aside0.mk (ad_ (bq) hb); have NB101_102 := Aside0.mk ((by rw [hg]; exact Nat.ne_of_lt (aj_ (kz BK101.out)) : gb101 ≠ gb102)); have NB102_101 := Aside0.mk ((by rw [hg]; exact Nat.ne_of_gt (aj_ (kz BK101.out)) : gb102 ≠ gb101)); replace BK101 := Aside0.mk (aa_ (kz BK101.out) hb); clear hb hbox hg) | ((with_reducible refine al_ (N := 6) rfl ?_); refine ak_ ?hg (N := 6) ?hd (cs := #[.int .i64 a2_0, .int .i64 a2_1]) (t := 81) ?hr ?_; (case hd => rfl); (case hg => rfl); (case hr => (go_simp; try rfl)); intro gb103 hg w47 hbox hb; have BK103 := Aside0.mk (hbox); have GW103 := Aside0.mk ((by rw [hg]; exact (ae_ (bq)) : w.heap.size ≤ gb103)); have GE103 := GW103; replace HB := Aside0.mk (ad_ (bq) hb); have NB101_103 := Aside0.mk ((by rw [hg]; exact Nat.ne_of_lt (aj_ (kz BK101.out)) : gb101 ≠ gb103)); have NB103_101 := Aside0.mk ((by rw [hg]; exact Nat.ne_of_gt (aj_ (kz BK101.out)) : gb103 ≠ gb101)); replace BK101 := Aside0.mk (aa_ (kz BK101.out) hb); have NB102_103 := Aside0.mk ((by rw [hg]; exact Nat.ne_of_lt (aj_ (kz BK102.out)) : gb102 ≠ gb103)); have NB103_102 := Aside0.mk ((by rw [hg]; exact Nat.ne_of_gt (aj_ (kz BK102.out)) : gb103 ≠ gb102)); replace BK102 := Aside0.mk (aa_ (kz BK102.out) hb); clear hb hbox hg) | ((with_reducible refine al_ (N := 7) rfl ?_); refine ak_ ?hg (N := 7) ?hd (cs := #[.int .i64 a3_0, .int .i64 a3_1]) (t := 81) ?hr ?_; (case hd => rfl); (case hg => rfl); (case hr => (go_simp; try rfl)); intro gb104 hg w48 hbox hb; have BK104 := Aside0.mk (hbox); have GW104 := Aside0.mk ((by rw [hg]; exact (ae_ (bq)) : w.heap.size ≤ gb104)); have GE104 := GW104; replace HB := Aside0.mk (ad_ (bq) hb); have NB101_104 := Aside0.mk ((by rw [hg]; exact Nat.ne_of_lt (aj_ (kz BK101.out)) : gb101 ≠ gb104)); have NB104_101 := Aside0.mk ((by rw [hg]; exact Nat.ne_of_gt (aj_ (kz BK101.out)) : gb104 ≠ gb101)); replace BK101 := Aside0.mk (aa_ (kz BK101.out) hb); have NB102_104 := Aside0.mk ((by rw [hg]; exact Nat.ne_of_lt (aj_ (kz BK102.out)) : gb102 ≠ gb104)); have NB104_102 := Aside0.mk ((by rw [hg]; exact Nat.ne_of_gt (aj_ (kz BK102.out)) : gb104 ≠ gb102)); replace BK102 := Aside0.mk (aa_ (kz BK102.out) hb); have NB103_104 := Aside0.mk ((by rw [hg]; exact Nat.ne_of_lt (aj_ (kz BK103.out)) : gb103 ≠ gb104)); have NB104_103 := Aside0.mk ((by rw [hg]; exact Nat.ne_of_gt (aj_ (kz BK103.out)) : gb104 ≠ gb103)); replace BK103 := Aside0.mk (aa_ (kz BK103.out) hb); clear hb hbox hg; have hnb49 := NB101_102.out; have hnc49 := NB102_101.out; have hnb50 := NB101_103.out; have hnc50 := NB103_101.out; have hnb51 := NB101_104.out; have hnc51 := NB104_101.out; obtain ⟨hcz52_0, hcz52_1⟩ := cz2_ BK101.out; obtain ⟨hfz52_0, hfz52_1⟩ := fz2_ BK101.out; have hnb53 := NB102_103.out; have hnc53 := NB103_102.out; have hnb54 := NB102_104.out; have hnc54 := NB104_102.out; obtain ⟨hcz55_0, hcz55_1⟩ := cz2_ BK102.out; obtain ⟨hfz55_0, hfz55_1⟩ := fz2_ BK102.out; have hnb56 := NB103_104.out; have hnc56 := NB104_103.out; obtain ⟨hcz57_0, hcz57_1⟩ := cz2_ BK103.out; obtain ⟨hfz57_0, hfz57_1⟩ := fz2_ BK103.out; obtain ⟨hcz58_0, hcz58_1⟩ := cz2_ BK104.out; obtain ⟨hfz58_0, hfz58_1⟩ := fz2_ BK104.out) | ((with_reducible refine an_ (f := 82) rfl ?_); refine aU_ (some 13) rfl rfl Try.func82 (by kernel_rfl) rfl #[.agg #[.int .i64 a0_0, .int .i64 a0_1], .agg #[.int .i64 a1_0, .int .i64 a1_1], .agg #[.int .i64 a2_0, .int .i64 a2_1], .agg #[.int .i64 a3_0, .int .i64 a3_1]] rfl (by first | rfl | (simp only [lma_, lmc_, lmn_]; first | done | rfl)) ?_; (with_reducible refine (be_.calls a0_0 a0_1 a1_0 a1_1 a2_0 a2_1 a3_0 a3_1 false _ A5.out).mono ?_); rintro e w59 ⟨rfl, hb⟩; refine ⟨_, rfl, ?_⟩; replace BK101 := Aside0.mk (aa_ (kz BK101.out) hb); replace BK102 := Aside0.mk (aa_ (kz BK102.out) hb); replace BK103 := Aside0.mk (aa_ (kz BK103.out) hb); replace BK104 := Aside0.mk (aa_ (kz BK104.out) hb); replace HB := Aside0.mk (ad_ (bq) hb); (try clear hb); obtain ⟨hcz60_0, hcz60_1⟩ := cz2_ BK101.out; obtain ⟨hfz60_0, hfz60_1⟩ := fz2_ BK101.out; obtain ⟨hcz61_0, hcz61_1⟩ := cz2_ BK102.out; obtain ⟨hfz61_0, hfz61_1⟩ := fz2_ BK102.out; obtain ⟨hcz62_0, hcz62_1⟩ := cz2_ BK103.out; obtain ⟨hfz62_0, hfz62_1⟩ := fz2_ BK103.out) | (go_at_call 68; (with_reducible refine (bt_.calls a0_0 a0_1 a1_0 a1_1 a2_0 a2_1 false _ A22.out).mono ?_); rintro e w63 ⟨rfl, hb⟩; replace BK101 := Aside0.mk (aa_ (kz BK101.out) hb); replace BK102 := Aside0.mk (aa_ (kz BK102.out) hb); replace BK103 := Aside0.mk (aa_ (kz BK103.out) hb); replace BK104 := Aside0.mk (aa_ (kz BK104.out) hb); replace HB := Aside0.mk (ad_ (bq) hb); (try clear hb); obtain ⟨hcz64_0, hcz64_1⟩ := cz2_ BK101.out; obtain ⟨hfz64_0, hfz64_1⟩ := fz2_ BK101.out; obtain ⟨hcz65_0, hcz65_1⟩ := cz2_ BK102.out; obtain ⟨hfz65_0, hfz65_1⟩ := fz2_ BK102.out; obtain ⟨hcz66_0, hcz66_1⟩ := cz2_ BK104.out; obtain ⟨hfz66_0, hfz66_1⟩ := fz2_ BK104.out) | (go_at_call 68; (with_reducible refine (bt_.calls a0_0 a0_1 a1_0 a1_1 a3_0 a3_1 true _ A43.out).mono ?_); rintro e w67 ⟨rfl, hb⟩; replace BK101 := Aside0.mk (aa_ (kz BK101.out) hb); replace BK102 := Aside0.mk (aa_ (kz BK102.out) hb); replace BK103 := Aside0.mk (aa_ (kz BK103.out) hb); replace BK104 := Aside0.mk (aa_ (kz BK104.out) hb); replace HB := Aside0.mk (ad_ (bq) hb); (try clear hb)))
   go_ret
   exact ⟨by first | rfl | (simp [*, ah_, ai_] <;> rfl), bq⟩
  subst c23
  have H1 : (some true) = some r := by rw [if_pos rfl] at H; exact H
  clear H
  have H := H1
  clear H1
  obtain rfl := Option.some.inj H
  go_enter Try.func69, Try.ntmps69
  go_wp2_with (first | ((with_reducible refine al_ (N := 4) rfl ?_); refine ak_ ?hg (N := 4) ?hd (cs := #[.int .i64 a0_0, .int .i64 a0_1]) (t := 81) ?hr ?_; (case hd => rfl); (case hg => rfl); (case hr => (go_simp; try rfl)); intro gb101 hg w24 hbox hb; have BK101 := Aside0.mk (hbox); have GW101 := Aside0.mk ((by rw [hg]; exact (ae_ (bz HB.out)) : w.heap.size ≤ gb101)); have GE101 := GW101; replace HB := Aside0.mk (ad_ (bz HB.out) hb); clear hb hbox hg) | ((with_reducible refine al_ (N := 5) rfl ?_); refine ak_ ?hg (N := 5) ?hd (cs := #[.int .i64 a1_0, .int .i64 a1_1]) (t := 81) ?hr ?_; (case hd => rfl); (case hg => rfl); (case hr => (go_simp; try rfl)); intro gb102 hg w25 hbox hb; have BK102 := Aside0.mk (hbox); have GW102 := Aside0.mk ((by rw [hg]; exact (ae_ (bq)) : w.heap.size ≤ gb102)); have GE102 := GW102; replace HB := Aside0.mk (ad_ (bq) hb); have NB101_102 := Aside0.mk ((by rw [hg]; exact Nat.ne_of_lt (aj_ (kz BK101.out)) : gb101 ≠ gb102)); have NB102_101 := Aside0.mk ((by rw [hg]; exact Nat.ne_of_gt (aj_ (kz BK101.out)) : gb102 ≠ gb101)); replace BK101 := Aside0.mk (aa_ (kz BK101.out) hb); clear hb hbox hg) | ((with_reducible refine al_ (N := 6) rfl ?_); refine ak_ ?hg (N := 6) ?hd (cs := #[.int .i64 a2_0, .int .i64 a2_1]) (t := 81) ?hr ?_; (case hd => rfl); (case hg => rfl); (case hr => (go_simp; try rfl)); intro gb103 hg w26 hbox hb; have BK103 := Aside0.mk (hbox); have GW103 := Aside0.mk ((by rw [hg]; exact (ae_ (bq)) : w.heap.size ≤ gb103)); have GE103 := GW103; replace HB := Aside0.mk (ad_ (bq) hb); have NB101_103 := Aside0.mk ((by rw [hg]; exact Nat.ne_of_lt (aj_ (kz BK101.out)) : gb101 ≠ gb103)); have NB103_101 := Aside0.mk ((by rw [hg]; exact Nat.ne_of_gt (aj_ (kz BK101.out)) : gb103 ≠ gb101)); replace BK101 := Aside0.mk (aa_ (kz BK101.out) hb); have NB102_103 := Aside0.mk ((by rw [hg]; exact Nat.ne_of_lt (aj_ (kz BK102.out)) : gb102 ≠ gb103)); have NB103_102 := Aside0.mk ((by rw [hg]; exact Nat.ne_of_gt (aj_ (kz BK102.out)) : gb103 ≠ gb102)); replace BK102 := Aside0.mk (aa_ (kz BK102.out) hb); clear hb hbox hg) | ((with_reducible refine al_ (N := 7) rfl ?_); refine ak_ ?hg (N := 7) ?hd (cs := #[.int .i64 a3_0, .int .i64 a3_1]) (t := 81) ?hr ?_; (case hd => rfl); (case hg => rfl); (case hr => (go_simp; try rfl)); intro gb104 hg w27 hbox hb; have BK104 := Aside0.mk (hbox); have GW104 := Aside0.mk ((by rw [hg]; exact (ae_ (bq)) : w.heap.size ≤ gb104)); have GE104 := GW104; replace HB := Aside0.mk (ad_ (bq) hb); have NB101_104 := Aside0.mk ((by rw [hg]; exact Nat.ne_of_lt (aj_ (kz BK101.out)) : gb101 ≠ gb104)); have NB104_101 := Aside0.mk ((by rw [hg]; exact Nat.ne_of_gt (aj_ (kz BK101.out)) : gb104 ≠ gb101)); replace BK101 := Aside0.mk (aa_ (kz BK101.out) hb); have NB102_104 := Aside0.mk ((by rw [hg]; exact Nat.ne_of_lt (aj_ (kz BK102.out)) : gb102 ≠ gb104)); have NB104_102 := Aside0.mk ((by rw [hg]; exact Nat.ne_of_gt (aj_ (kz BK102.out)) : gb104 ≠ gb102)); replace BK102 := Aside0.mk (aa_ (kz BK102.out) hb); have NB103_104 := Aside0.mk ((by rw [hg]; exact Nat.ne_of_lt (aj_ (kz BK103.out)) : gb103 ≠ gb104)); have NB104_103 := Aside0.mk ((by rw [hg]; exact Nat.ne_of_gt (aj_ (kz BK103.out)) : gb104 ≠ gb103)); replace BK103 := Aside0.mk (aa_ (kz BK103.out) hb); clear hb hbox hg; have hnb28 := NB101_102.out; have hnc28 := NB102_101.out; have hnb29 := NB101_103.out; have hnc29 := NB103_101.out; have hnb30 := NB101_104.out; have hnc30 := NB104_101.out; obtain ⟨hcz31_0, hcz31_1⟩ := cz2_ BK101.out; obtain ⟨hfz31_0, hfz31_1⟩ := fz2_ BK101.out; have hnb32 := NB102_103.out; have hnc32 := NB103_102.out; have hnb33 := NB102_104.out; have hnc33 := NB104_102.out; obtain ⟨hcz34_0, hcz34_1⟩ := cz2_ BK102.out; obtain ⟨hfz34_0, hfz34_1⟩ := fz2_ BK102.out; have hnb35 := NB103_104.out; have hnc35 := NB104_103.out; obtain ⟨hcz36_0, hcz36_1⟩ := cz2_ BK103.out; obtain ⟨hfz36_0, hfz36_1⟩ := fz2_ BK103.out; obtain ⟨hcz37_0, hcz37_1⟩ := cz2_ BK104.out; obtain ⟨hfz37_0, hfz37_1⟩ := fz2_ BK104.out) | ((with_reducible refine an_ (f := 82) rfl ?_); refine aU_ (some 13) rfl rfl Try.func82 (by kernel_rfl) rfl #[.agg #[.int .i64 a0_0, .int .i64 a0_1], .agg #[.int .i64 a1_0, .int .i64 a1_1], .agg #[.int .i64 a2_0, .int .i64 a2_1], .agg #[.int .i64 a3_0, .int .i64 a3_1]] rfl (by first | rfl | (simp only [lma_, lmc_, lmn_]; first | done | rfl)) ?_; (with_reducible refine (be_.calls a0_0 a0_1 a1_0 a1_1 a2_0 a2_1 a3_0 a3_1 false _ A5.out).mono ?_); rintro e w38 ⟨rfl, hb⟩; refine ⟨_, rfl, ?_⟩; replace BK101 := Aside0.mk (aa_ (kz BK101.out) hb); replace BK102 := Aside0.mk (aa_ (kz BK102.out) hb); replace BK103 := Aside0.mk (aa_ (kz BK103.out) hb); replace BK104 := Aside0.mk (aa_ (kz BK104.out) hb); replace HB := Aside0.mk (ad_ (bq) hb); (try clear hb); obtain ⟨hcz39_0, hcz39_1⟩ := cz2_ BK101.out; obtain ⟨hfz39_0, hfz39_1⟩ := fz2_ BK101.out; obtain ⟨hcz40_0, hcz40_1⟩ := cz2_ BK102.out; obtain ⟨hfz40_0, hfz40_1⟩ := fz2_ BK102.out; obtain ⟨hcz41_0, hcz41_1⟩ := cz2_ BK103.out; obtain ⟨hfz41_0, hfz41_1⟩ := fz2_ BK103.out) | (go_at_call 68; (with_reducible refine (bt_.calls a0_0 a0_1 a1_0 a1_1 a2_0 a2_1 true _ A22.out).mono ?_); rintro e w42 ⟨rfl, hb⟩; replace BK101 := Aside0.mk (aa_ (kz BK101.out) hb); replace BK102 := Aside0.mk (aa_ (kz BK102.out) hb); replace BK103 := Aside0.mk (aa_ (kz BK103.out) hb); replace BK104 := Aside0.mk (aa_ (kz BK104.out) hb); replace HB := Aside0.mk (ad_ (bq) hb); (try clear hb)))
  go_ret
  exact ⟨by first | rfl | (simp [*, ah_, ai_] <;> rfl), bq⟩
 subst c6
 have H1 : (some true) = some r := by rw [if_pos rfl] at H; exact H
 clear H
 have H := H1
 clear H1
 obtain rfl := Option.some.inj H
 go_enter Try.func69, Try.ntmps69
 go_wp2_with (first | ((with_reducible refine al_ (N := 4) rfl ?_); refine ak_ ?hg (N := 4) ?hd (cs := #[.int .i64 a0_0, .int .i64 a0_1]) (t := 81) ?hr ?_; (case hd => rfl); (case hg => rfl); (case hr => (go_simp; try rfl)); intro gb101 hg w7 hbox hb; have BK101 := Aside0.mk (hbox); have GW101 := Aside0.mk ((by rw [hg]; exact (ae_ (bz HB.out)) : w.heap.size ≤ gb101)); have GE101 := GW101; replace HB := Aside0.mk (ad_ (bz HB.out) hb); clear hb hbox hg) | ((with_reducible refine al_ (N := 5) rfl ?_); refine ak_ ?hg (N := 5) ?hd (cs := #[.int .i64 a1_0, .int .i64 a1_1]) (t := 81) ?hr ?_; (case hd => rfl); (case hg => rfl); (case hr => (go_simp; try rfl)); intro gb102 hg w8 hbox hb; have BK102 := Aside0.mk (hbox); have GW102 := Aside0.mk ((by rw [hg]; exact (ae_ (bq)) : w.heap.size ≤ gb102)); have GE102 := GW102; replace HB := Aside0.mk (ad_ (bq) hb); have NB101_102 := Aside0.mk ((by rw [hg]; exact Nat.ne_of_lt (aj_ (kz BK101.out)) : gb101 ≠ gb102)); have NB102_101 := Aside0.mk ((by rw [hg]; exact Nat.ne_of_gt (aj_ (kz BK101.out)) : gb102 ≠ gb101)); replace BK101 := Aside0.mk (aa_ (kz BK101.out) hb); clear hb hbox hg) | ((with_reducible refine al_ (N := 6) rfl ?_); refine ak_ ?hg (N := 6) ?hd (cs := #[.int .i64 a2_0, .int .i64 a2_1]) (t := 81) ?hr ?_; (case hd => rfl); (case hg => rfl); (case hr => (go_simp; try rfl)); intro gb103 hg w9 hbox hb; have BK103 := Aside0.mk (hbox); have GW103 := Aside0.mk ((by rw [hg]; exact (ae_ (bq)) : w.heap.size ≤ gb103)); have GE103 := GW103; replace HB := Aside0.mk (ad_ (bq) hb); have NB101_103 := Aside0.mk ((by rw [hg]; exact Nat.ne_of_lt (aj_ (kz BK101.out)) : gb101 ≠ gb103)); have NB103_101 := Aside0.mk ((by rw [hg]; exact Nat.ne_of_gt (aj_ (kz BK101.out)) : gb103 ≠ gb101)); replace BK101 := Aside0.mk (aa_ (kz BK101.out) hb); have NB102_103 := Aside0.mk ((by rw [hg]; exact Nat.ne_of_lt (aj_ (kz BK102.out)) : gb102 ≠ gb103)); have NB103_102 := Aside0.mk ((by rw [hg]; exact Nat.ne_of_gt (aj_ (kz BK102.out)) : gb103 ≠ gb102)); replace BK102 := Aside0.mk (aa_ (kz BK102.out) hb); clear hb hbox hg) | ((with_reducible refine al_ (N := 7) rfl ?_); refine ak_ ?hg (N := 7) ?hd (cs := #[.int .i64 a3_0, .int .i64 a3_1]) (t := 81) ?hr ?_; (case hd => rfl); (case hg => rfl); (case hr => (go_simp; try rfl)); intro gb104 hg w10 hbox hb; have BK104 := Aside0.mk (hbox); have GW104 := Aside0.mk ((by rw [hg]; exact (ae_ (bq)) : w.heap.size ≤ gb104)); have GE104 := GW104; replace HB := Aside0.mk (ad_ (bq) hb); have NB101_104 := Aside0.mk ((by rw [hg]; exact Nat.ne_of_lt (aj_ (kz BK101.out)) : gb101 ≠ gb104)); have NB104_101 := Aside0.mk ((by rw [hg]; exact Nat.ne_of_gt (aj_ (kz BK101.out)) : gb104 ≠ gb101)); replace BK101 := Aside0.mk (aa_ (kz BK101.out) hb); have NB102_104 := Aside0.mk ((by rw [hg]; exact Nat.ne_of_lt (aj_ (kz BK102.out)) : gb102 ≠ gb104)); have NB104_102 := Aside0.mk ((by rw [hg]; exact Nat.ne_of_gt (aj_ (kz BK102.out)) : gb104 ≠ gb102)); replace BK102 := Aside0.mk (aa_ (kz BK102.out) hb); have NB103_104 := Aside0.mk ((by rw [hg]; exact Nat.ne_of_lt (aj_ (kz BK103.out)) : gb103 ≠ gb104)); have NB104_103 := Aside0.mk ((by rw [hg]; exact Nat.ne_of_gt (aj_ (kz BK103.out)) : gb104 ≠ gb103)); replace BK103 := Aside0.mk (aa_ (kz BK103.out) hb); clear hb hbox hg; have hnb11 := NB101_102.out; have hnc11 := NB102_101.out; have hnb12 := NB101_103.out; have hnc12 := NB103_101.out; have hnb13 := NB101_104.out; have hnc13 := NB104_101.out; obtain ⟨hcz14_0, hcz14_1⟩ := cz2_ BK101.out; obtain ⟨hfz14_0, hfz14_1⟩ := fz2_ BK101.out; have hnb15 := NB102_103.out; have hnc15 := NB103_102.out; have hnb16 := NB102_104.out; have hnc16 := NB104_102.out; obtain ⟨hcz17_0, hcz17_1⟩ := cz2_ BK102.out; obtain ⟨hfz17_0, hfz17_1⟩ := fz2_ BK102.out; have hnb18 := NB103_104.out; have hnc18 := NB104_103.out; obtain ⟨hcz19_0, hcz19_1⟩ := cz2_ BK103.out; obtain ⟨hfz19_0, hfz19_1⟩ := fz2_ BK103.out; obtain ⟨hcz20_0, hcz20_1⟩ := cz2_ BK104.out; obtain ⟨hfz20_0, hfz20_1⟩ := fz2_ BK104.out) | ((with_reducible refine an_ (f := 82) rfl ?_); refine aU_ (some 13) rfl rfl Try.func82 (by kernel_rfl) rfl #[.agg #[.int .i64 a0_0, .int .i64 a0_1], .agg #[.int .i64 a1_0, .int .i64 a1_1], .agg #[.int .i64 a2_0, .int .i64 a2_1], .agg #[.int .i64 a3_0, .int .i64 a3_1]] rfl (by first | rfl | (simp only [lma_, lmc_, lmn_]; first | done | rfl)) ?_; (with_reducible refine (be_.calls a0_0 a0_1 a1_0 a1_1 a2_0 a2_1 a3_0 a3_1 true _ A5.out).mono ?_); rintro e w21 ⟨rfl, hb⟩; refine ⟨_, rfl, ?_⟩; replace BK101 := Aside0.mk (aa_ (kz BK101.out) hb); replace BK102 := Aside0.mk (aa_ (kz BK102.out) hb); replace BK103 := Aside0.mk (aa_ (kz BK103.out) hb); replace BK104 := Aside0.mk (aa_ (kz BK104.out) hb); replace HB := Aside0.mk (ad_ (bq) hb); (try clear hb)))
 go_ret
 exact ⟨by first | rfl | (simp [*, ah_, ai_] <;> rfl), bq⟩
end Go.Proofs.Ytpjhnchfhghlcaa.Q
namespace Go.Proofs.Ytpjhnchfhghlcaa.Q
open Go.RowKit Go.Proofs.YtpjhnchfhghlcaaW.PrintWords Go.Proofs.YtpjhnchfhghlcaaW.PrintLast Go.Proofs.YtpjhnchfhghlcaaW.PrintMore
attribute [local go_sem] aB_ aE_ aN_ aO_ ax_ aw_ aD_ aC_
attribute [local go_sem high] eqA81
mutual
def ag_.j0 : Nat → List (S81) → Int → Bool → Option (Bool)
 | 0, _, _, _ => none
 | k + 1, x0, x3, x21 => if x21 = true then (some false) else (ag_.l0 k x0 x3 (x0.length : Int) 0)
def ag_.l0 : Nat → List (S81) → Int → Int → Int → Option (Bool)
 | 0, _, _, _, _ => none
 | k + 1, x0, x3, x23, x24 => if x24 < x23 then (if 0 ≤ x24 then (if x24 < (x0.length : Int) then (if x3 = 0 then (none) else (if 0 ≤ (Int.tmod (wrap64 (x24 + 1)) x3) then (if (Int.tmod (wrap64 (x24 + 1)) x3) < (x0.length : Int) then (if 0 ≤ (Int.tmod (wrap64 (x24 + 2)) x3) then (if (Int.tmod (wrap64 (x24 + 2)) x3) < (x0.length : Int) then (if (((ab_ x0 x24).f0) == ((ab_ x0 (Int.tmod (wrap64 (x24 + 1)) x3)).f0) && (((ab_ x0 x24).f1) == ((ab_ x0 (Int.tmod (wrap64 (x24 + 1)) x3)).f1))) = true then (ag_.j2 k x0 x3 x24 x23 x24 true ((ab_ x0 x24).f0) ((ab_ x0 x24).f1) ((ab_ x0 (Int.tmod (wrap64 (x24 + 1)) x3)).f0) ((ab_ x0 (Int.tmod (wrap64 (x24 + 1)) x3)).f1)) else ((bt_.f ((ab_ x0 x24).f0) ((ab_ x0 x24).f1) ((ab_ x0 (Int.tmod (wrap64 (x24 + 1)) x3)).f0) ((ab_ x0 (Int.tmod (wrap64 (x24 + 1)) x3)).f1) ((ab_ x0 (Int.tmod (wrap64 (x24 + 2)) x3)).f0) ((ab_ x0 (Int.tmod (wrap64 (x24 + 2)) x3)).f1)).bind fun t109 => (if t109 = true then (ag_.j2 k x0 x3 x24 x23 x24 true ((ab_ x0 x24).f0) ((ab_ x0 x24).f1) ((ab_ x0 (Int.tmod (wrap64 (x24 + 1)) x3)).f0) ((ab_ x0 (Int.tmod (wrap64 (x24 + 1)) x3)).f1)) else ((bt_.f ((ab_ x0 (Int.tmod (wrap64 (x24 + 1)) x3)).f0) ((ab_ x0 (Int.tmod (wrap64 (x24 + 1)) x3)).f1) ((ab_ x0 (Int.tmod (wrap64 (x24 + 2)) x3)).f0) ((ab_ x0 (Int.tmod (wrap64 (x24 + 2)) x3)).f1) ((ab_ x0 x24).f0) ((ab_ x0 x24).f1)).bind fun t110 => (ag_.j2 k x0 x3 x24 x23 x24 t110 ((ab_ x0 x24).f0) ((ab_ x0 x24).f1) ((ab_ x0 (Int.tmod (wrap64 (x24 + 1)) x3)).f0) ((ab_ x0 (Int.tmod (wrap64 (x24 + 1)) x3)).f1)))))) else (none)) else (none)) else (none)) else (none))) else (none)) else (none)) else ((br_.f k x0).bind fun t102 => (some (decide (t102 > 0))))
def ag_.j2 : Nat → List (S81) → Int → Int → Int → Int → Bool → Int → Int → Int → Int → Option (Bool)
 | 0, _, _, _, _, _, _, _, _, _, _ => none
 | k + 1, x0, x3, x4, x23, x24, x59, x107000, x107001, x108000, x108001 => if x59 = true then (some false) else (ag_.l1 k x0 x3 x4 (wrap64 (x4 + 2)) x23 x24 x107000 x107001 x108000 x108001)
def ag_.l1 : Nat → List (S81) → Int → Int → Int → Int → Int → Int → Int → Int → Int → Option (Bool)
 | 0, _, _, _, _, _, _, _, _, _, _ => none
 | k + 1, x0, x3, x4, x8, x23, x24, x107000, x107001, x108000, x108001 => if x8 < x3 then (if x3 = 0 then (none) else (if (Int.tmod (wrap64 (x8 + 1)) x3) = x4 then (ag_.l1 k x0 x3 x4 (wrap64 (x8 + 1)) x23 x24 x107000 x107001 x108000 x108001) else (if 0 ≤ x8 then (if x8 < (x0.length : Int) then (if 0 ≤ (Int.tmod (wrap64 (x8 + 1)) x3) then (if (Int.tmod (wrap64 (x8 + 1)) x3) < (x0.length : Int) then ((ch_.f x107000 x107001 x108000 x108001 ((ab_ x0 x8).f0) ((ab_ x0 x8).f1) ((ab_ x0 (Int.tmod (wrap64 (x8 + 1)) x3)).f0) ((ab_ x0 (Int.tmod (wrap64 (x8 + 1)) x3)).f1)).bind fun t113 => (if t113 = true then (some false) else (ag_.l1 k x0 x3 x4 (wrap64 (x8 + 1)) x23 x24 x107000 x107001 x108000 x108001))) else (none)) else (none)) else (none)) else (none)))) else (ag_.l0 k x0 x3 x23 (wrap64 (x24 + 1)))
end
def ag_.f (k : Nat) (l0 : List (S81)) : Option (Bool) := if (l0.length : Int) < 3 then (ag_.j0 k l0 (l0.length : Int) true) else (if (l0.length : Int) > 24 then (ag_.j0 k l0 (l0.length : Int) true) else ((bb_.f k l0).bind fun t101 => (ag_.j0 k l0 (l0.length : Int) (!t101))))
def ag_.T7 : Bool × List (List Nat × List Nat) := (true, [([], []), ([], []), ([0, 1], [0, 1]), ([2], [2]), ([], []), ([], []), ([5], [5]), ([], []), ([6, 7], [6, 7]), ([4, 8], [4, 8]), ([9], [9]), ([], []), ([], []), ([12], [12]), ([], []), ([13, 14], [13, 14]), ([11, 15], [11, 15]), ([16], [16]), ([], []), ([], []), ([], []), ([18, 3, 0, 1, 2, 3, 18, 19, 20], [3, 18]), ([19, 10, 21, 0, 1, 2, 3, 4, 5, 6, 7, 8, 9, 10, 18, 19, 20, 21], [10, 19]), ([20, 17, 22, 0, 1, 2, 3, 4, 5, 6, 7, 8, 9, 10, 11, 12, 13, 14, 15, 16, 17, 18, 19, 20, 21, 22], [17, 20])])
def ag_.B7 : List Nat := [0, 0, 3, 7, 0, 0, 32, 0, 224, 496, 1008, 0, 0, 4096, 0, 28672, 63488, 129024, 0, 0, 0, 1835023, 3934207, 8388607]
theorem ag_.tab7 : rtab .any (opsOf Try.f54 7) = ag_.T7 := by kernel_rfl
theorem ag_.bits7 : cj_ ag_.T7.2 ag_.B7 = true := by kernel_rfl
def ag_.T13 : Bool × List (List Nat × List Nat) := (true, [([], []), ([0], [0]), ([], []), ([1, 2], [1, 2]), ([], []), ([3, 4], [3, 4]), ([5], [5]), ([6], [6]), ([6], [6]), ([6], [6]), ([6], [6]), ([9, 10, 6], [6, 9, 10]), ([11, 6], [6, 11]), ([6], [6]), ([6], [6]), ([14, 6], [6, 14]), ([6], [6]), ([15, 16, 6], [6, 15, 16]), ([13, 17, 6], [6, 13, 17]), ([18, 6], [6, 18]), ([7, 8, 12, 19, 6, 6], [6, 7, 8, 12, 19]), ([6, 20], [6, 20])])
def ag_.B13 : List Nat := [0, 1, 0, 7, 0, 31, 63, 127, 127, 127, 127, 1663, 3711, 127, 127, 16511, 127, 114815, 254079, 516223, 1048575, 2097151]
theorem ag_.tab13 : rtab .any (opsOf Try.f54 13) = ag_.T13 := by kernel_rfl
theorem ag_.bits13 : cj_ ag_.T13.2 ag_.B13 = true := by kernel_rfl
set_option maxHeartbeats 8000000 in
set_option maxRecDepth 100000 in
theorem ag_.calls (k : Nat) (A0 : Option Addr) (c0 : Nat) (l0 : List (S81)) (r : Bool) (w : World) (hr0 : Kd.C k81 w A0 l0.length l0) (hc0 : l0.length ≤ c0) (h : ag_.f k l0 = some r) :
  Calls Try.prog 54 #[.slice A0 l0.length c0] w fun e w' => e = .returned (.bool r) ∧ Below w.heap.size w w' := by
 have hu81 := Try.underlying81
 have HR0 := Aside0.mk hr0
 have HC0 := Aside0.mk hc0
 clear hr0 hc0
 have HB := Aside0.mk (Below.refl w.heap.size w)
 have H : (if (l0.length : Int) < 3 then (ag_.j0 k l0 (l0.length : Int) true) else (if (l0.length : Int) > 24 then (ag_.j0 k l0 (l0.length : Int) true) else ((bb_.f k l0).bind fun t101 => (ag_.j0 k l0 (l0.length : Int) (!t101))))) = some r := h
 clear h
 have HC2 := Aside0.mk H
 clear H
 go_enter Try.func54, Try.ntmps54
 go_upto_region 2 with (fail)
 go_cut [21] (fun v21 wc => ∃ (kq : Nat) (x21_1 : Bool), v21 = .bool x21_1 ∧ Aside0 (ag_.j0 kq l0 (l0.length : Int) x21_1 = some r) ∧ Aside0 (kq ≤ k) ∧ Aside0 (Below w.heap.size w wc))
 case first =>
  have H := HC2.out
  clear HC2
  by_cases c3 : (l0.length : Int) < 3
  rotate_left
  ·rw [if_neg c3] at H
   have c3b0 : decide ((l0.length : Int) < 3) = false := decide_eq_false c3
   have c3b1 : decide (l0.length < 3) = false := decide_eq_false (by omega)
   clear c3
   (first | rw [c3b0] | (simp only [i64_w, i32_w]; rw [c3b0]) | (simp only [c3b1, Bool.not_true, Bool.not_false]) | (simp only [c3b0, Bool.not_true, Bool.not_false]) | skip)
   by_cases c4 : (l0.length : Int) > 24
   rotate_left
   ·rw [if_neg c4] at H
    have c4b0 : decide (24 < (l0.length : Int)) = false := decide_eq_false c4
    have c4b1 : decide (24 < l0.length) = false := decide_eq_false (by omega)
    clear c4
    replace H := Option.bind_eq_some_iff.mp H
    obtain ⟨t101, A50, H⟩ := H
    (try dsimp only at H)
    have A5 := Aside0.mk A50
    clear A50
    have H' := Aside0.mk H
    clear H
    go_wp2_with (first | (go_at_call 67; (with_reducible refine (bb_.calls k _ _ l0 t101 _ ?side1 ?side2 A5.out).mono ?_); (case side1 => exact cz (Kd.aF_ HR0.out HB.out)); (case side2 => exact HC0.out); rintro e w6 ⟨rfl, hb⟩; replace HB := Aside0.mk (ad_ (bz HB.out) hb); (try clear hb)))
    go_meet
    case rel => exact ⟨_, (!t101), (by first | rfl | (simp; done) | (simp [*]; done)), H', ⟨by first | omega | exact Nat.le_refl _⟩, ⟨bz HB.out⟩⟩
   rw [if_pos c4] at H
   have c4b0 : decide (24 < (l0.length : Int)) = true := decide_eq_true c4
   have c4b1 : decide (24 < l0.length) = true := decide_eq_true (by omega)
   clear c4
   have H' := Aside0.mk H
   clear H
   go_wp2
   go_meet
   case rel => exact ⟨_, (true), (by first | rfl | (simp; done) | (simp [*]; done)), H', ⟨by first | omega | exact Nat.le_refl _⟩, ⟨bz HB.out⟩⟩
  rw [if_pos c3] at H
  have c3b0 : decide ((l0.length : Int) < 3) = true := decide_eq_true c3
  have c3b1 : decide (l0.length < 3) = true := decide_eq_true (by omega)
  clear c3
  (first | rw [c3b0] | (simp only [i64_w, i32_w]; rw [c3b0]) | (simp only [c3b1, Bool.not_true, Bool.not_false]) | (simp only [c3b0, Bool.not_true, Bool.not_false]) | skip)
  have H' := Aside0.mk H
  clear H
  go_wp2
  go_meet
  case rel => exact ⟨_, (true), (by first | rfl | (simp; done) | (simp [*]; done)), H', ⟨by first | omega | exact Nat.le_refl _⟩, ⟨bz HB.out⟩⟩
 case rest =>
  clear HC2
  obtain ⟨kq, x21_1, rfl, HA, HJ1, HB⟩ := hcut
  cases kq with
  | zero => exact absurd HA.out (by simp [ag_.j0])
  | succ kj1 =>
   have H := HA.out
   clear HA
   simp only [ag_.j0] at H
   by_cases c7 : x21_1 = true
   rotate_left
   ·replace c7 := Bool.eq_false_iff.mpr c7
    subst c7
    have H1 : (ag_.l0 kj1 l0 (l0.length : Int) (l0.length : Int) 0) = some r := by rw [if_neg (show ¬ (false = true) by decide)] at H; exact H
    clear H
    have H := H1
    clear H1
    have H' := Aside0.mk H
    clear H
    go_wp2
    (try simp only [Act.put, lsa_, ls0_, ls1_])
    go_loopg [24] kj1 (fun kq v24 w' => ∃ (x24_2 : Int), v24 = .int .i64 x24_2 ∧ Aside0 (ag_.l0 kq l0 (l0.length : Int) (l0.length : Int) x24_2 = some r) ∧ Aside0 (kq ≤ kj1) ∧ Aside0 (Below w.heap.size w w'))
    case atStart => exact ⟨(0), (by first | rfl | (simp; done) | (simp [*]; done)), H', ⟨Nat.le_refl _⟩, ⟨bz HB.out⟩⟩
    case round =>
     clear H'
     obtain ⟨x24_2, rfl, HA, HK2, HB⟩ := hrel
     cases gk with
     | zero => exact absurd HA.out (by simp [ag_.l0])
     | succ k2 =>
      have H := HA.out
      clear HA
      simp only [ag_.l0] at H
      by_cases c8 : x24_2 < (l0.length : Int)
      rotate_left
      ·rw [if_neg c8] at H
       have c8b0 : decide (x24_2 < (l0.length : Int)) = false := decide_eq_false c8
       clear c8
       replace H := Option.bind_eq_some_iff.mp H
       obtain ⟨t102, A720, H⟩ := H
       (try dsimp only at H)
       have A72 := Aside0.mk A720
       clear A720
       obtain rfl := Option.some.inj H
       go_wp2_with (first | ((with_reducible refine an_ (f := 19) rfl ?_); refine aU_ (some 91) rfl rfl Try.func19 (by kernel_rfl) rfl #[.slice A0 l0.length c0] rfl (by first | rfl | (simp only [lma_, lmc_, lmn_]; first | done | rfl)) ?_; (with_reducible refine (br_.calls k2 _ _ l0 t102 _ ?side1 ?side2 A72.out).mono ?_); (case side1 => exact cz (Kd.aF_ HR0.out HB.out)); (case side2 => exact HC0.out); rintro e w73 ⟨rfl, hb⟩; refine ⟨_, rfl, ?_⟩; replace HB := Aside0.mk (ad_ (bz HB.out) hb); (try clear hb)))
       go_ret
       exact ⟨by first | rfl | (simp [*, ah_, ai_] <;> rfl), bz HB.out⟩
      rw [if_pos c8] at H
      have c8b0 : decide (x24_2 < (l0.length : Int)) = true := decide_eq_true c8
      clear c8
      by_cases c9 : 0 ≤ x24_2
      rotate_left
      ·rw [if_neg c9] at H
       exact absurd H (by simp)
      rw [if_pos c9] at H
      have c9b0 : decide (0 ≤ x24_2) = true := decide_eq_true c9
      clear c9
      by_cases c10 : x24_2 < (l0.length : Int)
      rotate_left
      ·rw [if_neg c10] at H
       exact absurd H (by simp)
      rw [if_pos c10] at H
      have c10b0 : decide (x24_2 < (l0.length : Int)) = true := decide_eq_true c10
      clear c10
      by_cases c11 : (l0.length : Int) = 0
      rotate_left
      ·rw [if_neg c11] at H
       have c11b0 : ((l0.length : Int) == 0) = false := beq_eq_false_iff_ne.mpr c11
       have c11b1 : ((l0.length : Int) != 0) = true := bne_iff_ne.mpr c11
       have c11b2 : ¬ (l0 = []) := fun h_ => c11 (by rw [h_]; rfl)
       obtain ⟨ji12, hji12⟩ : ∃ j_ : Int, (Int.tmod (wrap64 (x24_2 + 1)) (l0.length : Int)) = j_ := ⟨_, rfl⟩
       replace H : (if 0 ≤ (ji12) then (if (ji12) < (l0.length : Int) then (if 0 ≤ (Int.tmod (wrap64 (x24_2 + 2)) (l0.length : Int)) then (if (Int.tmod (wrap64 (x24_2 + 2)) (l0.length : Int)) < (l0.length : Int) then (if (((ab_ l0 x24_2).f0) == ((ab_ l0 (ji12)).f0) && (((ab_ l0 x24_2).f1) == ((ab_ l0 (ji12)).f1))) = true then (ag_.j2 k2 l0 (l0.length : Int) x24_2 (l0.length : Int) x24_2 true ((ab_ l0 x24_2).f0) ((ab_ l0 x24_2).f1) ((ab_ l0 (ji12)).f0) ((ab_ l0 (ji12)).f1)) else ((bt_.f ((ab_ l0 x24_2).f0) ((ab_ l0 x24_2).f1) ((ab_ l0 (ji12)).f0) ((ab_ l0 (ji12)).f1) ((ab_ l0 (Int.tmod (wrap64 (x24_2 + 2)) (l0.length : Int))).f0) ((ab_ l0 (Int.tmod (wrap64 (x24_2 + 2)) (l0.length : Int))).f1)).bind fun t109 => (if t109 = true then (ag_.j2 k2 l0 (l0.length : Int) x24_2 (l0.length : Int) x24_2 true ((ab_ l0 x24_2).f0) ((ab_ l0 x24_2).f1) ((ab_ l0 (ji12)).f0) ((ab_ l0 (ji12)).f1)) else ((bt_.f ((ab_ l0 (ji12)).f0) ((ab_ l0 (ji12)).f1) ((ab_ l0 (Int.tmod (wrap64 (x24_2 + 2)) (l0.length : Int))).f0) ((ab_ l0 (Int.tmod (wrap64 (x24_2 + 2)) (l0.length : Int))).f1) ((ab_ l0 x24_2).f0) ((ab_ l0 x24_2).f1)).bind fun t110 => (ag_.j2 k2 l0 (l0.length : Int) x24_2 (l0.length : Int) x24_2 t110 ((ab_ l0 x24_2).f0) ((ab_ l0 x24_2).f1) ((ab_ l0 (ji12)).f0) ((ab_ l0 (ji12)).f1)))))) else (none)) else (none)) else (none)) else (none)) = some r := by first | (rw [hji12] at H; exact H) | (simp only [hji12] at H ⊢; exact H)
       by_cases c13 : 0 ≤ (ji12)
       rotate_left
       ·rw [if_neg c13] at H
        exact absurd H (by simp)
       rw [if_pos c13] at H
       have c13b0 : decide (0 ≤ (ji12)) = true := decide_eq_true c13
       clear c13
       by_cases c14 : (ji12) < (l0.length : Int)
       rotate_left
       ·rw [if_neg c14] at H
        exact absurd H (by simp)
       rw [if_pos c14] at H
       have c14b0 : decide ((ji12) < (l0.length : Int)) = true := decide_eq_true c14
       clear c14
       obtain ⟨ji15, hji15⟩ : ∃ j_ : Int, (Int.tmod (wrap64 (x24_2 + 2)) (l0.length : Int)) = j_ := ⟨_, rfl⟩
       replace H : (if 0 ≤ (ji15) then (if (ji15) < (l0.length : Int) then (if (((ab_ l0 x24_2).f0) == ((ab_ l0 (ji12)).f0) && (((ab_ l0 x24_2).f1) == ((ab_ l0 (ji12)).f1))) = true then (ag_.j2 k2 l0 (l0.length : Int) x24_2 (l0.length : Int) x24_2 true ((ab_ l0 x24_2).f0) ((ab_ l0 x24_2).f1) ((ab_ l0 (ji12)).f0) ((ab_ l0 (ji12)).f1)) else ((bt_.f ((ab_ l0 x24_2).f0) ((ab_ l0 x24_2).f1) ((ab_ l0 (ji12)).f0) ((ab_ l0 (ji12)).f1) ((ab_ l0 (ji15)).f0) ((ab_ l0 (ji15)).f1)).bind fun t109 => (if t109 = true then (ag_.j2 k2 l0 (l0.length : Int) x24_2 (l0.length : Int) x24_2 true ((ab_ l0 x24_2).f0) ((ab_ l0 x24_2).f1) ((ab_ l0 (ji12)).f0) ((ab_ l0 (ji12)).f1)) else ((bt_.f ((ab_ l0 (ji12)).f0) ((ab_ l0 (ji12)).f1) ((ab_ l0 (ji15)).f0) ((ab_ l0 (ji15)).f1) ((ab_ l0 x24_2).f0) ((ab_ l0 x24_2).f1)).bind fun t110 => (ag_.j2 k2 l0 (l0.length : Int) x24_2 (l0.length : Int) x24_2 t110 ((ab_ l0 x24_2).f0) ((ab_ l0 x24_2).f1) ((ab_ l0 (ji12)).f0) ((ab_ l0 (ji12)).f1)))))) else (none)) else (none)) = some r := by first | (rw [hji15] at H; exact H) | (simp only [hji15] at H ⊢; exact H)
       by_cases c16 : 0 ≤ (ji15)
       rotate_left
       ·rw [if_neg c16] at H
        exact absurd H (by simp)
       rw [if_pos c16] at H
       have c16b0 : decide (0 ≤ (ji15)) = true := decide_eq_true c16
       clear c16
       by_cases c17 : (ji15) < (l0.length : Int)
       rotate_left
       ·rw [if_neg c17] at H
        exact absurd H (by simp)
       rw [if_pos c17] at H
       have c17b0 : decide ((ji15) < (l0.length : Int)) = true := decide_eq_true c17
       clear c17
       have HC18 := Aside0.mk H
       clear H
       try go_wp2
       have n0_ := Aside0.mk (bD_ HB.out)
       clear HB
       have HB := n0_
       clear n0_
       have p103 : 0 ≤ (x24_2 : Int) := of_decide_eq_true (by assumption)
       have q103 : x24_2 < (l0.length : Int) := of_decide_eq_true (by assumption)
       obtain ⟨ad103, e103, hx103_0, hx103_1⟩ := bX_ HR0.out x24_2 p103 q103
       have hw103_1 := hx103_1
       have hw103_0 := hx103_0
       cases e103
       replace hx103_0 := bu_ HB.out hx103_0
       replace hx103_1 := bu_ HB.out hx103_1
       replace p103 := eq_true p103
       replace q103 := eq_true q103
       have p104 : 0 ≤ ((ji12) : Int) := of_decide_eq_true (by assumption)
       have q104 : (ji12) < (l0.length : Int) := of_decide_eq_true (by assumption)
       obtain ⟨ad104, e104, hx104_0, hx104_1⟩ := bX_ HR0.out (ji12) p104 q104
       have hw104_1 := hx104_1
       have hw104_0 := hx104_0
       obtain rfl : ad103 = ad104 := (by injection e104)
       replace hx104_0 := bu_ HB.out hx104_0
       replace hx104_1 := bu_ HB.out hx104_1
       replace p104 := eq_true p104
       replace q104 := eq_true q104
       have p105 : 0 ≤ ((ji15) : Int) := of_decide_eq_true (by assumption)
       have q105 : (ji15) < (l0.length : Int) := of_decide_eq_true (by assumption)
       obtain ⟨ad105, e105, hx105_0, hx105_1⟩ := bX_ HR0.out (ji15) p105 q105
       have hw105_1 := hx105_1
       have hw105_0 := hx105_0
       obtain rfl : ad103 = ad105 := (by injection e105)
       replace hx105_0 := bu_ HB.out hx105_0
       replace hx105_1 := bu_ HB.out hx105_1
       replace p105 := eq_true p105
       replace q105 := eq_true q105
       refine cl_ (n := 24) (S := fun w' => w'.cell? (ad103.add ((x24_2).toNat * 2)) = some (.int .i64 ((ab_ l0 x24_2).f0)) ∧ w'.cell? ⟨(ad103.add ((x24_2).toNat * 2)).block, (ad103.add ((x24_2).toNat * 2)).off + 1, none⟩ = some (.int .i64 ((ab_ l0 x24_2).f1)) ∧ w'.cell? (ad103.add (((ji12)).toNat * 2)) = some (.int .i64 ((ab_ l0 (ji12)).f0)) ∧ w'.cell? ⟨(ad103.add (((ji12)).toNat * 2)).block, (ad103.add (((ji12)).toNat * 2)).off + 1, none⟩ = some (.int .i64 ((ab_ l0 (ji12)).f1)) ∧ w'.cell? (ad103.add (((ji15)).toNat * 2)) = some (.int .i64 ((ab_ l0 (ji15)).f0)) ∧ w'.cell? ⟨(ad103.add (((ji15)).toNat * 2)).block, (ad103.add (((ji15)).toNat * 2)).off + 1, none⟩ = some (.int .i64 ((ab_ l0 (ji15)).f1))) (ds := []) #[f_,f_,f_,f_,f_,f_,f_,f_,f_,f_,f_,f_,f_,f_,f_,f_,f_,f_,f_,f_,f_,f_,f_,f_] (by kernel_rfl) rfl rfl ⟨(bv_ HB.out hw103_0), (bv_ HB.out hw103_1), (bv_ HB.out hw104_0), (bv_ HB.out hw104_1), (bv_ HB.out hw105_0), (bv_ HB.out hw105_1)⟩ (fun hHeld => ?_); refine bo_ ag_.tab7 ag_.bits7 (fun HT_ HW_ => ?_)
       generalize wr.drew = w19 at HB hx103_0 hx103_1 hx104_0 hx104_1 hx105_0 hx105_1 hHeld ⊢
       refine pu 0 27 #[t_,f_,f_,f_,f_,f_,f_,f_,f_,f_,f_,f_,f_,f_,f_,f_,f_,f_,f_,f_,f_,f_,f_,f_] HT_ ?_
       refine pu 1 28 #[t_,t_,f_,f_,f_,f_,f_,f_,f_,f_,f_,f_,f_,f_,f_,f_,f_,f_,f_,f_,f_,f_,f_,f_] HT_ ?_
       refine pu 2 29 #[t_,t_,t_,f_,f_,f_,f_,f_,f_,f_,f_,f_,f_,f_,f_,f_,f_,f_,f_,f_,f_,f_,f_,f_] HT_ ?_
       refine pu 4 31 #[t_,t_,t_,f_,t_,f_,f_,f_,f_,f_,f_,f_,f_,f_,f_,f_,f_,f_,f_,f_,f_,f_,f_,f_] HT_ ?_
       refine pu 5 32 #[t_,t_,t_,f_,t_,t_,f_,f_,f_,f_,f_,f_,f_,f_,f_,f_,f_,f_,f_,f_,f_,f_,f_,f_] HT_ ?_
       refine pu 6 33 #[t_,t_,t_,f_,t_,t_,t_,f_,f_,f_,f_,f_,f_,f_,f_,f_,f_,f_,f_,f_,f_,f_,f_,f_] HT_ ?_
       refine pu 7 34 #[t_,t_,t_,f_,t_,t_,t_,t_,f_,f_,f_,f_,f_,f_,f_,f_,f_,f_,f_,f_,f_,f_,f_,f_] HT_ ?_
       refine pu 8 35 #[t_,t_,t_,f_,t_,t_,t_,t_,t_,f_,f_,f_,f_,f_,f_,f_,f_,f_,f_,f_,f_,f_,f_,f_] HT_ ?_
       refine pu 9 36 #[t_,t_,t_,f_,t_,t_,t_,t_,t_,t_,f_,f_,f_,f_,f_,f_,f_,f_,f_,f_,f_,f_,f_,f_] HT_ ?_
       refine pu 11 38 #[t_,t_,t_,f_,t_,t_,t_,t_,t_,t_,f_,t_,f_,f_,f_,f_,f_,f_,f_,f_,f_,f_,f_,f_] HT_ ?_
       refine pu 12 39 #[t_,t_,t_,f_,t_,t_,t_,t_,t_,t_,f_,t_,t_,f_,f_,f_,f_,f_,f_,f_,f_,f_,f_,f_] HT_ ?_
       refine pu 13 40 #[t_,t_,t_,f_,t_,t_,t_,t_,t_,t_,f_,t_,t_,t_,f_,f_,f_,f_,f_,f_,f_,f_,f_,f_] HT_ ?_
       refine pu 14 41 #[t_,t_,t_,f_,t_,t_,t_,t_,t_,t_,f_,t_,t_,t_,t_,f_,f_,f_,f_,f_,f_,f_,f_,f_] HT_ ?_
       refine pu 15 42 #[t_,t_,t_,f_,t_,t_,t_,t_,t_,t_,f_,t_,t_,t_,t_,t_,f_,f_,f_,f_,f_,f_,f_,f_] HT_ ?_
       refine pu 16 43 #[t_,t_,t_,f_,t_,t_,t_,t_,t_,t_,f_,t_,t_,t_,t_,t_,t_,f_,f_,f_,f_,f_,f_,f_] HT_ ?_
       refine tk 3 30 #[t_,t_,t_,t_,t_,t_,t_,t_,t_,t_,f_,t_,t_,t_,t_,t_,t_,f_,f_,f_,f_,f_,f_,f_] HT_ HW_ hHeld ?_ (hv := by rintro w' ⟨s0, s1, s2, s3, s4, s5⟩; go_simp; with_reducible rfl)
       refine tk 10 37 #[t_,t_,t_,t_,t_,t_,t_,t_,t_,t_,t_,t_,t_,t_,t_,t_,t_,f_,f_,f_,f_,f_,f_,f_] HT_ HW_ hHeld ?_ (hv := by rintro w' ⟨s0, s1, s2, s3, s4, s5⟩; go_simp; with_reducible rfl)
       refine tk 17 44 #[t_,t_,t_,t_,t_,t_,t_,t_,t_,t_,t_,t_,t_,t_,t_,t_,t_,t_,f_,f_,f_,f_,f_,f_] HT_ HW_ hHeld ?_ (hv := by rintro w' ⟨s0, s1, s2, s3, s4, s5⟩; go_simp; with_reducible rfl)
       refine join_ (σ := Nat × Nat × Nat) 3 #[t_,t_,t_,t_,t_,t_,t_,t_,t_,t_,t_,t_,t_,t_,t_,t_,t_,t_,t_,t_,t_,f_,f_,f_] (fun s_ => [(5, .pointer (some ⟨s_.1, 0, none⟩)), (6, .pointer (some ⟨s_.2.1, 0, none⟩)), (7, .pointer (some ⟨s_.2.2, 0, none⟩))]) (fun s_ w' => (w'.cell? (ad103.add ((x24_2).toNat * 2)) = some (.int .i64 ((ab_ l0 x24_2).f0)) ∧ w'.cell? ⟨(ad103.add ((x24_2).toNat * 2)).block, (ad103.add ((x24_2).toNat * 2)).off + 1, none⟩ = some (.int .i64 ((ab_ l0 x24_2).f1)) ∧ w'.cell? (ad103.add (((ji12)).toNat * 2)) = some (.int .i64 ((ab_ l0 (ji12)).f0)) ∧ w'.cell? ⟨(ad103.add (((ji12)).toNat * 2)).block, (ad103.add (((ji12)).toNat * 2)).off + 1, none⟩ = some (.int .i64 ((ab_ l0 (ji12)).f1)) ∧ w'.cell? (ad103.add (((ji15)).toNat * 2)) = some (.int .i64 ((ab_ l0 (ji15)).f0)) ∧ w'.cell? ⟨(ad103.add (((ji15)).toNat * 2)).block, (ad103.add (((ji15)).toNat * 2)).off + 1, none⟩ = some (.int .i64 ((ab_ l0 (ji15)).f1))) ∧ (w'.heap[s_.1]? = some (.cells #[.int .i64 0, .int .i64 0] 81 (0, 0))) ∧ (w'.heap[s_.2.1]? = some (.cells #[.int .i64 0, .int .i64 0] 81 (0, 0))) ∧ (w'.heap[s_.2.2]? = some (.cells #[.int .i64 0, .int .i64 0] 81 (0, 0))) ∧ (w.heap.size ≤ s_.1) ∧ (w.heap.size ≤ s_.1) ∧ (s_.2.1 ≠ s_.1) ∧ (s_.1 ≠ s_.2.1) ∧ (s_.2.2 ≠ s_.1) ∧ (s_.1 ≠ s_.2.2) ∧ (w.heap.size ≤ s_.2.1) ∧ (w.heap.size ≤ s_.2.1) ∧ (s_.2.2 ≠ s_.2.1) ∧ (s_.2.1 ≠ s_.2.2) ∧ (w.heap.size ≤ s_.2.2) ∧ (w.heap.size ≤ s_.2.2) ∧ (Below w.heap.size w w')) ?_ ?_
       rotate_left
       ·intro hJ18_19_20
        refine join_ (σ := Nat × Nat) 4 #[t_,t_,t_,t_,t_,t_,t_,t_,t_,t_,t_,t_,t_,t_,t_,t_,t_,t_,t_,t_,f_,f_,f_,f_] (fun s_ => [(5, .pointer (some ⟨s_.1, 0, none⟩)), (6, .pointer (some ⟨s_.2, 0, none⟩))]) (fun s_ w' => (w'.cell? (ad103.add ((x24_2).toNat * 2)) = some (.int .i64 ((ab_ l0 x24_2).f0)) ∧ w'.cell? ⟨(ad103.add ((x24_2).toNat * 2)).block, (ad103.add ((x24_2).toNat * 2)).off + 1, none⟩ = some (.int .i64 ((ab_ l0 x24_2).f1)) ∧ w'.cell? (ad103.add (((ji12)).toNat * 2)) = some (.int .i64 ((ab_ l0 (ji12)).f0)) ∧ w'.cell? ⟨(ad103.add (((ji12)).toNat * 2)).block, (ad103.add (((ji12)).toNat * 2)).off + 1, none⟩ = some (.int .i64 ((ab_ l0 (ji12)).f1)) ∧ w'.cell? (ad103.add (((ji15)).toNat * 2)) = some (.int .i64 ((ab_ l0 (ji15)).f0)) ∧ w'.cell? ⟨(ad103.add (((ji15)).toNat * 2)).block, (ad103.add (((ji15)).toNat * 2)).off + 1, none⟩ = some (.int .i64 ((ab_ l0 (ji15)).f1))) ∧ (w'.heap[s_.1]? = some (.cells #[.int .i64 0, .int .i64 0] 81 (0, 0))) ∧ (w'.heap[s_.2]? = some (.cells #[.int .i64 0, .int .i64 0] 81 (0, 0))) ∧ (w.heap.size ≤ s_.1) ∧ (w.heap.size ≤ s_.1) ∧ (s_.2 ≠ s_.1) ∧ (s_.1 ≠ s_.2) ∧ (w.heap.size ≤ s_.2) ∧ (w.heap.size ≤ s_.2) ∧ (Below w.heap.size w w')) ?_ ?_
        rotate_left
        ·intro hJ18_19
         refine join_ (σ := Nat × Nat) 4 #[t_,t_,t_,t_,t_,t_,t_,t_,t_,t_,t_,t_,t_,t_,t_,t_,t_,t_,t_,f_,t_,f_,f_,f_] (fun s_ => [(5, .pointer (some ⟨s_.1, 0, none⟩)), (7, .pointer (some ⟨s_.2, 0, none⟩))]) (fun s_ w' => (w'.cell? (ad103.add ((x24_2).toNat * 2)) = some (.int .i64 ((ab_ l0 x24_2).f0)) ∧ w'.cell? ⟨(ad103.add ((x24_2).toNat * 2)).block, (ad103.add ((x24_2).toNat * 2)).off + 1, none⟩ = some (.int .i64 ((ab_ l0 x24_2).f1)) ∧ w'.cell? (ad103.add (((ji12)).toNat * 2)) = some (.int .i64 ((ab_ l0 (ji12)).f0)) ∧ w'.cell? ⟨(ad103.add (((ji12)).toNat * 2)).block, (ad103.add (((ji12)).toNat * 2)).off + 1, none⟩ = some (.int .i64 ((ab_ l0 (ji12)).f1)) ∧ w'.cell? (ad103.add (((ji15)).toNat * 2)) = some (.int .i64 ((ab_ l0 (ji15)).f0)) ∧ w'.cell? ⟨(ad103.add (((ji15)).toNat * 2)).block, (ad103.add (((ji15)).toNat * 2)).off + 1, none⟩ = some (.int .i64 ((ab_ l0 (ji15)).f1))) ∧ (w'.heap[s_.1]? = some (.cells #[.int .i64 0, .int .i64 0] 81 (0, 0))) ∧ (w'.heap[s_.2]? = some (.cells #[.int .i64 0, .int .i64 0] 81 (0, 0))) ∧ (w.heap.size ≤ s_.1) ∧ (w.heap.size ≤ s_.1) ∧ (s_.2 ≠ s_.1) ∧ (s_.1 ≠ s_.2) ∧ (w.heap.size ≤ s_.2) ∧ (w.heap.size ≤ s_.2) ∧ (Below w.heap.size w w')) ?_ ?_
         rotate_left
         ·intro hJ18_20
          refine join_ (σ := Nat × Nat) 4 #[t_,t_,t_,t_,t_,t_,t_,t_,t_,t_,t_,t_,t_,t_,t_,t_,t_,t_,f_,t_,t_,f_,f_,f_] (fun s_ => [(6, .pointer (some ⟨s_.1, 0, none⟩)), (7, .pointer (some ⟨s_.2, 0, none⟩))]) (fun s_ w' => (w'.cell? (ad103.add ((x24_2).toNat * 2)) = some (.int .i64 ((ab_ l0 x24_2).f0)) ∧ w'.cell? ⟨(ad103.add ((x24_2).toNat * 2)).block, (ad103.add ((x24_2).toNat * 2)).off + 1, none⟩ = some (.int .i64 ((ab_ l0 x24_2).f1)) ∧ w'.cell? (ad103.add (((ji12)).toNat * 2)) = some (.int .i64 ((ab_ l0 (ji12)).f0)) ∧ w'.cell? ⟨(ad103.add (((ji12)).toNat * 2)).block, (ad103.add (((ji12)).toNat * 2)).off + 1, none⟩ = some (.int .i64 ((ab_ l0 (ji12)).f1)) ∧ w'.cell? (ad103.add (((ji15)).toNat * 2)) = some (.int .i64 ((ab_ l0 (ji15)).f0)) ∧ w'.cell? ⟨(ad103.add (((ji15)).toNat * 2)).block, (ad103.add (((ji15)).toNat * 2)).off + 1, none⟩ = some (.int .i64 ((ab_ l0 (ji15)).f1))) ∧ (w'.heap[s_.1]? = some (.cells #[.int .i64 0, .int .i64 0] 81 (0, 0))) ∧ (w'.heap[s_.2]? = some (.cells #[.int .i64 0, .int .i64 0] 81 (0, 0))) ∧ (w.heap.size ≤ s_.1) ∧ (w.heap.size ≤ s_.1) ∧ (s_.2 ≠ s_.1) ∧ (s_.1 ≠ s_.2) ∧ (w.heap.size ≤ s_.2) ∧ (w.heap.size ≤ s_.2) ∧ (Below w.heap.size w w')) ?_ ?_
          rotate_left
          ·intro hJ19_20
           refine join_ (σ := Nat) 5 #[t_,t_,t_,t_,t_,t_,t_,t_,t_,t_,t_,t_,t_,t_,t_,t_,t_,t_,t_,f_,f_,f_,f_,f_] (fun s_ => [(5, .pointer (some ⟨s_, 0, none⟩))]) (fun s_ w' => (w'.cell? (ad103.add ((x24_2).toNat * 2)) = some (.int .i64 ((ab_ l0 x24_2).f0)) ∧ w'.cell? ⟨(ad103.add ((x24_2).toNat * 2)).block, (ad103.add ((x24_2).toNat * 2)).off + 1, none⟩ = some (.int .i64 ((ab_ l0 x24_2).f1)) ∧ w'.cell? (ad103.add (((ji12)).toNat * 2)) = some (.int .i64 ((ab_ l0 (ji12)).f0)) ∧ w'.cell? ⟨(ad103.add (((ji12)).toNat * 2)).block, (ad103.add (((ji12)).toNat * 2)).off + 1, none⟩ = some (.int .i64 ((ab_ l0 (ji12)).f1)) ∧ w'.cell? (ad103.add (((ji15)).toNat * 2)) = some (.int .i64 ((ab_ l0 (ji15)).f0)) ∧ w'.cell? ⟨(ad103.add (((ji15)).toNat * 2)).block, (ad103.add (((ji15)).toNat * 2)).off + 1, none⟩ = some (.int .i64 ((ab_ l0 (ji15)).f1))) ∧ (w'.heap[s_]? = some (.cells #[.int .i64 0, .int .i64 0] 81 (0, 0))) ∧ (w.heap.size ≤ s_) ∧ (w.heap.size ≤ s_) ∧ (Below w.heap.size w w')) ?_ ?_
           rotate_left
           ·intro hJ18
            refine join_ (σ := Nat) 5 #[t_,t_,t_,t_,t_,t_,t_,t_,t_,t_,t_,t_,t_,t_,t_,t_,t_,t_,f_,t_,f_,f_,f_,f_] (fun s_ => [(6, .pointer (some ⟨s_, 0, none⟩))]) (fun s_ w' => (w'.cell? (ad103.add ((x24_2).toNat * 2)) = some (.int .i64 ((ab_ l0 x24_2).f0)) ∧ w'.cell? ⟨(ad103.add ((x24_2).toNat * 2)).block, (ad103.add ((x24_2).toNat * 2)).off + 1, none⟩ = some (.int .i64 ((ab_ l0 x24_2).f1)) ∧ w'.cell? (ad103.add (((ji12)).toNat * 2)) = some (.int .i64 ((ab_ l0 (ji12)).f0)) ∧ w'.cell? ⟨(ad103.add (((ji12)).toNat * 2)).block, (ad103.add (((ji12)).toNat * 2)).off + 1, none⟩ = some (.int .i64 ((ab_ l0 (ji12)).f1)) ∧ w'.cell? (ad103.add (((ji15)).toNat * 2)) = some (.int .i64 ((ab_ l0 (ji15)).f0)) ∧ w'.cell? ⟨(ad103.add (((ji15)).toNat * 2)).block, (ad103.add (((ji15)).toNat * 2)).off + 1, none⟩ = some (.int .i64 ((ab_ l0 (ji15)).f1))) ∧ (w'.heap[s_]? = some (.cells #[.int .i64 0, .int .i64 0] 81 (0, 0))) ∧ (w.heap.size ≤ s_) ∧ (w.heap.size ≤ s_) ∧ (Below w.heap.size w w')) ?_ ?_
            rotate_left
            ·intro hJ19
             refine join_ (σ := Nat) 5 #[t_,t_,t_,t_,t_,t_,t_,t_,t_,t_,t_,t_,t_,t_,t_,t_,t_,t_,f_,f_,t_,f_,f_,f_] (fun s_ => [(7, .pointer (some ⟨s_, 0, none⟩))]) (fun s_ w' => (w'.cell? (ad103.add ((x24_2).toNat * 2)) = some (.int .i64 ((ab_ l0 x24_2).f0)) ∧ w'.cell? ⟨(ad103.add ((x24_2).toNat * 2)).block, (ad103.add ((x24_2).toNat * 2)).off + 1, none⟩ = some (.int .i64 ((ab_ l0 x24_2).f1)) ∧ w'.cell? (ad103.add (((ji12)).toNat * 2)) = some (.int .i64 ((ab_ l0 (ji12)).f0)) ∧ w'.cell? ⟨(ad103.add (((ji12)).toNat * 2)).block, (ad103.add (((ji12)).toNat * 2)).off + 1, none⟩ = some (.int .i64 ((ab_ l0 (ji12)).f1)) ∧ w'.cell? (ad103.add (((ji15)).toNat * 2)) = some (.int .i64 ((ab_ l0 (ji15)).f0)) ∧ w'.cell? ⟨(ad103.add (((ji15)).toNat * 2)).block, (ad103.add (((ji15)).toNat * 2)).off + 1, none⟩ = some (.int .i64 ((ab_ l0 (ji15)).f1))) ∧ (w'.heap[s_]? = some (.cells #[.int .i64 0, .int .i64 0] 81 (0, 0))) ∧ (w.heap.size ≤ s_) ∧ (w.heap.size ≤ s_) ∧ (Below w.heap.size w w')) ?_ ?_
             rotate_left
             ·intro hJ20
              refine three_ (i := 18) (j := 19) (k := 20) (Ni := some 5) (Nj := some 6) (Nk := some 7) #[t_,t_,t_,t_,t_,t_,t_,t_,t_,t_,t_,t_,t_,t_,t_,t_,t_,t_,t_,f_,f_,f_,f_,f_] #[t_,t_,t_,t_,t_,t_,t_,t_,t_,t_,t_,t_,t_,t_,t_,t_,t_,t_,f_,t_,f_,f_,f_,f_] #[t_,t_,t_,t_,t_,t_,t_,t_,t_,t_,t_,t_,t_,t_,t_,t_,t_,t_,f_,f_,t_,f_,f_,f_] rfl rfl rfl rfl rfl rfl (three_of HT_.out (by kernel_rfl)) (by decide) (by decide) (by decide) (fun K hK => ?_) (fun K hK => ?_) (fun K hK => ?_)
              ·skip
               refine dd_ ?hg (N := 5) ?hd (cs := #[.int .i64 0, .int .i64 0]) (t := 81) ?hr ?_; (case hd => rfl); (case hg => rfl); (case hr => (go_simp; try rfl))
               intro gb106 hg w20 hbox hb
               have n0_ := Aside0.mk (ad_ (bz HB.out) hb)
               have n1_ := Aside0.mk (hbox)
               have n2_ := Aside0.mk ((by rw [hg]; exact (ae_ (bz HB.out)) : w.heap.size ≤ gb106))
               have n3_ := Aside0.mk ((by rw [hg]; exact (ae_ (bz HB.out)) : w.heap.size ≤ gb106))
               clear HB
               have HB := n0_
               have BK106 := n1_
               have GW106 := n2_
               have GE106 := n3_
               clear n0_ n1_ n2_ n3_
               clear hb hbox hg
               refine hK.out _ _ ⟨(bv_ HB.out hw103_0), (bv_ HB.out hw103_1), (bv_ HB.out hw104_0), (bv_ HB.out hw104_1), (bv_ HB.out hw105_0), (bv_ HB.out hw105_1)⟩ (fun hHeld => ?_)
               clear hK K
               refine norm_ (a' := ?_) ?_ ?_
               rotate_left
               ·show Act.put _ (some 5) _ = _
                simp only [Act.put, lsa_, ls0_, ls1_, i64_w, i32_w]
                rfl
               exact norm_ (by first | (simp only [cd_, Act.put, lsa_, ls0_, ls1_]; done) | (simp only [cd_, Act.put, lsa_, ls0_, ls1_]; rfl)) (hJ18 (gb106) _ ⟨hHeld, (kz BK106.out), GW106.out, GE106.out, (bq)⟩)
              ·skip
               refine dd_ ?hg (N := 6) ?hd (cs := #[.int .i64 0, .int .i64 0]) (t := 81) ?hr ?_; (case hd => rfl); (case hg => rfl); (case hr => (go_simp; try rfl))
               intro gb107 hg w20 hbox hb
               have n0_ := Aside0.mk (ad_ (bz HB.out) hb)
               have n1_ := Aside0.mk (hbox)
               have n2_ := Aside0.mk ((by rw [hg]; exact (ae_ (bz HB.out)) : w.heap.size ≤ gb107))
               have n3_ := Aside0.mk ((by rw [hg]; exact (ae_ (bz HB.out)) : w.heap.size ≤ gb107))
               clear HB
               have HB := n0_
               have BK107 := n1_
               have GW107 := n2_
               have GE107 := n3_
               clear n0_ n1_ n2_ n3_
               clear hb hbox hg
               refine hK.out _ _ ⟨(bv_ HB.out hw103_0), (bv_ HB.out hw103_1), (bv_ HB.out hw104_0), (bv_ HB.out hw104_1), (bv_ HB.out hw105_0), (bv_ HB.out hw105_1)⟩ (fun hHeld => ?_)
               clear hK K
               refine norm_ (a' := ?_) ?_ ?_
               rotate_left
               ·show Act.put _ (some 6) _ = _
                simp only [Act.put, lsa_, ls0_, ls1_, i64_w, i32_w]
                rfl
               exact norm_ (by first | (simp only [cd_, Act.put, lsa_, ls0_, ls1_]; done) | (simp only [cd_, Act.put, lsa_, ls0_, ls1_]; rfl)) (hJ19 (gb107) _ ⟨hHeld, (kz BK107.out), GW107.out, GE107.out, (bq)⟩)
              ·skip
               refine dd_ ?hg (N := 7) ?hd (cs := #[.int .i64 0, .int .i64 0]) (t := 81) ?hr ?_; (case hd => rfl); (case hg => rfl); (case hr => (go_simp; try rfl))
               intro gb108 hg w20 hbox hb
               have n0_ := Aside0.mk (ad_ (bz HB.out) hb)
               have n1_ := Aside0.mk (hbox)
               have n2_ := Aside0.mk ((by rw [hg]; exact (ae_ (bz HB.out)) : w.heap.size ≤ gb108))
               have n3_ := Aside0.mk ((by rw [hg]; exact (ae_ (bz HB.out)) : w.heap.size ≤ gb108))
               clear HB
               have HB := n0_
               have BK108 := n1_
               have GW108 := n2_
               have GE108 := n3_
               clear n0_ n1_ n2_ n3_
               clear hb hbox hg
               refine hK.out _ _ ⟨(bv_ HB.out hw103_0), (bv_ HB.out hw103_1), (bv_ HB.out hw104_0), (bv_ HB.out hw104_1), (bv_ HB.out hw105_0), (bv_ HB.out hw105_1)⟩ (fun hHeld => ?_)
               clear hK K
               refine norm_ (a' := ?_) ?_ ?_
               rotate_left
               ·show Act.put _ (some 7) _ = _
                simp only [Act.put, lsa_, ls0_, ls1_, i64_w, i32_w]
                rfl
               exact norm_ (by first | (simp only [cd_, Act.put, lsa_, ls0_, ls1_]; done) | (simp only [cd_, Act.put, lsa_, ls0_, ls1_]; rfl)) (hJ20 (gb108) _ ⟨hHeld, (kz BK108.out), GW108.out, GE108.out, (bq)⟩)
             ·skip
              rintro gb108 w21 ⟨hS_, h0_, h1_, h2_, h3_⟩
              have n0_ : Aside0 (w21.heap[gb108]? = some (.cells #[.int .i64 0, .int .i64 0] 81 (0, 0))) := ⟨h0_⟩
              have n1_ : Aside0 (w.heap.size ≤ gb108) := ⟨h1_⟩
              have n2_ : Aside0 (w.heap.size ≤ gb108) := ⟨h2_⟩
              have n3_ : Aside0 (Below w.heap.size w w21) := ⟨h3_⟩
              clear HB
              clear h0_ h1_ h2_ h3_
              have BK108 := n0_
              have GW108 := n1_
              have GE108 := n2_
              have HB := n3_
              clear n0_ n1_ n2_ n3_
              have hHeld : w21.cell? (ad103.add ((x24_2).toNat * 2)) = some (.int .i64 ((ab_ l0 x24_2).f0)) ∧ w21.cell? ⟨(ad103.add ((x24_2).toNat * 2)).block, (ad103.add ((x24_2).toNat * 2)).off + 1, none⟩ = some (.int .i64 ((ab_ l0 x24_2).f1)) ∧ w21.cell? (ad103.add (((ji12)).toNat * 2)) = some (.int .i64 ((ab_ l0 (ji12)).f0)) ∧ w21.cell? ⟨(ad103.add (((ji12)).toNat * 2)).block, (ad103.add (((ji12)).toNat * 2)).off + 1, none⟩ = some (.int .i64 ((ab_ l0 (ji12)).f1)) ∧ w21.cell? (ad103.add (((ji15)).toNat * 2)) = some (.int .i64 ((ab_ l0 (ji15)).f0)) ∧ w21.cell? ⟨(ad103.add (((ji15)).toNat * 2)).block, (ad103.add (((ji15)).toNat * 2)).off + 1, none⟩ = some (.int .i64 ((ab_ l0 (ji15)).f1)) := hS_
              refine norm_ (a' := ?_) ?_ ?_
              rotate_left
              ·simp only [cd_, Act.put, lsa_, ls0_, ls1_]
               rfl
              refine two_ (i := 18) (j := 19) (Ni := some 5) (Nj := some 6) #[t_,t_,t_,t_,t_,t_,t_,t_,t_,t_,t_,t_,t_,t_,t_,t_,t_,t_,t_,f_,t_,f_,f_,f_] #[t_,t_,t_,t_,t_,t_,t_,t_,t_,t_,t_,t_,t_,t_,t_,t_,t_,t_,f_,t_,t_,f_,f_,f_] rfl rfl rfl rfl (two_of HT_.out (by kernel_rfl)) (by decide) (by decide) (fun K hK => ?_) (fun K hK => ?_)
              ·skip
               refine dd_ ?hg (N := 5) ?hd (cs := #[.int .i64 0, .int .i64 0]) (t := 81) ?hr ?_; (case hd => rfl); (case hg => rfl); (case hr => (go_simp; try rfl))
               intro gb106 hg w22 hbox hb
               have n0_ := Aside0.mk (aa_ (kz BK108.out) hb)
               have n1_ := Aside0.mk (ad_ (bq) hb)
               have n2_ := Aside0.mk (hbox)
               have n3_ := Aside0.mk ((by rw [hg]; exact (ae_ (bq)) : w.heap.size ≤ gb106))
               have n4_ := Aside0.mk ((by rw [hg]; exact (ae_ (bq)) : w.heap.size ≤ gb106))
               have n5_ := Aside0.mk ((by rw [hg]; exact Nat.ne_of_lt (aj_ (kz BK108.out)) : gb108 ≠ gb106))
               have n6_ := Aside0.mk ((by rw [hg]; exact Nat.ne_of_gt (aj_ (kz BK108.out)) : gb106 ≠ gb108))
               clear BK108
               clear HB
               have BK108 := n0_
               have HB := n1_
               have BK106 := n2_
               have GW106 := n3_
               have GE106 := n4_
               have NB108_106 := n5_
               have NB106_108 := n6_
               clear n0_ n1_ n2_ n3_ n4_ n5_ n6_
               clear hb hbox hg
               refine hK.out _ _ ⟨(bv_ HB.out hw103_0), (bv_ HB.out hw103_1), (bv_ HB.out hw104_0), (bv_ HB.out hw104_1), (bv_ HB.out hw105_0), (bv_ HB.out hw105_1)⟩ (fun hHeld => ?_)
               clear hK K
               refine norm_ (a' := ?_) ?_ ?_
               rotate_left
               ·show Act.put _ (some 5) _ = _
                simp only [Act.put, lsa_, ls0_, ls1_, i64_w, i32_w]
                rfl
               exact norm_ (by first | (simp only [cd_, Act.put, lsa_, ls0_, ls1_]; done) | (simp only [cd_, Act.put, lsa_, ls0_, ls1_]; rfl)) (hJ18_20 (gb106, gb108) _ ⟨hHeld, (kz BK106.out), (kz BK108.out), GW106.out, GE106.out, NB108_106.out, NB106_108.out, GW108.out, GE108.out, (bq)⟩)
              ·skip
               refine dd_ ?hg (N := 6) ?hd (cs := #[.int .i64 0, .int .i64 0]) (t := 81) ?hr ?_; (case hd => rfl); (case hg => rfl); (case hr => (go_simp; try rfl))
               intro gb107 hg w22 hbox hb
               have n0_ := Aside0.mk (aa_ (kz BK108.out) hb)
               have n1_ := Aside0.mk (ad_ (bq) hb)
               have n2_ := Aside0.mk (hbox)
               have n3_ := Aside0.mk ((by rw [hg]; exact (ae_ (bq)) : w.heap.size ≤ gb107))
               have n4_ := Aside0.mk ((by rw [hg]; exact (ae_ (bq)) : w.heap.size ≤ gb107))
               have n5_ := Aside0.mk ((by rw [hg]; exact Nat.ne_of_lt (aj_ (kz BK108.out)) : gb108 ≠ gb107))
               have n6_ := Aside0.mk ((by rw [hg]; exact Nat.ne_of_gt (aj_ (kz BK108.out)) : gb107 ≠ gb108))
               clear BK108
               clear HB
               have BK108 := n0_
               have HB := n1_
               have BK107 := n2_
               have GW107 := n3_
               have GE107 := n4_
               have NB108_107 := n5_
               have NB107_108 := n6_
               clear n0_ n1_ n2_ n3_ n4_ n5_ n6_
               clear hb hbox hg
               refine hK.out _ _ ⟨(bv_ HB.out hw103_0), (bv_ HB.out hw103_1), (bv_ HB.out hw104_0), (bv_ HB.out hw104_1), (bv_ HB.out hw105_0), (bv_ HB.out hw105_1)⟩ (fun hHeld => ?_)
               clear hK K
               refine norm_ (a' := ?_) ?_ ?_
               rotate_left
               ·show Act.put _ (some 6) _ = _
                simp only [Act.put, lsa_, ls0_, ls1_, i64_w, i32_w]
                rfl
               exact norm_ (by first | (simp only [cd_, Act.put, lsa_, ls0_, ls1_]; done) | (simp only [cd_, Act.put, lsa_, ls0_, ls1_]; rfl)) (hJ19_20 (gb107, gb108) _ ⟨hHeld, (kz BK107.out), (kz BK108.out), GW107.out, GE107.out, NB108_107.out, NB107_108.out, GW108.out, GE108.out, (bq)⟩)
            ·skip
             rintro gb107 w21 ⟨hS_, h0_, h1_, h2_, h3_⟩
             have n0_ : Aside0 (w21.heap[gb107]? = some (.cells #[.int .i64 0, .int .i64 0] 81 (0, 0))) := ⟨h0_⟩
             have n1_ : Aside0 (w.heap.size ≤ gb107) := ⟨h1_⟩
             have n2_ : Aside0 (w.heap.size ≤ gb107) := ⟨h2_⟩
             have n3_ : Aside0 (Below w.heap.size w w21) := ⟨h3_⟩
             clear HB
             clear h0_ h1_ h2_ h3_
             have BK107 := n0_
             have GW107 := n1_
             have GE107 := n2_
             have HB := n3_
             clear n0_ n1_ n2_ n3_
             have hHeld : w21.cell? (ad103.add ((x24_2).toNat * 2)) = some (.int .i64 ((ab_ l0 x24_2).f0)) ∧ w21.cell? ⟨(ad103.add ((x24_2).toNat * 2)).block, (ad103.add ((x24_2).toNat * 2)).off + 1, none⟩ = some (.int .i64 ((ab_ l0 x24_2).f1)) ∧ w21.cell? (ad103.add (((ji12)).toNat * 2)) = some (.int .i64 ((ab_ l0 (ji12)).f0)) ∧ w21.cell? ⟨(ad103.add (((ji12)).toNat * 2)).block, (ad103.add (((ji12)).toNat * 2)).off + 1, none⟩ = some (.int .i64 ((ab_ l0 (ji12)).f1)) ∧ w21.cell? (ad103.add (((ji15)).toNat * 2)) = some (.int .i64 ((ab_ l0 (ji15)).f0)) ∧ w21.cell? ⟨(ad103.add (((ji15)).toNat * 2)).block, (ad103.add (((ji15)).toNat * 2)).off + 1, none⟩ = some (.int .i64 ((ab_ l0 (ji15)).f1)) := hS_
             refine norm_ (a' := ?_) ?_ ?_
             rotate_left
             ·simp only [cd_, Act.put, lsa_, ls0_, ls1_]
              rfl
             refine two_ (i := 18) (j := 20) (Ni := some 5) (Nj := some 7) #[t_,t_,t_,t_,t_,t_,t_,t_,t_,t_,t_,t_,t_,t_,t_,t_,t_,t_,t_,t_,f_,f_,f_,f_] #[t_,t_,t_,t_,t_,t_,t_,t_,t_,t_,t_,t_,t_,t_,t_,t_,t_,t_,f_,t_,t_,f_,f_,f_] rfl rfl rfl rfl (two_of HT_.out (by kernel_rfl)) (by decide) (by decide) (fun K hK => ?_) (fun K hK => ?_)
             ·skip
              refine dd_ ?hg (N := 5) ?hd (cs := #[.int .i64 0, .int .i64 0]) (t := 81) ?hr ?_; (case hd => rfl); (case hg => rfl); (case hr => (go_simp; try rfl))
              intro gb106 hg w22 hbox hb
              have n0_ := Aside0.mk (aa_ (kz BK107.out) hb)
              have n1_ := Aside0.mk (ad_ (bq) hb)
              have n2_ := Aside0.mk (hbox)
              have n3_ := Aside0.mk ((by rw [hg]; exact (ae_ (bq)) : w.heap.size ≤ gb106))
              have n4_ := Aside0.mk ((by rw [hg]; exact (ae_ (bq)) : w.heap.size ≤ gb106))
              have n5_ := Aside0.mk ((by rw [hg]; exact Nat.ne_of_lt (aj_ (kz BK107.out)) : gb107 ≠ gb106))
              have n6_ := Aside0.mk ((by rw [hg]; exact Nat.ne_of_gt (aj_ (kz BK107.out)) : gb106 ≠ gb107))
              clear BK107
              clear HB
              have BK107 := n0_
              have HB := n1_
              have BK106 := n2_
              have GW106 := n3_
              have GE106 := n4_
              have NB107_106 := n5_
              have NB106_107 := n6_
              clear n0_ n1_ n2_ n3_ n4_ n5_ n6_
              clear hb hbox hg
              refine hK.out _ _ ⟨(bv_ HB.out hw103_0), (bv_ HB.out hw103_1), (bv_ HB.out hw104_0), (bv_ HB.out hw104_1), (bv_ HB.out hw105_0), (bv_ HB.out hw105_1)⟩ (fun hHeld => ?_)
              clear hK K
              refine norm_ (a' := ?_) ?_ ?_
              rotate_left
              ·show Act.put _ (some 5) _ = _
               simp only [Act.put, lsa_, ls0_, ls1_, i64_w, i32_w]
               rfl
              exact norm_ (by first | (simp only [cd_, Act.put, lsa_, ls0_, ls1_]; done) | (simp only [cd_, Act.put, lsa_, ls0_, ls1_]; rfl)) (hJ18_19 (gb106, gb107) _ ⟨hHeld, (kz BK106.out), (kz BK107.out), GW106.out, GE106.out, NB107_106.out, NB106_107.out, GW107.out, GE107.out, (bq)⟩)
             ·skip
              refine dd_ ?hg (N := 7) ?hd (cs := #[.int .i64 0, .int .i64 0]) (t := 81) ?hr ?_; (case hd => rfl); (case hg => rfl); (case hr => (go_simp; try rfl))
              intro gb108 hg w22 hbox hb
              have n0_ := Aside0.mk (aa_ (kz BK107.out) hb)
              have n1_ := Aside0.mk (ad_ (bq) hb)
              have n2_ := Aside0.mk (hbox)
              have n3_ := Aside0.mk ((by rw [hg]; exact (ae_ (bq)) : w.heap.size ≤ gb108))
              have n4_ := Aside0.mk ((by rw [hg]; exact (ae_ (bq)) : w.heap.size ≤ gb108))
              have n5_ := Aside0.mk ((by rw [hg]; exact Nat.ne_of_lt (aj_ (kz BK107.out)) : gb107 ≠ gb108))
              have n6_ := Aside0.mk ((by rw [hg]; exact Nat.ne_of_gt (aj_ (kz BK107.out)) : gb108 ≠ gb107))
              clear BK107
              clear HB
              have BK107 := n0_
              have HB := n1_
              have BK108 := n2_
              have GW108 := n3_
              have GE108 := n4_
              have NB107_108 := n5_
              have NB108_107 := n6_
              clear n0_ n1_ n2_ n3_ n4_ n5_ n6_
              clear hb hbox hg
              refine hK.out _ _ ⟨(bv_ HB.out hw103_0), (bv_ HB.out hw103_1), (bv_ HB.out hw104_0), (bv_ HB.out hw104_1), (bv_ HB.out hw105_0), (bv_ HB.out hw105_1)⟩ (fun hHeld => ?_)
              clear hK K
              refine norm_ (a' := ?_) ?_ ?_
              rotate_left
              ·show Act.put _ (some 7) _ = _
               simp only [Act.put, lsa_, ls0_, ls1_, i64_w, i32_w]
               rfl
              exact norm_ (by first | (simp only [cd_, Act.put, lsa_, ls0_, ls1_]; done) | (simp only [cd_, Act.put, lsa_, ls0_, ls1_]; rfl)) (hJ19_20 (gb107, gb108) _ ⟨hHeld, (kz BK107.out), (kz BK108.out), GW107.out, GE107.out, NB108_107.out, NB107_108.out, GW108.out, GE108.out, (bq)⟩)
           ·skip
            rintro gb106 w21 ⟨hS_, h0_, h1_, h2_, h3_⟩
            have n0_ : Aside0 (w21.heap[gb106]? = some (.cells #[.int .i64 0, .int .i64 0] 81 (0, 0))) := ⟨h0_⟩
            have n1_ : Aside0 (w.heap.size ≤ gb106) := ⟨h1_⟩
            have n2_ : Aside0 (w.heap.size ≤ gb106) := ⟨h2_⟩
            have n3_ : Aside0 (Below w.heap.size w w21) := ⟨h3_⟩
            clear HB
            clear h0_ h1_ h2_ h3_
            have BK106 := n0_
            have GW106 := n1_
            have GE106 := n2_
            have HB := n3_
            clear n0_ n1_ n2_ n3_
            have hHeld : w21.cell? (ad103.add ((x24_2).toNat * 2)) = some (.int .i64 ((ab_ l0 x24_2).f0)) ∧ w21.cell? ⟨(ad103.add ((x24_2).toNat * 2)).block, (ad103.add ((x24_2).toNat * 2)).off + 1, none⟩ = some (.int .i64 ((ab_ l0 x24_2).f1)) ∧ w21.cell? (ad103.add (((ji12)).toNat * 2)) = some (.int .i64 ((ab_ l0 (ji12)).f0)) ∧ w21.cell? ⟨(ad103.add (((ji12)).toNat * 2)).block, (ad103.add (((ji12)).toNat * 2)).off + 1, none⟩ = some (.int .i64 ((ab_ l0 (ji12)).f1)) ∧ w21.cell? (ad103.add (((ji15)).toNat * 2)) = some (.int .i64 ((ab_ l0 (ji15)).f0)) ∧ w21.cell? ⟨(ad103.add (((ji15)).toNat * 2)).block, (ad103.add (((ji15)).toNat * 2)).off + 1, none⟩ = some (.int .i64 ((ab_ l0 (ji15)).f1)) := hS_
            refine norm_ (a' := ?_) ?_ ?_
            rotate_left
            ·simp only [cd_, Act.put, lsa_, ls0_, ls1_]
             rfl
            refine two_ (i := 19) (j := 20) (Ni := some 6) (Nj := some 7) #[t_,t_,t_,t_,t_,t_,t_,t_,t_,t_,t_,t_,t_,t_,t_,t_,t_,t_,t_,t_,f_,f_,f_,f_] #[t_,t_,t_,t_,t_,t_,t_,t_,t_,t_,t_,t_,t_,t_,t_,t_,t_,t_,t_,f_,t_,f_,f_,f_] rfl rfl rfl rfl (two_of HT_.out (by kernel_rfl)) (by decide) (by decide) (fun K hK => ?_) (fun K hK => ?_)
            ·skip
             refine dd_ ?hg (N := 6) ?hd (cs := #[.int .i64 0, .int .i64 0]) (t := 81) ?hr ?_; (case hd => rfl); (case hg => rfl); (case hr => (go_simp; try rfl))
             intro gb107 hg w22 hbox hb
             have n0_ := Aside0.mk (aa_ (kz BK106.out) hb)
             have n1_ := Aside0.mk (ad_ (bq) hb)
             have n2_ := Aside0.mk (hbox)
             have n3_ := Aside0.mk ((by rw [hg]; exact (ae_ (bq)) : w.heap.size ≤ gb107))
             have n4_ := Aside0.mk ((by rw [hg]; exact (ae_ (bq)) : w.heap.size ≤ gb107))
             have n5_ := Aside0.mk ((by rw [hg]; exact Nat.ne_of_lt (aj_ (kz BK106.out)) : gb106 ≠ gb107))
             have n6_ := Aside0.mk ((by rw [hg]; exact Nat.ne_of_gt (aj_ (kz BK106.out)) : gb107 ≠ gb106))
             clear BK106
             clear HB
             have BK106 := n0_
             have HB := n1_
             have BK107 := n2_
             have GW107 := n3_
             have GE107 := n4_
             have NB106_107 := n5_
             have NB107_106 := n6_
             clear n0_ n1_ n2_ n3_ n4_ n5_ n6_
             clear hb hbox hg
             refine hK.out _ _ ⟨(bv_ HB.out hw103_0), (bv_ HB.out hw103_1), (bv_ HB.out hw104_0), (bv_ HB.out hw104_1), (bv_ HB.out hw105_0), (bv_ HB.out hw105_1)⟩ (fun hHeld => ?_)
             clear hK K
             refine norm_ (a' := ?_) ?_ ?_
             rotate_left
             ·show Act.put _ (some 6) _ = _
              simp only [Act.put, lsa_, ls0_, ls1_, i64_w, i32_w]
              rfl
             exact norm_ (by first | (simp only [cd_, Act.put, lsa_, ls0_, ls1_]; done) | (simp only [cd_, Act.put, lsa_, ls0_, ls1_]; rfl)) (hJ18_19 (gb106, gb107) _ ⟨hHeld, (kz BK106.out), (kz BK107.out), GW106.out, GE106.out, NB107_106.out, NB106_107.out, GW107.out, GE107.out, (bq)⟩)
            ·skip
             refine dd_ ?hg (N := 7) ?hd (cs := #[.int .i64 0, .int .i64 0]) (t := 81) ?hr ?_; (case hd => rfl); (case hg => rfl); (case hr => (go_simp; try rfl))
             intro gb108 hg w22 hbox hb
             have n0_ := Aside0.mk (aa_ (kz BK106.out) hb)
             have n1_ := Aside0.mk (ad_ (bq) hb)
             have n2_ := Aside0.mk (hbox)
             have n3_ := Aside0.mk ((by rw [hg]; exact (ae_ (bq)) : w.heap.size ≤ gb108))
             have n4_ := Aside0.mk ((by rw [hg]; exact (ae_ (bq)) : w.heap.size ≤ gb108))
             have n5_ := Aside0.mk ((by rw [hg]; exact Nat.ne_of_lt (aj_ (kz BK106.out)) : gb106 ≠ gb108))
             have n6_ := Aside0.mk ((by rw [hg]; exact Nat.ne_of_gt (aj_ (kz BK106.out)) : gb108 ≠ gb106))
             clear BK106
             clear HB
             have BK106 := n0_
             have HB := n1_
             have BK108 := n2_
             have GW108 := n3_
             have GE108 := n4_
             have NB106_108 := n5_
             have NB108_106 := n6_
             clear n0_ n1_ n2_ n3_ n4_ n5_ n6_
             clear hb hbox hg
             refine hK.out _ _ ⟨(bv_ HB.out hw103_0), (bv_ HB.out hw103_1), (bv_ HB.out hw104_0), (bv_ HB.out hw104_1), (bv_ HB.out hw105_0), (bv_ HB.out hw105_1)⟩ (fun hHeld => ?_)
             clear hK K
             refine norm_ (a' := ?_) ?_ ?_
             rotate_left
             ·show Act.put _ (some 7) _ = _
              simp only [Act.put, lsa_, ls0_, ls1_, i64_w, i32_w]
              rfl
             exact norm_ (by first | (simp only [cd_, Act.put, lsa_, ls0_, ls1_]; done) | (simp only [cd_, Act.put, lsa_, ls0_, ls1_]; rfl)) (hJ18_20 (gb106, gb108) _ ⟨hHeld, (kz BK106.out), (kz BK108.out), GW106.out, GE106.out, NB108_106.out, NB106_108.out, GW108.out, GE108.out, (bq)⟩)
          ·skip
           rintro ⟨gb107, gb108⟩ w22 ⟨hS_, h0_, h1_, h2_, h3_, h4_, h5_, h6_, h7_, h8_⟩
           have n0_ : Aside0 (w22.heap[gb107]? = some (.cells #[.int .i64 0, .int .i64 0] 81 (0, 0))) := ⟨h0_⟩
           have n1_ : Aside0 (w22.heap[gb108]? = some (.cells #[.int .i64 0, .int .i64 0] 81 (0, 0))) := ⟨h1_⟩
           have n2_ : Aside0 (w.heap.size ≤ gb107) := ⟨h2_⟩
           have n3_ : Aside0 (w.heap.size ≤ gb107) := ⟨h3_⟩
           have n4_ : Aside0 (gb108 ≠ gb107) := ⟨h4_⟩
           have n5_ : Aside0 (gb107 ≠ gb108) := ⟨h5_⟩
           have n6_ : Aside0 (w.heap.size ≤ gb108) := ⟨h6_⟩
           have n7_ : Aside0 (w.heap.size ≤ gb108) := ⟨h7_⟩
           have n8_ : Aside0 (Below w.heap.size w w22) := ⟨h8_⟩
           clear HB
           clear h0_ h1_ h2_ h3_ h4_ h5_ h6_ h7_ h8_
           have BK107 := n0_
           have BK108 := n1_
           have GW107 := n2_
           have GE107 := n3_
           have NB108_107 := n4_
           have NB107_108 := n5_
           have GW108 := n6_
           have GE108 := n7_
           have HB := n8_
           clear n0_ n1_ n2_ n3_ n4_ n5_ n6_ n7_ n8_
           have hHeld : w22.cell? (ad103.add ((x24_2).toNat * 2)) = some (.int .i64 ((ab_ l0 x24_2).f0)) ∧ w22.cell? ⟨(ad103.add ((x24_2).toNat * 2)).block, (ad103.add ((x24_2).toNat * 2)).off + 1, none⟩ = some (.int .i64 ((ab_ l0 x24_2).f1)) ∧ w22.cell? (ad103.add (((ji12)).toNat * 2)) = some (.int .i64 ((ab_ l0 (ji12)).f0)) ∧ w22.cell? ⟨(ad103.add (((ji12)).toNat * 2)).block, (ad103.add (((ji12)).toNat * 2)).off + 1, none⟩ = some (.int .i64 ((ab_ l0 (ji12)).f1)) ∧ w22.cell? (ad103.add (((ji15)).toNat * 2)) = some (.int .i64 ((ab_ l0 (ji15)).f0)) ∧ w22.cell? ⟨(ad103.add (((ji15)).toNat * 2)).block, (ad103.add (((ji15)).toNat * 2)).off + 1, none⟩ = some (.int .i64 ((ab_ l0 (ji15)).f1)) := hS_
           refine norm_ (a' := ?_) ?_ ?_
           rotate_left
           ·simp only [cd_, Act.put, lsa_, ls0_, ls1_]
            rfl
           refine one_ (i := 18) (N := some 5) #[t_,t_,t_,t_,t_,t_,t_,t_,t_,t_,t_,t_,t_,t_,t_,t_,t_,t_,t_,t_,t_,f_,f_,f_] rfl rfl (bh_ HT_.out (by kernel_rfl)) (by decide) (fun K hK => ?_)
           refine dd_ ?hg (N := 5) ?hd (cs := #[.int .i64 0, .int .i64 0]) (t := 81) ?hr ?_; (case hd => rfl); (case hg => rfl); (case hr => (go_simp; try rfl))
           intro gb106 hg w23 hbox hb
           have n0_ := Aside0.mk (aa_ (kz BK107.out) hb)
           have n1_ := Aside0.mk (aa_ (kz BK108.out) hb)
           have n2_ := Aside0.mk (ad_ (bq) hb)
           have n3_ := Aside0.mk (hbox)
           have n4_ := Aside0.mk ((by rw [hg]; exact (ae_ (bq)) : w.heap.size ≤ gb106))
           have n5_ := Aside0.mk ((by rw [hg]; exact (ae_ (bq)) : w.heap.size ≤ gb106))
           have n6_ := Aside0.mk ((by rw [hg]; exact Nat.ne_of_lt (aj_ (kz BK107.out)) : gb107 ≠ gb106))
           have n7_ := Aside0.mk ((by rw [hg]; exact Nat.ne_of_gt (aj_ (kz BK107.out)) : gb106 ≠ gb107))
           have n8_ := Aside0.mk ((by rw [hg]; exact Nat.ne_of_lt (aj_ (kz BK108.out)) : gb108 ≠ gb106))
           have n9_ := Aside0.mk ((by rw [hg]; exact Nat.ne_of_gt (aj_ (kz BK108.out)) : gb106 ≠ gb108))
           clear BK107
           clear BK108
           clear HB
           have BK107 := n0_
           have BK108 := n1_
           have HB := n2_
           have BK106 := n3_
           have GW106 := n4_
           have GE106 := n5_
           have NB107_106 := n6_
           have NB106_107 := n7_
           have NB108_106 := n8_
           have NB106_108 := n9_
           clear n0_ n1_ n2_ n3_ n4_ n5_ n6_ n7_ n8_ n9_
           clear hb hbox hg
           refine hK.out _ _ ⟨(bv_ HB.out hw103_0), (bv_ HB.out hw103_1), (bv_ HB.out hw104_0), (bv_ HB.out hw104_1), (bv_ HB.out hw105_0), (bv_ HB.out hw105_1)⟩ (fun hHeld => ?_)
           clear hK K
           refine norm_ (a' := ?_) ?_ ?_
           rotate_left
           ·show Act.put _ (some 5) _ = _
            simp only [Act.put, lsa_, ls0_, ls1_, i64_w, i32_w]
            rfl
           exact norm_ (by first | (simp only [cd_, Act.put, lsa_, ls0_, ls1_]; done) | (simp only [cd_, Act.put, lsa_, ls0_, ls1_]; rfl)) (hJ18_19_20 (gb106, gb107, gb108) _ ⟨hHeld, (kz BK106.out), (kz BK107.out), (kz BK108.out), GW106.out, GE106.out, NB107_106.out, NB106_107.out, NB108_106.out, NB106_108.out, GW107.out, GE107.out, NB108_107.out, NB107_108.out, GW108.out, GE108.out, (bq)⟩)
         ·skip
          rintro ⟨gb106, gb108⟩ w22 ⟨hS_, h0_, h1_, h2_, h3_, h4_, h5_, h6_, h7_, h8_⟩
          have n0_ : Aside0 (w22.heap[gb106]? = some (.cells #[.int .i64 0, .int .i64 0] 81 (0, 0))) := ⟨h0_⟩
          have n1_ : Aside0 (w22.heap[gb108]? = some (.cells #[.int .i64 0, .int .i64 0] 81 (0, 0))) := ⟨h1_⟩
          have n2_ : Aside0 (w.heap.size ≤ gb106) := ⟨h2_⟩
          have n3_ : Aside0 (w.heap.size ≤ gb106) := ⟨h3_⟩
          have n4_ : Aside0 (gb108 ≠ gb106) := ⟨h4_⟩
          have n5_ : Aside0 (gb106 ≠ gb108) := ⟨h5_⟩
          have n6_ : Aside0 (w.heap.size ≤ gb108) := ⟨h6_⟩
          have n7_ : Aside0 (w.heap.size ≤ gb108) := ⟨h7_⟩
          have n8_ : Aside0 (Below w.heap.size w w22) := ⟨h8_⟩
          clear HB
          clear h0_ h1_ h2_ h3_ h4_ h5_ h6_ h7_ h8_
          have BK106 := n0_
          have BK108 := n1_
          have GW106 := n2_
          have GE106 := n3_
          have NB108_106 := n4_
          have NB106_108 := n5_
          have GW108 := n6_
          have GE108 := n7_
          have HB := n8_
          clear n0_ n1_ n2_ n3_ n4_ n5_ n6_ n7_ n8_
          have hHeld : w22.cell? (ad103.add ((x24_2).toNat * 2)) = some (.int .i64 ((ab_ l0 x24_2).f0)) ∧ w22.cell? ⟨(ad103.add ((x24_2).toNat * 2)).block, (ad103.add ((x24_2).toNat * 2)).off + 1, none⟩ = some (.int .i64 ((ab_ l0 x24_2).f1)) ∧ w22.cell? (ad103.add (((ji12)).toNat * 2)) = some (.int .i64 ((ab_ l0 (ji12)).f0)) ∧ w22.cell? ⟨(ad103.add (((ji12)).toNat * 2)).block, (ad103.add (((ji12)).toNat * 2)).off + 1, none⟩ = some (.int .i64 ((ab_ l0 (ji12)).f1)) ∧ w22.cell? (ad103.add (((ji15)).toNat * 2)) = some (.int .i64 ((ab_ l0 (ji15)).f0)) ∧ w22.cell? ⟨(ad103.add (((ji15)).toNat * 2)).block, (ad103.add (((ji15)).toNat * 2)).off + 1, none⟩ = some (.int .i64 ((ab_ l0 (ji15)).f1)) := hS_
          refine norm_ (a' := ?_) ?_ ?_
          rotate_left
          ·simp only [cd_, Act.put, lsa_, ls0_, ls1_]
           rfl
          refine one_ (i := 19) (N := some 6) #[t_,t_,t_,t_,t_,t_,t_,t_,t_,t_,t_,t_,t_,t_,t_,t_,t_,t_,t_,t_,t_,f_,f_,f_] rfl rfl (bh_ HT_.out (by kernel_rfl)) (by decide) (fun K hK => ?_)
          refine dd_ ?hg (N := 6) ?hd (cs := #[.int .i64 0, .int .i64 0]) (t := 81) ?hr ?_; (case hd => rfl); (case hg => rfl); (case hr => (go_simp; try rfl))
          intro gb107 hg w23 hbox hb
          have n0_ := Aside0.mk (aa_ (kz BK106.out) hb)
          have n1_ := Aside0.mk (aa_ (kz BK108.out) hb)
          have n2_ := Aside0.mk (ad_ (bq) hb)
          have n3_ := Aside0.mk (hbox)
          have n4_ := Aside0.mk ((by rw [hg]; exact (ae_ (bq)) : w.heap.size ≤ gb107))
          have n5_ := Aside0.mk ((by rw [hg]; exact (ae_ (bq)) : w.heap.size ≤ gb107))
          have n6_ := Aside0.mk ((by rw [hg]; exact Nat.ne_of_lt (aj_ (kz BK106.out)) : gb106 ≠ gb107))
          have n7_ := Aside0.mk ((by rw [hg]; exact Nat.ne_of_gt (aj_ (kz BK106.out)) : gb107 ≠ gb106))
          have n8_ := Aside0.mk ((by rw [hg]; exact Nat.ne_of_lt (aj_ (kz BK108.out)) : gb108 ≠ gb107))
          have n9_ := Aside0.mk ((by rw [hg]; exact Nat.ne_of_gt (aj_ (kz BK108.out)) : gb107 ≠ gb108))
          clear BK106
          clear BK108
          clear HB
          have BK106 := n0_
          have BK108 := n1_
          have HB := n2_
          have BK107 := n3_
          have GW107 := n4_
          have GE107 := n5_
          have NB106_107 := n6_
          have NB107_106 := n7_
          have NB108_107 := n8_
          have NB107_108 := n9_
          clear n0_ n1_ n2_ n3_ n4_ n5_ n6_ n7_ n8_ n9_
          clear hb hbox hg
          refine hK.out _ _ ⟨(bv_ HB.out hw103_0), (bv_ HB.out hw103_1), (bv_ HB.out hw104_0), (bv_ HB.out hw104_1), (bv_ HB.out hw105_0), (bv_ HB.out hw105_1)⟩ (fun hHeld => ?_)
          clear hK K
          refine norm_ (a' := ?_) ?_ ?_
          rotate_left
          ·show Act.put _ (some 6) _ = _
           simp only [Act.put, lsa_, ls0_, ls1_, i64_w, i32_w]
           rfl
          exact norm_ (by first | (simp only [cd_, Act.put, lsa_, ls0_, ls1_]; done) | (simp only [cd_, Act.put, lsa_, ls0_, ls1_]; rfl)) (hJ18_19_20 (gb106, gb107, gb108) _ ⟨hHeld, (kz BK106.out), (kz BK107.out), (kz BK108.out), GW106.out, GE106.out, NB107_106.out, NB106_107.out, NB108_106.out, NB106_108.out, GW107.out, GE107.out, NB108_107.out, NB107_108.out, GW108.out, GE108.out, (bq)⟩)
        ·skip
         rintro ⟨gb106, gb107⟩ w22 ⟨hS_, h0_, h1_, h2_, h3_, h4_, h5_, h6_, h7_, h8_⟩
         have n0_ : Aside0 (w22.heap[gb106]? = some (.cells #[.int .i64 0, .int .i64 0] 81 (0, 0))) := ⟨h0_⟩
         have n1_ : Aside0 (w22.heap[gb107]? = some (.cells #[.int .i64 0, .int .i64 0] 81 (0, 0))) := ⟨h1_⟩
         have n2_ : Aside0 (w.heap.size ≤ gb106) := ⟨h2_⟩
         have n3_ : Aside0 (w.heap.size ≤ gb106) := ⟨h3_⟩
         have n4_ : Aside0 (gb107 ≠ gb106) := ⟨h4_⟩
         have n5_ : Aside0 (gb106 ≠ gb107) := ⟨h5_⟩
         have n6_ : Aside0 (w.heap.size ≤ gb107) := ⟨h6_⟩
         have n7_ : Aside0 (w.heap.size ≤ gb107) := ⟨h7_⟩
         have n8_ : Aside0 (Below w.heap.size w w22) := ⟨h8_⟩
         clear HB
         clear h0_ h1_ h2_ h3_ h4_ h5_ h6_ h7_ h8_
         have BK106 := n0_
         have BK107 := n1_
         have GW106 := n2_
         have GE106 := n3_
         have NB107_106 := n4_
         have NB106_107 := n5_
         have GW107 := n6_
         have GE107 := n7_
         have HB := n8_
         clear n0_ n1_ n2_ n3_ n4_ n5_ n6_ n7_ n8_
         have hHeld : w22.cell? (ad103.add ((x24_2).toNat * 2)) = some (.int .i64 ((ab_ l0 x24_2).f0)) ∧ w22.cell? ⟨(ad103.add ((x24_2).toNat * 2)).block, (ad103.add ((x24_2).toNat * 2)).off + 1, none⟩ = some (.int .i64 ((ab_ l0 x24_2).f1)) ∧ w22.cell? (ad103.add (((ji12)).toNat * 2)) = some (.int .i64 ((ab_ l0 (ji12)).f0)) ∧ w22.cell? ⟨(ad103.add (((ji12)).toNat * 2)).block, (ad103.add (((ji12)).toNat * 2)).off + 1, none⟩ = some (.int .i64 ((ab_ l0 (ji12)).f1)) ∧ w22.cell? (ad103.add (((ji15)).toNat * 2)) = some (.int .i64 ((ab_ l0 (ji15)).f0)) ∧ w22.cell? ⟨(ad103.add (((ji15)).toNat * 2)).block, (ad103.add (((ji15)).toNat * 2)).off + 1, none⟩ = some (.int .i64 ((ab_ l0 (ji15)).f1)) := hS_
         refine norm_ (a' := ?_) ?_ ?_
         rotate_left
         ·simp only [cd_, Act.put, lsa_, ls0_, ls1_]
          rfl
         refine one_ (i := 20) (N := some 7) #[t_,t_,t_,t_,t_,t_,t_,t_,t_,t_,t_,t_,t_,t_,t_,t_,t_,t_,t_,t_,t_,f_,f_,f_] rfl rfl (bh_ HT_.out (by kernel_rfl)) (by decide) (fun K hK => ?_)
         refine dd_ ?hg (N := 7) ?hd (cs := #[.int .i64 0, .int .i64 0]) (t := 81) ?hr ?_; (case hd => rfl); (case hg => rfl); (case hr => (go_simp; try rfl))
         intro gb108 hg w23 hbox hb
         have n0_ := Aside0.mk (aa_ (kz BK106.out) hb)
         have n1_ := Aside0.mk (aa_ (kz BK107.out) hb)
         have n2_ := Aside0.mk (ad_ (bq) hb)
         have n3_ := Aside0.mk (hbox)
         have n4_ := Aside0.mk ((by rw [hg]; exact (ae_ (bq)) : w.heap.size ≤ gb108))
         have n5_ := Aside0.mk ((by rw [hg]; exact (ae_ (bq)) : w.heap.size ≤ gb108))
         have n6_ := Aside0.mk ((by rw [hg]; exact Nat.ne_of_lt (aj_ (kz BK106.out)) : gb106 ≠ gb108))
         have n7_ := Aside0.mk ((by rw [hg]; exact Nat.ne_of_gt (aj_ (kz BK106.out)) : gb108 ≠ gb106))
         have n8_ := Aside0.mk ((by rw [hg]; exact Nat.ne_of_lt (aj_ (kz BK107.out)) : gb107 ≠ gb108))
         have n9_ := Aside0.mk ((by rw [hg]; exact Nat.ne_of_gt (aj_ (kz BK107.out)) : gb108 ≠ gb107))
         clear BK106
         clear BK107
         clear HB
         have BK106 := n0_
         have BK107 := n1_
         have HB := n2_
         have BK108 := n3_
         have GW108 := n4_
         have GE108 := n5_
         have NB106_108 := n6_
         have NB108_106 := n7_
         have NB107_108 := n8_
         have NB108_107 := n9_
         clear n0_ n1_ n2_ n3_ n4_ n5_ n6_ n7_ n8_ n9_
         clear hb hbox hg
         refine hK.out _ _ ⟨(bv_ HB.out hw103_0), (bv_ HB.out hw103_1), (bv_ HB.out hw104_0), (bv_ HB.out hw104_1), (bv_ HB.out hw105_0), (bv_ HB.out hw105_1)⟩ (fun hHeld => ?_)
         clear hK K
         refine norm_ (a' := ?_) ?_ ?_
         rotate_left
         ·show Act.put _ (some 7) _ = _
          simp only [Act.put, lsa_, ls0_, ls1_, i64_w, i32_w]
          rfl
         exact norm_ (by first | (simp only [cd_, Act.put, lsa_, ls0_, ls1_]; done) | (simp only [cd_, Act.put, lsa_, ls0_, ls1_]; rfl)) (hJ18_19_20 (gb106, gb107, gb108) _ ⟨hHeld, (kz BK106.out), (kz BK107.out), (kz BK108.out), GW106.out, GE106.out, NB107_106.out, NB106_107.out, NB108_106.out, NB106_108.out, GW107.out, GE107.out, NB108_107.out, NB107_108.out, GW108.out, GE108.out, (bq)⟩)
       rintro ⟨gb106, gb107, gb108⟩ w23 ⟨hS_, h0_, h1_, h2_, h3_, h4_, h5_, h6_, h7_, h8_, h9_, h10_, h11_, h12_, h13_, h14_, h15_⟩
       have n0_ : Aside0 (w23.heap[gb106]? = some (.cells #[.int .i64 0, .int .i64 0] 81 (0, 0))) := ⟨h0_⟩
       have n1_ : Aside0 (w23.heap[gb107]? = some (.cells #[.int .i64 0, .int .i64 0] 81 (0, 0))) := ⟨h1_⟩
       have n2_ : Aside0 (w23.heap[gb108]? = some (.cells #[.int .i64 0, .int .i64 0] 81 (0, 0))) := ⟨h2_⟩
       have n3_ : Aside0 (w.heap.size ≤ gb106) := ⟨h3_⟩
       have n4_ : Aside0 (w.heap.size ≤ gb106) := ⟨h4_⟩
       have n5_ : Aside0 (gb107 ≠ gb106) := ⟨h5_⟩
       have n6_ : Aside0 (gb106 ≠ gb107) := ⟨h6_⟩
       have n7_ : Aside0 (gb108 ≠ gb106) := ⟨h7_⟩
       have n8_ : Aside0 (gb106 ≠ gb108) := ⟨h8_⟩
       have n9_ : Aside0 (w.heap.size ≤ gb107) := ⟨h9_⟩
       have n10_ : Aside0 (w.heap.size ≤ gb107) := ⟨h10_⟩
       have n11_ : Aside0 (gb108 ≠ gb107) := ⟨h11_⟩
       have n12_ : Aside0 (gb107 ≠ gb108) := ⟨h12_⟩
       have n13_ : Aside0 (w.heap.size ≤ gb108) := ⟨h13_⟩
       have n14_ : Aside0 (w.heap.size ≤ gb108) := ⟨h14_⟩
       have n15_ : Aside0 (Below w.heap.size w w23) := ⟨h15_⟩
       clear HB
       clear h0_ h1_ h2_ h3_ h4_ h5_ h6_ h7_ h8_ h9_ h10_ h11_ h12_ h13_ h14_ h15_
       have BK106 := n0_
       have BK107 := n1_
       have BK108 := n2_
       have GW106 := n3_
       have GE106 := n4_
       have NB107_106 := n5_
       have NB106_107 := n6_
       have NB108_106 := n7_
       have NB106_108 := n8_
       have GW107 := n9_
       have GE107 := n10_
       have NB108_107 := n11_
       have NB107_108 := n12_
       have GW108 := n13_
       have GE108 := n14_
       have HB := n15_
       clear n0_ n1_ n2_ n3_ n4_ n5_ n6_ n7_ n8_ n9_ n10_ n11_ n12_ n13_ n14_ n15_
       have hHeld : w23.cell? (ad103.add ((x24_2).toNat * 2)) = some (.int .i64 ((ab_ l0 x24_2).f0)) ∧ w23.cell? ⟨(ad103.add ((x24_2).toNat * 2)).block, (ad103.add ((x24_2).toNat * 2)).off + 1, none⟩ = some (.int .i64 ((ab_ l0 x24_2).f1)) ∧ w23.cell? (ad103.add (((ji12)).toNat * 2)) = some (.int .i64 ((ab_ l0 (ji12)).f0)) ∧ w23.cell? ⟨(ad103.add (((ji12)).toNat * 2)).block, (ad103.add (((ji12)).toNat * 2)).off + 1, none⟩ = some (.int .i64 ((ab_ l0 (ji12)).f1)) ∧ w23.cell? (ad103.add (((ji15)).toNat * 2)) = some (.int .i64 ((ab_ l0 (ji15)).f0)) ∧ w23.cell? ⟨(ad103.add (((ji15)).toNat * 2)).block, (ad103.add (((ji15)).toNat * 2)).off + 1, none⟩ = some (.int .i64 ((ab_ l0 (ji15)).f1)) := hS_
       refine norm_ (a' := ?_) ?_ ?_
       rotate_left
       ·simp only [cd_, Act.put, lsa_, ls0_, ls1_]
        rfl
       refine one_ (i := 21) (N := none) #[t_,t_,t_,t_,t_,t_,t_,t_,t_,t_,t_,t_,t_,t_,t_,t_,t_,t_,t_,t_,t_,t_,f_,f_] rfl rfl (bh_ HT_.out (by kernel_rfl)) (by decide) (fun K hK => ?_)
       have hs24 : w23.cell? ⟨gb106, 0, none⟩ = some (.int .i64 0) := (ac_ BK106.out 0).trans rfl
       have hfs24 := bI_ BK106.out 0
       have hns24_1 := NB107_106.out
       have hns24_2 := NB108_106.out
       have hms24_1 := NB106_107.out
       have hms24_2 := NB106_108.out
       have hs25 : w23.cell? ⟨gb106, 1, none⟩ = some (.int .i64 0) := (ac_ BK106.out 1).trans rfl
       have hfs25 := bI_ BK106.out 1
       have hns25_1 := NB107_106.out
       have hns25_2 := NB108_106.out
       have hms25_1 := NB106_107.out
       have hms25_2 := NB106_108.out
       refine skip_ (w1 := ?_) (by rfl) rfl ?_ ?_
       rotate_left
       ·go_simp
        rfl
       refine hK.out _ _ ⟨(cf ((cf (hHeld.1) (by first | exact Nat.ne_of_lt (Nat.lt_of_lt_of_le (by have := bl_ _ _ hw103_0; first | rwa [add_block] at this | exact this) GW106.out) | (rw [add_block]; exact Nat.ne_of_lt (Nat.lt_of_lt_of_le (by have := bl_ _ _ hw103_0; first | rwa [add_block] at this | exact this) GW106.out)) | (show (Addr.add _ _).block ≠ _; rw [add_block]; exact Nat.ne_of_lt (Nat.lt_of_lt_of_le (by have := bl_ _ _ hw103_0; first | rwa [add_block] at this | exact this) GW106.out)) | (dsimp only; exact Nat.ne_of_lt (Nat.lt_of_lt_of_le (by have := bl_ _ _ hw103_0; first | rwa [add_block] at this | exact this) GW106.out))))) (by first | exact Nat.ne_of_lt (Nat.lt_of_lt_of_le (by have := bl_ _ _ hw103_0; first | rwa [add_block] at this | exact this) GW106.out) | (rw [add_block]; exact Nat.ne_of_lt (Nat.lt_of_lt_of_le (by have := bl_ _ _ hw103_0; first | rwa [add_block] at this | exact this) GW106.out)) | (show (Addr.add _ _).block ≠ _; rw [add_block]; exact Nat.ne_of_lt (Nat.lt_of_lt_of_le (by have := bl_ _ _ hw103_0; first | rwa [add_block] at this | exact this) GW106.out)) | (dsimp only; exact Nat.ne_of_lt (Nat.lt_of_lt_of_le (by have := bl_ _ _ hw103_0; first | rwa [add_block] at this | exact this) GW106.out)))), (cf ((cf (hHeld.2.1) (by first | exact Nat.ne_of_lt (Nat.lt_of_lt_of_le (by have := bl_ _ _ hw103_1; first | rwa [add_block] at this | exact this) GW106.out) | (rw [add_block]; exact Nat.ne_of_lt (Nat.lt_of_lt_of_le (by have := bl_ _ _ hw103_1; first | rwa [add_block] at this | exact this) GW106.out)) | (show (Addr.add _ _).block ≠ _; rw [add_block]; exact Nat.ne_of_lt (Nat.lt_of_lt_of_le (by have := bl_ _ _ hw103_1; first | rwa [add_block] at this | exact this) GW106.out)) | (dsimp only; exact Nat.ne_of_lt (Nat.lt_of_lt_of_le (by have := bl_ _ _ hw103_1; first | rwa [add_block] at this | exact this) GW106.out))))) (by first | exact Nat.ne_of_lt (Nat.lt_of_lt_of_le (by have := bl_ _ _ hw103_1; first | rwa [add_block] at this | exact this) GW106.out) | (rw [add_block]; exact Nat.ne_of_lt (Nat.lt_of_lt_of_le (by have := bl_ _ _ hw103_1; first | rwa [add_block] at this | exact this) GW106.out)) | (show (Addr.add _ _).block ≠ _; rw [add_block]; exact Nat.ne_of_lt (Nat.lt_of_lt_of_le (by have := bl_ _ _ hw103_1; first | rwa [add_block] at this | exact this) GW106.out)) | (dsimp only; exact Nat.ne_of_lt (Nat.lt_of_lt_of_le (by have := bl_ _ _ hw103_1; first | rwa [add_block] at this | exact this) GW106.out)))), (cf ((cf (hHeld.2.2.1) (by first | exact Nat.ne_of_lt (Nat.lt_of_lt_of_le (by have := bl_ _ _ hw104_0; first | rwa [add_block] at this | exact this) GW106.out) | (rw [add_block]; exact Nat.ne_of_lt (Nat.lt_of_lt_of_le (by have := bl_ _ _ hw104_0; first | rwa [add_block] at this | exact this) GW106.out)) | (show (Addr.add _ _).block ≠ _; rw [add_block]; exact Nat.ne_of_lt (Nat.lt_of_lt_of_le (by have := bl_ _ _ hw104_0; first | rwa [add_block] at this | exact this) GW106.out)) | (dsimp only; exact Nat.ne_of_lt (Nat.lt_of_lt_of_le (by have := bl_ _ _ hw104_0; first | rwa [add_block] at this | exact this) GW106.out))))) (by first | exact Nat.ne_of_lt (Nat.lt_of_lt_of_le (by have := bl_ _ _ hw104_0; first | rwa [add_block] at this | exact this) GW106.out) | (rw [add_block]; exact Nat.ne_of_lt (Nat.lt_of_lt_of_le (by have := bl_ _ _ hw104_0; first | rwa [add_block] at this | exact this) GW106.out)) | (show (Addr.add _ _).block ≠ _; rw [add_block]; exact Nat.ne_of_lt (Nat.lt_of_lt_of_le (by have := bl_ _ _ hw104_0; first | rwa [add_block] at this | exact this) GW106.out)) | (dsimp only; exact Nat.ne_of_lt (Nat.lt_of_lt_of_le (by have := bl_ _ _ hw104_0; first | rwa [add_block] at this | exact this) GW106.out)))), (cf ((cf (hHeld.2.2.2.1) (by first | exact Nat.ne_of_lt (Nat.lt_of_lt_of_le (by have := bl_ _ _ hw104_1; first | rwa [add_block] at this | exact this) GW106.out) | (rw [add_block]; exact Nat.ne_of_lt (Nat.lt_of_lt_of_le (by have := bl_ _ _ hw104_1; first | rwa [add_block] at this | exact this) GW106.out)) | (show (Addr.add _ _).block ≠ _; rw [add_block]; exact Nat.ne_of_lt (Nat.lt_of_lt_of_le (by have := bl_ _ _ hw104_1; first | rwa [add_block] at this | exact this) GW106.out)) | (dsimp only; exact Nat.ne_of_lt (Nat.lt_of_lt_of_le (by have := bl_ _ _ hw104_1; first | rwa [add_block] at this | exact this) GW106.out))))) (by first | exact Nat.ne_of_lt (Nat.lt_of_lt_of_le (by have := bl_ _ _ hw104_1; first | rwa [add_block] at this | exact this) GW106.out) | (rw [add_block]; exact Nat.ne_of_lt (Nat.lt_of_lt_of_le (by have := bl_ _ _ hw104_1; first | rwa [add_block] at this | exact this) GW106.out)) | (show (Addr.add _ _).block ≠ _; rw [add_block]; exact Nat.ne_of_lt (Nat.lt_of_lt_of_le (by have := bl_ _ _ hw104_1; first | rwa [add_block] at this | exact this) GW106.out)) | (dsimp only; exact Nat.ne_of_lt (Nat.lt_of_lt_of_le (by have := bl_ _ _ hw104_1; first | rwa [add_block] at this | exact this) GW106.out)))), (cf ((cf (hHeld.2.2.2.2.1) (by first | exact Nat.ne_of_lt (Nat.lt_of_lt_of_le (by have := bl_ _ _ hw105_0; first | rwa [add_block] at this | exact this) GW106.out) | (rw [add_block]; exact Nat.ne_of_lt (Nat.lt_of_lt_of_le (by have := bl_ _ _ hw105_0; first | rwa [add_block] at this | exact this) GW106.out)) | (show (Addr.add _ _).block ≠ _; rw [add_block]; exact Nat.ne_of_lt (Nat.lt_of_lt_of_le (by have := bl_ _ _ hw105_0; first | rwa [add_block] at this | exact this) GW106.out)) | (dsimp only; exact Nat.ne_of_lt (Nat.lt_of_lt_of_le (by have := bl_ _ _ hw105_0; first | rwa [add_block] at this | exact this) GW106.out))))) (by first | exact Nat.ne_of_lt (Nat.lt_of_lt_of_le (by have := bl_ _ _ hw105_0; first | rwa [add_block] at this | exact this) GW106.out) | (rw [add_block]; exact Nat.ne_of_lt (Nat.lt_of_lt_of_le (by have := bl_ _ _ hw105_0; first | rwa [add_block] at this | exact this) GW106.out)) | (show (Addr.add _ _).block ≠ _; rw [add_block]; exact Nat.ne_of_lt (Nat.lt_of_lt_of_le (by have := bl_ _ _ hw105_0; first | rwa [add_block] at this | exact this) GW106.out)) | (dsimp only; exact Nat.ne_of_lt (Nat.lt_of_lt_of_le (by have := bl_ _ _ hw105_0; first | rwa [add_block] at this | exact this) GW106.out)))), (cf ((cf (hHeld.2.2.2.2.2) (by first | exact Nat.ne_of_lt (Nat.lt_of_lt_of_le (by have := bl_ _ _ hw105_1; first | rwa [add_block] at this | exact this) GW106.out) | (rw [add_block]; exact Nat.ne_of_lt (Nat.lt_of_lt_of_le (by have := bl_ _ _ hw105_1; first | rwa [add_block] at this | exact this) GW106.out)) | (show (Addr.add _ _).block ≠ _; rw [add_block]; exact Nat.ne_of_lt (Nat.lt_of_lt_of_le (by have := bl_ _ _ hw105_1; first | rwa [add_block] at this | exact this) GW106.out)) | (dsimp only; exact Nat.ne_of_lt (Nat.lt_of_lt_of_le (by have := bl_ _ _ hw105_1; first | rwa [add_block] at this | exact this) GW106.out))))) (by first | exact Nat.ne_of_lt (Nat.lt_of_lt_of_le (by have := bl_ _ _ hw105_1; first | rwa [add_block] at this | exact this) GW106.out) | (rw [add_block]; exact Nat.ne_of_lt (Nat.lt_of_lt_of_le (by have := bl_ _ _ hw105_1; first | rwa [add_block] at this | exact this) GW106.out)) | (show (Addr.add _ _).block ≠ _; rw [add_block]; exact Nat.ne_of_lt (Nat.lt_of_lt_of_le (by have := bl_ _ _ hw105_1; first | rwa [add_block] at this | exact this) GW106.out)) | (dsimp only; exact Nat.ne_of_lt (Nat.lt_of_lt_of_le (by have := bl_ _ _ hw105_1; first | rwa [add_block] at this | exact this) GW106.out))))⟩ (fun hHeld => ?_)
       clear hK K
       refine one_ (i := 22) (N := none) #[t_,t_,t_,t_,t_,t_,t_,t_,t_,t_,t_,t_,t_,t_,t_,t_,t_,t_,t_,t_,t_,t_,t_,f_] rfl rfl (bh_ HT_.out (by kernel_rfl)) (by decide) (fun K hK => ?_)
       have hs26 : w23.cell? ⟨gb107, 0, none⟩ = some (.int .i64 0) := (ac_ BK107.out 0).trans rfl
       have hfs26 := bI_ BK107.out 0
       have hns26_0 := NB106_107.out
       have hns26_2 := NB108_107.out
       have hms26_0 := NB107_106.out
       have hms26_2 := NB107_108.out
       have hs27 : w23.cell? ⟨gb107, 1, none⟩ = some (.int .i64 0) := (ac_ BK107.out 1).trans rfl
       have hfs27 := bI_ BK107.out 1
       have hns27_0 := NB106_107.out
       have hns27_2 := NB108_107.out
       have hms27_0 := NB107_106.out
       have hms27_2 := NB107_108.out
       refine skip_ (w1 := ?_) (by rfl) rfl ?_ ?_
       rotate_left
       ·go_simp
        rfl
       refine hK.out _ _ ⟨(cf ((cf (hHeld.1) (by first | exact Nat.ne_of_lt (Nat.lt_of_lt_of_le (by have := bl_ _ _ hw103_0; first | rwa [add_block] at this | exact this) GW107.out) | (rw [add_block]; exact Nat.ne_of_lt (Nat.lt_of_lt_of_le (by have := bl_ _ _ hw103_0; first | rwa [add_block] at this | exact this) GW107.out)) | (show (Addr.add _ _).block ≠ _; rw [add_block]; exact Nat.ne_of_lt (Nat.lt_of_lt_of_le (by have := bl_ _ _ hw103_0; first | rwa [add_block] at this | exact this) GW107.out)) | (dsimp only; exact Nat.ne_of_lt (Nat.lt_of_lt_of_le (by have := bl_ _ _ hw103_0; first | rwa [add_block] at this | exact this) GW107.out))))) (by first | exact Nat.ne_of_lt (Nat.lt_of_lt_of_le (by have := bl_ _ _ hw103_0; first | rwa [add_block] at this | exact this) GW107.out) | (rw [add_block]; exact Nat.ne_of_lt (Nat.lt_of_lt_of_le (by have := bl_ _ _ hw103_0; first | rwa [add_block] at this | exact this) GW107.out)) | (show (Addr.add _ _).block ≠ _; rw [add_block]; exact Nat.ne_of_lt (Nat.lt_of_lt_of_le (by have := bl_ _ _ hw103_0; first | rwa [add_block] at this | exact this) GW107.out)) | (dsimp only; exact Nat.ne_of_lt (Nat.lt_of_lt_of_le (by have := bl_ _ _ hw103_0; first | rwa [add_block] at this | exact this) GW107.out)))), (cf ((cf (hHeld.2.1) (by first | exact Nat.ne_of_lt (Nat.lt_of_lt_of_le (by have := bl_ _ _ hw103_1; first | rwa [add_block] at this | exact this) GW107.out) | (rw [add_block]; exact Nat.ne_of_lt (Nat.lt_of_lt_of_le (by have := bl_ _ _ hw103_1; first | rwa [add_block] at this | exact this) GW107.out)) | (show (Addr.add _ _).block ≠ _; rw [add_block]; exact Nat.ne_of_lt (Nat.lt_of_lt_of_le (by have := bl_ _ _ hw103_1; first | rwa [add_block] at this | exact this) GW107.out)) | (dsimp only; exact Nat.ne_of_lt (Nat.lt_of_lt_of_le (by have := bl_ _ _ hw103_1; first | rwa [add_block] at this | exact this) GW107.out))))) (by first | exact Nat.ne_of_lt (Nat.lt_of_lt_of_le (by have := bl_ _ _ hw103_1; first | rwa [add_block] at this | exact this) GW107.out) | (rw [add_block]; exact Nat.ne_of_lt (Nat.lt_of_lt_of_le (by have := bl_ _ _ hw103_1; first | rwa [add_block] at this | exact this) GW107.out)) | (show (Addr.add _ _).block ≠ _; rw [add_block]; exact Nat.ne_of_lt (Nat.lt_of_lt_of_le (by have := bl_ _ _ hw103_1; first | rwa [add_block] at this | exact this) GW107.out)) | (dsimp only; exact Nat.ne_of_lt (Nat.lt_of_lt_of_le (by have := bl_ _ _ hw103_1; first | rwa [add_block] at this | exact this) GW107.out)))), (cf ((cf (hHeld.2.2.1) (by first | exact Nat.ne_of_lt (Nat.lt_of_lt_of_le (by have := bl_ _ _ hw104_0; first | rwa [add_block] at this | exact this) GW107.out) | (rw [add_block]; exact Nat.ne_of_lt (Nat.lt_of_lt_of_le (by have := bl_ _ _ hw104_0; first | rwa [add_block] at this | exact this) GW107.out)) | (show (Addr.add _ _).block ≠ _; rw [add_block]; exact Nat.ne_of_lt (Nat.lt_of_lt_of_le (by have := bl_ _ _ hw104_0; first | rwa [add_block] at this | exact this) GW107.out)) | (dsimp only; exact Nat.ne_of_lt (Nat.lt_of_lt_of_le (by have := bl_ _ _ hw104_0; first | rwa [add_block] at this | exact this) GW107.out))))) (by first | exact Nat.ne_of_lt (Nat.lt_of_lt_of_le (by have := bl_ _ _ hw104_0; first | rwa [add_block] at this | exact this) GW107.out) | (rw [add_block]; exact Nat.ne_of_lt (Nat.lt_of_lt_of_le (by have := bl_ _ _ hw104_0; first | rwa [add_block] at this | exact this) GW107.out)) | (show (Addr.add _ _).block ≠ _; rw [add_block]; exact Nat.ne_of_lt (Nat.lt_of_lt_of_le (by have := bl_ _ _ hw104_0; first | rwa [add_block] at this | exact this) GW107.out)) | (dsimp only; exact Nat.ne_of_lt (Nat.lt_of_lt_of_le (by have := bl_ _ _ hw104_0; first | rwa [add_block] at this | exact this) GW107.out)))), (cf ((cf (hHeld.2.2.2.1) (by first | exact Nat.ne_of_lt (Nat.lt_of_lt_of_le (by have := bl_ _ _ hw104_1; first | rwa [add_block] at this | exact this) GW107.out) | (rw [add_block]; exact Nat.ne_of_lt (Nat.lt_of_lt_of_le (by have := bl_ _ _ hw104_1; first | rwa [add_block] at this | exact this) GW107.out)) | (show (Addr.add _ _).block ≠ _; rw [add_block]; exact Nat.ne_of_lt (Nat.lt_of_lt_of_le (by have := bl_ _ _ hw104_1; first | rwa [add_block] at this | exact this) GW107.out)) | (dsimp only; exact Nat.ne_of_lt (Nat.lt_of_lt_of_le (by have := bl_ _ _ hw104_1; first | rwa [add_block] at this | exact this) GW107.out))))) (by first | exact Nat.ne_of_lt (Nat.lt_of_lt_of_le (by have := bl_ _ _ hw104_1; first | rwa [add_block] at this | exact this) GW107.out) | (rw [add_block]; exact Nat.ne_of_lt (Nat.lt_of_lt_of_le (by have := bl_ _ _ hw104_1; first | rwa [add_block] at this | exact this) GW107.out)) | (show (Addr.add _ _).block ≠ _; rw [add_block]; exact Nat.ne_of_lt (Nat.lt_of_lt_of_le (by have := bl_ _ _ hw104_1; first | rwa [add_block] at this | exact this) GW107.out)) | (dsimp only; exact Nat.ne_of_lt (Nat.lt_of_lt_of_le (by have := bl_ _ _ hw104_1; first | rwa [add_block] at this | exact this) GW107.out)))), (cf ((cf (hHeld.2.2.2.2.1) (by first | exact Nat.ne_of_lt (Nat.lt_of_lt_of_le (by have := bl_ _ _ hw105_0; first | rwa [add_block] at this | exact this) GW107.out) | (rw [add_block]; exact Nat.ne_of_lt (Nat.lt_of_lt_of_le (by have := bl_ _ _ hw105_0; first | rwa [add_block] at this | exact this) GW107.out)) | (show (Addr.add _ _).block ≠ _; rw [add_block]; exact Nat.ne_of_lt (Nat.lt_of_lt_of_le (by have := bl_ _ _ hw105_0; first | rwa [add_block] at this | exact this) GW107.out)) | (dsimp only; exact Nat.ne_of_lt (Nat.lt_of_lt_of_le (by have := bl_ _ _ hw105_0; first | rwa [add_block] at this | exact this) GW107.out))))) (by first | exact Nat.ne_of_lt (Nat.lt_of_lt_of_le (by have := bl_ _ _ hw105_0; first | rwa [add_block] at this | exact this) GW107.out) | (rw [add_block]; exact Nat.ne_of_lt (Nat.lt_of_lt_of_le (by have := bl_ _ _ hw105_0; first | rwa [add_block] at this | exact this) GW107.out)) | (show (Addr.add _ _).block ≠ _; rw [add_block]; exact Nat.ne_of_lt (Nat.lt_of_lt_of_le (by have := bl_ _ _ hw105_0; first | rwa [add_block] at this | exact this) GW107.out)) | (dsimp only; exact Nat.ne_of_lt (Nat.lt_of_lt_of_le (by have := bl_ _ _ hw105_0; first | rwa [add_block] at this | exact this) GW107.out)))), (cf ((cf (hHeld.2.2.2.2.2) (by first | exact Nat.ne_of_lt (Nat.lt_of_lt_of_le (by have := bl_ _ _ hw105_1; first | rwa [add_block] at this | exact this) GW107.out) | (rw [add_block]; exact Nat.ne_of_lt (Nat.lt_of_lt_of_le (by have := bl_ _ _ hw105_1; first | rwa [add_block] at this | exact this) GW107.out)) | (show (Addr.add _ _).block ≠ _; rw [add_block]; exact Nat.ne_of_lt (Nat.lt_of_lt_of_le (by have := bl_ _ _ hw105_1; first | rwa [add_block] at this | exact this) GW107.out)) | (dsimp only; exact Nat.ne_of_lt (Nat.lt_of_lt_of_le (by have := bl_ _ _ hw105_1; first | rwa [add_block] at this | exact this) GW107.out))))) (by first | exact Nat.ne_of_lt (Nat.lt_of_lt_of_le (by have := bl_ _ _ hw105_1; first | rwa [add_block] at this | exact this) GW107.out) | (rw [add_block]; exact Nat.ne_of_lt (Nat.lt_of_lt_of_le (by have := bl_ _ _ hw105_1; first | rwa [add_block] at this | exact this) GW107.out)) | (show (Addr.add _ _).block ≠ _; rw [add_block]; exact Nat.ne_of_lt (Nat.lt_of_lt_of_le (by have := bl_ _ _ hw105_1; first | rwa [add_block] at this | exact this) GW107.out)) | (dsimp only; exact Nat.ne_of_lt (Nat.lt_of_lt_of_le (by have := bl_ _ _ hw105_1; first | rwa [add_block] at this | exact this) GW107.out))))⟩ (fun hHeld => ?_)
       clear hK K
       refine one_ (i := 23) (N := none) #[t_,t_,t_,t_,t_,t_,t_,t_,t_,t_,t_,t_,t_,t_,t_,t_,t_,t_,t_,t_,t_,t_,t_,t_] rfl rfl (bh_ HT_.out (by kernel_rfl)) (by decide) (fun K hK => ?_)
       have hs28 : w23.cell? ⟨gb108, 0, none⟩ = some (.int .i64 0) := (ac_ BK108.out 0).trans rfl
       have hfs28 := bI_ BK108.out 0
       have hns28_0 := NB106_108.out
       have hns28_1 := NB107_108.out
       have hms28_0 := NB108_106.out
       have hms28_1 := NB108_107.out
       have hs29 : w23.cell? ⟨gb108, 1, none⟩ = some (.int .i64 0) := (ac_ BK108.out 1).trans rfl
       have hfs29 := bI_ BK108.out 1
       have hns29_0 := NB106_108.out
       have hns29_1 := NB107_108.out
       have hms29_0 := NB108_106.out
       have hms29_1 := NB108_107.out
       refine skip_ (w1 := ?_) (by rfl) rfl ?_ ?_
       rotate_left
       ·go_simp
        rfl
       refine hK.out _ _ ⟨(cf ((cf (hHeld.1) (by first | exact Nat.ne_of_lt (Nat.lt_of_lt_of_le (by have := bl_ _ _ hw103_0; first | rwa [add_block] at this | exact this) GW108.out) | (rw [add_block]; exact Nat.ne_of_lt (Nat.lt_of_lt_of_le (by have := bl_ _ _ hw103_0; first | rwa [add_block] at this | exact this) GW108.out)) | (show (Addr.add _ _).block ≠ _; rw [add_block]; exact Nat.ne_of_lt (Nat.lt_of_lt_of_le (by have := bl_ _ _ hw103_0; first | rwa [add_block] at this | exact this) GW108.out)) | (dsimp only; exact Nat.ne_of_lt (Nat.lt_of_lt_of_le (by have := bl_ _ _ hw103_0; first | rwa [add_block] at this | exact this) GW108.out))))) (by first | exact Nat.ne_of_lt (Nat.lt_of_lt_of_le (by have := bl_ _ _ hw103_0; first | rwa [add_block] at this | exact this) GW108.out) | (rw [add_block]; exact Nat.ne_of_lt (Nat.lt_of_lt_of_le (by have := bl_ _ _ hw103_0; first | rwa [add_block] at this | exact this) GW108.out)) | (show (Addr.add _ _).block ≠ _; rw [add_block]; exact Nat.ne_of_lt (Nat.lt_of_lt_of_le (by have := bl_ _ _ hw103_0; first | rwa [add_block] at this | exact this) GW108.out)) | (dsimp only; exact Nat.ne_of_lt (Nat.lt_of_lt_of_le (by have := bl_ _ _ hw103_0; first | rwa [add_block] at this | exact this) GW108.out)))), (cf ((cf (hHeld.2.1) (by first | exact Nat.ne_of_lt (Nat.lt_of_lt_of_le (by have := bl_ _ _ hw103_1; first | rwa [add_block] at this | exact this) GW108.out) | (rw [add_block]; exact Nat.ne_of_lt (Nat.lt_of_lt_of_le (by have := bl_ _ _ hw103_1; first | rwa [add_block] at this | exact this) GW108.out)) | (show (Addr.add _ _).block ≠ _; rw [add_block]; exact Nat.ne_of_lt (Nat.lt_of_lt_of_le (by have := bl_ _ _ hw103_1; first | rwa [add_block] at this | exact this) GW108.out)) | (dsimp only; exact Nat.ne_of_lt (Nat.lt_of_lt_of_le (by have := bl_ _ _ hw103_1; first | rwa [add_block] at this | exact this) GW108.out))))) (by first | exact Nat.ne_of_lt (Nat.lt_of_lt_of_le (by have := bl_ _ _ hw103_1; first | rwa [add_block] at this | exact this) GW108.out) | (rw [add_block]; exact Nat.ne_of_lt (Nat.lt_of_lt_of_le (by have := bl_ _ _ hw103_1; first | rwa [add_block] at this | exact this) GW108.out)) | (show (Addr.add _ _).block ≠ _; rw [add_block]; exact Nat.ne_of_lt (Nat.lt_of_lt_of_le (by have := bl_ _ _ hw103_1; first | rwa [add_block] at this | exact this) GW108.out)) | (dsimp only; exact Nat.ne_of_lt (Nat.lt_of_lt_of_le (by have := bl_ _ _ hw103_1; first | rwa [add_block] at this | exact this) GW108.out)))), (cf ((cf (hHeld.2.2.1) (by first | exact Nat.ne_of_lt (Nat.lt_of_lt_of_le (by have := bl_ _ _ hw104_0; first | rwa [add_block] at this | exact this) GW108.out) | (rw [add_block]; exact Nat.ne_of_lt (Nat.lt_of_lt_of_le (by have := bl_ _ _ hw104_0; first | rwa [add_block] at this | exact this) GW108.out)) | (show (Addr.add _ _).block ≠ _; rw [add_block]; exact Nat.ne_of_lt (Nat.lt_of_lt_of_le (by have := bl_ _ _ hw104_0; first | rwa [add_block] at this | exact this) GW108.out)) | (dsimp only; exact Nat.ne_of_lt (Nat.lt_of_lt_of_le (by have := bl_ _ _ hw104_0; first | rwa [add_block] at this | exact this) GW108.out))))) (by first | exact Nat.ne_of_lt (Nat.lt_of_lt_of_le (by have := bl_ _ _ hw104_0; first | rwa [add_block] at this | exact this) GW108.out) | (rw [add_block]; exact Nat.ne_of_lt (Nat.lt_of_lt_of_le (by have := bl_ _ _ hw104_0; first | rwa [add_block] at this | exact this) GW108.out)) | (show (Addr.add _ _).block ≠ _; rw [add_block]; exact Nat.ne_of_lt (Nat.lt_of_lt_of_le (by have := bl_ _ _ hw104_0; first | rwa [add_block] at this | exact this) GW108.out)) | (dsimp only; exact Nat.ne_of_lt (Nat.lt_of_lt_of_le (by have := bl_ _ _ hw104_0; first | rwa [add_block] at this | exact this) GW108.out)))), (cf ((cf (hHeld.2.2.2.1) (by first | exact Nat.ne_of_lt (Nat.lt_of_lt_of_le (by have := bl_ _ _ hw104_1; first | rwa [add_block] at this | exact this) GW108.out) | (rw [add_block]; exact Nat.ne_of_lt (Nat.lt_of_lt_of_le (by have := bl_ _ _ hw104_1; first | rwa [add_block] at this | exact this) GW108.out)) | (show (Addr.add _ _).block ≠ _; rw [add_block]; exact Nat.ne_of_lt (Nat.lt_of_lt_of_le (by have := bl_ _ _ hw104_1; first | rwa [add_block] at this | exact this) GW108.out)) | (dsimp only; exact Nat.ne_of_lt (Nat.lt_of_lt_of_le (by have := bl_ _ _ hw104_1; first | rwa [add_block] at this | exact this) GW108.out))))) (by first | exact Nat.ne_of_lt (Nat.lt_of_lt_of_le (by have := bl_ _ _ hw104_1; first | rwa [add_block] at this | exact this) GW108.out) | (rw [add_block]; exact Nat.ne_of_lt (Nat.lt_of_lt_of_le (by have := bl_ _ _ hw104_1; first | rwa [add_block] at this | exact this) GW108.out)) | (show (Addr.add _ _).block ≠ _; rw [add_block]; exact Nat.ne_of_lt (Nat.lt_of_lt_of_le (by have := bl_ _ _ hw104_1; first | rwa [add_block] at this | exact this) GW108.out)) | (dsimp only; exact Nat.ne_of_lt (Nat.lt_of_lt_of_le (by have := bl_ _ _ hw104_1; first | rwa [add_block] at this | exact this) GW108.out)))), (cf ((cf (hHeld.2.2.2.2.1) (by first | exact Nat.ne_of_lt (Nat.lt_of_lt_of_le (by have := bl_ _ _ hw105_0; first | rwa [add_block] at this | exact this) GW108.out) | (rw [add_block]; exact Nat.ne_of_lt (Nat.lt_of_lt_of_le (by have := bl_ _ _ hw105_0; first | rwa [add_block] at this | exact this) GW108.out)) | (show (Addr.add _ _).block ≠ _; rw [add_block]; exact Nat.ne_of_lt (Nat.lt_of_lt_of_le (by have := bl_ _ _ hw105_0; first | rwa [add_block] at this | exact this) GW108.out)) | (dsimp only; exact Nat.ne_of_lt (Nat.lt_of_lt_of_le (by have := bl_ _ _ hw105_0; first | rwa [add_block] at this | exact this) GW108.out))))) (by first | exact Nat.ne_of_lt (Nat.lt_of_lt_of_le (by have := bl_ _ _ hw105_0; first | rwa [add_block] at this | exact this) GW108.out) | (rw [add_block]; exact Nat.ne_of_lt (Nat.lt_of_lt_of_le (by have := bl_ _ _ hw105_0; first | rwa [add_block] at this | exact this) GW108.out)) | (show (Addr.add _ _).block ≠ _; rw [add_block]; exact Nat.ne_of_lt (Nat.lt_of_lt_of_le (by have := bl_ _ _ hw105_0; first | rwa [add_block] at this | exact this) GW108.out)) | (dsimp only; exact Nat.ne_of_lt (Nat.lt_of_lt_of_le (by have := bl_ _ _ hw105_0; first | rwa [add_block] at this | exact this) GW108.out)))), (cf ((cf (hHeld.2.2.2.2.2) (by first | exact Nat.ne_of_lt (Nat.lt_of_lt_of_le (by have := bl_ _ _ hw105_1; first | rwa [add_block] at this | exact this) GW108.out) | (rw [add_block]; exact Nat.ne_of_lt (Nat.lt_of_lt_of_le (by have := bl_ _ _ hw105_1; first | rwa [add_block] at this | exact this) GW108.out)) | (show (Addr.add _ _).block ≠ _; rw [add_block]; exact Nat.ne_of_lt (Nat.lt_of_lt_of_le (by have := bl_ _ _ hw105_1; first | rwa [add_block] at this | exact this) GW108.out)) | (dsimp only; exact Nat.ne_of_lt (Nat.lt_of_lt_of_le (by have := bl_ _ _ hw105_1; first | rwa [add_block] at this | exact this) GW108.out))))) (by first | exact Nat.ne_of_lt (Nat.lt_of_lt_of_le (by have := bl_ _ _ hw105_1; first | rwa [add_block] at this | exact this) GW108.out) | (rw [add_block]; exact Nat.ne_of_lt (Nat.lt_of_lt_of_le (by have := bl_ _ _ hw105_1; first | rwa [add_block] at this | exact this) GW108.out)) | (show (Addr.add _ _).block ≠ _; rw [add_block]; exact Nat.ne_of_lt (Nat.lt_of_lt_of_le (by have := bl_ _ _ hw105_1; first | rwa [add_block] at this | exact this) GW108.out)) | (dsimp only; exact Nat.ne_of_lt (Nat.lt_of_lt_of_le (by have := bl_ _ _ hw105_1; first | rwa [add_block] at this | exact this) GW108.out))))⟩ (fun hHeld => ?_)
       clear hK K
       refine done_ (bS_ HT_.out (by kernel_rfl)) ?_
       go_upto_region 8 with (fail)
       go_cut [59] (fun v59 wc => ∃ (kq : Nat) (x59_17 : Bool), v59 = .bool x59_17 ∧ Aside0 (ag_.j2 kq l0 (l0.length : Int) x24_2 (l0.length : Int) x24_2 x59_17 ((ab_ l0 x24_2).f0) ((ab_ l0 x24_2).f1) ((ab_ l0 (ji12)).f0) ((ab_ l0 (ji12)).f1) = some r) ∧ Aside0 (kq ≤ k2) ∧ Aside0 (wc.heap[gb106]? = some (.cells #[.int .i64 ((ab_ l0 x24_2).f0), .int .i64 ((ab_ l0 x24_2).f1)] 81 (0, 0))) ∧ Aside0 (wc.heap[gb107]? = some (.cells #[.int .i64 ((ab_ l0 (ji12)).f0), .int .i64 ((ab_ l0 (ji12)).f1)] 81 (0, 0))) ∧ Aside0 (wc.heap[gb108]? = some (.cells #[.int .i64 ((ab_ l0 (ji15)).f0), .int .i64 ((ab_ l0 (ji15)).f1)] 81 (0, 0))) ∧ Aside0 (Below w.heap.size w wc))
       case first =>
        have H := HC18.out
        clear HC18
        by_cases c30 : (((ab_ l0 x24_2).f0) == ((ab_ l0 (ji12)).f0) && (((ab_ l0 x24_2).f1) == ((ab_ l0 (ji12)).f1))) = true
        rotate_left
        ·rw [if_neg c30] at H
         have c30b0 : (((ab_ l0 x24_2).f0) == ((ab_ l0 (ji12)).f0) && (((ab_ l0 x24_2).f1) == ((ab_ l0 (ji12)).f1))) = false := by simpa using c30
         (try (have c30b1 : decide (((ab_ l0 x24_2).f0) = ((ab_ l0 (ji12)).f0) && (((ab_ l0 x24_2).f1) == ((ab_ l0 (ji12)).f1))) = false := by simpa using c30))
         (try (have c30b2 : (((ab_ l0 x24_2).f0) == ((ab_ l0 (ji12)).f0) && (((ab_ l0 x24_2).f1) == ((ab_ l0 (ji12)).f1))) = false := by simpa using c30))
         (try (have c30b3 : ¬ (((ab_ l0 x24_2).f0) = ((ab_ l0 (ji12)).f0) && (((ab_ l0 x24_2).f1) == ((ab_ l0 (ji12)).f1))) := by simpa using c30))
         clear c30
         (first | rw [c30b0] | (simp only [i64_w, i32_w]; rw [c30b0]) | (simp only [c30b1, Bool.not_true, Bool.not_false]) | (simp only [c30b0, Bool.not_true, Bool.not_false]) | skip)
         replace H := Option.bind_eq_some_iff.mp H
         obtain ⟨t109, A360, H⟩ := H
         (try dsimp only at H)
         have A36 := Aside0.mk A360
         clear A360
         by_cases c37 : t109 = true
         rotate_left
         ·replace c37 := Bool.eq_false_iff.mpr c37
          subst c37
          have H1 : ((bt_.f ((ab_ l0 (ji12)).f0) ((ab_ l0 (ji12)).f1) ((ab_ l0 (ji15)).f0) ((ab_ l0 (ji15)).f1) ((ab_ l0 x24_2).f0) ((ab_ l0 x24_2).f1)).bind fun t110 => (ag_.j2 k2 l0 (l0.length : Int) x24_2 (l0.length : Int) x24_2 t110 ((ab_ l0 x24_2).f0) ((ab_ l0 x24_2).f1) ((ab_ l0 (ji12)).f0) ((ab_ l0 (ji12)).f1))) = some r := by rw [if_neg (show ¬ (false = true) by decide)] at H; exact H
          clear H
          have H := H1
          clear H1
          replace H := Option.bind_eq_some_iff.mp H
          obtain ⟨t110, A450, H⟩ := H
          (try dsimp only at H)
          have A45 := Aside0.mk A450
          clear A450
          have H' := Aside0.mk H
          clear H
          have hnb46 := NB106_107.out
          have hnc46 := NB107_106.out
          have hnb47 := NB106_108.out
          have hnc47 := NB108_106.out
          obtain ⟨hcz48_0, hcz48_1⟩ := cz2_ BK106.out
          obtain ⟨hfz48_0, hfz48_1⟩ := fz2_ BK106.out
          have hnb49 := NB107_108.out
          have hnc49 := NB108_107.out
          obtain ⟨hcz50_0, hcz50_1⟩ := cz2_ BK107.out
          obtain ⟨hfz50_0, hfz50_1⟩ := fz2_ BK107.out
          obtain ⟨hcz51_0, hcz51_1⟩ := cz2_ BK108.out
          obtain ⟨hfz51_0, hfz51_1⟩ := fz2_ BK108.out
          go_wp2_with (first | (go_at_call 68; (with_reducible refine (bt_.calls ((ab_ l0 x24_2).f0) ((ab_ l0 x24_2).f1) ((ab_ l0 (ji12)).f0) ((ab_ l0 (ji12)).f1) ((ab_ l0 (ji15)).f0) ((ab_ l0 (ji15)).f1) false _ A36.out).mono ?_); rintro e w52 ⟨rfl, hb⟩; replace BK106 := Aside0.mk (aa_ (g := gb106) (o := .cells #[.int .i64 ((ab_ l0 x24_2).f0), .int .i64 ((ab_ l0 x24_2).f1)] 81 (0, 0)) (by exact kf (kf (kf (kf (kj2_1 (kj2_0 (kz BK106.out))) NB106_107.out) NB106_107.out) NB106_108.out) NB106_108.out) hb); replace BK107 := Aside0.mk (aa_ (g := gb107) (o := .cells #[.int .i64 ((ab_ l0 (ji12)).f0), .int .i64 ((ab_ l0 (ji12)).f1)] 81 (0, 0)) (by exact kf (kf (kj2_1 (kj2_0 (kf (kf (kz BK107.out) NB107_106.out) NB107_106.out))) NB107_108.out) NB107_108.out) hb); replace BK108 := Aside0.mk (aa_ (g := gb108) (o := .cells #[.int .i64 ((ab_ l0 (ji15)).f0), .int .i64 ((ab_ l0 (ji15)).f1)] 81 (0, 0)) (by exact kj2_1 (kj2_0 (kf (kf (kf (kf (kz BK108.out) NB108_106.out) NB108_106.out) NB108_107.out) NB108_107.out))) hb); replace HB := Aside0.mk (ad_ (bq) hb); (try clear hb); obtain ⟨hcz53_0, hcz53_1⟩ := cz2_ BK107.out; obtain ⟨hfz53_0, hfz53_1⟩ := fz2_ BK107.out; obtain ⟨hcz54_0, hcz54_1⟩ := cz2_ BK108.out; obtain ⟨hfz54_0, hfz54_1⟩ := fz2_ BK108.out; obtain ⟨hcz55_0, hcz55_1⟩ := cz2_ BK106.out; obtain ⟨hfz55_0, hfz55_1⟩ := fz2_ BK106.out) | (go_at_call 68; (with_reducible refine (bt_.calls ((ab_ l0 (ji12)).f0) ((ab_ l0 (ji12)).f1) ((ab_ l0 (ji15)).f0) ((ab_ l0 (ji15)).f1) ((ab_ l0 x24_2).f0) ((ab_ l0 x24_2).f1) t110 _ A45.out).mono ?_); rintro e w56 ⟨rfl, hb⟩; replace BK106 := Aside0.mk (aa_ (kz BK106.out) hb); replace BK107 := Aside0.mk (aa_ (kz BK107.out) hb); replace BK108 := Aside0.mk (aa_ (kz BK108.out) hb); replace HB := Aside0.mk (ad_ (bq) hb); (try clear hb)))
          go_meet
          case rel => exact ⟨_, (t110), (by first | rfl | (simp; done) | (simp [*]; done)), H', ⟨by have := HJ1.out; have := HK2.out; first | omega | exact Nat.le_refl _⟩, ⟨by (with_reducible repeat (first | refine aL_ ?_ _ | refine av_ ?_ | refine aM_ ?_ _)); exact BK106.out⟩, ⟨by (with_reducible repeat (first | refine aL_ ?_ _ | refine av_ ?_ | refine aM_ ?_ _)); exact BK107.out⟩, ⟨by (with_reducible repeat (first | refine aL_ ?_ _ | refine av_ ?_ | refine aM_ ?_ _)); exact BK108.out⟩, ⟨bq⟩⟩
         subst c37
         have H1 : (ag_.j2 k2 l0 (l0.length : Int) x24_2 (l0.length : Int) x24_2 true ((ab_ l0 x24_2).f0) ((ab_ l0 x24_2).f1) ((ab_ l0 (ji12)).f0) ((ab_ l0 (ji12)).f1)) = some r := by rw [if_pos rfl] at H; exact H
         clear H
         have H := H1
         clear H1
         have H' := Aside0.mk H
         clear H
         have hnb38 := NB106_107.out
         have hnc38 := NB107_106.out
         have hnb39 := NB106_108.out
         have hnc39 := NB108_106.out
         obtain ⟨hcz40_0, hcz40_1⟩ := cz2_ BK106.out
         obtain ⟨hfz40_0, hfz40_1⟩ := fz2_ BK106.out
         have hnb41 := NB107_108.out
         have hnc41 := NB108_107.out
         obtain ⟨hcz42_0, hcz42_1⟩ := cz2_ BK107.out
         obtain ⟨hfz42_0, hfz42_1⟩ := fz2_ BK107.out
         obtain ⟨hcz43_0, hcz43_1⟩ := cz2_ BK108.out
         obtain ⟨hfz43_0, hfz43_1⟩ := fz2_ BK108.out
         go_wp2_with (first | (go_at_call 68; (with_reducible refine (bt_.calls ((ab_ l0 x24_2).f0) ((ab_ l0 x24_2).f1) ((ab_ l0 (ji12)).f0) ((ab_ l0 (ji12)).f1) ((ab_ l0 (ji15)).f0) ((ab_ l0 (ji15)).f1) true _ A36.out).mono ?_); rintro e w44 ⟨rfl, hb⟩; replace BK106 := Aside0.mk (aa_ (g := gb106) (o := .cells #[.int .i64 ((ab_ l0 x24_2).f0), .int .i64 ((ab_ l0 x24_2).f1)] 81 (0, 0)) (by exact kf (kf (kf (kf (kj2_1 (kj2_0 (kz BK106.out))) NB106_107.out) NB106_107.out) NB106_108.out) NB106_108.out) hb); replace BK107 := Aside0.mk (aa_ (g := gb107) (o := .cells #[.int .i64 ((ab_ l0 (ji12)).f0), .int .i64 ((ab_ l0 (ji12)).f1)] 81 (0, 0)) (by exact kf (kf (kj2_1 (kj2_0 (kf (kf (kz BK107.out) NB107_106.out) NB107_106.out))) NB107_108.out) NB107_108.out) hb); replace BK108 := Aside0.mk (aa_ (g := gb108) (o := .cells #[.int .i64 ((ab_ l0 (ji15)).f0), .int .i64 ((ab_ l0 (ji15)).f1)] 81 (0, 0)) (by exact kj2_1 (kj2_0 (kf (kf (kf (kf (kz BK108.out) NB108_106.out) NB108_106.out) NB108_107.out) NB108_107.out))) hb); replace HB := Aside0.mk (ad_ (bq) hb); (try clear hb)))
         go_meet
         case rel => exact ⟨_, (true), (by first | rfl | (simp; done) | (simp [*]; done)), H', ⟨by have := HJ1.out; have := HK2.out; first | omega | exact Nat.le_refl _⟩, ⟨by (with_reducible repeat (first | refine aL_ ?_ _ | refine av_ ?_ | refine aM_ ?_ _)); exact BK106.out⟩, ⟨by (with_reducible repeat (first | refine aL_ ?_ _ | refine av_ ?_ | refine aM_ ?_ _)); exact BK107.out⟩, ⟨by (with_reducible repeat (first | refine aL_ ?_ _ | refine av_ ?_ | refine aM_ ?_ _)); exact BK108.out⟩, ⟨bq⟩⟩
        rw [if_pos c30] at H
        have c30b0 : (((ab_ l0 x24_2).f0) == ((ab_ l0 (ji12)).f0) && (((ab_ l0 x24_2).f1) == ((ab_ l0 (ji12)).f1))) = true := c30
        (try (have c30b1 : decide (((ab_ l0 x24_2).f0) = ((ab_ l0 (ji12)).f0) && (((ab_ l0 x24_2).f1) == ((ab_ l0 (ji12)).f1))) = true := by simpa using c30))
        (try (have c30b2 : (((ab_ l0 x24_2).f0) == ((ab_ l0 (ji12)).f0) && (((ab_ l0 x24_2).f1) == ((ab_ l0 (ji12)).f1))) = true := by simpa using c30))
        clear c30
        (first | rw [c30b0] | (simp only [i64_w, i32_w]; rw [c30b0]) | (simp only [c30b1, Bool.not_true, Bool.not_false]) | (simp only [c30b0, Bool.not_true, Bool.not_false]) | skip)
        have H' := Aside0.mk H
        clear H
        have hnb31 := NB106_107.out
        have hnc31 := NB107_106.out
        have hnb32 := NB106_108.out
        have hnc32 := NB108_106.out
        obtain ⟨hcz33_0, hcz33_1⟩ := cz2_ BK106.out
        obtain ⟨hfz33_0, hfz33_1⟩ := fz2_ BK106.out
        have hnb34 := NB107_108.out
        have hnc34 := NB108_107.out
        obtain ⟨hcz35_0, hcz35_1⟩ := cz2_ BK107.out
        obtain ⟨hfz35_0, hfz35_1⟩ := fz2_ BK107.out
        go_wp2
        go_meet
        case rel => exact ⟨_, (true), (by first | rfl | (simp; done) | (simp [*]; done)), H', ⟨by have := HJ1.out; have := HK2.out; first | omega | exact Nat.le_refl _⟩, ⟨by exact kf (kf (kf (kf (kj2_1 (kj2_0 (kz BK106.out))) NB106_107.out) NB106_107.out) NB106_108.out) NB106_108.out⟩, ⟨by exact kf (kf (kj2_1 (kj2_0 (kf (kf (kz BK107.out) NB107_106.out) NB107_106.out))) NB107_108.out) NB107_108.out⟩, ⟨by exact kj2_1 (kj2_0 (kf (kf (kf (kf (kz BK108.out) NB108_106.out) NB108_106.out) NB108_107.out) NB108_107.out))⟩, ⟨bq⟩⟩
       case rest =>
        clear HC18
        obtain ⟨kq, x59_17, rfl, HA, HJ17, BK106, BK107, BK108, HB⟩ := hcut
        cases kq with
        | zero => exact absurd HA.out (by simp [ag_.j2])
        | succ kj17 =>
         have H := HA.out
         clear HA
         simp only [ag_.j2] at H
         by_cases c57 : x59_17 = true
         rotate_left
         ·replace c57 := Bool.eq_false_iff.mpr c57
          subst c57
          have H1 : (ag_.l1 kj17 l0 (l0.length : Int) x24_2 (wrap64 (x24_2 + 2)) (l0.length : Int) x24_2 ((ab_ l0 x24_2).f0) ((ab_ l0 x24_2).f1) ((ab_ l0 (ji12)).f0) ((ab_ l0 (ji12)).f1)) = some r := by rw [if_neg (show ¬ (false = true) by decide)] at H; exact H
          clear H
          have H := H1
          clear H1
          have H' := Aside0.mk H
          clear H
          go_wp2
          (try simp only [Act.put, lsa_, ls0_, ls1_])
          go_loopg [8] kj17 (fun kq v8 w' => ∃ (x8_4 : Int), v8 = .int .i64 x8_4 ∧ Aside0 (ag_.l1 kq l0 (l0.length : Int) x24_2 x8_4 (l0.length : Int) x24_2 ((ab_ l0 x24_2).f0) ((ab_ l0 x24_2).f1) ((ab_ l0 (ji12)).f0) ((ab_ l0 (ji12)).f1) = some r) ∧ Aside0 (kq ≤ kj17) ∧ Aside0 (w'.heap[gb106]? = some (.cells #[.int .i64 ((ab_ l0 x24_2).f0), .int .i64 ((ab_ l0 x24_2).f1)] 81 (0, 0))) ∧ Aside0 (w'.heap[gb107]? = some (.cells #[.int .i64 ((ab_ l0 (ji12)).f0), .int .i64 ((ab_ l0 (ji12)).f1)] 81 (0, 0))) ∧ Aside0 (w'.heap[gb108]? = some (.cells #[.int .i64 ((ab_ l0 (ji15)).f0), .int .i64 ((ab_ l0 (ji15)).f1)] 81 (0, 0))) ∧ Aside0 (Below w.heap.size w w'))
          case atStart => exact ⟨(wrap64 (x24_2 + 2)), (by first | rfl | (simp; done) | (simp [*]; done)), H', ⟨Nat.le_refl _⟩, ⟨by (with_reducible repeat (first | refine aL_ ?_ _ | refine av_ ?_ | refine aM_ ?_ _)); exact BK106.out⟩, ⟨by (with_reducible repeat (first | refine aL_ ?_ _ | refine av_ ?_ | refine aM_ ?_ _)); exact BK107.out⟩, ⟨by (with_reducible repeat (first | refine aL_ ?_ _ | refine av_ ?_ | refine aM_ ?_ _)); exact BK108.out⟩, ⟨bq⟩⟩
          case round =>
           clear H'
           obtain ⟨x8_4, rfl, HA, HK4, BK106, BK107, BK108, HB⟩ := hrel
           cases gk with
           | zero => exact absurd HA.out (by simp [ag_.l1])
           | succ k4 =>
            have H := HA.out
            clear HA
            simp only [ag_.l1] at H
            by_cases c58 : x8_4 < (l0.length : Int)
            rotate_left
            ·rw [if_neg c58] at H
             have c58b0 : decide (x8_4 < (l0.length : Int)) = false := decide_eq_false c58
             clear c58
             have H' := Aside0.mk H
             clear H
             go_wp2
             go_roundg k4
             case measure => have := HJ1.out; have := HK2.out; have := HJ17.out; have := HK4.out; omega
             case rel => exact ⟨(wrap64 (x24_2 + 1)), (by first | rfl | (simp; done) | (simp [*]; done)), H', ⟨by have := HJ1.out; have := HK2.out; have := HJ17.out; have := HK4.out; omega⟩, ⟨bq⟩⟩
            rw [if_pos c58] at H
            have c58b0 : decide (x8_4 < (l0.length : Int)) = true := decide_eq_true c58
            clear c58
            by_cases c59 : (l0.length : Int) = 0
            rotate_left
            ·rw [if_neg c59] at H
             have c59b0 : ((l0.length : Int) == 0) = false := beq_eq_false_iff_ne.mpr c59
             have c59b1 : ((l0.length : Int) != 0) = true := bne_iff_ne.mpr c59
             have c59b2 : ¬ (l0 = []) := fun h_ => c59 (by rw [h_]; rfl)
             by_cases c60 : (Int.tmod (wrap64 (x8_4 + 1)) (l0.length : Int)) = x24_2
             rotate_left
             ·rw [if_neg c60] at H
              have c60b0 : ((Int.tmod (wrap64 (x8_4 + 1)) (l0.length : Int)) == x24_2) = false := beq_eq_false_iff_ne.mpr c60
              have c60b1 : ((Int.tmod (wrap64 (x8_4 + 1)) (l0.length : Int)) != x24_2) = true := bne_iff_ne.mpr c60
              by_cases c62 : 0 ≤ x8_4
              rotate_left
              ·rw [if_neg c62] at H
               exact absurd H (by simp)
              rw [if_pos c62] at H
              have c62b0 : decide (0 ≤ x8_4) = true := decide_eq_true c62
              clear c62
              by_cases c63 : x8_4 < (l0.length : Int)
              rotate_left
              ·rw [if_neg c63] at H
               exact absurd H (by simp)
              rw [if_pos c63] at H
              have c63b0 : decide (x8_4 < (l0.length : Int)) = true := decide_eq_true c63
              clear c63
              obtain ⟨ji64, hji64⟩ : ∃ j_ : Int, (Int.tmod (wrap64 (x8_4 + 1)) (l0.length : Int)) = j_ := ⟨_, rfl⟩
              replace H : (if 0 ≤ (ji64) then (if (ji64) < (l0.length : Int) then ((ch_.f ((ab_ l0 x24_2).f0) ((ab_ l0 x24_2).f1) ((ab_ l0 (ji12)).f0) ((ab_ l0 (ji12)).f1) ((ab_ l0 x8_4).f0) ((ab_ l0 x8_4).f1) ((ab_ l0 (ji64)).f0) ((ab_ l0 (ji64)).f1)).bind fun t113 => (if t113 = true then (some false) else (ag_.l1 k4 l0 (l0.length : Int) x24_2 (wrap64 (x8_4 + 1)) (l0.length : Int) x24_2 ((ab_ l0 x24_2).f0) ((ab_ l0 x24_2).f1) ((ab_ l0 (ji12)).f0) ((ab_ l0 (ji12)).f1)))) else (none)) else (none)) = some r := by first | (rw [hji64] at H; exact H) | (simp only [hji64] at H ⊢; exact H)
              (try rw [hji64] at c60b0)
              (try rw [hji64] at c60b1)
              by_cases c65 : 0 ≤ (ji64)
              rotate_left
              ·rw [if_neg c65] at H
               exact absurd H (by simp)
              rw [if_pos c65] at H
              have c65b0 : decide (0 ≤ (ji64)) = true := decide_eq_true c65
              clear c65
              by_cases c66 : (ji64) < (l0.length : Int)
              rotate_left
              ·rw [if_neg c66] at H
               exact absurd H (by simp)
              rw [if_pos c66] at H
              have c66b0 : decide ((ji64) < (l0.length : Int)) = true := decide_eq_true c66
              clear c66
              replace H := Option.bind_eq_some_iff.mp H
              obtain ⟨t113, A670, H⟩ := H
              (try dsimp only at H)
              have A67 := Aside0.mk A670
              clear A670
              have HC68 := Aside0.mk H
              clear H
              try go_wp2
              have n0_ := Aside0.mk (av_ BK106.out)
              have n1_ := Aside0.mk (av_ BK107.out)
              have n2_ := Aside0.mk (av_ BK108.out)
              have n3_ := Aside0.mk (bD_ HB.out)
              clear BK106
              clear BK107
              clear BK108
              clear HB
              have BK106 := n0_
              have BK107 := n1_
              have BK108 := n2_
              have HB := n3_
              clear n0_ n1_ n2_ n3_
              have p111 : 0 ≤ (x8_4 : Int) := of_decide_eq_true (by assumption)
              have q111 : x8_4 < (l0.length : Int) := of_decide_eq_true (by assumption)
              obtain ⟨ad111, e111, hx111_0, hx111_1⟩ := bX_ HR0.out x8_4 p111 q111
              have hw111_1 := hx111_1
              have hw111_0 := hx111_0
              obtain rfl : ad103 = ad111 := (by injection e111)
              replace hx111_0 := bu_ HB.out hx111_0
              replace hx111_1 := bu_ HB.out hx111_1
              replace p111 := eq_true p111
              replace q111 := eq_true q111
              have p112 : 0 ≤ ((ji64) : Int) := of_decide_eq_true (by assumption)
              have q112 : (ji64) < (l0.length : Int) := of_decide_eq_true (by assumption)
              obtain ⟨ad112, e112, hx112_0, hx112_1⟩ := bX_ HR0.out (ji64) p112 q112
              have hw112_1 := hx112_1
              have hw112_0 := hx112_0
              obtain rfl : ad103 = ad112 := (by injection e112)
              replace hx112_0 := bu_ HB.out hx112_0
              replace hx112_1 := bu_ HB.out hx112_1
              replace p112 := eq_true p112
              replace q112 := eq_true q112
              refine cl_ (n := 22) (S := fun w' => w'.cell? ⟨gb106, 0, none⟩ = some (.int .i64 ((ab_ l0 x24_2).f0)) ∧ w'.cell? ⟨gb106, 1, none⟩ = some (.int .i64 ((ab_ l0 x24_2).f1)) ∧ w'.cell? ⟨gb107, 0, none⟩ = some (.int .i64 ((ab_ l0 (ji12)).f0)) ∧ w'.cell? ⟨gb107, 1, none⟩ = some (.int .i64 ((ab_ l0 (ji12)).f1)) ∧ w'.cell? (ad103.add ((x8_4).toNat * 2)) = some (.int .i64 ((ab_ l0 x8_4).f0)) ∧ w'.cell? ⟨(ad103.add ((x8_4).toNat * 2)).block, (ad103.add ((x8_4).toNat * 2)).off + 1, none⟩ = some (.int .i64 ((ab_ l0 x8_4).f1)) ∧ w'.cell? (ad103.add (((ji64)).toNat * 2)) = some (.int .i64 ((ab_ l0 (ji64)).f0)) ∧ w'.cell? ⟨(ad103.add (((ji64)).toNat * 2)).block, (ad103.add (((ji64)).toNat * 2)).off + 1, none⟩ = some (.int .i64 ((ab_ l0 (ji64)).f1))) (ds := []) #[f_,f_,f_,f_,f_,f_,f_,f_,f_,f_,f_,f_,f_,f_,f_,f_,f_,f_,f_,f_,f_,f_] (by kernel_rfl) rfl rfl ⟨(ac_ BK106.out 0).trans rfl, (ac_ BK106.out 1).trans rfl, (ac_ BK107.out 0).trans rfl, (ac_ BK107.out 1).trans rfl, (bv_ HB.out hw111_0), (bv_ HB.out hw111_1), (bv_ HB.out hw112_0), (bv_ HB.out hw112_1)⟩ (fun hHeld => ?_); refine bo_ ag_.tab13 ag_.bits13 (fun HT_ HW_ => ?_)
              generalize wr.drew = w69 at BK106 BK107 BK108 HB hx111_0 hx111_1 hx112_0 hx112_1 hHeld ⊢
              refine pu 0 67 #[t_,f_,f_,f_,f_,f_,f_,f_,f_,f_,f_,f_,f_,f_,f_,f_,f_,f_,f_,f_,f_,f_] HT_ ?_
              refine pu 1 68 #[t_,t_,f_,f_,f_,f_,f_,f_,f_,f_,f_,f_,f_,f_,f_,f_,f_,f_,f_,f_,f_,f_] HT_ ?_
              refine pu 2 69 #[t_,t_,t_,f_,f_,f_,f_,f_,f_,f_,f_,f_,f_,f_,f_,f_,f_,f_,f_,f_,f_,f_] HT_ ?_
              refine pu 3 70 #[t_,t_,t_,t_,f_,f_,f_,f_,f_,f_,f_,f_,f_,f_,f_,f_,f_,f_,f_,f_,f_,f_] HT_ ?_
              refine pu 4 71 #[t_,t_,t_,t_,t_,f_,f_,f_,f_,f_,f_,f_,f_,f_,f_,f_,f_,f_,f_,f_,f_,f_] HT_ ?_
              refine pu 5 72 #[t_,t_,t_,t_,t_,t_,f_,f_,f_,f_,f_,f_,f_,f_,f_,f_,f_,f_,f_,f_,f_,f_] HT_ ?_
              refine pu 6 73 #[t_,t_,t_,t_,t_,t_,t_,f_,f_,f_,f_,f_,f_,f_,f_,f_,f_,f_,f_,f_,f_,f_] HT_ ?_
              refine pu 9 76 #[t_,t_,t_,t_,t_,t_,t_,f_,f_,t_,f_,f_,f_,f_,f_,f_,f_,f_,f_,f_,f_,f_] HT_ ?_
              refine pu 10 77 #[t_,t_,t_,t_,t_,t_,t_,f_,f_,t_,t_,f_,f_,f_,f_,f_,f_,f_,f_,f_,f_,f_] HT_ ?_
              refine pu 11 78 #[t_,t_,t_,t_,t_,t_,t_,f_,f_,t_,t_,t_,f_,f_,f_,f_,f_,f_,f_,f_,f_,f_] HT_ ?_
              refine pu 13 80 #[t_,t_,t_,t_,t_,t_,t_,f_,f_,t_,t_,t_,f_,t_,f_,f_,f_,f_,f_,f_,f_,f_] HT_ ?_
              refine pu 14 81 #[t_,t_,t_,t_,t_,t_,t_,f_,f_,t_,t_,t_,f_,t_,t_,f_,f_,f_,f_,f_,f_,f_] HT_ ?_
              refine pu 15 82 #[t_,t_,t_,t_,t_,t_,t_,f_,f_,t_,t_,t_,f_,t_,t_,t_,f_,f_,f_,f_,f_,f_] HT_ ?_
              refine pu 16 83 #[t_,t_,t_,t_,t_,t_,t_,f_,f_,t_,t_,t_,f_,t_,t_,t_,t_,f_,f_,f_,f_,f_] HT_ ?_
              refine pu 17 84 #[t_,t_,t_,t_,t_,t_,t_,f_,f_,t_,t_,t_,f_,t_,t_,t_,t_,t_,f_,f_,f_,f_] HT_ ?_
              refine pu 18 85 #[t_,t_,t_,t_,t_,t_,t_,f_,f_,t_,t_,t_,f_,t_,t_,t_,t_,t_,t_,f_,f_,f_] HT_ ?_
              refine tk 7 74 #[t_,t_,t_,t_,t_,t_,t_,t_,f_,t_,t_,t_,f_,t_,t_,t_,t_,t_,t_,f_,f_,f_] HT_ HW_ hHeld ?_ (hv := by rintro w' ⟨s0, s1, s2, s3, s4, s5, s6, s7⟩; go_simp; with_reducible rfl)
              refine tk 8 75 #[t_,t_,t_,t_,t_,t_,t_,t_,t_,t_,t_,t_,f_,t_,t_,t_,t_,t_,t_,f_,f_,f_] HT_ HW_ hHeld ?_ (hv := by rintro w' ⟨s0, s1, s2, s3, s4, s5, s6, s7⟩; go_simp; with_reducible rfl)
              refine tk 12 79 #[t_,t_,t_,t_,t_,t_,t_,t_,t_,t_,t_,t_,t_,t_,t_,t_,t_,t_,t_,f_,f_,f_] HT_ HW_ hHeld ?_ (hv := by rintro w' ⟨s0, s1, s2, s3, s4, s5, s6, s7⟩; go_simp; with_reducible rfl)
              refine tk 19 86 #[t_,t_,t_,t_,t_,t_,t_,t_,t_,t_,t_,t_,t_,t_,t_,t_,t_,t_,t_,t_,f_,f_] HT_ HW_ hHeld ?_ (hv := by rintro w' ⟨s0, s1, s2, s3, s4, s5, s6, s7⟩; go_simp; with_reducible rfl)
              refine one_ (i := 20) (N := some 87) #[t_,t_,t_,t_,t_,t_,t_,t_,t_,t_,t_,t_,t_,t_,t_,t_,t_,t_,t_,t_,t_,f_] rfl rfl (bh_ HT_.out (by kernel_rfl)) (by decide) (fun K hK => ?_)
              (first | refine goes_ Try.func69 (by kernel_rfl) rfl #[.agg #[.int .i64 ((ab_ l0 x24_2).f0), .int .i64 ((ab_ l0 x24_2).f1)], .agg #[.int .i64 ((ab_ l0 (ji12)).f0), .int .i64 ((ab_ l0 (ji12)).f1)], .agg #[.int .i64 ((ab_ l0 x8_4).f0), .int .i64 ((ab_ l0 x8_4).f1)], .agg #[.int .i64 ((ab_ l0 (ji64)).f0), .int .i64 ((ab_ l0 (ji64)).f1)]] (by rfl) rfl rfl (by (try simp only [List.map_toArray, List.map_cons, List.map_nil]); first | done | (simp only [hji12, hji64]; rfl) | rfl | (simp only [List.length_drop, List.length_take]; rfl)) ?_ | refine RPW.by_ Try.func69 (by kernel_rfl) rfl #[.agg #[.int .i64 ((ab_ l0 x24_2).f0), .int .i64 ((ab_ l0 x24_2).f1)], .agg #[.int .i64 ((ab_ l0 (ji12)).f0), .int .i64 ((ab_ l0 (ji12)).f1)], .agg #[.int .i64 ((ab_ l0 x8_4).f0), .int .i64 ((ab_ l0 x8_4).f1)], .agg #[.int .i64 ((ab_ l0 (ji64)).f0), .int .i64 ((ab_ l0 (ji64)).f1)]] (by rfl) rfl rfl rfl (by (try simp only [List.map_toArray, List.map_cons, List.map_nil]); first | done | (simp only [hji12, hji64]; rfl) | rfl | (simp only [List.length_drop, List.length_take]; rfl)) ?_ | refine RPW.bz_ Try.func69 (by kernel_rfl) rfl #[.agg #[.int .i64 ((ab_ l0 x24_2).f0), .int .i64 ((ab_ l0 x24_2).f1)], .agg #[.int .i64 ((ab_ l0 (ji12)).f0), .int .i64 ((ab_ l0 (ji12)).f1)], .agg #[.int .i64 ((ab_ l0 x8_4).f0), .int .i64 ((ab_ l0 x8_4).f1)], .agg #[.int .i64 ((ab_ l0 (ji64)).f0), .int .i64 ((ab_ l0 (ji64)).f1)]] (by rfl) rfl rfl rfl (by (try simp only [List.map_toArray, List.map_cons, List.map_nil]); first | done | (simp only [hji12, hji64]; rfl) | rfl | (simp only [List.length_drop, List.length_take]; rfl)) ?_)
              with_reducible refine (ch_.calls ((ab_ l0 x24_2).f0) ((ab_ l0 x24_2).f1) ((ab_ l0 (ji12)).f0) ((ab_ l0 (ji12)).f1) ((ab_ l0 x8_4).f0) ((ab_ l0 x8_4).f1) ((ab_ l0 (ji64)).f0) ((ab_ l0 (ji64)).f1) t113 _ A67.out).mono ?_
              rintro e w70 ⟨rfl, hb⟩
              refine ⟨_, rfl, ?_⟩
              have n0_ := Aside0.mk (aa_ (kz BK106.out) hb)
              have n1_ := Aside0.mk (aa_ (kz BK107.out) hb)
              have n2_ := Aside0.mk (aa_ (kz BK108.out) hb)
              have n3_ := Aside0.mk (ad_ (bq) hb)
              clear BK106
              clear BK107
              clear BK108
              clear HB
              have BK106 := n0_
              have BK107 := n1_
              have BK108 := n2_
              have HB := n3_
              clear n0_ n1_ n2_ n3_
              (try clear hb)
              refine hK.out _ _ ⟨(ac_ BK106.out 0).trans rfl, (ac_ BK106.out 1).trans rfl, (ac_ BK107.out 0).trans rfl, (ac_ BK107.out 1).trans rfl, (bv_ HB.out hw111_0), (bv_ HB.out hw111_1), (bv_ HB.out hw112_0), (bv_ HB.out hw112_1)⟩ (fun hHeld => ?_)
              clear hK K
              refine norm_ (a' := ?_) ?_ ?_
              rotate_left
              ·show Act.put _ (some 87) _ = _
               simp only [Act.put, lsa_, ls0_, ls1_, i64_w, i32_w]
               rfl
              refine pu 21 88 #[t_,t_,t_,t_,t_,t_,t_,t_,t_,t_,t_,t_,t_,t_,t_,t_,t_,t_,t_,t_,t_,t_] HT_ ?_
              refine done_ (bS_ HT_.out (by kernel_rfl)) ?_
              go_upto_if 88 with (fail)
              have H := HC68.out
              clear HC68
              by_cases c71 : t113 = true
              rotate_left
              ·replace c71 := Bool.eq_false_iff.mpr c71
               subst c71
               have H1 : (ag_.l1 k4 l0 (l0.length : Int) x24_2 (wrap64 (x8_4 + 1)) (l0.length : Int) x24_2 ((ab_ l0 x24_2).f0) ((ab_ l0 x24_2).f1) ((ab_ l0 (ji12)).f0) ((ab_ l0 (ji12)).f1)) = some r := by rw [if_neg (show ¬ (false = true) by decide)] at H; exact H
               clear H
               have H := H1
               clear H1
               have H' := Aside0.mk H
               clear H
               go_wp2
               go_roundg k4
               case measure => have := HJ1.out; have := HK2.out; have := HJ17.out; have := HK4.out; omega
               case rel => exact ⟨(wrap64 (x8_4 + 1)), (by first | rfl | (simp; done) | (simp [*]; done)), H', ⟨by have := HJ1.out; have := HK2.out; have := HJ17.out; have := HK4.out; omega⟩, ⟨by (with_reducible repeat (first | refine aL_ ?_ _ | refine av_ ?_ | refine aM_ ?_ _)); exact BK106.out⟩, ⟨by (with_reducible repeat (first | refine aL_ ?_ _ | refine av_ ?_ | refine aM_ ?_ _)); exact BK107.out⟩, ⟨by (with_reducible repeat (first | refine aL_ ?_ _ | refine av_ ?_ | refine aM_ ?_ _)); exact BK108.out⟩, ⟨bq⟩⟩
              subst c71
              have H1 : (some false) = some r := by rw [if_pos rfl] at H; exact H
              clear H
              have H := H1
              clear H1
              obtain rfl := Option.some.inj H
              go_wp2
              go_ret
              exact ⟨by first | rfl | (simp [ah_, ai_] <;> rfl) | (simp only [← hji12, ← hji15, ← hji64]; first | rfl | (simp [ah_, ai_] <;> rfl)) | (simp [*, ah_, ai_] <;> rfl), bq⟩
             rw [if_pos c60] at H
             have c60b0 : ((Int.tmod (wrap64 (x8_4 + 1)) (l0.length : Int)) == x24_2) = true := beq_iff_eq.mpr c60
             have c60b1 : ((Int.tmod (wrap64 (x8_4 + 1)) (l0.length : Int)) != x24_2) = false := bne_eq_false_iff_eq.mpr c60
             clear c60
             have H' := Aside0.mk H
             clear H
             try go_wp2
             have n0_ := Aside0.mk (av_ BK106.out)
             have n1_ := Aside0.mk (av_ BK107.out)
             have n2_ := Aside0.mk (av_ BK108.out)
             have n3_ := Aside0.mk (bD_ HB.out)
             clear BK106
             clear BK107
             clear BK108
             clear HB
             have BK106 := n0_
             have BK107 := n1_
             have BK108 := n2_
             have HB := n3_
             clear n0_ n1_ n2_ n3_
             refine cl_ (n := 22) (S := fun w' => True) (ds := []) #[f_,f_,f_,f_,f_,f_,f_,f_,f_,f_,f_,f_,f_,f_,f_,f_,f_,f_,f_,f_,f_,f_] (by kernel_rfl) rfl rfl trivial (fun hHeld => ?_); refine bo_ ag_.tab13 ag_.bits13 (fun HT_ HW_ => ?_)
             generalize wr.drew = w61 at BK106 BK107 BK108 HB hHeld ⊢
             refine pu 0 67 #[t_,f_,f_,f_,f_,f_,f_,f_,f_,f_,f_,f_,f_,f_,f_,f_,f_,f_,f_,f_,f_,f_] HT_ ?_
             refine pu 1 68 #[t_,t_,f_,f_,f_,f_,f_,f_,f_,f_,f_,f_,f_,f_,f_,f_,f_,f_,f_,f_,f_,f_] HT_ ?_
             refine pu 2 69 #[t_,t_,t_,f_,f_,f_,f_,f_,f_,f_,f_,f_,f_,f_,f_,f_,f_,f_,f_,f_,f_,f_] HT_ ?_
             refine pu 3 70 #[t_,t_,t_,t_,f_,f_,f_,f_,f_,f_,f_,f_,f_,f_,f_,f_,f_,f_,f_,f_,f_,f_] HT_ ?_
             refine pu 4 71 #[t_,t_,t_,t_,t_,f_,f_,f_,f_,f_,f_,f_,f_,f_,f_,f_,f_,f_,f_,f_,f_,f_] HT_ ?_
             refine pu 5 72 #[t_,t_,t_,t_,t_,t_,f_,f_,f_,f_,f_,f_,f_,f_,f_,f_,f_,f_,f_,f_,f_,f_] HT_ ?_
             refine pu 6 73 #[t_,t_,t_,t_,t_,t_,t_,f_,f_,f_,f_,f_,f_,f_,f_,f_,f_,f_,f_,f_,f_,f_] HT_ ?_
             refine pn 7 74 #[t_,t_,t_,t_,t_,t_,t_,t_,f_,f_,f_,f_,f_,f_,f_,f_,f_,f_,f_,f_,f_,f_] HT_ ?_
             refine pn 8 75 #[t_,t_,t_,t_,t_,t_,t_,t_,t_,f_,f_,f_,f_,f_,f_,f_,f_,f_,f_,f_,f_,f_] HT_ ?_
             refine pn 9 76 #[t_,t_,t_,t_,t_,t_,t_,t_,t_,t_,f_,f_,f_,f_,f_,f_,f_,f_,f_,f_,f_,f_] HT_ ?_
             refine pn 10 77 #[t_,t_,t_,t_,t_,t_,t_,t_,t_,t_,t_,f_,f_,f_,f_,f_,f_,f_,f_,f_,f_,f_] HT_ ?_
             refine pn 11 78 #[t_,t_,t_,t_,t_,t_,t_,t_,t_,t_,t_,t_,f_,f_,f_,f_,f_,f_,f_,f_,f_,f_] HT_ ?_
             refine pn 12 79 #[t_,t_,t_,t_,t_,t_,t_,t_,t_,t_,t_,t_,t_,f_,f_,f_,f_,f_,f_,f_,f_,f_] HT_ ?_
             refine pn 13 80 #[t_,t_,t_,t_,t_,t_,t_,t_,t_,t_,t_,t_,t_,t_,f_,f_,f_,f_,f_,f_,f_,f_] HT_ ?_
             refine pn 14 81 #[t_,t_,t_,t_,t_,t_,t_,t_,t_,t_,t_,t_,t_,t_,t_,f_,f_,f_,f_,f_,f_,f_] HT_ ?_
             refine pn 15 82 #[t_,t_,t_,t_,t_,t_,t_,t_,t_,t_,t_,t_,t_,t_,t_,t_,f_,f_,f_,f_,f_,f_] HT_ ?_
             refine pn 16 83 #[t_,t_,t_,t_,t_,t_,t_,t_,t_,t_,t_,t_,t_,t_,t_,t_,t_,f_,f_,f_,f_,f_] HT_ ?_
             refine pn 17 84 #[t_,t_,t_,t_,t_,t_,t_,t_,t_,t_,t_,t_,t_,t_,t_,t_,t_,t_,f_,f_,f_,f_] HT_ ?_
             refine pn 18 85 #[t_,t_,t_,t_,t_,t_,t_,t_,t_,t_,t_,t_,t_,t_,t_,t_,t_,t_,t_,f_,f_,f_] HT_ ?_
             refine pn 19 86 #[t_,t_,t_,t_,t_,t_,t_,t_,t_,t_,t_,t_,t_,t_,t_,t_,t_,t_,t_,t_,f_,f_] HT_ ?_
             refine pn 20 87 #[t_,t_,t_,t_,t_,t_,t_,t_,t_,t_,t_,t_,t_,t_,t_,t_,t_,t_,t_,t_,t_,f_] HT_ ?_
             refine pu 21 88 #[t_,t_,t_,t_,t_,t_,t_,t_,t_,t_,t_,t_,t_,t_,t_,t_,t_,t_,t_,t_,t_,t_] HT_ ?_
             refine done_ (bS_ HT_.out (by kernel_rfl)) ?_
             try go_wp2
             go_roundg k4
             case measure => have := HJ1.out; have := HK2.out; have := HJ17.out; have := HK4.out; omega
             case rel => exact ⟨(wrap64 (x8_4 + 1)), (by first | rfl | (simp; done) | (simp [*]; done)), H', ⟨by have := HJ1.out; have := HK2.out; have := HJ17.out; have := HK4.out; omega⟩, ⟨by (with_reducible repeat (first | refine aL_ ?_ _ | refine av_ ?_ | refine aM_ ?_ _)); exact BK106.out⟩, ⟨by (with_reducible repeat (first | refine aL_ ?_ _ | refine av_ ?_ | refine aM_ ?_ _)); exact BK107.out⟩, ⟨by (with_reducible repeat (first | refine aL_ ?_ _ | refine av_ ?_ | refine aM_ ?_ _)); exact BK108.out⟩, ⟨bq⟩⟩
            rw [if_pos c59] at H
            exact absurd H (by simp)
         subst c57
         have H1 : (some false) = some r := by rw [if_pos rfl] at H; exact H
         clear H
         have H := H1
         clear H1
         obtain rfl := Option.some.inj H
         go_wp2
         go_ret
         exact ⟨by first | rfl | (simp [ah_, ai_] <;> rfl) | (simp only [← hji12, ← hji15]; first | rfl | (simp [ah_, ai_] <;> rfl)) | (simp [*, ah_, ai_] <;> rfl), bq⟩
      rw [if_pos c11] at H
      exact absurd H (by simp)
   subst c7
   have H1 : (some false) = some r := by rw [if_pos rfl] at H; exact H
   clear H
   have H := H1
   clear H1
   obtain rfl := Option.some.inj H
   go_wp2
   go_ret
   exact ⟨by first | rfl | (simp [*, ah_, ai_] <;> rfl), bz HB.out⟩
end Go.Proofs.Ytpjhnchfhghlcaa.Q
namespace Go.Proofs.Ytpjhnchfhghlcaa.Q
open Go.RowKit Go.Proofs.YtpjhnchfhghlcaaW.PrintWords Go.Proofs.YtpjhnchfhghlcaaW.PrintLast Go.Proofs.YtpjhnchfhghlcaaW.PrintMore
attribute [local go_sem] aB_ aE_ aN_ aO_ ax_ aw_ aD_ aC_
mutual
def af_.j0 : Nat → Bool → Int → Int → List (S81) → List (S85) → Option (Bool)
 | 0, _, _, _, _, _ => none
 | k + 1, x30, x102000, x102001, x102002, x102003 => if x30 = true then (some false) else (af_.l0 k x102002 (x102002.length : Int) 0 x102000 x102001 x102002 x102003)
def af_.l0 : Nat → List (S81) → Int → Int → Int → Int → List (S81) → List (S85) → Option (Bool)
 | 0, _, _, _, _, _, _, _ => none
 | k + 1, x32, x33, x34, x102000, x102001, x102002, x102003 => if x34 < x33 then (if 0 ≤ x34 then (if x34 < (x32.length : Int) then ((am_.f ((ab_ x32 x34).f0) 0 x102000).bind fun t106 => (if t106 = true then ((am_.f ((ab_ x32 x34).f1) 0 x102001).bind fun t107 => (if t107 = true then (if x34 ≤ (x102002.length : Int) then ((ci_.f k (x102002.take (x34 : Int).toNat) ((ab_ x32 x34).f0) ((ab_ x32 x34).f1)).bind fun t112 => (if t112 = true then (some false) else (af_.l0 k x32 x33 (wrap64 (x34 + 1)) x102000 x102001 x102002 x102003))) else (none)) else (some false))) else (some false))) else (none)) else (none)) else (af_.l1 k x102003 (x102003.length : Int) 0 x102000 x102001 x102002 x102003)
def af_.l1 : Nat → List (S85) → Int → Int → Int → Int → List (S81) → List (S85) → Option (Bool)
 | 0, _, _, _, _, _, _, _ => none
 | k + 1, x63, x64, x65, x102000, x102001, x102002, x102003 => if x65 < x64 then (if 0 ≤ x65 then (if x65 < (x63.length : Int) then ((aI_.f k ((aA_ x63 x65).f0)).bind fun t115 => (if t115 = true then (if x65 > 0 then (if 0 ≤ (wrap64 (x65 - 1)) then (if (wrap64 (x65 - 1)) < (x102003.length : Int) then (af_.j3 k x63 x64 x65 (!(Op.bytesLess (((aA_ x102003 (wrap64 (x65 - 1))).f0).toList) (((aA_ x63 x65).f0).toList))) x102000 x102001 x102002 x102003 ((aA_ x63 x65).f0) ((aA_ x63 x65).f1)) else (none)) else (none)) else (af_.j3 k x63 x64 x65 false x102000 x102001 x102002 x102003 ((aA_ x63 x65).f0) ((aA_ x63 x65).f1))) else (af_.j3 k x63 x64 x65 true x102000 x102001 x102002 x102003 ((aA_ x63 x65).f0) ((aA_ x63 x65).f1)))) else (none)) else (none)) else (some true)
def af_.j3 : Nat → List (S85) → Int → Int → Bool → Int → Int → List (S81) → List (S85) → ByteArray → List Int → Option (Bool)
 | 0, _, _, _, _, _, _, _, _, _, _ => none
 | k + 1, x63, x64, x65, x89, x102000, x102001, x102002, x102003, x115000, x115001 => if x89 = true then (some false) else ((aQ_.f k x102002 x115001).bind fun bt117 => (if bt117.2 = true then ((ag_.f k bt117.1).bind fun t121 => (if t121 = true then (af_.l1 k x63 x64 (wrap64 (x65 + 1)) x102000 x102001 x102002 x102003) else (some false))) else (some false)))
end
def af_.f (k : Nat) (a0_0 : Int) (a0_1 : Int) (l0_2 : List (S81)) (l0_3 : List (S85)) : Option (Bool) := (am_.f a0_0 10 20000).bind fun t102 => (if t102 = true then ((am_.f a0_1 10 20000).bind fun t103 => (if t103 = true then (if (l0_2.length : Int) > 48 then (af_.j0 k true a0_0 a0_1 l0_2 l0_3) else (af_.j0 k (decide ((l0_3.length : Int) > 24)) a0_0 a0_1 l0_2 l0_3)) else (af_.j0 k true a0_0 a0_1 l0_2 l0_3))) else (af_.j0 k true a0_0 a0_1 l0_2 l0_3))
def af_.T6 : Bool × List (List Nat × List Nat) := (true, [([], []), ([0], [0]), ([], []), ([2], [2]), ([1, 3], [1, 3]), ([4], [4]), ([5, 4], [5]), ([6], [6]), ([7, 6], [6, 7]), ([6], [6]), ([9, 6], [6, 9]), ([8, 10, 6, 6], [6, 8, 10]), ([11, 6], [6, 11]), ([6, 12], [6, 12]), ([13, 11], [13]), ([14], [14]), ([15, 14], [14, 15]), ([14], [14]), ([16, 17, 14], [14, 16, 17]), ([14], [14]), ([18, 19, 14, 14], [14, 18, 19]), ([14, 20], [14, 20])])
def af_.B6 : List Nat := [0, 1, 0, 4, 15, 31, 63, 127, 255, 127, 639, 2047, 4095, 8191, 16383, 32767, 65535, 32767, 262143, 32767, 1048575, 2097151]
theorem af_.tab6 : rtab .any (opsOf Try.f37 6) = af_.T6 := by kernel_rfl
theorem af_.bits6 : cj_ af_.T6.2 af_.B6 = true := by kernel_rfl
def af_.T12 : Bool × List (List Nat × List Nat) := (true, [([], []), ([0], [0]), ([1], [1]), ([2], [2]), ([3, 2], [3]), ([4], [4]), ([5, 4], [4, 5]), ([6, 4, 4], [4, 6]), ([7], [7]), ([8, 7], [7, 8]), ([7], [7]), ([10, 7], [7, 10]), ([9, 11, 7], [7, 9, 11]), ([12, 7], [7, 12]), ([13, 7], [7, 13]), ([7], [7]), ([15, 7], [7, 15]), ([14, 16, 7], [7, 14, 16]), ([7, 17, 4], [4, 7, 17]), ([4, 18], [4, 18])])
def af_.B12 : List Nat := [0, 1, 3, 7, 15, 31, 63, 127, 255, 511, 255, 1279, 4095, 8191, 16383, 255, 33023, 131071, 262143, 524287]
theorem af_.tab12 : rtab .any (opsOf Try.f37 12) = af_.T12 := by kernel_rfl
theorem af_.bits12 : cj_ af_.T12.2 af_.B12 = true := by kernel_rfl
set_option maxHeartbeats 8000000 in
set_option maxRecDepth 100000 in
theorem af_.calls (k : Nat) (a0_0 : Int) (a0_1 : Int) (A0_2 : Option Addr) (c0_2 : Nat) (l0_2 : List (S81)) (A0_3 : Option Addr) (c0_3 : Nat) (l0_3 : List (S85)) (r : Bool) (w : World) (hr0_2 : Kd.C k81 w A0_2 l0_2.length l0_2) (hc0_2 : l0_2.length ≤ c0_2) (hr0_3 : Kd.C k85 w A0_3 l0_3.length l0_3) (hc0_3 : l0_3.length ≤ c0_3) (h : af_.f k a0_0 a0_1 l0_2 l0_3 = some r) :
  Calls Try.prog 37 #[.agg #[.int .i64 a0_0, .int .i64 a0_1, .slice A0_2 l0_2.length c0_2, .slice A0_3 l0_3.length c0_3]] w fun e w' => e = .returned (.bool r) ∧ Below w.heap.size w w' := by
 have hu37 := Try.underlying37
 have hu81 := Try.underlying81
 have hu85 := Try.underlying85
 have HR0_2 := Aside0.mk hr0_2
 have HC0_2 := Aside0.mk hc0_2
 clear hr0_2 hc0_2
 have HR0_3 := Aside0.mk hr0_3
 have HC0_3 := Aside0.mk hc0_3
 clear hr0_3 hc0_3
 have HB := Aside0.mk (Below.refl w.heap.size w)
 have H : ((am_.f a0_0 10 20000).bind fun t102 => (if t102 = true then ((am_.f a0_1 10 20000).bind fun t103 => (if t103 = true then (if (l0_2.length : Int) > 48 then (af_.j0 k true a0_0 a0_1 l0_2 l0_3) else (af_.j0 k (decide ((l0_3.length : Int) > 24)) a0_0 a0_1 l0_2 l0_3)) else (af_.j0 k true a0_0 a0_1 l0_2 l0_3))) else (af_.j0 k true a0_0 a0_1 l0_2 l0_3))) = some r := h
 clear h
 have HC2 := Aside0.mk H
 clear H
 go_enter Try.func37, Try.ntmps37
 go_upto_region 1 with (first | ((with_reducible refine al_ (N := 1) rfl ?_); (try (refine bT_ (by rfl) ?_; dsimp only)); refine ak_ ?hg (N := 1) ?hd (cs := #[.int .i64 a0_0, .int .i64 a0_1, .slice A0_2 l0_2.length c0_2, .slice A0_3 l0_3.length c0_3]) (t := 37) ?hr ?_; (case hd => rfl); (case hg => rfl); (case hr => (go_simp; try rfl)); intro gb101 hg w3 hbox hb; have BK101 := Aside0.mk (hbox); have GW101 := Aside0.mk ((by rw [hg]; exact (ae_ (bz HB.out)) : w.heap.size ≤ gb101)); have GE101 := GW101; replace HB := Aside0.mk (ad_ (bz HB.out) hb); clear hb hbox hg))
 (try simp only [Act.put, lsa_, ls0_, ls1_])
 go_cut [30] (fun v30 wc => ∃ (kq : Nat) (x30_1 : Bool), v30 = .bool x30_1 ∧ Aside0 (af_.j0 kq x30_1 a0_0 a0_1 l0_2 l0_3 = some r) ∧ Aside0 (kq ≤ k) ∧ Aside0 (wc.heap[gb101]? = some (.cells #[.int .i64 a0_0, .int .i64 a0_1, (.slice A0_2 l0_2.length c0_2), (.slice A0_3 l0_3.length c0_3)] 37 (0, 0))) ∧ Aside0 (Below w.heap.size w wc))
 case first =>
  have H := HC2.out
  clear HC2
  replace H := Option.bind_eq_some_iff.mp H
  obtain ⟨t102, A40, H⟩ := H
  (try dsimp only at H)
  have A4 := Aside0.mk A40
  clear A40
  by_cases c5 : t102 = true
  rotate_left
  ·replace c5 := Bool.eq_false_iff.mpr c5
   subst c5
   have H1 : (af_.j0 k true a0_0 a0_1 l0_2 l0_3) = some r := by rw [if_neg (show ¬ (false = true) by decide)] at H; exact H
   clear H
   have H := H1
   clear H1
   have H' := Aside0.mk H
   clear H
   obtain ⟨hcz12_0, hcz12_1, hcz12_2, hcz12_3⟩ := cz4_ BK101.out
   obtain ⟨hfz12_0, hfz12_1, hfz12_2, hfz12_3⟩ := fz4_ BK101.out
   go_wp2_with (first | ((with_reducible refine an_ (f := 39) rfl ?_); refine aU_ (some 11) rfl rfl Try.func39 (by kernel_rfl) rfl #[.int .i64 a0_0, .int .i64 10, .int .i64 20000] rfl (by first | rfl | (simp only [lma_, lmc_, lmn_]; first | done | rfl)) ?_; (with_reducible refine (am_.calls a0_0 10 20000 false _ A4.out).mono ?_); rintro e w' ⟨rfl, ⟨nd, rfl⟩⟩; refine ⟨_, rfl, ?_⟩))
   go_meet
   case rel => exact ⟨_, (true), (by first | rfl | (simp; done) | (simp [*]; done)), H', ⟨by first | omega | exact Nat.le_refl _⟩, ⟨by (with_reducible repeat (first | refine aL_ ?_ _ | refine av_ ?_ | refine aM_ ?_ _)); exact BK101.out⟩, ⟨bq⟩⟩
  subst c5
  have H1 : ((am_.f a0_1 10 20000).bind fun t103 => (if t103 = true then (if (l0_2.length : Int) > 48 then (af_.j0 k true a0_0 a0_1 l0_2 l0_3) else (af_.j0 k (decide ((l0_3.length : Int) > 24)) a0_0 a0_1 l0_2 l0_3)) else (af_.j0 k true a0_0 a0_1 l0_2 l0_3))) = some r := by rw [if_pos rfl] at H; exact H
  clear H
  have H := H1
  clear H1
  replace H := Option.bind_eq_some_iff.mp H
  obtain ⟨t103, A60, H⟩ := H
  (try dsimp only at H)
  have A6 := Aside0.mk A60
  clear A60
  by_cases c7 : t103 = true
  rotate_left
  ·replace c7 := Bool.eq_false_iff.mpr c7
   subst c7
   have H1 : (af_.j0 k true a0_0 a0_1 l0_2 l0_3) = some r := by rw [if_neg (show ¬ (false = true) by decide)] at H; exact H
   clear H
   have H := H1
   clear H1
   have H' := Aside0.mk H
   clear H
   obtain ⟨hcz11_0, hcz11_1, hcz11_2, hcz11_3⟩ := cz4_ BK101.out
   obtain ⟨hfz11_0, hfz11_1, hfz11_2, hfz11_3⟩ := fz4_ BK101.out
   go_wp2_with (first | ((with_reducible refine an_ (f := 39) rfl ?_); refine aU_ (some 11) rfl rfl Try.func39 (by kernel_rfl) rfl #[.int .i64 a0_0, .int .i64 10, .int .i64 20000] rfl (by first | rfl | (simp only [lma_, lmc_, lmn_]; first | done | rfl)) ?_; (with_reducible refine (am_.calls a0_0 10 20000 true _ A4.out).mono ?_); rintro e w' ⟨rfl, ⟨nd, rfl⟩⟩; refine ⟨_, rfl, ?_⟩) | (go_at_call 39; (with_reducible refine (am_.calls a0_1 10 20000 false _ A6.out).mono ?_); rintro e w' ⟨rfl, ⟨nd, rfl⟩⟩))
   go_meet
   case rel => exact ⟨_, (true), (by first | rfl | (simp; done) | (simp [*]; done)), H', ⟨by first | omega | exact Nat.le_refl _⟩, ⟨by (with_reducible repeat (first | refine aL_ ?_ _ | refine av_ ?_ | refine aM_ ?_ _)); exact BK101.out⟩, ⟨bq⟩⟩
  subst c7
  have H1 : (if (l0_2.length : Int) > 48 then (af_.j0 k true a0_0 a0_1 l0_2 l0_3) else (af_.j0 k (decide ((l0_3.length : Int) > 24)) a0_0 a0_1 l0_2 l0_3)) = some r := by rw [if_pos rfl] at H; exact H
  clear H
  have H := H1
  clear H1
  by_cases c8 : (l0_2.length : Int) > 48
  rotate_left
  ·rw [if_neg c8] at H
   have c8b0 : decide (48 < (l0_2.length : Int)) = false := decide_eq_false c8
   have c8b1 : decide (48 < l0_2.length) = false := decide_eq_false (by omega)
   clear c8
   (first | rw [c8b0] | (simp only [i64_w, i32_w]; rw [c8b0]) | (simp only [c8b1, Bool.not_true, Bool.not_false]) | (simp only [c8b0, Bool.not_true, Bool.not_false]) | skip)
   have H' := Aside0.mk H
   clear H
   obtain ⟨hcz10_0, hcz10_1, hcz10_2, hcz10_3⟩ := cz4_ BK101.out
   obtain ⟨hfz10_0, hfz10_1, hfz10_2, hfz10_3⟩ := fz4_ BK101.out
   go_wp2_with (first | ((with_reducible refine an_ (f := 39) rfl ?_); refine aU_ (some 11) rfl rfl Try.func39 (by kernel_rfl) rfl #[.int .i64 a0_0, .int .i64 10, .int .i64 20000] rfl (by first | rfl | (simp only [lma_, lmc_, lmn_]; first | done | rfl)) ?_; (with_reducible refine (am_.calls a0_0 10 20000 true _ A4.out).mono ?_); rintro e w' ⟨rfl, ⟨nd, rfl⟩⟩; refine ⟨_, rfl, ?_⟩) | (go_at_call 39; (with_reducible refine (am_.calls a0_1 10 20000 true _ A6.out).mono ?_); rintro e w' ⟨rfl, ⟨nd, rfl⟩⟩))
   go_meet
   case rel => exact ⟨_, (decide ((l0_3.length : Int) > 24)), (by first | rfl | (simp; done) | (simp [*]; done)), H', ⟨by first | omega | exact Nat.le_refl _⟩, ⟨by (with_reducible repeat (first | refine aL_ ?_ _ | refine av_ ?_ | refine aM_ ?_ _)); exact BK101.out⟩, ⟨bq⟩⟩
  rw [if_pos c8] at H
  have c8b0 : decide (48 < (l0_2.length : Int)) = true := decide_eq_true c8
  have c8b1 : decide (48 < l0_2.length) = true := decide_eq_true (by omega)
  clear c8
  (first | rw [c8b0] | (simp only [i64_w, i32_w]; rw [c8b0]) | (simp only [c8b1, Bool.not_true, Bool.not_false]) | (simp only [c8b0, Bool.not_true, Bool.not_false]) | skip)
  have H' := Aside0.mk H
  clear H
  obtain ⟨hcz9_0, hcz9_1, hcz9_2, hcz9_3⟩ := cz4_ BK101.out
  obtain ⟨hfz9_0, hfz9_1, hfz9_2, hfz9_3⟩ := fz4_ BK101.out
  go_wp2_with (first | ((with_reducible refine an_ (f := 39) rfl ?_); refine aU_ (some 11) rfl rfl Try.func39 (by kernel_rfl) rfl #[.int .i64 a0_0, .int .i64 10, .int .i64 20000] rfl (by first | rfl | (simp only [lma_, lmc_, lmn_]; first | done | rfl)) ?_; (with_reducible refine (am_.calls a0_0 10 20000 true _ A4.out).mono ?_); rintro e w' ⟨rfl, ⟨nd, rfl⟩⟩; refine ⟨_, rfl, ?_⟩) | (go_at_call 39; (with_reducible refine (am_.calls a0_1 10 20000 true _ A6.out).mono ?_); rintro e w' ⟨rfl, ⟨nd, rfl⟩⟩))
  go_meet
  case rel => exact ⟨_, (true), (by first | rfl | (simp; done) | (simp [*]; done)), H', ⟨by first | omega | exact Nat.le_refl _⟩, ⟨by (with_reducible repeat (first | refine aL_ ?_ _ | refine av_ ?_ | refine aM_ ?_ _)); exact BK101.out⟩, ⟨bq⟩⟩
 case rest =>
  clear HC2
  obtain ⟨kq, x30_1, rfl, HA, HJ1, BK101, HB⟩ := hcut
  cases kq with
  | zero => exact absurd HA.out (by simp [af_.j0])
  | succ kj1 =>
   have H := HA.out
   clear HA
   simp only [af_.j0] at H
   by_cases c13 : x30_1 = true
   rotate_left
   ·replace c13 := Bool.eq_false_iff.mpr c13
    subst c13
    have H1 : (af_.l0 kj1 l0_2 (l0_2.length : Int) 0 a0_0 a0_1 l0_2 l0_3) = some r := by rw [if_neg (show ¬ (false = true) by decide)] at H; exact H
    clear H
    have H := H1
    clear H1
    have H' := Aside0.mk H
    clear H
    obtain ⟨hcz14_0, hcz14_1, hcz14_2, hcz14_3⟩ := cz4_ BK101.out
    obtain ⟨hfz14_0, hfz14_1, hfz14_2, hfz14_3⟩ := fz4_ BK101.out
    go_wp2
    (try simp only [Act.put, lsa_, ls0_, ls1_])
    go_loopg [34] kj1 (fun kq v34 w' => ∃ (x34_2 : Int), v34 = .int .i64 x34_2 ∧ Aside0 (af_.l0 kq l0_2 (l0_2.length : Int) x34_2 a0_0 a0_1 l0_2 l0_3 = some r) ∧ Aside0 (kq ≤ kj1) ∧ Aside0 (w'.heap[gb101]? = some (.cells #[.int .i64 a0_0, .int .i64 a0_1, (.slice A0_2 l0_2.length c0_2), (.slice A0_3 l0_3.length c0_3)] 37 (0, 0))) ∧ Aside0 (Below w.heap.size w w'))
    case atStart => exact ⟨(0), (by first | rfl | (simp; done) | (simp [*]; done)), H', ⟨Nat.le_refl _⟩, ⟨by (with_reducible repeat (first | refine aL_ ?_ _ | refine av_ ?_ | refine aM_ ?_ _)); exact BK101.out⟩, ⟨bq⟩⟩
    case round =>
     clear H'
     obtain ⟨x34_2, rfl, HA, HK2, BK101, HB⟩ := hrel
     cases gk with
     | zero => exact absurd HA.out (by simp [af_.l0])
     | succ k2 =>
      have H := HA.out
      clear HA
      simp only [af_.l0] at H
      by_cases c15 : x34_2 < (l0_2.length : Int)
      rotate_left
      ·rw [if_neg c15] at H
       have c15b0 : decide (x34_2 < (l0_2.length : Int)) = false := decide_eq_false c15
       clear c15
       have H' := Aside0.mk H
       clear H
       obtain ⟨hcz44_0, hcz44_1, hcz44_2, hcz44_3⟩ := cz4_ BK101.out
       obtain ⟨hfz44_0, hfz44_1, hfz44_2, hfz44_3⟩ := fz4_ BK101.out
       go_wp2
       (try simp only [Act.put, lsa_, ls0_, ls1_])
       go_loopg [65] k2 (fun kq v65 w' => ∃ (x65_3 : Int), v65 = .int .i64 x65_3 ∧ Aside0 (af_.l1 kq l0_3 (l0_3.length : Int) x65_3 a0_0 a0_1 l0_2 l0_3 = some r) ∧ Aside0 (kq ≤ k2) ∧ Aside0 (w'.heap[gb101]? = some (.cells #[.int .i64 a0_0, .int .i64 a0_1, (.slice A0_2 l0_2.length c0_2), (.slice A0_3 l0_3.length c0_3)] 37 (0, 0))) ∧ Aside0 (Below w.heap.size w w'))
       case atStart => exact ⟨(0), (by first | rfl | (simp; done) | (simp [*]; done)), H', ⟨Nat.le_refl _⟩, ⟨by (with_reducible repeat (first | refine aL_ ?_ _ | refine av_ ?_ | refine aM_ ?_ _)); exact BK101.out⟩, ⟨bq⟩⟩
       case round =>
        clear H'
        obtain ⟨x65_3, rfl, HA, HK3, BK101, HB⟩ := hrel
        cases gk with
        | zero => exact absurd HA.out (by simp [af_.l1])
        | succ k3 =>
         have H := HA.out
         clear HA
         simp only [af_.l1] at H
         by_cases c45 : x65_3 < (l0_3.length : Int)
         rotate_left
         ·rw [if_neg c45] at H
          have c45b0 : decide (x65_3 < (l0_3.length : Int)) = false := decide_eq_false c45
          clear c45
          obtain rfl := Option.some.inj H
          go_wp2
          go_ret
          exact ⟨by first | rfl | (simp [*, ah_, ai_] <;> rfl), bq⟩
         rw [if_pos c45] at H
         have c45b0 : decide (x65_3 < (l0_3.length : Int)) = true := decide_eq_true c45
         clear c45
         by_cases c46 : 0 ≤ x65_3
         rotate_left
         ·rw [if_neg c46] at H
          exact absurd H (by simp)
         rw [if_pos c46] at H
         have c46b0 : decide (0 ≤ x65_3) = true := decide_eq_true c46
         clear c46
         by_cases c47 : x65_3 < (l0_3.length : Int)
         rotate_left
         ·rw [if_neg c47] at H
          exact absurd H (by simp)
         rw [if_pos c47] at H
         have c47b0 : decide (x65_3 < (l0_3.length : Int)) = true := decide_eq_true c47
         clear c47
         have HC48 := Aside0.mk H
         clear H
         have p113 : 0 ≤ (x65_3 : Int) := of_decide_eq_true (by assumption)
         have q113 : x65_3 < (l0_3.length : Int) := of_decide_eq_true (by assumption)
         obtain ⟨ad113, A113_1, c113_1, e113, hx113_0, hx113_1, hl113_1, hi113_1⟩ := at_T85 HR0_3.out x65_3 p113 q113
         cases e113
         replace hx113_0 := bu_ HB.out hx113_0
         replace hx113_1 := bu_ HB.out hx113_1
         have HR113_1 := Aside0.mk hi113_1
         have HC113_1 := Aside0.mk hl113_1
         clear hi113_1 hl113_1
         replace p113 := eq_true p113
         replace q113 := eq_true q113
         go_upto_region 12 with (first | ((with_reducible refine al_ (N := 6) rfl ?_); (try (refine bT_ (by rfl) ?_; dsimp only)); refine ak_ ?hg (N := 6) ?hd (cs := #[.string (⟨#[]⟩ : ByteArray), .slice none 0 0]) (t := 85) ?hr ?_; (case hd => rfl); (case hg => rfl); (case hr => (go_simp; try rfl)); intro gb114 hg w49 hbox hb; have BK114 := Aside0.mk (hbox); have GW114 := Aside0.mk ((by rw [hg]; exact (ae_ (bq)) : w.heap.size ≤ gb114)); have GE114 := GW114; replace HB := Aside0.mk (ad_ (bq) hb); have NB101_114 := Aside0.mk ((by rw [hg]; exact Nat.ne_of_lt (aj_ (kz BK101.out)) : gb101 ≠ gb114)); have NB114_101 := Aside0.mk ((by rw [hg]; exact Nat.ne_of_gt (aj_ (kz BK101.out)) : gb114 ≠ gb101)); replace BK101 := Aside0.mk (aa_ (kz BK101.out) hb); clear hb hbox hg; have hnb50 := NB114_101.out; have hnc50 := NB101_114.out; obtain ⟨hcz51_0, hcz51_1⟩ := cz2_ BK114.out; obtain ⟨hfz51_0, hfz51_1⟩ := fz2_ BK114.out))
         (try simp only [Act.put, lsa_, ls0_, ls1_])
         go_cut [89] (fun v89 wc => ∃ (kq : Nat) (x89_47 : Bool), v89 = .bool x89_47 ∧ Aside0 (af_.j3 kq l0_3 (l0_3.length : Int) x65_3 x89_47 a0_0 a0_1 l0_2 l0_3 ((aA_ l0_3 x65_3).f0) ((aA_ l0_3 x65_3).f1) = some r) ∧ Aside0 (kq ≤ k3) ∧ Aside0 (wc.heap[gb101]? = some (.cells #[.int .i64 a0_0, .int .i64 a0_1, (.slice A0_2 l0_2.length c0_2), (.slice (some ad113) l0_3.length c0_3)] 37 (0, 0))) ∧ Aside0 (wc.heap[gb114]? = some (.cells #[.string ((aA_ l0_3 x65_3).f0), (.slice A113_1 ((aA_ l0_3 x65_3).f1).length c113_1)] 85 (0, 0))) ∧ Aside0 (Below w.heap.size w wc))
         case first =>
          have H := HC48.out
          clear HC48
          replace H := Option.bind_eq_some_iff.mp H
          obtain ⟨t115, A520, H⟩ := H
          (try dsimp only at H)
          have A52 := Aside0.mk A520
          clear A520
          by_cases c53 : t115 = true
          rotate_left
          ·replace c53 := Bool.eq_false_iff.mpr c53
           subst c53
           have H1 : (af_.j3 k3 l0_3 (l0_3.length : Int) x65_3 true a0_0 a0_1 l0_2 l0_3 ((aA_ l0_3 x65_3).f0) ((aA_ l0_3 x65_3).f1)) = some r := by rw [if_neg (show ¬ (false = true) by decide)] at H; exact H
           clear H
           have H := H1
           clear H1
           have H' := Aside0.mk H
           clear H
           try go_wp2
           have n0_ : Aside0 (((w49.setCell ⟨gb114, 0, none⟩ (.string ((aA_ l0_3 x65_3).f0))).setCell ⟨gb114, 1, none⟩ (.slice A113_1 ((aA_ l0_3 x65_3).f1).length c113_1)).heap[gb101]? = some (.cells #[.int .i64 a0_0, .int .i64 a0_1, .slice A0_2 l0_2.length c0_2, .slice (some ad113) l0_3.length c0_3] 37 (0, 0))) := ⟨by exact kf (kf (kz BK101.out) NB101_114.out) NB101_114.out⟩
           have n1_ : Aside0 (((w49.setCell ⟨gb114, 0, none⟩ (.string ((aA_ l0_3 x65_3).f0))).setCell ⟨gb114, 1, none⟩ (.slice A113_1 ((aA_ l0_3 x65_3).f1).length c113_1)).heap[gb114]? = some (.cells #[.string ((aA_ l0_3 x65_3).f0), .slice A113_1 ((aA_ l0_3 x65_3).f1).length c113_1] 85 (0, 0))) := ⟨by exact kj2_1 (kj2_0 (kz BK114.out))⟩
           have n2_ : Aside0 (Below w.heap.size w ((w49.setCell ⟨gb114, 0, none⟩ (.string ((aA_ l0_3 x65_3).f0))).setCell ⟨gb114, 1, none⟩ (.slice A113_1 ((aA_ l0_3 x65_3).f1).length c113_1))) := ⟨bq⟩
           (try clear BK101)
           (try clear BK114)
           (try clear HB)
           generalize ((w49.setCell ⟨gb114, 0, none⟩ (.string ((aA_ l0_3 x65_3).f0))).setCell ⟨gb114, 1, none⟩ (.slice A113_1 ((aA_ l0_3 x65_3).f1).length c113_1)) = w62 at n0_ n1_ n2_ ⊢
           have BK101 := n0_
           have BK114 := n1_
           have HB := n2_
           clear n0_ n1_ n2_
           have n0_ := Aside0.mk (av_ BK101.out)
           have n1_ := Aside0.mk (av_ BK114.out)
           have n2_ := Aside0.mk (bD_ HB.out)
           clear BK101
           clear BK114
           clear HB
           have BK101 := n0_
           have BK114 := n1_
           have HB := n2_
           clear n0_ n1_ n2_
           refine cl_ (n := 20) (S := fun w' => w'.cell? ⟨gb114, 0, none⟩ = some (.string ((aA_ l0_3 x65_3).f0)) ∧ w'.cell? ⟨gb114, 1, none⟩ = some (.slice A113_1 ((aA_ l0_3 x65_3).f1).length c113_1)) (ds := []) #[f_,f_,f_,f_,f_,f_,f_,f_,f_,f_,f_,f_,f_,f_,f_,f_,f_,f_,f_,f_] (by kernel_rfl) rfl rfl ⟨(ac_ BK114.out 0).trans rfl, (ac_ BK114.out 1).trans rfl⟩ (fun hHeld => ?_); refine bo_ af_.tab12 af_.bits12 (fun HT_ HW_ => ?_)
           generalize w62.drew = w63 at BK101 BK114 HB hHeld ⊢
           refine pu 0 70 #[t_,f_,f_,f_,f_,f_,f_,f_,f_,f_,f_,f_,f_,f_,f_,f_,f_,f_,f_,f_] HT_ ?_
           refine tk 1 71 #[t_,t_,f_,f_,f_,f_,f_,f_,f_,f_,f_,f_,f_,f_,f_,f_,f_,f_,f_,f_] HT_ HW_ hHeld ?_ (hv := by rintro w' ⟨s0, s1⟩; go_simp; with_reducible rfl)
           refine one_ (i := 2) (N := some 72) #[t_,t_,t_,f_,f_,f_,f_,f_,f_,f_,f_,f_,f_,f_,f_,f_,f_,f_,f_,f_] rfl rfl (bh_ HT_.out (by kernel_rfl)) (by decide) (fun K hK => ?_)
           (first | refine goes_ Try.func53 (by kernel_rfl) rfl #[.string ((aA_ l0_3 x65_3).f0)] (by rfl) rfl rfl (by first | rfl | (simp only [lma_, lmc_, lmn_]; first | done | rfl)) ?_ | refine RPW.by_ Try.func53 (by kernel_rfl) rfl #[.string ((aA_ l0_3 x65_3).f0)] (by rfl) rfl rfl rfl (by first | rfl | (simp only [lma_, lmc_, lmn_]; first | done | rfl)) ?_ | refine RPW.bz_ Try.func53 (by kernel_rfl) rfl #[.string ((aA_ l0_3 x65_3).f0)] (by rfl) rfl rfl rfl (by first | rfl | (simp only [lma_, lmc_, lmn_]; first | done | rfl)) ?_)
           with_reducible refine (aI_.calls k3 ((aA_ l0_3 x65_3).f0) false _ A52.out).mono ?_
           rintro e w' ⟨rfl, ⟨nd, rfl⟩⟩
           refine ⟨_, rfl, ?_⟩
           refine hK.out _ _ ⟨(ac_ BK114.out 0).trans rfl, (ac_ BK114.out 1).trans rfl⟩ (fun hHeld => ?_)
           clear hK K
           refine norm_ (a' := ?_) ?_ ?_
           rotate_left
           ·show Act.put _ (some 72) _ = _
            simp only [Act.put, lsa_, ls0_, ls1_, i64_w, i32_w]
            rfl
           refine pu 3 73 #[t_,t_,t_,t_,f_,f_,f_,f_,f_,f_,f_,f_,f_,f_,f_,f_,f_,f_,f_,f_] HT_ ?_
           refine pu 4 74 #[t_,t_,t_,t_,t_,f_,f_,f_,f_,f_,f_,f_,f_,f_,f_,f_,f_,f_,f_,f_] HT_ ?_
           refine pn 5 75 #[t_,t_,t_,t_,t_,t_,f_,f_,f_,f_,f_,f_,f_,f_,f_,f_,f_,f_,f_,f_] HT_ ?_
           refine pn 6 76 #[t_,t_,t_,t_,t_,t_,t_,f_,f_,f_,f_,f_,f_,f_,f_,f_,f_,f_,f_,f_] HT_ ?_
           refine pn 7 77 #[t_,t_,t_,t_,t_,t_,t_,t_,f_,f_,f_,f_,f_,f_,f_,f_,f_,f_,f_,f_] HT_ ?_
           refine pn 8 78 #[t_,t_,t_,t_,t_,t_,t_,t_,t_,f_,f_,f_,f_,f_,f_,f_,f_,f_,f_,f_] HT_ ?_
           refine pn 9 79 #[t_,t_,t_,t_,t_,t_,t_,t_,t_,t_,f_,f_,f_,f_,f_,f_,f_,f_,f_,f_] HT_ ?_
           refine pn 10 80 #[t_,t_,t_,t_,t_,t_,t_,t_,t_,t_,t_,f_,f_,f_,f_,f_,f_,f_,f_,f_] HT_ ?_
           refine pn 11 81 #[t_,t_,t_,t_,t_,t_,t_,t_,t_,t_,t_,t_,f_,f_,f_,f_,f_,f_,f_,f_] HT_ ?_
           refine pn 12 82 #[t_,t_,t_,t_,t_,t_,t_,t_,t_,t_,t_,t_,t_,f_,f_,f_,f_,f_,f_,f_] HT_ ?_
           refine pn 13 83 #[t_,t_,t_,t_,t_,t_,t_,t_,t_,t_,t_,t_,t_,t_,f_,f_,f_,f_,f_,f_] HT_ ?_
           refine pn 14 84 #[t_,t_,t_,t_,t_,t_,t_,t_,t_,t_,t_,t_,t_,t_,t_,f_,f_,f_,f_,f_] HT_ ?_
           refine pn 15 85 #[t_,t_,t_,t_,t_,t_,t_,t_,t_,t_,t_,t_,t_,t_,t_,t_,f_,f_,f_,f_] HT_ ?_
           refine pn 16 86 #[t_,t_,t_,t_,t_,t_,t_,t_,t_,t_,t_,t_,t_,t_,t_,t_,t_,f_,f_,f_] HT_ ?_
           refine pn 17 87 #[t_,t_,t_,t_,t_,t_,t_,t_,t_,t_,t_,t_,t_,t_,t_,t_,t_,t_,f_,f_] HT_ ?_
           refine pn 18 88 #[t_,t_,t_,t_,t_,t_,t_,t_,t_,t_,t_,t_,t_,t_,t_,t_,t_,t_,t_,f_] HT_ ?_
           refine pu 19 89 #[t_,t_,t_,t_,t_,t_,t_,t_,t_,t_,t_,t_,t_,t_,t_,t_,t_,t_,t_,t_] HT_ ?_
           refine done_ (bS_ HT_.out (by kernel_rfl)) ?_
           try go_wp2
           go_meet
           case rel => exact ⟨_, (true), (by first | rfl | (simp; done) | (simp [*]; done)), H', ⟨by have := HJ1.out; have := HK2.out; have := HK3.out; first | omega | exact Nat.le_refl _⟩, ⟨by (with_reducible repeat (first | refine aL_ ?_ _ | refine av_ ?_ | refine aM_ ?_ _)); exact BK101.out⟩, ⟨by (with_reducible repeat (first | refine aL_ ?_ _ | refine av_ ?_ | refine aM_ ?_ _)); exact BK114.out⟩, ⟨bq⟩⟩
          subst c53
          have H1 : (if x65_3 > 0 then (if 0 ≤ (wrap64 (x65_3 - 1)) then (if (wrap64 (x65_3 - 1)) < (l0_3.length : Int) then (af_.j3 k3 l0_3 (l0_3.length : Int) x65_3 (!(Op.bytesLess (((aA_ l0_3 (wrap64 (x65_3 - 1))).f0).toList) (((aA_ l0_3 x65_3).f0).toList))) a0_0 a0_1 l0_2 l0_3 ((aA_ l0_3 x65_3).f0) ((aA_ l0_3 x65_3).f1)) else (none)) else (none)) else (af_.j3 k3 l0_3 (l0_3.length : Int) x65_3 false a0_0 a0_1 l0_2 l0_3 ((aA_ l0_3 x65_3).f0) ((aA_ l0_3 x65_3).f1))) = some r := by rw [if_pos rfl] at H; exact H
          clear H
          have H := H1
          clear H1
          by_cases c54 : x65_3 > 0
          rotate_left
          ·rw [if_neg c54] at H
           have c54b0 : decide (0 < x65_3) = false := decide_eq_false c54
           clear c54
           (first | rw [c54b0] | (simp only [i64_w, i32_w]; rw [c54b0]) | (simp only [c54b1, Bool.not_true, Bool.not_false]) | (simp only [c54b0, Bool.not_true, Bool.not_false]) | skip)
           have H' := Aside0.mk H
           clear H
           try go_wp2
           have n0_ : Aside0 (((w49.setCell ⟨gb114, 0, none⟩ (.string ((aA_ l0_3 x65_3).f0))).setCell ⟨gb114, 1, none⟩ (.slice A113_1 ((aA_ l0_3 x65_3).f1).length c113_1)).heap[gb101]? = some (.cells #[.int .i64 a0_0, .int .i64 a0_1, .slice A0_2 l0_2.length c0_2, .slice (some ad113) l0_3.length c0_3] 37 (0, 0))) := ⟨by exact kf (kf (kz BK101.out) NB101_114.out) NB101_114.out⟩
           have n1_ : Aside0 (((w49.setCell ⟨gb114, 0, none⟩ (.string ((aA_ l0_3 x65_3).f0))).setCell ⟨gb114, 1, none⟩ (.slice A113_1 ((aA_ l0_3 x65_3).f1).length c113_1)).heap[gb114]? = some (.cells #[.string ((aA_ l0_3 x65_3).f0), .slice A113_1 ((aA_ l0_3 x65_3).f1).length c113_1] 85 (0, 0))) := ⟨by exact kj2_1 (kj2_0 (kz BK114.out))⟩
           have n2_ : Aside0 (Below w.heap.size w ((w49.setCell ⟨gb114, 0, none⟩ (.string ((aA_ l0_3 x65_3).f0))).setCell ⟨gb114, 1, none⟩ (.slice A113_1 ((aA_ l0_3 x65_3).f1).length c113_1))) := ⟨bq⟩
           (try clear BK101)
           (try clear BK114)
           (try clear HB)
           generalize ((w49.setCell ⟨gb114, 0, none⟩ (.string ((aA_ l0_3 x65_3).f0))).setCell ⟨gb114, 1, none⟩ (.slice A113_1 ((aA_ l0_3 x65_3).f1).length c113_1)) = w60 at n0_ n1_ n2_ ⊢
           have BK101 := n0_
           have BK114 := n1_
           have HB := n2_
           clear n0_ n1_ n2_
           have n0_ := Aside0.mk (av_ BK101.out)
           have n1_ := Aside0.mk (av_ BK114.out)
           have n2_ := Aside0.mk (bD_ HB.out)
           clear BK101
           clear BK114
           clear HB
           have BK101 := n0_
           have BK114 := n1_
           have HB := n2_
           clear n0_ n1_ n2_
           refine cl_ (n := 20) (S := fun w' => w'.cell? ⟨gb114, 0, none⟩ = some (.string ((aA_ l0_3 x65_3).f0)) ∧ w'.cell? ⟨gb114, 1, none⟩ = some (.slice A113_1 ((aA_ l0_3 x65_3).f1).length c113_1)) (ds := []) #[f_,f_,f_,f_,f_,f_,f_,f_,f_,f_,f_,f_,f_,f_,f_,f_,f_,f_,f_,f_] (by kernel_rfl) rfl rfl ⟨(ac_ BK114.out 0).trans rfl, (ac_ BK114.out 1).trans rfl⟩ (fun hHeld => ?_); refine bo_ af_.tab12 af_.bits12 (fun HT_ HW_ => ?_)
           generalize w60.drew = w61 at BK101 BK114 HB hHeld ⊢
           refine pu 0 70 #[t_,f_,f_,f_,f_,f_,f_,f_,f_,f_,f_,f_,f_,f_,f_,f_,f_,f_,f_,f_] HT_ ?_
           refine tk 1 71 #[t_,t_,f_,f_,f_,f_,f_,f_,f_,f_,f_,f_,f_,f_,f_,f_,f_,f_,f_,f_] HT_ HW_ hHeld ?_ (hv := by rintro w' ⟨s0, s1⟩; go_simp; with_reducible rfl)
           refine one_ (i := 2) (N := some 72) #[t_,t_,t_,f_,f_,f_,f_,f_,f_,f_,f_,f_,f_,f_,f_,f_,f_,f_,f_,f_] rfl rfl (bh_ HT_.out (by kernel_rfl)) (by decide) (fun K hK => ?_)
           (first | refine goes_ Try.func53 (by kernel_rfl) rfl #[.string ((aA_ l0_3 x65_3).f0)] (by rfl) rfl rfl (by first | rfl | (simp only [lma_, lmc_, lmn_]; first | done | rfl)) ?_ | refine RPW.by_ Try.func53 (by kernel_rfl) rfl #[.string ((aA_ l0_3 x65_3).f0)] (by rfl) rfl rfl rfl (by first | rfl | (simp only [lma_, lmc_, lmn_]; first | done | rfl)) ?_ | refine RPW.bz_ Try.func53 (by kernel_rfl) rfl #[.string ((aA_ l0_3 x65_3).f0)] (by rfl) rfl rfl rfl (by first | rfl | (simp only [lma_, lmc_, lmn_]; first | done | rfl)) ?_)
           with_reducible refine (aI_.calls k3 ((aA_ l0_3 x65_3).f0) true _ A52.out).mono ?_
           rintro e w' ⟨rfl, ⟨nd, rfl⟩⟩
           refine ⟨_, rfl, ?_⟩
           refine hK.out _ _ ⟨(ac_ BK114.out 0).trans rfl, (ac_ BK114.out 1).trans rfl⟩ (fun hHeld => ?_)
           clear hK K
           refine norm_ (a' := ?_) ?_ ?_
           rotate_left
           ·show Act.put _ (some 72) _ = _
            simp only [Act.put, lsa_, ls0_, ls1_, i64_w, i32_w]
            rfl
           refine pu 3 73 #[t_,t_,t_,t_,f_,f_,f_,f_,f_,f_,f_,f_,f_,f_,f_,f_,f_,f_,f_,f_] HT_ ?_
           refine pu 4 74 #[t_,t_,t_,t_,t_,f_,f_,f_,f_,f_,f_,f_,f_,f_,f_,f_,f_,f_,f_,f_] HT_ ?_
           refine pu 5 75 #[t_,t_,t_,t_,t_,t_,f_,f_,f_,f_,f_,f_,f_,f_,f_,f_,f_,f_,f_,f_] HT_ ?_
           refine pu 6 76 #[t_,t_,t_,t_,t_,t_,t_,f_,f_,f_,f_,f_,f_,f_,f_,f_,f_,f_,f_,f_] HT_ ?_
           refine pu 7 77 #[t_,t_,t_,t_,t_,t_,t_,t_,f_,f_,f_,f_,f_,f_,f_,f_,f_,f_,f_,f_] HT_ ?_
           refine pn 8 78 #[t_,t_,t_,t_,t_,t_,t_,t_,t_,f_,f_,f_,f_,f_,f_,f_,f_,f_,f_,f_] HT_ ?_
           refine pn 9 79 #[t_,t_,t_,t_,t_,t_,t_,t_,t_,t_,f_,f_,f_,f_,f_,f_,f_,f_,f_,f_] HT_ ?_
           refine pn 10 80 #[t_,t_,t_,t_,t_,t_,t_,t_,t_,t_,t_,f_,f_,f_,f_,f_,f_,f_,f_,f_] HT_ ?_
           refine pn 11 81 #[t_,t_,t_,t_,t_,t_,t_,t_,t_,t_,t_,t_,f_,f_,f_,f_,f_,f_,f_,f_] HT_ ?_
           refine pn 12 82 #[t_,t_,t_,t_,t_,t_,t_,t_,t_,t_,t_,t_,t_,f_,f_,f_,f_,f_,f_,f_] HT_ ?_
           refine pn 13 83 #[t_,t_,t_,t_,t_,t_,t_,t_,t_,t_,t_,t_,t_,t_,f_,f_,f_,f_,f_,f_] HT_ ?_
           refine pn 14 84 #[t_,t_,t_,t_,t_,t_,t_,t_,t_,t_,t_,t_,t_,t_,t_,f_,f_,f_,f_,f_] HT_ ?_
           refine pn 15 85 #[t_,t_,t_,t_,t_,t_,t_,t_,t_,t_,t_,t_,t_,t_,t_,t_,f_,f_,f_,f_] HT_ ?_
           refine pn 16 86 #[t_,t_,t_,t_,t_,t_,t_,t_,t_,t_,t_,t_,t_,t_,t_,t_,t_,f_,f_,f_] HT_ ?_
           refine pn 17 87 #[t_,t_,t_,t_,t_,t_,t_,t_,t_,t_,t_,t_,t_,t_,t_,t_,t_,t_,f_,f_] HT_ ?_
           refine pu 18 88 #[t_,t_,t_,t_,t_,t_,t_,t_,t_,t_,t_,t_,t_,t_,t_,t_,t_,t_,t_,f_] HT_ ?_
           refine pu 19 89 #[t_,t_,t_,t_,t_,t_,t_,t_,t_,t_,t_,t_,t_,t_,t_,t_,t_,t_,t_,t_] HT_ ?_
           refine done_ (bS_ HT_.out (by kernel_rfl)) ?_
           try go_wp2
           go_meet
           case rel => exact ⟨_, (false), (by first | rfl | (simp; done) | (simp [*]; done)), H', ⟨by have := HJ1.out; have := HK2.out; have := HK3.out; first | omega | exact Nat.le_refl _⟩, ⟨by (with_reducible repeat (first | refine aL_ ?_ _ | refine av_ ?_ | refine aM_ ?_ _)); exact BK101.out⟩, ⟨by (with_reducible repeat (first | refine aL_ ?_ _ | refine av_ ?_ | refine aM_ ?_ _)); exact BK114.out⟩, ⟨bq⟩⟩
          rw [if_pos c54] at H
          have c54b0 : decide (0 < x65_3) = true := decide_eq_true c54
          clear c54
          (first | rw [c54b0] | (simp only [i64_w, i32_w]; rw [c54b0]) | (simp only [c54b1, Bool.not_true, Bool.not_false]) | (simp only [c54b0, Bool.not_true, Bool.not_false]) | skip)
          obtain ⟨ji55, hji55⟩ : ∃ j_ : Int, (wrap64 (x65_3 - 1)) = j_ := ⟨_, rfl⟩
          replace H : (if 0 ≤ (ji55) then (if (ji55) < (l0_3.length : Int) then (af_.j3 k3 l0_3 (l0_3.length : Int) x65_3 (!(Op.bytesLess (((aA_ l0_3 (ji55)).f0).toList) (((aA_ l0_3 x65_3).f0).toList))) a0_0 a0_1 l0_2 l0_3 ((aA_ l0_3 x65_3).f0) ((aA_ l0_3 x65_3).f1)) else (none)) else (none)) = some r := by first | (rw [hji55] at H; exact H) | (simp only [hji55] at H ⊢; exact H)
          (try rw [hji55] at A52)
          have hji55w : (IntKind.i64.wrap (x65_3 - 1)) = ji55 := (i64_w _).trans hji55
          by_cases c56 : 0 ≤ (ji55)
          rotate_left
          ·rw [if_neg c56] at H
           exact absurd H (by simp)
          rw [if_pos c56] at H
          have c56b0 : decide (0 ≤ (ji55)) = true := decide_eq_true c56
          clear c56
          by_cases c57 : (ji55) < (l0_3.length : Int)
          rotate_left
          ·rw [if_neg c57] at H
           exact absurd H (by simp)
          rw [if_pos c57] at H
          have c57b0 : decide ((ji55) < (l0_3.length : Int)) = true := decide_eq_true c57
          clear c57
          have H' := Aside0.mk H
          clear H
          try go_wp2
          have n0_ : Aside0 (((w49.setCell ⟨gb114, 0, none⟩ (.string ((aA_ l0_3 x65_3).f0))).setCell ⟨gb114, 1, none⟩ (.slice A113_1 ((aA_ l0_3 x65_3).f1).length c113_1)).heap[gb101]? = some (.cells #[.int .i64 a0_0, .int .i64 a0_1, .slice A0_2 l0_2.length c0_2, .slice (some ad113) l0_3.length c0_3] 37 (0, 0))) := ⟨by exact kf (kf (kz BK101.out) NB101_114.out) NB101_114.out⟩
          have n1_ : Aside0 (((w49.setCell ⟨gb114, 0, none⟩ (.string ((aA_ l0_3 x65_3).f0))).setCell ⟨gb114, 1, none⟩ (.slice A113_1 ((aA_ l0_3 x65_3).f1).length c113_1)).heap[gb114]? = some (.cells #[.string ((aA_ l0_3 x65_3).f0), .slice A113_1 ((aA_ l0_3 x65_3).f1).length c113_1] 85 (0, 0))) := ⟨by exact kj2_1 (kj2_0 (kz BK114.out))⟩
          have n2_ : Aside0 (Below w.heap.size w ((w49.setCell ⟨gb114, 0, none⟩ (.string ((aA_ l0_3 x65_3).f0))).setCell ⟨gb114, 1, none⟩ (.slice A113_1 ((aA_ l0_3 x65_3).f1).length c113_1))) := ⟨bq⟩
          (try clear BK101)
          (try clear BK114)
          (try clear HB)
          generalize ((w49.setCell ⟨gb114, 0, none⟩ (.string ((aA_ l0_3 x65_3).f0))).setCell ⟨gb114, 1, none⟩ (.slice A113_1 ((aA_ l0_3 x65_3).f1).length c113_1)) = w58 at n0_ n1_ n2_ ⊢
          have BK101 := n0_
          have BK114 := n1_
          have HB := n2_
          clear n0_ n1_ n2_
          have n0_ := Aside0.mk (av_ BK101.out)
          have n1_ := Aside0.mk (av_ BK114.out)
          have n2_ := Aside0.mk (bD_ HB.out)
          clear BK101
          clear BK114
          clear HB
          have BK101 := n0_
          have BK114 := n1_
          have HB := n2_
          clear n0_ n1_ n2_
          have p116 : 0 ≤ ((ji55) : Int) := of_decide_eq_true (by assumption)
          have q116 : (ji55) < (l0_3.length : Int) := of_decide_eq_true (by assumption)
          obtain ⟨ad116, A116_1, c116_1, e116, hx116_0, hx116_1, hl116_1, hi116_1⟩ := at_T85 HR0_3.out (ji55) p116 q116
          have hw116_1 := hx116_1
          have hw116_0 := hx116_0
          obtain rfl : ad113 = ad116 := (by injection e116)
          replace hx116_0 := bu_ HB.out hx116_0
          replace hx116_1 := bu_ HB.out hx116_1
          have HR116_1 := Aside0.mk hi116_1
          have HC116_1 := Aside0.mk hl116_1
          clear hi116_1 hl116_1
          replace p116 := eq_true p116
          replace q116 := eq_true q116
          refine cl_ (n := 20) (S := fun w' => w'.cell? ⟨gb114, 0, none⟩ = some (.string ((aA_ l0_3 x65_3).f0)) ∧ w'.cell? ⟨gb114, 1, none⟩ = some (.slice A113_1 ((aA_ l0_3 x65_3).f1).length c113_1) ∧ w'.cell? ⟨gb101, 0, none⟩ = some (.int .i64 a0_0) ∧ w'.cell? ⟨gb101, 1, none⟩ = some (.int .i64 a0_1) ∧ w'.cell? ⟨gb101, 2, none⟩ = some (.slice A0_2 l0_2.length c0_2) ∧ w'.cell? ⟨gb101, 3, none⟩ = some (.slice (some ad113) l0_3.length c0_3) ∧ w'.cell? (ad113.add (((ji55)).toNat * 2)) = some (.string ((aA_ l0_3 (ji55)).f0)) ∧ w'.cell? ⟨(ad113.add (((ji55)).toNat * 2)).block, (ad113.add (((ji55)).toNat * 2)).off + 1, none⟩ = some (.slice A116_1 ((aA_ l0_3 (ji55)).f1).length c116_1)) (ds := []) #[f_,f_,f_,f_,f_,f_,f_,f_,f_,f_,f_,f_,f_,f_,f_,f_,f_,f_,f_,f_] (by kernel_rfl) rfl rfl ⟨(ac_ BK114.out 0).trans rfl, (ac_ BK114.out 1).trans rfl, (ac_ BK101.out 0).trans rfl, (ac_ BK101.out 1).trans rfl, (ac_ BK101.out 2).trans rfl, (ac_ BK101.out 3).trans rfl, (bv_ HB.out hw116_0), (bv_ HB.out hw116_1)⟩ (fun hHeld => ?_); refine bo_ af_.tab12 af_.bits12 (fun HT_ HW_ => ?_)
          generalize w58.drew = w59 at BK101 BK114 HB HR116_1 hx116_0 hx116_1 hHeld ⊢
          refine pu 0 70 #[t_,f_,f_,f_,f_,f_,f_,f_,f_,f_,f_,f_,f_,f_,f_,f_,f_,f_,f_,f_] HT_ ?_
          refine tk 1 71 #[t_,t_,f_,f_,f_,f_,f_,f_,f_,f_,f_,f_,f_,f_,f_,f_,f_,f_,f_,f_] HT_ HW_ hHeld ?_ (hv := by rintro w' ⟨s0, s1, s2, s3, s4, s5, s6, s7⟩; go_simp; with_reducible rfl)
          refine one_ (i := 2) (N := some 72) #[t_,t_,t_,f_,f_,f_,f_,f_,f_,f_,f_,f_,f_,f_,f_,f_,f_,f_,f_,f_] rfl rfl (bh_ HT_.out (by kernel_rfl)) (by decide) (fun K hK => ?_)
          (first | refine goes_ Try.func53 (by kernel_rfl) rfl #[.string ((aA_ l0_3 x65_3).f0)] (by rfl) rfl rfl (by first | rfl | (simp only [lma_, lmc_, lmn_]; first | done | rfl)) ?_ | refine RPW.by_ Try.func53 (by kernel_rfl) rfl #[.string ((aA_ l0_3 x65_3).f0)] (by rfl) rfl rfl rfl (by first | rfl | (simp only [lma_, lmc_, lmn_]; first | done | rfl)) ?_ | refine RPW.bz_ Try.func53 (by kernel_rfl) rfl #[.string ((aA_ l0_3 x65_3).f0)] (by rfl) rfl rfl rfl (by first | rfl | (simp only [lma_, lmc_, lmn_]; first | done | rfl)) ?_)
          with_reducible refine (aI_.calls k3 ((aA_ l0_3 x65_3).f0) true _ A52.out).mono ?_
          rintro e w' ⟨rfl, ⟨nd, rfl⟩⟩
          refine ⟨_, rfl, ?_⟩
          refine hK.out _ _ ⟨(ac_ BK114.out 0).trans rfl, (ac_ BK114.out 1).trans rfl, (ac_ BK101.out 0).trans rfl, (ac_ BK101.out 1).trans rfl, (ac_ BK101.out 2).trans rfl, (ac_ BK101.out 3).trans rfl, (bv_ HB.out hw116_0), (bv_ HB.out hw116_1)⟩ (fun hHeld => ?_)
          clear hK K
          refine norm_ (a' := ?_) ?_ ?_
          rotate_left
          ·show Act.put _ (some 72) _ = _
           simp only [Act.put, lsa_, ls0_, ls1_, i64_w, i32_w]
           rfl
          refine pu 3 73 #[t_,t_,t_,t_,f_,f_,f_,f_,f_,f_,f_,f_,f_,f_,f_,f_,f_,f_,f_,f_] HT_ ?_
          refine pu 4 74 #[t_,t_,t_,t_,t_,f_,f_,f_,f_,f_,f_,f_,f_,f_,f_,f_,f_,f_,f_,f_] HT_ ?_
          refine pu 5 75 #[t_,t_,t_,t_,t_,t_,f_,f_,f_,f_,f_,f_,f_,f_,f_,f_,f_,f_,f_,f_] HT_ ?_
          refine pu 6 76 #[t_,t_,t_,t_,t_,t_,t_,f_,f_,f_,f_,f_,f_,f_,f_,f_,f_,f_,f_,f_] HT_ ?_
          refine pu 7 77 #[t_,t_,t_,t_,t_,t_,t_,t_,f_,f_,f_,f_,f_,f_,f_,f_,f_,f_,f_,f_] HT_ ?_
          refine pu 8 78 #[t_,t_,t_,t_,t_,t_,t_,t_,t_,f_,f_,f_,f_,f_,f_,f_,f_,f_,f_,f_] HT_ ?_
          refine pu 10 80 #[t_,t_,t_,t_,t_,t_,t_,t_,t_,f_,t_,f_,f_,f_,f_,f_,f_,f_,f_,f_] HT_ ?_
          refine pu 11 81 #[t_,t_,t_,t_,t_,t_,t_,t_,t_,f_,t_,t_,f_,f_,f_,f_,f_,f_,f_,f_] HT_ ?_
          refine pu 15 85 #[t_,t_,t_,t_,t_,t_,t_,t_,t_,f_,t_,t_,f_,f_,f_,t_,f_,f_,f_,f_] HT_ ?_
          refine tk 9 79 #[t_,t_,t_,t_,t_,t_,t_,t_,t_,t_,t_,t_,f_,f_,f_,t_,f_,f_,f_,f_] HT_ HW_ hHeld ?_ (hv := by rintro w' ⟨s0, s1, s2, s3, s4, s5, s6, s7⟩; go_simp; with_reducible rfl)
          refine pu 12 82 #[t_,t_,t_,t_,t_,t_,t_,t_,t_,t_,t_,t_,t_,f_,f_,t_,f_,f_,f_,f_] HT_ ?_
          refine pu 13 83 #[t_,t_,t_,t_,t_,t_,t_,t_,t_,t_,t_,t_,t_,t_,f_,t_,f_,f_,f_,f_] HT_ ?_
          refine tk 14 84 #[t_,t_,t_,t_,t_,t_,t_,t_,t_,t_,t_,t_,t_,t_,t_,t_,f_,f_,f_,f_] HT_ HW_ hHeld ?_ (hv := by rintro w' ⟨s0, s1, s2, s3, s4, s5, s6, s7⟩; go_simp; with_reducible rfl)
          refine tk 16 86 #[t_,t_,t_,t_,t_,t_,t_,t_,t_,t_,t_,t_,t_,t_,t_,t_,t_,f_,f_,f_] HT_ HW_ hHeld ?_ (hv := by rintro w' ⟨s0, s1, s2, s3, s4, s5, s6, s7⟩; go_simp; with_reducible rfl)
          refine pu 17 87 #[t_,t_,t_,t_,t_,t_,t_,t_,t_,t_,t_,t_,t_,t_,t_,t_,t_,t_,f_,f_] HT_ ?_
          refine pu 18 88 #[t_,t_,t_,t_,t_,t_,t_,t_,t_,t_,t_,t_,t_,t_,t_,t_,t_,t_,t_,f_] HT_ ?_
          refine pu 19 89 #[t_,t_,t_,t_,t_,t_,t_,t_,t_,t_,t_,t_,t_,t_,t_,t_,t_,t_,t_,t_] HT_ ?_
          refine done_ (bS_ HT_.out (by kernel_rfl)) ?_
          try go_wp2
          go_meet
          case rel => exact ⟨_, (!(Op.bytesLess (((aA_ l0_3 (ji55)).f0).toList) (((aA_ l0_3 x65_3).f0).toList))), (by first | rfl | (simp; done) | (simp only [← hji55] <;> (first | rfl | simp)) | (simp [*]; done)), H', ⟨by have := HJ1.out; have := HK2.out; have := HK3.out; first | omega | exact Nat.le_refl _⟩, ⟨by (with_reducible repeat (first | refine aL_ ?_ _ | refine av_ ?_ | refine aM_ ?_ _)); exact BK101.out⟩, ⟨by (with_reducible repeat (first | refine aL_ ?_ _ | refine av_ ?_ | refine aM_ ?_ _)); exact BK114.out⟩, ⟨bq⟩⟩
         case rest =>
          clear HC48
          obtain ⟨kq, x89_47, rfl, HA, HJ47, BK101, BK114, HB⟩ := hcut
          cases kq with
          | zero => exact absurd HA.out (by simp [af_.j3])
          | succ kj47 =>
           have H := HA.out
           clear HA
           simp only [af_.j3] at H
           by_cases c64 : x89_47 = true
           rotate_left
           ·replace c64 := Bool.eq_false_iff.mpr c64
            subst c64
            have H1 : ((aQ_.f kj47 l0_2 ((aA_ l0_3 x65_3).f1)).bind fun bt117 => (if bt117.2 = true then ((ag_.f kj47 bt117.1).bind fun t121 => (if t121 = true then (af_.l1 kj47 l0_3 (l0_3.length : Int) (wrap64 (x65_3 + 1)) a0_0 a0_1 l0_2 l0_3) else (some false))) else (some false))) = some r := by rw [if_neg (show ¬ (false = true) by decide)] at H; exact H
            clear H
            have H := H1
            clear H1
            replace H := Option.bind_eq_some_iff.mp H
            obtain ⟨⟨t117, t118⟩, A650, H⟩ := H
            (try dsimp only at H)
            have A65 := Aside0.mk A650
            clear A650
            by_cases c66 : t118 = true
            rotate_left
            ·replace c66 := Bool.eq_false_iff.mpr c66
             subst c66
             have H1 : (some false) = some r := by rw [if_neg (show ¬ (false = true) by decide)] at H; exact H
             clear H
             have H := H1
             clear H1
             obtain rfl := Option.some.inj H
             have hnb76 := NB101_114.out
             have hnc76 := NB114_101.out
             obtain ⟨hcz77_0, hcz77_1, hcz77_2, hcz77_3⟩ := cz4_ BK101.out
             obtain ⟨hfz77_0, hfz77_1, hfz77_2, hfz77_3⟩ := fz4_ BK101.out
             obtain ⟨hcz78_0, hcz78_1⟩ := cz2_ BK114.out
             obtain ⟨hfz78_0, hfz78_1⟩ := fz2_ BK114.out
             go_wp2_with (first | ((with_reducible refine an_ (f := 40) rfl ?_); refine aU_ (some 95) rfl rfl Try.func40 (by kernel_rfl) rfl #[.slice A0_2 l0_2.length c0_2, .slice A113_1 ((aA_ l0_3 x65_3).f1).length c113_1] rfl (by first | rfl | (simp only [lma_, lmc_, lmn_]; first | done | rfl)) ?_; (with_reducible refine (aQ_.calls kj47 _ _ l0_2 _ _ ((aA_ l0_3 x65_3).f1) t117 false _ ?side1 ?side2 ?side3 ?side4 A65.out).mono ?_); (case side1 => exact cz (Kd.aF_ HR0_2.out HB.out)); (case side2 => exact HC0_2.out); (case side3 => exact cz (Kd.aF_ HR113_1.out HB.out)); (case side4 => exact HC113_1.out); rintro e w79 ⟨v119, rfl, ho0, hb⟩; refine ⟨_, rfl, ?_⟩; have HO120 := Aside0.mk (Kd.bq_ ho0 (ae_ (bq))); replace BK101 := Aside0.mk (aa_ (kz BK101.out) hb); replace BK114 := Aside0.mk (aa_ (kz BK114.out) hb); replace HB := Aside0.mk (ad_ (bq) hb); (try clear hb); (try clear ho0)))
             go_ret
             exact ⟨by first | rfl | (simp [*, ah_, ai_] <;> rfl), bq⟩
            subst c66
            have H1 : ((ag_.f kj47 t117).bind fun t121 => (if t121 = true then (af_.l1 kj47 l0_3 (l0_3.length : Int) (wrap64 (x65_3 + 1)) a0_0 a0_1 l0_2 l0_3) else (some false))) = some r := by rw [if_pos rfl] at H; exact H
            clear H
            have H := H1
            clear H1
            replace H := Option.bind_eq_some_iff.mp H
            obtain ⟨t121, A670, H⟩ := H
            (try dsimp only at H)
            have A67 := Aside0.mk A670
            clear A670
            have HC68 := Aside0.mk H
            clear H
            have hnb69 := NB101_114.out
            have hnc69 := NB114_101.out
            obtain ⟨hcz70_0, hcz70_1, hcz70_2, hcz70_3⟩ := cz4_ BK101.out
            obtain ⟨hfz70_0, hfz70_1, hfz70_2, hfz70_3⟩ := fz4_ BK101.out
            obtain ⟨hcz71_0, hcz71_1⟩ := cz2_ BK114.out
            obtain ⟨hfz71_0, hfz71_1⟩ := fz2_ BK114.out
            go_upto_if 104 with (first | ((with_reducible refine an_ (f := 40) rfl ?_); refine aU_ (some 95) rfl rfl Try.func40 (by kernel_rfl) rfl #[.slice A0_2 l0_2.length c0_2, .slice A113_1 ((aA_ l0_3 x65_3).f1).length c113_1] rfl (by first | rfl | (simp only [lma_, lmc_, lmn_]; first | done | rfl)) ?_; (with_reducible refine (aQ_.calls kj47 _ _ l0_2 _ _ ((aA_ l0_3 x65_3).f1) t117 true _ ?side1 ?side2 ?side3 ?side4 A65.out).mono ?_); (case side1 => exact cz (Kd.aF_ HR0_2.out HB.out)); (case side2 => exact HC0_2.out); (case side3 => exact cz (Kd.aF_ HR113_1.out HB.out)); (case side4 => exact HC113_1.out); rintro e w72 ⟨v119, rfl, ho0, hb⟩; refine ⟨_, rfl, ?_⟩; have HO120 := Aside0.mk (Kd.bq_ ho0 (ae_ (bq))); replace BK101 := Aside0.mk (aa_ (kz BK101.out) hb); replace BK114 := Aside0.mk (aa_ (kz BK114.out) hb); replace HB := Aside0.mk (ad_ (bq) hb); (try clear hb); (try clear ho0); obtain ⟨Ao73, co73, eo73⟩ := Kd.bR_ HO120.out; subst eo73) | (go_at_call 54; (with_reducible refine (ag_.calls kj47 _ _ t117 t121 _ ?side1 ?side2 A67.out).mono ?_); (case side1 => exact cz (Kd.aV_ HO120.out).2.2); (case side2 => exact (Kd.aV_ HO120.out).2.1); rintro e w74 ⟨rfl, hb⟩; replace HO120 := Aside0.mk (Kd.bM_ (rz HO120.out) hb); replace BK101 := Aside0.mk (aa_ (kz BK101.out) hb); replace BK114 := Aside0.mk (aa_ (kz BK114.out) hb); replace HB := Aside0.mk (ad_ (bq) hb); (try clear hb)))
            (try simp only [Act.put, lsa_, ls0_, ls1_])
            have H := HC68.out
            clear HC68
            by_cases c75 : t121 = true
            rotate_left
            ·replace c75 := Bool.eq_false_iff.mpr c75
             subst c75
             have H1 : (some false) = some r := by rw [if_neg (show ¬ (false = true) by decide)] at H; exact H
             clear H
             have H := H1
             clear H1
             obtain rfl := Option.some.inj H
             go_wp2
             go_ret
             exact ⟨by first | rfl | (simp [*, ah_, ai_] <;> rfl), bq⟩
            subst c75
            have H1 : (af_.l1 kj47 l0_3 (l0_3.length : Int) (wrap64 (x65_3 + 1)) a0_0 a0_1 l0_2 l0_3) = some r := by rw [if_pos rfl] at H; exact H
            clear H
            have H := H1
            clear H1
            have H' := Aside0.mk H
            clear H
            go_wp2
            go_roundg kj47
            case measure => have := HJ1.out; have := HK2.out; have := HK3.out; have := HJ47.out; omega
            case rel => exact ⟨(wrap64 (x65_3 + 1)), (by first | rfl | (simp; done) | (simp [*]; done)), H', ⟨by have := HJ1.out; have := HK2.out; have := HK3.out; have := HJ47.out; omega⟩, ⟨by (with_reducible repeat (first | refine aL_ ?_ _ | refine av_ ?_ | refine aM_ ?_ _)); exact BK101.out⟩, ⟨bq⟩⟩
           subst c64
           have H1 : (some false) = some r := by rw [if_pos rfl] at H; exact H
           clear H
           have H := H1
           clear H1
           obtain rfl := Option.some.inj H
           go_wp2
           go_ret
           exact ⟨by first | rfl | (simp [*, ah_, ai_] <;> rfl), bq⟩
      rw [if_pos c15] at H
      have c15b0 : decide (x34_2 < (l0_2.length : Int)) = true := decide_eq_true c15
      clear c15
      by_cases c16 : 0 ≤ x34_2
      rotate_left
      ·rw [if_neg c16] at H
       exact absurd H (by simp)
      rw [if_pos c16] at H
      have c16b0 : decide (0 ≤ x34_2) = true := decide_eq_true c16
      clear c16
      by_cases c17 : x34_2 < (l0_2.length : Int)
      rotate_left
      ·rw [if_neg c17] at H
       exact absurd H (by simp)
      rw [if_pos c17] at H
      have c17b0 : decide (x34_2 < (l0_2.length : Int)) = true := decide_eq_true c17
      clear c17
      replace H := Option.bind_eq_some_iff.mp H
      obtain ⟨t106, A180, H⟩ := H
      (try dsimp only at H)
      have A18 := Aside0.mk A180
      clear A180
      by_cases c19 : t106 = true
      rotate_left
      ·replace c19 := Bool.eq_false_iff.mpr c19
       subst c19
       have H1 : (some false) = some r := by rw [if_neg (show ¬ (false = true) by decide)] at H; exact H
       clear H
       have H := H1
       clear H1
       obtain rfl := Option.some.inj H
       have p104 : 0 ≤ (x34_2 : Int) := of_decide_eq_true (by assumption)
       have q104 : x34_2 < (l0_2.length : Int) := of_decide_eq_true (by assumption)
       obtain ⟨ad104, e104, hx104_0, hx104_1⟩ := bX_ HR0_2.out x34_2 p104 q104
       cases e104
       replace hx104_0 := bu_ HB.out hx104_0
       replace hx104_1 := bu_ HB.out hx104_1
       replace p104 := eq_true p104
       replace q104 := eq_true q104
       try go_wp2_with (first | ((with_reducible refine al_ (N := 4) rfl ?_); (try (refine bT_ (by rfl) ?_; dsimp only)); refine ak_ ?hg (N := 4) ?hd (cs := #[.int .i64 0, .int .i64 0]) (t := 81) ?hr ?_; (case hd => rfl); (case hg => rfl); (case hr => (go_simp; try rfl)); intro gb105 hg w39 hbox hb; have BK105 := Aside0.mk (hbox); have GW105 := Aside0.mk ((by rw [hg]; exact (ae_ (bq)) : w.heap.size ≤ gb105)); have GE105 := GW105; replace HB := Aside0.mk (ad_ (bq) hb); have NB101_105 := Aside0.mk ((by rw [hg]; exact Nat.ne_of_lt (aj_ (kz BK101.out)) : gb101 ≠ gb105)); have NB105_101 := Aside0.mk ((by rw [hg]; exact Nat.ne_of_gt (aj_ (kz BK101.out)) : gb105 ≠ gb101)); replace BK101 := Aside0.mk (aa_ (kz BK101.out) hb); clear hb hbox hg; have hnb40 := NB105_101.out; have hnc40 := NB101_105.out; obtain ⟨hcz41_0, hcz41_1⟩ := cz2_ BK105.out; obtain ⟨hfz41_0, hfz41_1⟩ := fz2_ BK105.out))
       have n0_ : Aside0 (((w39.setCell ⟨gb105, 0, none⟩ (.int .i64 ((ab_ l0_2 x34_2).f0))).setCell ⟨gb105, 1, none⟩ (.int .i64 ((ab_ l0_2 x34_2).f1))).heap[gb101]? = some (.cells #[.int .i64 a0_0, .int .i64 a0_1, .slice (some ad104) l0_2.length c0_2, .slice A0_3 l0_3.length c0_3] 37 (0, 0))) := ⟨by exact kf (kf (kz BK101.out) NB101_105.out) NB101_105.out⟩
       have n1_ : Aside0 (((w39.setCell ⟨gb105, 0, none⟩ (.int .i64 ((ab_ l0_2 x34_2).f0))).setCell ⟨gb105, 1, none⟩ (.int .i64 ((ab_ l0_2 x34_2).f1))).heap[gb105]? = some (.cells #[.int .i64 ((ab_ l0_2 x34_2).f0), .int .i64 ((ab_ l0_2 x34_2).f1)] 81 (0, 0))) := ⟨by exact kj2_1 (kj2_0 (kz BK105.out))⟩
       have n2_ : Aside0 (Below w.heap.size w ((w39.setCell ⟨gb105, 0, none⟩ (.int .i64 ((ab_ l0_2 x34_2).f0))).setCell ⟨gb105, 1, none⟩ (.int .i64 ((ab_ l0_2 x34_2).f1)))) := ⟨bq⟩
       (try clear BK101)
       (try clear BK105)
       (try clear HB)
       generalize ((w39.setCell ⟨gb105, 0, none⟩ (.int .i64 ((ab_ l0_2 x34_2).f0))).setCell ⟨gb105, 1, none⟩ (.int .i64 ((ab_ l0_2 x34_2).f1))) = w42 at n0_ n1_ n2_ ⊢
       have BK101 := n0_
       have BK105 := n1_
       have HB := n2_
       clear n0_ n1_ n2_
       have n0_ := Aside0.mk (av_ BK101.out)
       have n1_ := Aside0.mk (av_ BK105.out)
       have n2_ := Aside0.mk (bD_ HB.out)
       clear BK101
       clear BK105
       clear HB
       have BK101 := n0_
       have BK105 := n1_
       have HB := n2_
       clear n0_ n1_ n2_
       refine cl_ (n := 22) (S := fun w' => w'.cell? ⟨gb105, 0, none⟩ = some (.int .i64 ((ab_ l0_2 x34_2).f0)) ∧ w'.cell? ⟨gb105, 1, none⟩ = some (.int .i64 ((ab_ l0_2 x34_2).f1)) ∧ w'.cell? ⟨gb101, 0, none⟩ = some (.int .i64 a0_0) ∧ w'.cell? ⟨gb101, 1, none⟩ = some (.int .i64 a0_1) ∧ w'.cell? ⟨gb101, 2, none⟩ = some (.slice (some ad104) l0_2.length c0_2) ∧ w'.cell? ⟨gb101, 3, none⟩ = some (.slice A0_3 l0_3.length c0_3)) (ds := []) #[f_,f_,f_,f_,f_,f_,f_,f_,f_,f_,f_,f_,f_,f_,f_,f_,f_,f_,f_,f_,f_,f_] (by kernel_rfl) rfl rfl ⟨(ac_ BK105.out 0).trans rfl, (ac_ BK105.out 1).trans rfl, (ac_ BK101.out 0).trans rfl, (ac_ BK101.out 1).trans rfl, (ac_ BK101.out 2).trans rfl, (ac_ BK101.out 3).trans rfl⟩ (fun hHeld => ?_); refine bo_ af_.tab6 af_.bits6 (fun HT_ HW_ => ?_)
       generalize w42.drew = w43 at BK101 BK105 HB hHeld ⊢
       refine pu 0 39 #[t_,f_,f_,f_,f_,f_,f_,f_,f_,f_,f_,f_,f_,f_,f_,f_,f_,f_,f_,f_,f_,f_] HT_ ?_
       refine pu 2 41 #[t_,f_,t_,f_,f_,f_,f_,f_,f_,f_,f_,f_,f_,f_,f_,f_,f_,f_,f_,f_,f_,f_] HT_ ?_
       refine tk 1 40 #[t_,t_,t_,f_,f_,f_,f_,f_,f_,f_,f_,f_,f_,f_,f_,f_,f_,f_,f_,f_,f_,f_] HT_ HW_ hHeld ?_ (hv := by rintro w' ⟨s0, s1, s2, s3, s4, s5⟩; go_simp; with_reducible rfl)
       refine tk 3 42 #[t_,t_,t_,t_,f_,f_,f_,f_,f_,f_,f_,f_,f_,f_,f_,f_,f_,f_,f_,f_,f_,f_] HT_ HW_ hHeld ?_ (hv := by rintro w' ⟨s0, s1, s2, s3, s4, s5⟩; go_simp; with_reducible rfl)
       refine one_ (i := 4) (N := some 43) #[t_,t_,t_,t_,t_,f_,f_,f_,f_,f_,f_,f_,f_,f_,f_,f_,f_,f_,f_,f_,f_,f_] rfl rfl (bh_ HT_.out (by kernel_rfl)) (by decide) (fun K hK => ?_)
       (first | refine goes_ Try.func39 (by kernel_rfl) rfl #[.int .i64 ((ab_ l0_2 x34_2).f0), .int .i64 0, .int .i64 a0_0] (by rfl) rfl rfl (by first | rfl | (simp only [lma_, lmc_, lmn_]; first | done | rfl)) ?_ | refine RPW.by_ Try.func39 (by kernel_rfl) rfl #[.int .i64 ((ab_ l0_2 x34_2).f0), .int .i64 0, .int .i64 a0_0] (by rfl) rfl rfl rfl (by first | rfl | (simp only [lma_, lmc_, lmn_]; first | done | rfl)) ?_ | refine RPW.bz_ Try.func39 (by kernel_rfl) rfl #[.int .i64 ((ab_ l0_2 x34_2).f0), .int .i64 0, .int .i64 a0_0] (by rfl) rfl rfl rfl (by first | rfl | (simp only [lma_, lmc_, lmn_]; first | done | rfl)) ?_)
       with_reducible refine (am_.calls ((ab_ l0_2 x34_2).f0) 0 a0_0 false _ A18.out).mono ?_
       rintro e w' ⟨rfl, ⟨nd, rfl⟩⟩
       refine ⟨_, rfl, ?_⟩
       refine hK.out _ _ ⟨(ac_ BK105.out 0).trans rfl, (ac_ BK105.out 1).trans rfl, (ac_ BK101.out 0).trans rfl, (ac_ BK101.out 1).trans rfl, (ac_ BK101.out 2).trans rfl, (ac_ BK101.out 3).trans rfl⟩ (fun hHeld => ?_)
       clear hK K
       refine norm_ (a' := ?_) ?_ ?_
       rotate_left
       ·show Act.put _ (some 43) _ = _
        simp only [Act.put, lsa_, ls0_, ls1_, i64_w, i32_w]
        rfl
       refine pu 5 44 #[t_,t_,t_,t_,t_,t_,f_,f_,f_,f_,f_,f_,f_,f_,f_,f_,f_,f_,f_,f_,f_,f_] HT_ ?_
       refine pu 6 45 #[t_,t_,t_,t_,t_,t_,t_,f_,f_,f_,f_,f_,f_,f_,f_,f_,f_,f_,f_,f_,f_,f_] HT_ ?_
       refine pn 7 46 #[t_,t_,t_,t_,t_,t_,t_,t_,f_,f_,f_,f_,f_,f_,f_,f_,f_,f_,f_,f_,f_,f_] HT_ ?_
       refine pn 8 47 #[t_,t_,t_,t_,t_,t_,t_,t_,t_,f_,f_,f_,f_,f_,f_,f_,f_,f_,f_,f_,f_,f_] HT_ ?_
       refine pn 9 48 #[t_,t_,t_,t_,t_,t_,t_,t_,t_,t_,f_,f_,f_,f_,f_,f_,f_,f_,f_,f_,f_,f_] HT_ ?_
       refine pn 10 49 #[t_,t_,t_,t_,t_,t_,t_,t_,t_,t_,t_,f_,f_,f_,f_,f_,f_,f_,f_,f_,f_,f_] HT_ ?_
       refine pn 11 50 #[t_,t_,t_,t_,t_,t_,t_,t_,t_,t_,t_,t_,f_,f_,f_,f_,f_,f_,f_,f_,f_,f_] HT_ ?_
       refine pn 12 51 #[t_,t_,t_,t_,t_,t_,t_,t_,t_,t_,t_,t_,t_,f_,f_,f_,f_,f_,f_,f_,f_,f_] HT_ ?_
       refine pu 13 52 #[t_,t_,t_,t_,t_,t_,t_,t_,t_,t_,t_,t_,t_,t_,f_,f_,f_,f_,f_,f_,f_,f_] HT_ ?_
       refine pu 14 53 #[t_,t_,t_,t_,t_,t_,t_,t_,t_,t_,t_,t_,t_,t_,t_,f_,f_,f_,f_,f_,f_,f_] HT_ ?_
       refine pn 15 54 #[t_,t_,t_,t_,t_,t_,t_,t_,t_,t_,t_,t_,t_,t_,t_,t_,f_,f_,f_,f_,f_,f_] HT_ ?_
       refine pn 16 55 #[t_,t_,t_,t_,t_,t_,t_,t_,t_,t_,t_,t_,t_,t_,t_,t_,t_,f_,f_,f_,f_,f_] HT_ ?_
       refine pn 17 56 #[t_,t_,t_,t_,t_,t_,t_,t_,t_,t_,t_,t_,t_,t_,t_,t_,t_,t_,f_,f_,f_,f_] HT_ ?_
       refine pn 18 57 #[t_,t_,t_,t_,t_,t_,t_,t_,t_,t_,t_,t_,t_,t_,t_,t_,t_,t_,t_,f_,f_,f_] HT_ ?_
       refine pn 19 58 #[t_,t_,t_,t_,t_,t_,t_,t_,t_,t_,t_,t_,t_,t_,t_,t_,t_,t_,t_,t_,f_,f_] HT_ ?_
       refine pn 20 59 #[t_,t_,t_,t_,t_,t_,t_,t_,t_,t_,t_,t_,t_,t_,t_,t_,t_,t_,t_,t_,t_,f_] HT_ ?_
       refine pu 21 60 #[t_,t_,t_,t_,t_,t_,t_,t_,t_,t_,t_,t_,t_,t_,t_,t_,t_,t_,t_,t_,t_,t_] HT_ ?_
       refine done_ (bS_ HT_.out (by kernel_rfl)) ?_
       try go_wp2
       go_ret
       exact ⟨by first | rfl | (simp [*, ah_, ai_] <;> rfl), bq⟩
      subst c19
      have H1 : ((am_.f ((ab_ l0_2 x34_2).f1) 0 a0_1).bind fun t107 => (if t107 = true then (if x34_2 ≤ (l0_2.length : Int) then ((ci_.f k2 (l0_2.take (x34_2 : Int).toNat) ((ab_ l0_2 x34_2).f0) ((ab_ l0_2 x34_2).f1)).bind fun t112 => (if t112 = true then (some false) else (af_.l0 k2 l0_2 (l0_2.length : Int) (wrap64 (x34_2 + 1)) a0_0 a0_1 l0_2 l0_3))) else (none)) else (some false))) = some r := by rw [if_pos rfl] at H; exact H
      clear H
      have H := H1
      clear H1
      replace H := Option.bind_eq_some_iff.mp H
      obtain ⟨t107, A200, H⟩ := H
      (try dsimp only at H)
      have A20 := Aside0.mk A200
      clear A200
      by_cases c21 : t107 = true
      rotate_left
      ·replace c21 := Bool.eq_false_iff.mpr c21
       subst c21
       have H1 : (some false) = some r := by rw [if_neg (show ¬ (false = true) by decide)] at H; exact H
       clear H
       have H := H1
       clear H1
       obtain rfl := Option.some.inj H
       have p104 : 0 ≤ (x34_2 : Int) := of_decide_eq_true (by assumption)
       have q104 : x34_2 < (l0_2.length : Int) := of_decide_eq_true (by assumption)
       obtain ⟨ad104, e104, hx104_0, hx104_1⟩ := bX_ HR0_2.out x34_2 p104 q104
       cases e104
       replace hx104_0 := bu_ HB.out hx104_0
       replace hx104_1 := bu_ HB.out hx104_1
       replace p104 := eq_true p104
       replace q104 := eq_true q104
       try go_wp2_with (first | ((with_reducible refine al_ (N := 4) rfl ?_); (try (refine bT_ (by rfl) ?_; dsimp only)); refine ak_ ?hg (N := 4) ?hd (cs := #[.int .i64 0, .int .i64 0]) (t := 81) ?hr ?_; (case hd => rfl); (case hg => rfl); (case hr => (go_simp; try rfl)); intro gb105 hg w34 hbox hb; have BK105 := Aside0.mk (hbox); have GW105 := Aside0.mk ((by rw [hg]; exact (ae_ (bq)) : w.heap.size ≤ gb105)); have GE105 := GW105; replace HB := Aside0.mk (ad_ (bq) hb); have NB101_105 := Aside0.mk ((by rw [hg]; exact Nat.ne_of_lt (aj_ (kz BK101.out)) : gb101 ≠ gb105)); have NB105_101 := Aside0.mk ((by rw [hg]; exact Nat.ne_of_gt (aj_ (kz BK101.out)) : gb105 ≠ gb101)); replace BK101 := Aside0.mk (aa_ (kz BK101.out) hb); clear hb hbox hg; have hnb35 := NB105_101.out; have hnc35 := NB101_105.out; obtain ⟨hcz36_0, hcz36_1⟩ := cz2_ BK105.out; obtain ⟨hfz36_0, hfz36_1⟩ := fz2_ BK105.out))
       have n0_ : Aside0 (((w34.setCell ⟨gb105, 0, none⟩ (.int .i64 ((ab_ l0_2 x34_2).f0))).setCell ⟨gb105, 1, none⟩ (.int .i64 ((ab_ l0_2 x34_2).f1))).heap[gb101]? = some (.cells #[.int .i64 a0_0, .int .i64 a0_1, .slice (some ad104) l0_2.length c0_2, .slice A0_3 l0_3.length c0_3] 37 (0, 0))) := ⟨by exact kf (kf (kz BK101.out) NB101_105.out) NB101_105.out⟩
       have n1_ : Aside0 (((w34.setCell ⟨gb105, 0, none⟩ (.int .i64 ((ab_ l0_2 x34_2).f0))).setCell ⟨gb105, 1, none⟩ (.int .i64 ((ab_ l0_2 x34_2).f1))).heap[gb105]? = some (.cells #[.int .i64 ((ab_ l0_2 x34_2).f0), .int .i64 ((ab_ l0_2 x34_2).f1)] 81 (0, 0))) := ⟨by exact kj2_1 (kj2_0 (kz BK105.out))⟩
       have n2_ : Aside0 (Below w.heap.size w ((w34.setCell ⟨gb105, 0, none⟩ (.int .i64 ((ab_ l0_2 x34_2).f0))).setCell ⟨gb105, 1, none⟩ (.int .i64 ((ab_ l0_2 x34_2).f1)))) := ⟨bq⟩
       (try clear BK101)
       (try clear BK105)
       (try clear HB)
       generalize ((w34.setCell ⟨gb105, 0, none⟩ (.int .i64 ((ab_ l0_2 x34_2).f0))).setCell ⟨gb105, 1, none⟩ (.int .i64 ((ab_ l0_2 x34_2).f1))) = w37 at n0_ n1_ n2_ ⊢
       have BK101 := n0_
       have BK105 := n1_
       have HB := n2_
       clear n0_ n1_ n2_
       have n0_ := Aside0.mk (av_ BK101.out)
       have n1_ := Aside0.mk (av_ BK105.out)
       have n2_ := Aside0.mk (bD_ HB.out)
       clear BK101
       clear BK105
       clear HB
       have BK101 := n0_
       have BK105 := n1_
       have HB := n2_
       clear n0_ n1_ n2_
       refine cl_ (n := 22) (S := fun w' => w'.cell? ⟨gb105, 0, none⟩ = some (.int .i64 ((ab_ l0_2 x34_2).f0)) ∧ w'.cell? ⟨gb105, 1, none⟩ = some (.int .i64 ((ab_ l0_2 x34_2).f1)) ∧ w'.cell? ⟨gb101, 0, none⟩ = some (.int .i64 a0_0) ∧ w'.cell? ⟨gb101, 1, none⟩ = some (.int .i64 a0_1) ∧ w'.cell? ⟨gb101, 2, none⟩ = some (.slice (some ad104) l0_2.length c0_2) ∧ w'.cell? ⟨gb101, 3, none⟩ = some (.slice A0_3 l0_3.length c0_3)) (ds := []) #[f_,f_,f_,f_,f_,f_,f_,f_,f_,f_,f_,f_,f_,f_,f_,f_,f_,f_,f_,f_,f_,f_] (by kernel_rfl) rfl rfl ⟨(ac_ BK105.out 0).trans rfl, (ac_ BK105.out 1).trans rfl, (ac_ BK101.out 0).trans rfl, (ac_ BK101.out 1).trans rfl, (ac_ BK101.out 2).trans rfl, (ac_ BK101.out 3).trans rfl⟩ (fun hHeld => ?_); refine bo_ af_.tab6 af_.bits6 (fun HT_ HW_ => ?_)
       generalize w37.drew = w38 at BK101 BK105 HB hHeld ⊢
       refine pu 0 39 #[t_,f_,f_,f_,f_,f_,f_,f_,f_,f_,f_,f_,f_,f_,f_,f_,f_,f_,f_,f_,f_,f_] HT_ ?_
       refine pu 2 41 #[t_,f_,t_,f_,f_,f_,f_,f_,f_,f_,f_,f_,f_,f_,f_,f_,f_,f_,f_,f_,f_,f_] HT_ ?_
       refine tk 1 40 #[t_,t_,t_,f_,f_,f_,f_,f_,f_,f_,f_,f_,f_,f_,f_,f_,f_,f_,f_,f_,f_,f_] HT_ HW_ hHeld ?_ (hv := by rintro w' ⟨s0, s1, s2, s3, s4, s5⟩; go_simp; with_reducible rfl)
       refine tk 3 42 #[t_,t_,t_,t_,f_,f_,f_,f_,f_,f_,f_,f_,f_,f_,f_,f_,f_,f_,f_,f_,f_,f_] HT_ HW_ hHeld ?_ (hv := by rintro w' ⟨s0, s1, s2, s3, s4, s5⟩; go_simp; with_reducible rfl)
       refine one_ (i := 4) (N := some 43) #[t_,t_,t_,t_,t_,f_,f_,f_,f_,f_,f_,f_,f_,f_,f_,f_,f_,f_,f_,f_,f_,f_] rfl rfl (bh_ HT_.out (by kernel_rfl)) (by decide) (fun K hK => ?_)
       (first | refine goes_ Try.func39 (by kernel_rfl) rfl #[.int .i64 ((ab_ l0_2 x34_2).f0), .int .i64 0, .int .i64 a0_0] (by rfl) rfl rfl (by first | rfl | (simp only [lma_, lmc_, lmn_]; first | done | rfl)) ?_ | refine RPW.by_ Try.func39 (by kernel_rfl) rfl #[.int .i64 ((ab_ l0_2 x34_2).f0), .int .i64 0, .int .i64 a0_0] (by rfl) rfl rfl rfl (by first | rfl | (simp only [lma_, lmc_, lmn_]; first | done | rfl)) ?_ | refine RPW.bz_ Try.func39 (by kernel_rfl) rfl #[.int .i64 ((ab_ l0_2 x34_2).f0), .int .i64 0, .int .i64 a0_0] (by rfl) rfl rfl rfl (by first | rfl | (simp only [lma_, lmc_, lmn_]; first | done | rfl)) ?_)
       with_reducible refine (am_.calls ((ab_ l0_2 x34_2).f0) 0 a0_0 true _ A18.out).mono ?_
       rintro e w' ⟨rfl, ⟨nd, rfl⟩⟩
       refine ⟨_, rfl, ?_⟩
       refine hK.out _ _ ⟨(ac_ BK105.out 0).trans rfl, (ac_ BK105.out 1).trans rfl, (ac_ BK101.out 0).trans rfl, (ac_ BK101.out 1).trans rfl, (ac_ BK101.out 2).trans rfl, (ac_ BK101.out 3).trans rfl⟩ (fun hHeld => ?_)
       clear hK K
       refine norm_ (a' := ?_) ?_ ?_
       rotate_left
       ·show Act.put _ (some 43) _ = _
        simp only [Act.put, lsa_, ls0_, ls1_, i64_w, i32_w]
        rfl
       refine pu 5 44 #[t_,t_,t_,t_,t_,t_,f_,f_,f_,f_,f_,f_,f_,f_,f_,f_,f_,f_,f_,f_,f_,f_] HT_ ?_
       refine pu 6 45 #[t_,t_,t_,t_,t_,t_,t_,f_,f_,f_,f_,f_,f_,f_,f_,f_,f_,f_,f_,f_,f_,f_] HT_ ?_
       refine pu 7 46 #[t_,t_,t_,t_,t_,t_,t_,t_,f_,f_,f_,f_,f_,f_,f_,f_,f_,f_,f_,f_,f_,f_] HT_ ?_
       refine pu 9 48 #[t_,t_,t_,t_,t_,t_,t_,t_,f_,t_,f_,f_,f_,f_,f_,f_,f_,f_,f_,f_,f_,f_] HT_ ?_
       refine tk 8 47 #[t_,t_,t_,t_,t_,t_,t_,t_,t_,t_,f_,f_,f_,f_,f_,f_,f_,f_,f_,f_,f_,f_] HT_ HW_ hHeld ?_ (hv := by rintro w' ⟨s0, s1, s2, s3, s4, s5⟩; go_simp; with_reducible rfl)
       refine tk 10 49 #[t_,t_,t_,t_,t_,t_,t_,t_,t_,t_,t_,f_,f_,f_,f_,f_,f_,f_,f_,f_,f_,f_] HT_ HW_ hHeld ?_ (hv := by rintro w' ⟨s0, s1, s2, s3, s4, s5⟩; go_simp; with_reducible rfl)
       refine one_ (i := 11) (N := some 50) #[t_,t_,t_,t_,t_,t_,t_,t_,t_,t_,t_,t_,f_,f_,f_,f_,f_,f_,f_,f_,f_,f_] rfl rfl (bh_ HT_.out (by kernel_rfl)) (by decide) (fun K hK => ?_)
       (first | refine goes_ Try.func39 (by kernel_rfl) rfl #[.int .i64 ((ab_ l0_2 x34_2).f1), .int .i64 0, .int .i64 a0_1] (by rfl) rfl rfl (by first | rfl | (simp only [lma_, lmc_, lmn_]; first | done | rfl)) ?_ | refine RPW.by_ Try.func39 (by kernel_rfl) rfl #[.int .i64 ((ab_ l0_2 x34_2).f1), .int .i64 0, .int .i64 a0_1] (by rfl) rfl rfl rfl (by first | rfl | (simp only [lma_, lmc_, lmn_]; first | done | rfl)) ?_ | refine RPW.bz_ Try.func39 (by kernel_rfl) rfl #[.int .i64 ((ab_ l0_2 x34_2).f1), .int .i64 0, .int .i64 a0_1] (by rfl) rfl rfl rfl (by first | rfl | (simp only [lma_, lmc_, lmn_]; first | done | rfl)) ?_)
       with_reducible refine (am_.calls ((ab_ l0_2 x34_2).f1) 0 a0_1 false _ A20.out).mono ?_
       rintro e w' ⟨rfl, ⟨nd, rfl⟩⟩
       refine ⟨_, rfl, ?_⟩
       refine hK.out _ _ ⟨(ac_ BK105.out 0).trans rfl, (ac_ BK105.out 1).trans rfl, (ac_ BK101.out 0).trans rfl, (ac_ BK101.out 1).trans rfl, (ac_ BK101.out 2).trans rfl, (ac_ BK101.out 3).trans rfl⟩ (fun hHeld => ?_)
       clear hK K
       refine norm_ (a' := ?_) ?_ ?_
       rotate_left
       ·show Act.put _ (some 50) _ = _
        simp only [Act.put, lsa_, ls0_, ls1_, i64_w, i32_w]
        rfl
       refine pu 12 51 #[t_,t_,t_,t_,t_,t_,t_,t_,t_,t_,t_,t_,t_,f_,f_,f_,f_,f_,f_,f_,f_,f_] HT_ ?_
       refine pu 13 52 #[t_,t_,t_,t_,t_,t_,t_,t_,t_,t_,t_,t_,t_,t_,f_,f_,f_,f_,f_,f_,f_,f_] HT_ ?_
       refine pu 14 53 #[t_,t_,t_,t_,t_,t_,t_,t_,t_,t_,t_,t_,t_,t_,t_,f_,f_,f_,f_,f_,f_,f_] HT_ ?_
       refine pn 15 54 #[t_,t_,t_,t_,t_,t_,t_,t_,t_,t_,t_,t_,t_,t_,t_,t_,f_,f_,f_,f_,f_,f_] HT_ ?_
       refine pn 16 55 #[t_,t_,t_,t_,t_,t_,t_,t_,t_,t_,t_,t_,t_,t_,t_,t_,t_,f_,f_,f_,f_,f_] HT_ ?_
       refine pn 17 56 #[t_,t_,t_,t_,t_,t_,t_,t_,t_,t_,t_,t_,t_,t_,t_,t_,t_,t_,f_,f_,f_,f_] HT_ ?_
       refine pn 18 57 #[t_,t_,t_,t_,t_,t_,t_,t_,t_,t_,t_,t_,t_,t_,t_,t_,t_,t_,t_,f_,f_,f_] HT_ ?_
       refine pn 19 58 #[t_,t_,t_,t_,t_,t_,t_,t_,t_,t_,t_,t_,t_,t_,t_,t_,t_,t_,t_,t_,f_,f_] HT_ ?_
       refine pn 20 59 #[t_,t_,t_,t_,t_,t_,t_,t_,t_,t_,t_,t_,t_,t_,t_,t_,t_,t_,t_,t_,t_,f_] HT_ ?_
       refine pu 21 60 #[t_,t_,t_,t_,t_,t_,t_,t_,t_,t_,t_,t_,t_,t_,t_,t_,t_,t_,t_,t_,t_,t_] HT_ ?_
       refine done_ (bS_ HT_.out (by kernel_rfl)) ?_
       try go_wp2
       go_ret
       exact ⟨by first | rfl | (simp [*, ah_, ai_] <;> rfl), bq⟩
      subst c21
      have H1 : (if x34_2 ≤ (l0_2.length : Int) then ((ci_.f k2 (l0_2.take (x34_2 : Int).toNat) ((ab_ l0_2 x34_2).f0) ((ab_ l0_2 x34_2).f1)).bind fun t112 => (if t112 = true then (some false) else (af_.l0 k2 l0_2 (l0_2.length : Int) (wrap64 (x34_2 + 1)) a0_0 a0_1 l0_2 l0_3))) else (none)) = some r := by rw [if_pos rfl] at H; exact H
      clear H
      have H := H1
      clear H1
      have c22b0 := eq_true (of_decide_eq_true (by assumption) : 0 ≤ x34_2)
      by_cases c23 : x34_2 ≤ (l0_2.length : Int)
      rotate_left
      ·rw [if_neg c23] at H
       exact absurd H (by simp)
      rw [if_pos c23] at H
      have c23b0 := eq_true c23
      have c23b1 : decide (x34_2 ≤ (l0_2.length : Int)) = true := decide_eq_true c23
      clear c23
      obtain ⟨y108, hy108⟩ : ∃ y_ : List (S81), y_ = (l0_2.take (x34_2 : Int).toNat) := ⟨_, rfl⟩
      replace H : ((ci_.f k2 y108 ((ab_ l0_2 x34_2).f0) ((ab_ l0_2 x34_2).f1)).bind fun t112 => (if t112 = true then (some false) else (af_.l0 k2 l0_2 (l0_2.length : Int) (wrap64 (x34_2 + 1)) a0_0 a0_1 l0_2 l0_3))) = some r := by first | (rw [hy108]; with_reducible exact H) | (have H2_ := (Option.bind_some _ _).symm.trans H; rw [hy108]; with_reducible exact H2_) | (have H2_ := (Option.bind_some _ _).symm.trans H; with_reducible exact H2_) | with_reducible exact H | (rw [hy108]; exact H) | exact H
      have Ny108 := Aside0.mk hy108
      clear hy108
      replace H := Option.bind_eq_some_iff.mp H
      obtain ⟨t112, A240, H⟩ := H
      (try dsimp only at H)
      have A24 := Aside0.mk A240
      clear A240
      have HC25 := Aside0.mk H
      clear H
      have p104 : 0 ≤ (x34_2 : Int) := of_decide_eq_true (by assumption)
      have q104 : x34_2 < (l0_2.length : Int) := of_decide_eq_true (by assumption)
      obtain ⟨ad104, e104, hx104_0, hx104_1⟩ := bX_ HR0_2.out x34_2 p104 q104
      cases e104
      replace hx104_0 := bu_ HB.out hx104_0
      replace hx104_1 := bu_ HB.out hx104_1
      replace p104 := eq_true p104
      replace q104 := eq_true q104
      try go_wp2_with (first | ((with_reducible refine al_ (N := 4) rfl ?_); (try (refine bT_ (by rfl) ?_; dsimp only)); refine ak_ ?hg (N := 4) ?hd (cs := #[.int .i64 0, .int .i64 0]) (t := 81) ?hr ?_; (case hd => rfl); (case hg => rfl); (case hr => (go_simp; try rfl)); intro gb105 hg w26 hbox hb; have BK105 := Aside0.mk (hbox); have GW105 := Aside0.mk ((by rw [hg]; exact (ae_ (bq)) : w.heap.size ≤ gb105)); have GE105 := GW105; replace HB := Aside0.mk (ad_ (bq) hb); have NB101_105 := Aside0.mk ((by rw [hg]; exact Nat.ne_of_lt (aj_ (kz BK101.out)) : gb101 ≠ gb105)); have NB105_101 := Aside0.mk ((by rw [hg]; exact Nat.ne_of_gt (aj_ (kz BK101.out)) : gb105 ≠ gb101)); replace BK101 := Aside0.mk (aa_ (kz BK101.out) hb); clear hb hbox hg; have hnb27 := NB105_101.out; have hnc27 := NB101_105.out; obtain ⟨hcz28_0, hcz28_1⟩ := cz2_ BK105.out; obtain ⟨hfz28_0, hfz28_1⟩ := fz2_ BK105.out))
      have n0_ : Aside0 (((w26.setCell ⟨gb105, 0, none⟩ (.int .i64 ((ab_ l0_2 x34_2).f0))).setCell ⟨gb105, 1, none⟩ (.int .i64 ((ab_ l0_2 x34_2).f1))).heap[gb101]? = some (.cells #[.int .i64 a0_0, .int .i64 a0_1, .slice (some ad104) l0_2.length c0_2, .slice A0_3 l0_3.length c0_3] 37 (0, 0))) := ⟨by exact kf (kf (kz BK101.out) NB101_105.out) NB101_105.out⟩
      have n1_ : Aside0 (((w26.setCell ⟨gb105, 0, none⟩ (.int .i64 ((ab_ l0_2 x34_2).f0))).setCell ⟨gb105, 1, none⟩ (.int .i64 ((ab_ l0_2 x34_2).f1))).heap[gb105]? = some (.cells #[.int .i64 ((ab_ l0_2 x34_2).f0), .int .i64 ((ab_ l0_2 x34_2).f1)] 81 (0, 0))) := ⟨by exact kj2_1 (kj2_0 (kz BK105.out))⟩
      have n2_ : Aside0 (Below w.heap.size w ((w26.setCell ⟨gb105, 0, none⟩ (.int .i64 ((ab_ l0_2 x34_2).f0))).setCell ⟨gb105, 1, none⟩ (.int .i64 ((ab_ l0_2 x34_2).f1)))) := ⟨bq⟩
      (try clear BK101)
      (try clear BK105)
      (try clear HB)
      generalize ((w26.setCell ⟨gb105, 0, none⟩ (.int .i64 ((ab_ l0_2 x34_2).f0))).setCell ⟨gb105, 1, none⟩ (.int .i64 ((ab_ l0_2 x34_2).f1))) = w29 at n0_ n1_ n2_ ⊢
      have BK101 := n0_
      have BK105 := n1_
      have HB := n2_
      clear n0_ n1_ n2_
      have n0_ := Aside0.mk (av_ BK101.out)
      have n1_ := Aside0.mk (av_ BK105.out)
      have n2_ := Aside0.mk (bD_ HB.out)
      clear BK101
      clear BK105
      clear HB
      have BK101 := n0_
      have BK105 := n1_
      have HB := n2_
      clear n0_ n1_ n2_
      refine cl_ (n := 22) (S := fun w' => w'.cell? ⟨gb105, 0, none⟩ = some (.int .i64 ((ab_ l0_2 x34_2).f0)) ∧ w'.cell? ⟨gb105, 1, none⟩ = some (.int .i64 ((ab_ l0_2 x34_2).f1)) ∧ w'.cell? ⟨gb101, 0, none⟩ = some (.int .i64 a0_0) ∧ w'.cell? ⟨gb101, 1, none⟩ = some (.int .i64 a0_1) ∧ w'.cell? ⟨gb101, 2, none⟩ = some (.slice (some ad104) l0_2.length c0_2) ∧ w'.cell? ⟨gb101, 3, none⟩ = some (.slice A0_3 l0_3.length c0_3)) (ds := []) #[f_,f_,f_,f_,f_,f_,f_,f_,f_,f_,f_,f_,f_,f_,f_,f_,f_,f_,f_,f_,f_,f_] (by kernel_rfl) rfl rfl ⟨(ac_ BK105.out 0).trans rfl, (ac_ BK105.out 1).trans rfl, (ac_ BK101.out 0).trans rfl, (ac_ BK101.out 1).trans rfl, (ac_ BK101.out 2).trans rfl, (ac_ BK101.out 3).trans rfl⟩ (fun hHeld => ?_); refine bo_ af_.tab6 af_.bits6 (fun HT_ HW_ => ?_)
      generalize w29.drew = w30 at BK101 BK105 HB hHeld ⊢
      refine pu 0 39 #[t_,f_,f_,f_,f_,f_,f_,f_,f_,f_,f_,f_,f_,f_,f_,f_,f_,f_,f_,f_,f_,f_] HT_ ?_
      refine pu 2 41 #[t_,f_,t_,f_,f_,f_,f_,f_,f_,f_,f_,f_,f_,f_,f_,f_,f_,f_,f_,f_,f_,f_] HT_ ?_
      refine tk 1 40 #[t_,t_,t_,f_,f_,f_,f_,f_,f_,f_,f_,f_,f_,f_,f_,f_,f_,f_,f_,f_,f_,f_] HT_ HW_ hHeld ?_ (hv := by rintro w' ⟨s0, s1, s2, s3, s4, s5⟩; go_simp; with_reducible rfl)
      refine tk 3 42 #[t_,t_,t_,t_,f_,f_,f_,f_,f_,f_,f_,f_,f_,f_,f_,f_,f_,f_,f_,f_,f_,f_] HT_ HW_ hHeld ?_ (hv := by rintro w' ⟨s0, s1, s2, s3, s4, s5⟩; go_simp; with_reducible rfl)
      refine one_ (i := 4) (N := some 43) #[t_,t_,t_,t_,t_,f_,f_,f_,f_,f_,f_,f_,f_,f_,f_,f_,f_,f_,f_,f_,f_,f_] rfl rfl (bh_ HT_.out (by kernel_rfl)) (by decide) (fun K hK => ?_)
      (first | refine goes_ Try.func39 (by kernel_rfl) rfl #[.int .i64 ((ab_ l0_2 x34_2).f0), .int .i64 0, .int .i64 a0_0] (by rfl) rfl rfl (by first | rfl | (simp only [lma_, lmc_, lmn_]; first | done | rfl)) ?_ | refine RPW.by_ Try.func39 (by kernel_rfl) rfl #[.int .i64 ((ab_ l0_2 x34_2).f0), .int .i64 0, .int .i64 a0_0] (by rfl) rfl rfl rfl (by first | rfl | (simp only [lma_, lmc_, lmn_]; first | done | rfl)) ?_ | refine RPW.bz_ Try.func39 (by kernel_rfl) rfl #[.int .i64 ((ab_ l0_2 x34_2).f0), .int .i64 0, .int .i64 a0_0] (by rfl) rfl rfl rfl (by first | rfl | (simp only [lma_, lmc_, lmn_]; first | done | rfl)) ?_)
      with_reducible refine (am_.calls ((ab_ l0_2 x34_2).f0) 0 a0_0 true _ A18.out).mono ?_
      rintro e w' ⟨rfl, ⟨nd, rfl⟩⟩
      refine ⟨_, rfl, ?_⟩
      refine hK.out _ _ ⟨(ac_ BK105.out 0).trans rfl, (ac_ BK105.out 1).trans rfl, (ac_ BK101.out 0).trans rfl, (ac_ BK101.out 1).trans rfl, (ac_ BK101.out 2).trans rfl, (ac_ BK101.out 3).trans rfl⟩ (fun hHeld => ?_)
      clear hK K
      refine norm_ (a' := ?_) ?_ ?_
      rotate_left
      ·show Act.put _ (some 43) _ = _
       simp only [Act.put, lsa_, ls0_, ls1_, i64_w, i32_w]
       rfl
      refine pu 5 44 #[t_,t_,t_,t_,t_,t_,f_,f_,f_,f_,f_,f_,f_,f_,f_,f_,f_,f_,f_,f_,f_,f_] HT_ ?_
      refine pu 6 45 #[t_,t_,t_,t_,t_,t_,t_,f_,f_,f_,f_,f_,f_,f_,f_,f_,f_,f_,f_,f_,f_,f_] HT_ ?_
      refine pu 7 46 #[t_,t_,t_,t_,t_,t_,t_,t_,f_,f_,f_,f_,f_,f_,f_,f_,f_,f_,f_,f_,f_,f_] HT_ ?_
      refine pu 9 48 #[t_,t_,t_,t_,t_,t_,t_,t_,f_,t_,f_,f_,f_,f_,f_,f_,f_,f_,f_,f_,f_,f_] HT_ ?_
      refine tk 8 47 #[t_,t_,t_,t_,t_,t_,t_,t_,t_,t_,f_,f_,f_,f_,f_,f_,f_,f_,f_,f_,f_,f_] HT_ HW_ hHeld ?_ (hv := by rintro w' ⟨s0, s1, s2, s3, s4, s5⟩; go_simp; with_reducible rfl)
      refine tk 10 49 #[t_,t_,t_,t_,t_,t_,t_,t_,t_,t_,t_,f_,f_,f_,f_,f_,f_,f_,f_,f_,f_,f_] HT_ HW_ hHeld ?_ (hv := by rintro w' ⟨s0, s1, s2, s3, s4, s5⟩; go_simp; with_reducible rfl)
      refine one_ (i := 11) (N := some 50) #[t_,t_,t_,t_,t_,t_,t_,t_,t_,t_,t_,t_,f_,f_,f_,f_,f_,f_,f_,f_,f_,f_] rfl rfl (bh_ HT_.out (by kernel_rfl)) (by decide) (fun K hK => ?_)
      (first | refine goes_ Try.func39 (by kernel_rfl) rfl #[.int .i64 ((ab_ l0_2 x34_2).f1), .int .i64 0, .int .i64 a0_1] (by rfl) rfl rfl (by first | rfl | (simp only [lma_, lmc_, lmn_]; first | done | rfl)) ?_ | refine RPW.by_ Try.func39 (by kernel_rfl) rfl #[.int .i64 ((ab_ l0_2 x34_2).f1), .int .i64 0, .int .i64 a0_1] (by rfl) rfl rfl rfl (by first | rfl | (simp only [lma_, lmc_, lmn_]; first | done | rfl)) ?_ | refine RPW.bz_ Try.func39 (by kernel_rfl) rfl #[.int .i64 ((ab_ l0_2 x34_2).f1), .int .i64 0, .int .i64 a0_1] (by rfl) rfl rfl rfl (by first | rfl | (simp only [lma_, lmc_, lmn_]; first | done | rfl)) ?_)
      with_reducible refine (am_.calls ((ab_ l0_2 x34_2).f1) 0 a0_1 true _ A20.out).mono ?_
      rintro e w' ⟨rfl, ⟨nd, rfl⟩⟩
      refine ⟨_, rfl, ?_⟩
      have q31 : (x34_2 : Int) ≤ ((l0_2.length : Int) : Int) := of_decide_eq_true (by assumption)
      obtain ⟨i031, hi031, _, hsz31, _⟩ := info_parts info81
      have hroom31 : l0_2.length ≤ c0_2 := HC0_2.out
      have hC31 : Kd.C k81 _ (some ad104) l0_2.length l0_2 := HR0_2.out
      have hcut31 := cut_to (P := Try.prog) 34 81 .i64 Try.underlying34 hi031 (some ad104) l0_2.length c0_2 x34_2 (of_decide_eq_true (by assumption)) q31 hroom31
      have hr31 := Kd.C_take (m := (x34_2 : Int).toNat) hC31 (by omega)
      have hy31 : y108.length = (x34_2 : Int).toNat := (by rw [Ny108.out, List.length_take]; omega)
      rw [← Ny108.out] at hr31
      rw [← hy31] at hcut31
      have HR111 := Aside0.mk hr31
      have HC111 := Aside0.mk (show y108.length ≤ c0_2 from by omega)
      clear hr31 hC31 hroom31 hi031 hsz31
      have KY31 := Aside0.mk hy31
      clear hy31
      replace q31 := eq_true q31
      refine hK.out _ _ ⟨(ac_ BK105.out 0).trans rfl, (ac_ BK105.out 1).trans rfl, (ac_ BK101.out 0).trans rfl, (ac_ BK101.out 1).trans rfl, (ac_ BK101.out 2).trans rfl, (ac_ BK101.out 3).trans rfl⟩ (fun hHeld => ?_)
      clear hK K
      refine norm_ (a' := ?_) ?_ ?_
      rotate_left
      ·show Act.put _ (some 50) _ = _
       simp only [Act.put, lsa_, ls0_, ls1_, i64_w, i32_w]
       rfl
      refine pu 12 51 #[t_,t_,t_,t_,t_,t_,t_,t_,t_,t_,t_,t_,t_,f_,f_,f_,f_,f_,f_,f_,f_,f_] HT_ ?_
      refine pu 13 52 #[t_,t_,t_,t_,t_,t_,t_,t_,t_,t_,t_,t_,t_,t_,f_,f_,f_,f_,f_,f_,f_,f_] HT_ ?_
      refine pu 14 53 #[t_,t_,t_,t_,t_,t_,t_,t_,t_,t_,t_,t_,t_,t_,t_,f_,f_,f_,f_,f_,f_,f_] HT_ ?_
      refine pu 15 54 #[t_,t_,t_,t_,t_,t_,t_,t_,t_,t_,t_,t_,t_,t_,t_,t_,f_,f_,f_,f_,f_,f_] HT_ ?_
      refine pu 17 56 #[t_,t_,t_,t_,t_,t_,t_,t_,t_,t_,t_,t_,t_,t_,t_,t_,f_,t_,f_,f_,f_,f_] HT_ ?_
      refine tk 16 55 #[t_,t_,t_,t_,t_,t_,t_,t_,t_,t_,t_,t_,t_,t_,t_,t_,t_,t_,f_,f_,f_,f_] HT_ HW_ hHeld ?_ (hv := by rintro w' ⟨s0, s1, s2, s3, s4, s5⟩; go_simp; with_reducible rfl)
      refine pu 18 57 #[t_,t_,t_,t_,t_,t_,t_,t_,t_,t_,t_,t_,t_,t_,t_,t_,t_,t_,t_,f_,f_,f_] HT_ ?_
      refine tk 19 58 #[t_,t_,t_,t_,t_,t_,t_,t_,t_,t_,t_,t_,t_,t_,t_,t_,t_,t_,t_,t_,f_,f_] HT_ HW_ hHeld ?_ (hv := by rintro w' ⟨s0, s1, s2, s3, s4, s5⟩; go_simp; with_reducible rfl)
      refine one_ (i := 20) (N := some 59) #[t_,t_,t_,t_,t_,t_,t_,t_,t_,t_,t_,t_,t_,t_,t_,t_,t_,t_,t_,t_,t_,f_] rfl rfl (bh_ HT_.out (by kernel_rfl)) (by decide) (fun K hK => ?_)
      (first | refine goes_ Try.func52 (by kernel_rfl) rfl #[.slice (some ad104) y108.length c0_2, .agg #[.int .i64 ((ab_ l0_2 x34_2).f0), .int .i64 ((ab_ l0_2 x34_2).f1)]] (by rfl) rfl rfl (by first | rfl | (simp only [lma_, lmc_, lmn_]; first | done | rfl)) ?_ | refine RPW.by_ Try.func52 (by kernel_rfl) rfl #[.slice (some ad104) y108.length c0_2, .agg #[.int .i64 ((ab_ l0_2 x34_2).f0), .int .i64 ((ab_ l0_2 x34_2).f1)]] (by rfl) rfl rfl rfl (by first | rfl | (simp only [lma_, lmc_, lmn_]; first | done | rfl)) ?_ | refine RPW.bz_ Try.func52 (by kernel_rfl) rfl #[.slice (some ad104) y108.length c0_2, .agg #[.int .i64 ((ab_ l0_2 x34_2).f0), .int .i64 ((ab_ l0_2 x34_2).f1)]] (by rfl) rfl rfl rfl (by first | rfl | (simp only [lma_, lmc_, lmn_]; first | done | rfl)) ?_)
      with_reducible refine (ci_.calls k2 _ _ y108 ((ab_ l0_2 x34_2).f0) ((ab_ l0_2 x34_2).f1) t112 _ ?side1 ?side2 A24.out).mono ?_
      (case side1 => repeat (first | exact (Kd.aF_ HR111.out (bq)) | (with_reducible first | refine Kd.cL_ ?_ _ | refine Kd.cJ_ ?_ _ | refine Kd.dx_ ?_)))
      (case side2 => exact HC111.out)
      rintro e w32 ⟨rfl, hb⟩
      refine ⟨_, rfl, ?_⟩
      have n0_ := Aside0.mk (aa_ (kz BK101.out) hb)
      have n1_ := Aside0.mk (aa_ (kz BK105.out) hb)
      have n2_ := Aside0.mk (ad_ (bq) hb)
      clear BK101
      clear BK105
      clear HB
      have BK101 := n0_
      have BK105 := n1_
      have HB := n2_
      clear n0_ n1_ n2_
      (try clear hb)
      refine hK.out _ _ ⟨(ac_ BK105.out 0).trans rfl, (ac_ BK105.out 1).trans rfl, (ac_ BK101.out 0).trans rfl, (ac_ BK101.out 1).trans rfl, (ac_ BK101.out 2).trans rfl, (ac_ BK101.out 3).trans rfl⟩ (fun hHeld => ?_)
      clear hK K
      refine norm_ (a' := ?_) ?_ ?_
      rotate_left
      ·show Act.put _ (some 59) _ = _
       simp only [Act.put, lsa_, ls0_, ls1_, i64_w, i32_w]
       rfl
      refine pu 21 60 #[t_,t_,t_,t_,t_,t_,t_,t_,t_,t_,t_,t_,t_,t_,t_,t_,t_,t_,t_,t_,t_,t_] HT_ ?_
      refine done_ (bS_ HT_.out (by kernel_rfl)) ?_
      go_upto_if 60 with (fail)
      have H := HC25.out
      clear HC25
      by_cases c33 : t112 = true
      rotate_left
      ·replace c33 := Bool.eq_false_iff.mpr c33
       subst c33
       have H1 : (af_.l0 k2 l0_2 (l0_2.length : Int) (wrap64 (x34_2 + 1)) a0_0 a0_1 l0_2 l0_3) = some r := by rw [if_neg (show ¬ (false = true) by decide)] at H; exact H
       clear H
       have H := H1
       clear H1
       have H' := Aside0.mk H
       clear H
       go_wp2
       go_roundg k2
       case measure => have := HJ1.out; have := HK2.out; omega
       case rel => exact ⟨(wrap64 (x34_2 + 1)), (by first | rfl | (simp; done) | (simp [*]; done)), H', ⟨by have := HJ1.out; have := HK2.out; omega⟩, ⟨by (with_reducible repeat (first | refine aL_ ?_ _ | refine av_ ?_ | refine aM_ ?_ _)); exact BK101.out⟩, ⟨bq⟩⟩
      subst c33
      have H1 : (some false) = some r := by rw [if_pos rfl] at H; exact H
      clear H
      have H := H1
      clear H1
      obtain rfl := Option.some.inj H
      go_wp2
      go_ret
      exact ⟨by first | rfl | (simp [*, ah_, ai_] <;> rfl), bq⟩
   subst c13
   have H1 : (some false) = some r := by rw [if_pos rfl] at H; exact H
   clear H
   have H := H1
   clear H1
   obtain rfl := Option.some.inj H
   go_wp2
   go_ret
   exact ⟨by first | rfl | (simp [*, ah_, ai_] <;> rfl), bq⟩
end Go.Proofs.Ytpjhnchfhghlcaa.Q
