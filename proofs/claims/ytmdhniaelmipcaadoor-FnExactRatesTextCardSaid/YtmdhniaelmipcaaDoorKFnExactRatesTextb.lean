/- For every record of rates, the law FnExactRatesText returns true: the program writes the same text as the reference. Condition: the library tables that the row lists hold what the program lays in them, as the tied card says. This text holds the last walks, the plain law and the row. -/
import Derived.Shelf.Strings.Builder1
import Derived.Shelf.Strings.Builder2
import Derived.Shelf.Strings.OnBuilder
import Derived.Shelf.Utf8.RuneCount
import Derived.Shelf.Strconv.Itoa0
import Derived.Shelf.Strconv.Itoa1
import Derived.Shelf.LaysM
import Derived.Shelf.Strconv.Itoa2
import Derived.Shelf.Strconv.Itoa3
import Derived.Shelf.Strconv.Itoa4
import Derived.Shelf.Strings.Search1
import Derived.Shelf.Strings.Search2
import Derived.Shelf.Strings.Search3
import Derived.Shelf.Strings.Count
import Derived.Shelf.Strings.Shaped
import Derived.Shelf.Strings.Split
import Derived.Shelf.Strings.SplitShaped
import Derived.Shelf.Unicode.Decode
import Derived.Shelf.Strings.RuneCount
import Derived.Shelf.Strings.Explode
import Derived.Shelf.Unicode.DecodeSlow
import Derived.Shelf.Unicode.DecodeAny
import Derived.Test.YtmdhniaelmipcaaDoorProg
import Derived.Lib.LaidTab
import Derived.Lib.ItoaNum
import Derived.WalkSmall
import Derived.KernelRfl
import Derived.Lib.AppendIntMem
import Derived.Lib.ItoaLen
import Derived.Lib.SplitLaws
import Derived.Lib.IndexBytes
import Derived.HandedShaped
import Derived.Test.YtmdhniaelmipcaaDoorRows
import Derived.Test.YtmdhniaelmipcaaDoorCards
import Derived.Test.YtmdhniaelmipcaaDoorTie
import Derived.Stop.LaidErr
import Derived.LaidMore
import Derived.Lay
import Derived.SevenTiedAt
import Derived.Stop.Joined
import Derived.WalkKit
import Derived.ProofKit
import Derived.OpenShut
import Derived.ShutString
import Derived.ChangeOld
import Derived.Below
import Derived.SizedLaws
import Derived.Carry
import Derived.Test.YtmdhniaelmipcaaDoorKFnExactRatesTexta
set_option linter.unusedVariables false
set_option linter.unusedSimpArgs false
namespace Go.Proofs
open Go.Shelf
def Tryd.lays156_ren : Go.Shelf.Ren := ⟨fun | 156 => 21 | 165 => 27 | 166 => 28 | 169 => 29 | 240 => 35 | 241 => 36 | 276 => 46 | 277 => 47 | n => n, fun | 31 => 41 | 9 => 9 | 3 => 3 | 4 => 4 | 0 => 0 | 20 => 20 | 72 => 51 | 76 => 55 | 70 => 48 | 37 => 49 | 75 => 54 | 127 => 61 | 164 => 72 | 5 => 5 | 80 => 57 | n => n, fun | n => n⟩
theorem Tryd.lays156 : Go.Proofs.Lays.n156 Tryd.prog Tryd.lays156_ren := {
  mixed := by kernel_rfl
  f156 := Tryd.func21.trans (congrArg some (by kernel_rfl))
  f165 := Tryd.func27.trans (congrArg some (by kernel_rfl))
  f166 := Tryd.func28.trans (congrArg some (by kernel_rfl))
  f169 := Tryd.func29.trans (congrArg some (by kernel_rfl))
  f240 := Tryd.func35.trans (congrArg some (by kernel_rfl))
  f241 := Tryd.func36.trans (congrArg some (by kernel_rfl))
  f276 := Tryd.func46.trans (congrArg some (by kernel_rfl))
  f277 := Tryd.func47.trans (congrArg some (by kernel_rfl))
  t0 := Tryd.underlying0
  a0 := Tryd.isAgg0
  z0 := Tryd.sizeOf0
  v0 := Tryd.zeroValue0
  t3 := Tryd.underlying3
  a3 := Tryd.isAgg3
  z3 := Tryd.sizeOf3
  v3 := Tryd.zeroValue3
  t4 := Tryd.underlying4
  a4 := Tryd.isAgg4
  z4 := Tryd.sizeOf4
  v4 := Tryd.zeroValue4
  t9 := Tryd.underlying9
  a9 := Tryd.isAgg9
  z9 := Tryd.sizeOf9
  v9 := Tryd.zeroValue9
  t20 := Tryd.underlying20
  a20 := Tryd.isAgg20
  z20 := Tryd.sizeOf20
  v20 := Tryd.zeroValue20
  t31 := Tryd.underlying41
  a31 := Tryd.isAgg41
  z31 := Tryd.sizeOf41
  v31 := Tryd.zeroValue41
  t37 := Tryd.underlying49
  a37 := Tryd.isAgg49
  z37 := Tryd.sizeOf49
  v37 := Tryd.zeroValue49
  t70 := Tryd.underlying48
  a70 := Tryd.isAgg48
  z70 := Tryd.sizeOf48
  v70 := Tryd.zeroValue48
  t72 := Tryd.underlying51
  a72 := Tryd.isAgg51
  z72 := Tryd.sizeOf51
  v72 := Tryd.zeroValue51
  t75 := Tryd.underlying54
  a75 := Tryd.isAgg54
  z75 := Tryd.sizeOf54
  v75 := Tryd.zeroValue54
  t76 := Tryd.underlying55
  a76 := Tryd.isAgg55
  z76 := Tryd.sizeOf55
  v76 := Tryd.zeroValue55
  t127 := Tryd.underlying61
  a127 := Tryd.isAgg61
  z127 := Tryd.sizeOf61
  v127 := Tryd.zeroValue61
  t164 := Tryd.underlying72
  a164 := Tryd.isAgg72
  z164 := Tryd.sizeOf72
  v164 := Tryd.zeroValue72 }
theorem Tryd.Builder_Extra_156 : Builder.Extra Tryd.prog Tryd.lays156_ren := {
  sizeBuilder := by kernel_rfl
  liesBuilder := by kernel_rfl
  t5 := Tryd.underlying5
  a5 := Tryd.isAgg5
  z5 := Tryd.sizeOf5
  v5 := Tryd.zeroValue5
  infoByte := by kernel_rfl
  cellsByte := by kernel_rfl
  sizeByte := by kernel_rfl
  neB5 := by decide }
open Go.RowKit in
theorem Tryd.strings_Join_none (a : Option Addr) (c : Nat) (sep : ByteArray) (w : World) :
    Calls Tryd.prog 21 #[.slice a 0 c, .string sep] w fun e w' => e = .returned (.string ⟨#[]⟩) ∧ w' = w := Any.strings_Join_none Tryd.lays156 Tryd.Builder_Extra_156 a c sep w
open Go.RowKit in
theorem Tryd.strings_Join (bk o c : Nat) (xs : List ByteArray) (sep : ByteArray) (w : World) (hcells : ∀ (j : Nat) x, xs[j]? = some x → w.cell? ⟨bk, o + j, none⟩ = some (.string x)) (hbk : bk < w.heap.size) (hN : xs.length ≤ 140737488355328) (hcap : xs.length ≤ c) (hlen : (Lib.join (xs.map (·.data.toList)) sep.data.toList).length ≤ 140737488355328) :
    Calls Tryd.prog 21 #[.slice (some ⟨bk, o, none⟩) xs.length c, .string sep] w fun e w' => e = .returned (.string ⟨(Lib.join (xs.map (·.data.toList)) sep.data.toList).toArray⟩) ∧ Below w.heap.size w w' := Any.strings_Join Tryd.lays156 Tryd.Builder_Extra_156 bk o c xs sep w hcells hbk hN hcap hlen
def Tryd.laysM173_ren : Go.Shelf.Ren := ⟨fun | 173 => 26 | 246 => 34 | 283 => 42 | 284 => 43 | 285 => 44 | 286 => 45 | 129 => 53 | 317 => 52 | 318 => 54 | 319 => 55 | 320 => 56 | 337 => 62 | 338 => 63 | n => n, fun | 2 => 2 | 3 => 3 | 9 => 9 | 4 => 4 | 171 => 66 | 0 => 0 | 53 => 67 | 37 => 49 | 5 => 5 | 173 => 70 | 212 => 81 | 51 => 82 | 20 => 20 | 213 => 83 | 46 => 85 | 232 => 94 | 233 => 95 | n => n, fun | 17 => 0 | 18 => 4 | 19 => 5 | n => n⟩
theorem Tryd.laysM173 : Go.Proofs.LaysM.n173 Tryd.prog Tryd.laysM173_ren := {
  mixed := by kernel_rfl
  f129 := Tryd.func53.trans (congrArg some (by kernel_rfl))
  f173 := Tryd.func26.trans (congrArg some (by kernel_rfl))
  f246 := Tryd.func34.trans (congrArg some (by kernel_rfl))
  f283 := Tryd.func42.trans (congrArg some (by kernel_rfl))
  f284 := Tryd.func43.trans (congrArg some (by kernel_rfl))
  f285 := Tryd.func44.trans (congrArg some (by kernel_rfl))
  f286 := Tryd.func45.trans (congrArg some (by kernel_rfl))
  f317 := Tryd.func52.trans (congrArg some (by kernel_rfl))
  f318 := Tryd.func54.trans (congrArg some (by kernel_rfl))
  f319 := Tryd.func55.trans (congrArg some (by kernel_rfl))
  f320 := Tryd.func56.trans (congrArg some (by kernel_rfl))
  f337 := Tryd.func62.trans (congrArg some (by kernel_rfl))
  f338 := Tryd.func63.trans (congrArg some (by kernel_rfl))
  t0 := Tryd.underlying0
  a0 := Tryd.isAgg0
  z0 := Tryd.sizeOf0
  v0 := Tryd.zeroValue0
  t2 := Tryd.underlying2
  a2 := Tryd.isAgg2
  z2 := Tryd.sizeOf2
  v2 := Tryd.zeroValue2
  t3 := Tryd.underlying3
  a3 := Tryd.isAgg3
  z3 := Tryd.sizeOf3
  v3 := Tryd.zeroValue3
  t4 := Tryd.underlying4
  a4 := Tryd.isAgg4
  z4 := Tryd.sizeOf4
  v4 := Tryd.zeroValue4
  t5 := Tryd.underlying5
  a5 := Tryd.isAgg5
  z5 := Tryd.sizeOf5
  v5 := Tryd.zeroValue5
  t9 := Tryd.underlying9
  a9 := Tryd.isAgg9
  z9 := Tryd.sizeOf9
  v9 := Tryd.zeroValue9
  t20 := Tryd.underlying20
  a20 := Tryd.isAgg20
  z20 := Tryd.sizeOf20
  v20 := Tryd.zeroValue20
  t37 := Tryd.underlying49
  a37 := Tryd.isAgg49
  z37 := Tryd.sizeOf49
  v37 := Tryd.zeroValue49
  t46 := Tryd.underlying85
  a46 := Tryd.isAgg85
  z46 := Tryd.sizeOf85
  v46 := Tryd.zeroValue85
  t51 := Tryd.underlying82
  a51 := Tryd.isAgg82
  z51 := Tryd.sizeOf82
  v51 := Tryd.zeroValue82
  t53 := Tryd.underlying67
  a53 := Tryd.isAgg67
  z53 := Tryd.sizeOf67
  v53 := Tryd.zeroValue67
  t171 := Tryd.underlying66
  a171 := Tryd.isAgg66
  z171 := Tryd.sizeOf66
  v171 := Tryd.zeroValue66
  t173 := Tryd.underlying70
  a173 := Tryd.isAgg70
  z173 := Tryd.sizeOf70
  v173 := Tryd.zeroValue70
  t212 := Tryd.underlying81
  a212 := Tryd.isAgg81
  z212 := Tryd.sizeOf81
  v212 := Tryd.zeroValue81
  t213 := Tryd.underlying83
  a213 := Tryd.isAgg83
  z213 := Tryd.sizeOf83
  t232 := Tryd.underlying94
  a232 := Tryd.isAgg94
  z232 := Tryd.sizeOf94
  v232 := Tryd.zeroValue94
  t233 := Tryd.underlying95
  a233 := Tryd.isAgg95
  z233 := Tryd.sizeOf95
  v233 := Tryd.zeroValue95
  g17 := by kernel_rfl
  g18 := by kernel_rfl
  g19 := by kernel_rfl
  i0 := by kernel_rfl
  i2 := by kernel_rfl
  i3 := by kernel_rfl
  i4 := by kernel_rfl
  i5 := by kernel_rfl
  i9 := by kernel_rfl
  i20 := by kernel_rfl
  i37 := by kernel_rfl
  i46 := by kernel_rfl
  i51 := by kernel_rfl
  i53 := by kernel_rfl
  i171 := by kernel_rfl
  i173 := by kernel_rfl
  i212 := by kernel_rfl
  i232 := by kernel_rfl
  i233 := by kernel_rfl
  m17 := by kernel_rfl
  m18 := by kernel_rfl
  m19 := by kernel_rfl }
open Go.RowKit Go.Sort Go.Lib in
theorem Tryd.strconv_FormatInt_10 (n : Int) (h0 : -9223372036854775808 ≤ n) (h1 : n ≤ 9223372036854775807) (w : World) (htab : Lib.TabIs Tryd.prog w "internal/strconv.uint64pow10" .u64 Lib.pow10Tab) :
    Calls Tryd.prog 26 #[.int .i64 n, .int .i64 10] w fun e w' => e = .returned (.string ⟨(Lib.itoa n).toArray⟩) ∧ ∃ k os, w' = grow (w.drewN k) os := Any.strconv_FormatInt_10 Tryd.laysM173 n h0 h1 w htab
def Tryd.laysM219_ren : Go.Shelf.Ren := ⟨fun | 219 => 51 | 217 => 58 | 225 => 59 | 224 => 60 | 267 => 61 | 266 => 64 | 314 => 65 | n => n, fun | 9 => 9 | 3 => 3 | 4 => 4 | 5 => 5 | 46 => 85 | 146 => 92 | 51 => 82 | n => n, fun | 1 => 1 | n => n⟩
theorem Tryd.laysM219 : Go.Proofs.LaysM.n219 Tryd.prog Tryd.laysM219_ren := {
  mixed := by kernel_rfl
  f217 := Tryd.func58.trans (congrArg some (by kernel_rfl))
  f219 := Tryd.func51.trans (congrArg some (by kernel_rfl))
  f224 := Tryd.func60.trans (congrArg some (by kernel_rfl))
  f225 := Tryd.func59.trans (congrArg some (by kernel_rfl))
  f266 := Tryd.func64.trans (congrArg some (by kernel_rfl))
  f267 := Tryd.func61.trans (congrArg some (by kernel_rfl))
  f314 := Tryd.func65.trans (congrArg some (by kernel_rfl))
  t3 := Tryd.underlying3
  a3 := Tryd.isAgg3
  z3 := Tryd.sizeOf3
  v3 := Tryd.zeroValue3
  t4 := Tryd.underlying4
  a4 := Tryd.isAgg4
  z4 := Tryd.sizeOf4
  v4 := Tryd.zeroValue4
  t5 := Tryd.underlying5
  a5 := Tryd.isAgg5
  z5 := Tryd.sizeOf5
  v5 := Tryd.zeroValue5
  t9 := Tryd.underlying9
  a9 := Tryd.isAgg9
  z9 := Tryd.sizeOf9
  v9 := Tryd.zeroValue9
  t46 := Tryd.underlying85
  a46 := Tryd.isAgg85
  z46 := Tryd.sizeOf85
  v46 := Tryd.zeroValue85
  t51 := Tryd.underlying82
  a51 := Tryd.isAgg82
  z51 := Tryd.sizeOf82
  v51 := Tryd.zeroValue82
  t146 := Tryd.underlying92
  a146 := Tryd.isAgg92
  z146 := Tryd.sizeOf92
  v146 := Tryd.zeroValue92
  g1 := by kernel_rfl
  i3 := by kernel_rfl
  i4 := by kernel_rfl
  i5 := by kernel_rfl
  i9 := by kernel_rfl
  i46 := by kernel_rfl
  i51 := by kernel_rfl
  i146 := by kernel_rfl
  m1 := by kernel_rfl
  s1_3 := fun w h => Go.Proofs.cell_of_shapedOpen_int (zero := #[.int .i64 0]) (t := 3) h (of_decide_eq_true (by kernel_rfl)) (by kernel_rfl) rfl (by kernel_rfl) (by kernel_rfl) Tryd.underlying3 }
end Go.Proofs
namespace Go.Proofs.YtmdhniaelmipcaaDoor.Q
open Go Go.RowKit
def Tab_ (w : World) : Prop := (Lib.TabIs Tryd.prog w "internal/strconv.uint64pow10" .u64 Lib.pow10Tab) ∧ (∃ m : Int, w.cell? ⟨1, 0, none⟩ = some (.int .i64 m))
theorem Tab_below {w w' : World} (h : Tab_ w) (hb : Below w.heap.size w w') : Tab_ w' := by
  obtain ⟨h1, h2⟩ := h
  refine ⟨?_, ?_⟩
  · have h3 := h1
    unfold Lib.TabIs World.var? at h3
    obtain ⟨g, hg, h4⟩ := Option.bind_eq_some_iff.1 h3
    refine var?_below hb hg ?_ h1
    split at h4
    · rename_i hh
      exact (Array.getElem?_eq_some_iff.1 hh).1
    · cases h4
  · obtain ⟨m, hm⟩ := h2
    exact ⟨m, (hb.cell (World.block_lt_of_cell? w _ hm)).trans hm⟩
end Go.Proofs.YtmdhniaelmipcaaDoor.Q
namespace Go.Proofs.YtmdhniaelmipcaaDoor.Q
open Go.RowKit Go.Proofs.YtmdhniaelmipcaaDoorW.PrintWords Go.Proofs.YtmdhniaelmipcaaDoorW.PrintLast Go.Proofs.YtmdhniaelmipcaaDoorW.PrintMore
attribute [local go_sem] max2_int min2_int max_two min_two max_three min_three max_four min_four
set_option linter.unusedVariables false
set_option linter.unusedSimpArgs false
def strconv_FormatInt_26.f (a0 : Int) (a1 : Int) : Option (ByteArray) := if a1 = 10 ∧ -9223372036854775808 ≤ a0 ∧ a0 ≤ 9223372036854775807 then some (⟨(Go.Lib.itoa a0).toArray⟩ : ByteArray) else none
theorem strconv_FormatInt_26.calls (a0 : Int) (a1 : Int) (r : ByteArray) (w : World) (hTab_ : Tab_ w) (h : strconv_FormatInt_26.f a0 a1 = some r) :
    Calls Tryd.prog 26 #[.int .i64 a0, .int .i64 a1] w fun e w' => e = .returned (.string r) ∧ Below w.heap.size w w' := by
  unfold strconv_FormatInt_26.f at h
  split at h
  case isFalse => cases h
  rename_i hc
  obtain ⟨rfl, h0, h1⟩ := hc
  obtain rfl := Option.some.inj h
  refine (Go.Proofs.Tryd.strconv_FormatInt_10 a0 h0 h1 w hTab_.1).mono ?_
  rintro e w' ⟨rfl, k, os, rfl⟩
  exact ⟨rfl, Go.Lib.below_grow _ _ (Nat.le_refl _) _ _⟩
end Go.Proofs.YtmdhniaelmipcaaDoor.Q
namespace Go.Proofs.YtmdhniaelmipcaaDoor.Q
open Go.RowKit Go.Proofs.YtmdhniaelmipcaaDoorW.PrintWords Go.Proofs.YtmdhniaelmipcaaDoorW.PrintLast Go.Proofs.YtmdhniaelmipcaaDoorW.PrintMore
attribute [local go_sem] max2_int min2_int max_two min_two max_three min_three max_four min_four
set_option linter.unusedVariables false
set_option linter.unusedSimpArgs false
def impl_Decimal.f (a0 : Int) : Option (ByteArray) := (strconv_FormatInt_26.f a0 10).bind fun t101 => (some t101)
set_option maxHeartbeats 8000000 in
set_option maxRecDepth 100000 in
theorem impl_Decimal.calls (a0 : Int) (r : ByteArray) (w : World) (hTab_ : Tab_ w) (h : impl_Decimal.f a0 = some r) :
    Calls Tryd.prog 20 #[.int .i64 a0] w fun e w' => e = .returned (.string r) ∧ Below w.heap.size w w' := by
  have HTab_ := Aside0.mk hTab_
  clear hTab_
  have HB := Aside0.mk (Below.refl w.heap.size w)
  have H : ((strconv_FormatInt_26.f a0 10).bind fun t101 => (some t101)) = some r := h
  clear h
  replace H := Option.bind_eq_some_iff.mp H
  obtain ⟨t101, A20, H⟩ := H
  replace H : (some t101) = some r := H
  have A2 := Aside0.mk A20
  clear A20
  obtain rfl := Option.some.inj H
  go_enter Tryd.func20, Tryd.ntmps20
  go_wp2_with (first | ((with_reducible refine gate_callee (f := 26) rfl ?_); refine goesL_ (some 4) rfl rfl Tryd.func26 (by kernel_rfl) rfl #[.int .i64 a0, .int .i64 10] rfl (by (try simp only [List.map_toArray, List.map_cons, List.map_nil]); first | done | rfl | (simp only [List.length_drop, List.length_take]; rfl)) ?_; (with_reducible refine (strconv_FormatInt_26.calls a0 10 t101 _ ?side1 A2.out).mono ?_); (case side1 => exact Tab_below HTab_.out (by repeat (first | (with_reducible first | exact HB.out | apply below_alloc | apply pw_below_drewN | apply below_drew1) | exact HB.out))); rintro e w3 ⟨rfl, hb⟩; refine ⟨_, rfl, ?_⟩; have n0_ := Aside0.mk (below_step (by repeat (first | (with_reducible first | exact HB.out | apply below_alloc | apply pw_below_drewN | apply below_drew1) | exact HB.out)) hb); clear HB; have HB := n0_; clear n0_; (try clear hb); (try clear hb2); (try clear hk); (try clear hi)))
  go_ret
  exact ⟨by first | rfl | (simp [errW_none, errW_some] <;> rfl) | (simp [*, errW_none, errW_some] <;> rfl), by repeat (first | (with_reducible first | exact HB.out | apply below_alloc | apply pw_below_drewN | apply below_drew1) | exact HB.out)⟩
end Go.Proofs.YtmdhniaelmipcaaDoor.Q
namespace Go.Proofs.YtmdhniaelmipcaaDoor.Q
open Go.RowKit Go.Proofs.YtmdhniaelmipcaaDoorW.PrintWords Go.Proofs.YtmdhniaelmipcaaDoorW.PrintLast Go.Proofs.YtmdhniaelmipcaaDoorW.PrintMore
attribute [local go_sem] max2_int min2_int max_two min_two max_three min_three max_four min_four
set_option linter.unusedVariables false
set_option linter.unusedSimpArgs false
def strings_Join.f (l0 : List ByteArray) (a1 : ByteArray) : Option (ByteArray) := if l0.length ≤ 140737488355328 ∧ (Go.Lib.join (l0.map (·.data.toList)) a1.data.toList).length ≤ 140737488355328 then some (⟨(Go.Lib.join (l0.map (·.data.toList)) a1.data.toList).toArray⟩ : ByteArray) else none
theorem strings_Join.calls (A0 : Option Addr) (c0 : Nat) (l0 : List ByteArray) (a1 : ByteArray) (r : ByteArray) (w : World) (hr0 : Kd.C Kd.string w A0 l0.length l0) (hc0 : l0.length ≤ c0) (h : strings_Join.f l0 a1 = some r) :
    Calls Tryd.prog 21 #[.slice A0 l0.length c0, .string a1] w fun e w' => e = .returned (.string r) ∧ Below w.heap.size w w' := by
  unfold strings_Join.f at h
  split at h
  case isFalse => cases h
  rename_i hc
  obtain ⟨hN, hl⟩ := hc
  obtain rfl := Option.some.inj h
  by_cases h0 : l0.length = 0
  · obtain rfl := List.eq_nil_of_length_eq_zero h0
    refine (Go.Proofs.Tryd.strings_Join_none A0 c0 a1 w).mono ?_
    rintro e w' ⟨rfl, rfl⟩
    exact ⟨by simp [Go.Lib.join, List.intercalate], Below.refl _ _⟩
  · obtain ⟨ad, hA, hcell⟩ := hr0.2.2 (by omega)
    subst hA
    have hc1 : ∀ j x, l0[j]? = some x → w.cell? (ad.add j) = some (.string x) := fun j x hj => by
      obtain ⟨c, hs, hK, hcc⟩ := hcell j x hj
      obtain rfl : c = [.string x] := hK
      have := hcc 0 _ rfl
      rwa [show j * Kd.string.sz + 0 = j from by show j * 1 + 0 = j; omega] at this
    obtain ⟨x0, hx0⟩ : ∃ x, l0[0]? = some x := ⟨l0[0]'(by omega), List.getElem?_eq_getElem (by omega)⟩
    have hs0 := hc1 0 x0 hx0
    have hz : ad.add 0 = ad := by unfold Addr.add; rw [if_pos rfl]
    rw [hz] at hs0
    obtain ⟨b, o, sp⟩ := ad
    obtain rfl : sp = none := World.cell?_spot hs0
    refine (Go.Proofs.Tryd.strings_Join b o c0 l0 a1 w (fun j x hj => ?_) (World.block_lt_of_cell? w _ hs0) hN hc0 hl).mono ?_
    · have := hc1 j x hj
      unfold Addr.add at this
      split at this
      · rename_i hj0; subst hj0; exact this
      · exact this
    · rintro e w' ⟨rfl, hb⟩
      exact ⟨rfl, hb⟩
end Go.Proofs.YtmdhniaelmipcaaDoor.Q
namespace Go.Proofs.YtmdhniaelmipcaaDoor.Q
open Go.RowKit Go.Proofs.YtmdhniaelmipcaaDoorW.PrintWords Go.Proofs.YtmdhniaelmipcaaDoorW.PrintLast Go.Proofs.YtmdhniaelmipcaaDoorW.PrintMore
attribute [local go_sem] max2_int min2_int max_two min_two max_three min_three max_four min_four
set_option linter.unusedVariables false
set_option linter.unusedSimpArgs false
mutual
def impl_ListText.l0 : Nat → List Int → List Int → Int → Int → Option (ByteArray)
  | 0, _, _, _, _ => none
  | k + 1, x0, x11, x12, x13 => if x13 < x12 then (if 0 ≤ x13 then (if x13 < (x11.length : Int) then ((impl_within.f (rd x11 x13) (-1000000000000) 1000000000000).bind fun t102 => (if t102 = true then (impl_ListText.l0 k x0 x11 x12 (wrap64 (x13 + 1))) else (some (⟨#[]⟩ : ByteArray)))) else (none)) else (none)) else (if (x0.length : Int) = 0 then (some (⟨#[45]⟩ : ByteArray)) else (impl_ListText.l1 k (([] : List ByteArray)) x0 (x0.length : Int) 0))
def impl_ListText.l1 : Nat → List ByteArray → List Int → Int → Int → Option (ByteArray)
  | 0, _, _, _, _ => none
  | k + 1, x5, x25, x26, x27 => if x27 < x26 then (if 0 ≤ x27 then (if x27 < (x25.length : Int) then ((impl_Decimal.f (rd x25 x27)).bind fun t107 => (if x5.length < 8796093022208 then (impl_ListText.l1 k (x5 ++ [t107]) x25 x26 (wrap64 (x27 + 1))) else (none))) else (none)) else (none)) else ((strings_Join.f x5 (⟨#[44]⟩ : ByteArray)).bind fun t111 => (some t111))
end
def impl_ListText.f (k : Nat) (l0 : List Int) : Option (ByteArray) := if (l0.length : Int) > 64 then (some (⟨#[]⟩ : ByteArray)) else (impl_ListText.l0 k l0 l0 (l0.length : Int) 0)
set_option maxHeartbeats 8000000 in
set_option maxRecDepth 100000 in
theorem impl_ListText.calls (k : Nat) (A0 : Option Addr) (c0 : Nat) (l0 : List Int) (r : ByteArray) (w : World) (hr0 : Kd.C (Kd.int .i64) w A0 l0.length l0) (hc0 : l0.length ≤ c0) (hTab_ : Tab_ w) (h : impl_ListText.f k l0 = some r) :
    Calls Tryd.prog 14 #[.slice A0 l0.length c0] w fun e w' => e = .returned (.string r) ∧ Below w.heap.size w w' := by
  have HTab_ := Aside0.mk hTab_
  clear hTab_
  have HR0 := Aside0.mk hr0
  have HC0 := Aside0.mk hc0
  clear hr0 hc0
  have HB := Aside0.mk (Below.refl w.heap.size w)
  have H : (if (l0.length : Int) > 64 then (some (⟨#[]⟩ : ByteArray)) else (impl_ListText.l0 k l0 l0 (l0.length : Int) 0)) = some r := h
  clear h
  by_cases c2 : (l0.length : Int) > 64
  · rw [if_pos c2] at H
    have c2b0 : decide (64 < (l0.length : Int)) = true := decide_eq_true c2
    have c2b1 : decide (64 < l0.length) = true := decide_eq_true (by omega)
    clear c2
    obtain rfl := Option.some.inj H
    go_enter Tryd.func14, Tryd.ntmps14
    go_wp2
    go_ret
    exact ⟨by first | rfl | (simp [errW_none, errW_some] <;> rfl) | (simp [*, errW_none, errW_some] <;> rfl), by repeat (first | (with_reducible first | exact HB.out | apply below_alloc | apply pw_below_drewN | apply below_drew1) | exact HB.out)⟩
  · rw [if_neg c2] at H
    have c2b0 : decide (64 < (l0.length : Int)) = false := decide_eq_false c2
    have c2b1 : decide (64 < l0.length) = false := decide_eq_false (by omega)
    clear c2
    have H' := Aside0.mk H
    clear H
    go_enter Tryd.func14, Tryd.ntmps14
    go_wp2
    (try simp only [Act.put, List.setIfInBounds_toArray, List.set_cons_zero, List.set_cons_succ])
    go_loopg [13] k (fun kq v13 w' => ∃ (x13_1 : Int), v13 = .int .i64 x13_1 ∧ Aside0 (impl_ListText.l0 kq l0 l0 (l0.length : Int) x13_1 = some r) ∧ Aside0 (kq ≤ k) ∧ Aside0 (Below w.heap.size w w'))
    case atStart => exact ⟨(0), (by first | rfl | (simp; done) | (simp [*]; done)), H', ⟨Nat.le_refl _⟩, ⟨by repeat (first | (with_reducible first | exact HB.out | apply below_alloc | apply pw_below_drewN | apply below_drew1) | exact HB.out)⟩⟩
    case round =>
      clear H'
      try clear c1
      try clear c2
      try clear c2b0
      try clear c2b1
      try clear p2
      obtain ⟨x13_1, rfl, HA, HK1, HB⟩ := hrel
      cases gk with
      | zero => exact absurd HA.out (by simp [impl_ListText.l0])
      | succ k1 =>
        have H := HA.out
        clear HA
        simp only [impl_ListText.l0] at H
        by_cases c3 : x13_1 < (l0.length : Int)
        · rw [if_pos c3] at H
          have c3b0 : decide (x13_1 < (l0.length : Int)) = true := decide_eq_true c3
          clear c3
          by_cases c4 : 0 ≤ x13_1
          · rw [if_pos c4] at H
            have c4b0 : decide (0 ≤ x13_1) = true := decide_eq_true c4
            clear c4
            by_cases c5 : x13_1 < (l0.length : Int)
            · rw [if_pos c5] at H
              have c5b0 : decide (x13_1 < (l0.length : Int)) = true := decide_eq_true c5
              clear c5
              replace H := Option.bind_eq_some_iff.mp H
              obtain ⟨t102, A60, H⟩ := H
              replace H : (if t102 = true then (impl_ListText.l0 k1 l0 l0 (l0.length : Int) (wrap64 (x13_1 + 1))) else (some (⟨#[]⟩ : ByteArray))) = some r := H
              have A6 := Aside0.mk A60
              clear A60
              have HC7 := Aside0.mk H
              clear H
              have p101 : 0 ≤ (x13_1 : Int) := of_decide_eq_true (by first | (with_reducible assumption) | assumption)
              have q101 : x13_1 < (l0.length : Int) := of_decide_eq_true (by first | (with_reducible assumption) | assumption)
              obtain ⟨ad101, e101, hx101_0⟩ := Kd.at_int HR0.out x13_1 p101 q101
              cases e101
              replace hx101_0 := (HB.out.cell (World.block_lt_of_cell? w _ hx101_0)).trans hx101_0
              replace p101 := eq_true p101
              replace q101 := eq_true q101
              go_upto_if 19 with (first | ((with_reducible refine gate_callee (f := 19) rfl ?_); refine goesL_ (some 18) rfl rfl Tryd.func19 (by kernel_rfl) rfl #[.int .i64 (rd l0 x13_1), .int .i64 (-1000000000000), .int .i64 1000000000000] rfl (by (try simp only [List.map_toArray, List.map_cons, List.map_nil]); first | done | rfl | (simp only [List.length_drop, List.length_take]; rfl)) ?_; (with_reducible refine (impl_within.calls (rd l0 x13_1) (-1000000000000) 1000000000000 t102 _ A6.out).mono ?_); rintro e w' ⟨rfl, ⟨nd, rfl⟩⟩; refine ⟨_, rfl, ?_⟩; (try (rw [drewN_self wr]; generalize hq_ : World.drewN wr _ = wr; have n0_ : Aside0 (Below w.heap.size w wr) := ⟨by rw [← hq_]; exact (by repeat (first | (with_reducible first | exact HB.out | apply below_alloc | apply pw_below_drewN | apply below_drew1) | exact HB.out))⟩; clear HB hq_; have HB := n0_; clear n0_))))
              (try simp only [Act.put, List.setIfInBounds_toArray, List.set_cons_zero, List.set_cons_succ])
              have H := HC7.out
              clear HC7
              by_cases c8 : t102 = true
              · subst c8
                have H1 : (impl_ListText.l0 k1 l0 l0 (l0.length : Int) (wrap64 (x13_1 + 1))) = some r := by rw [if_pos rfl] at H; exact H
                clear H
                have H := H1
                clear H1
                have H' := Aside0.mk H
                clear H
                go_wp2
                go_roundg k1
                case measure => have := HK1.out; omega
                case rel => exact ⟨(wrap64 (x13_1 + 1)), (by first | rfl | (simp; done) | (simp [*]; done)), H', ⟨by have := HK1.out; omega⟩, ⟨by repeat (first | (with_reducible first | exact HB.out | apply below_alloc | apply pw_below_drewN | apply below_drew1) | exact HB.out)⟩⟩
              · replace c8 := Bool.eq_false_iff.mpr c8
                subst c8
                have H1 : (some (⟨#[]⟩ : ByteArray)) = some r := by rw [if_neg (show ¬ (false = true) by decide)] at H; exact H
                clear H
                have H := H1
                clear H1
                obtain rfl := Option.some.inj H
                go_wp2
                go_ret
                exact ⟨by first | rfl | (simp [errW_none, errW_some] <;> rfl) | (simp [*, errW_none, errW_some] <;> rfl), by repeat (first | (with_reducible first | exact HB.out | apply below_alloc | apply pw_below_drewN | apply below_drew1) | exact HB.out)⟩
            · rw [if_neg c5] at H
              exact absurd H (by simp)
          · rw [if_neg c4] at H
            exact absurd H (by simp)
        · rw [if_neg c3] at H
          have c3b0 : decide (x13_1 < (l0.length : Int)) = false := decide_eq_false c3
          clear c3
          by_cases c9 : (l0.length : Int) = 0
          · rw [if_pos c9] at H
            have c9b0 : ((l0.length : Int) == 0) = true := beq_iff_eq.mpr c9
            have c9b1 : ((l0.length : Int) != 0) = false := bne_eq_false_iff_eq.mpr c9
            clear c9
            obtain rfl := Option.some.inj H
            go_wp2
            go_ret
            exact ⟨by first | rfl | (simp [errW_none, errW_some] <;> rfl) | (simp [*, errW_none, errW_some] <;> rfl), by repeat (first | (with_reducible first | exact HB.out | apply below_alloc | apply pw_below_drewN | apply below_drew1) | exact HB.out)⟩
          · rw [if_neg c9] at H
            have c9b0 : ((l0.length : Int) == 0) = false := beq_eq_false_iff_ne.mpr c9
            have c9b1 : ((l0.length : Int) != 0) = true := bne_iff_ne.mpr c9
            have c9b2 : ¬ (l0 = []) := fun h_ => c9 (by rw [h_]; rfl)
            obtain ⟨y103, hy103⟩ : ∃ y_ : List ByteArray, y_ = (([] : List ByteArray)) := ⟨_, rfl⟩
            replace H : (impl_ListText.l1 k1 y103 l0 (l0.length : Int) 0) = some r := by first | (rw [hy103]; with_reducible exact H) | (have H2_ := (Option.bind_some _ _).symm.trans H; rw [hy103]; with_reducible exact H2_) | (have H2_ := (Option.bind_some _ _).symm.trans H; with_reducible exact H2_) | with_reducible exact H | (rw [hy103]; exact H) | exact H
            have Ny103 := Aside0.mk hy103
            clear hy103
            have H' := Aside0.mk H
            clear H
            go_wp2_with (first | ((with_reducible refine gate_dst (N := 24) rfl ?_); refine Kd.R_lit Kd.string _ 9 ?hg (N := 24) ?hd (xs := ([] : List ByteArray)) (inner := []) (ok := fun _ => True) (okp := fun _ => True) ?hr ?hp (fun _ hk => hk) trivial (Below.refl _ _) (Nat.le_refl _) (by simp) ?_; (case hd => rfl); (case hg => rfl); (case hr => first | (go_simp; done) | (go_simp; rfl)); (case hp => exact (Reps.none _ _)); intro v104 w10 ho11 hb hg_ hnew_; clear hg_ hnew_; (first | rw [← Ny103.out] at ho11 | (simp only [Int.reduceToNat] at ho11; rw [← Ny103.out] at ho11)); have n0_ := Aside0.mk (Kd.R_lower ho11 (below_size (by repeat (first | (with_reducible first | exact HB.out | apply below_alloc | apply pw_below_drewN | apply below_drew1) | exact HB.out)))); have n1_ := Aside0.mk (below_step (by repeat (first | (with_reducible first | exact HB.out | apply below_alloc | apply pw_below_drewN | apply below_drew1) | exact HB.out)) hb); clear HB; have HO105 := n0_; have HB := n1_; clear n0_ n1_; clear hb ho11))
            (try simp only [Act.put, List.setIfInBounds_toArray, List.set_cons_zero, List.set_cons_succ])
            go_loopg [5, 27] k1 (fun kq v5 v27 w' => ∃ (x5_2 : List ByteArray) (x27_2 : Int), v27 = .int .i64 x27_2 ∧ Aside0 (impl_ListText.l1 kq x5_2 l0 (l0.length : Int) x27_2 = some r) ∧ Aside0 (kq ≤ k1) ∧ Aside0 (Kd.R Kd.string 9 w' w.heap.size (fun _ => True) v5 x5_2) ∧ Aside0 (Below w.heap.size w w'))
            case atStart => exact ⟨(y103), (0), (by first | rfl | (simp; done) | (simp [*]; done)), H', ⟨Nat.le_refl _⟩, ⟨by (with_reducible repeat (first | apply Kd.R_alloc | apply Kd.R_drewN | apply Kd.R_drew)); exact HO105.out⟩, ⟨by repeat (first | (with_reducible first | exact HB.out | apply below_alloc | apply pw_below_drewN | apply below_drew1) | exact HB.out)⟩⟩
            case round =>
              clear H'
              try clear c1
              try clear p1
              try clear q1
              try clear hx1
              try clear c2
              try clear c2b0
              try clear c2b1
              try clear p2
              try clear c3
              try clear c3b0
              try clear c4
              try clear c4b0
              try clear c5
              try clear c5b0
              try clear p6
              try clear c8
              try clear c9
              try clear c9b0
              try clear c9b1
              try clear c9b2
              try clear p10
              try clear q10
              try clear hx10
              try clear hx101_0
              try clear p101
              try clear p2
              try clear q101
              obtain ⟨x5_2, x27_2, rfl, HA, HK2, HO_5, HB⟩ := hrel
              cases gk with
              | zero => exact absurd HA.out (by simp [impl_ListText.l1])
              | succ k2 =>
                have H := HA.out
                clear HA
                simp only [impl_ListText.l1] at H
                by_cases c12 : x27_2 < (l0.length : Int)
                · rw [if_pos c12] at H
                  have c12b0 : decide (x27_2 < (l0.length : Int)) = true := decide_eq_true c12
                  clear c12
                  by_cases c13 : 0 ≤ x27_2
                  · rw [if_pos c13] at H
                    have c13b0 : decide (0 ≤ x27_2) = true := decide_eq_true c13
                    clear c13
                    by_cases c14 : x27_2 < (l0.length : Int)
                    · rw [if_pos c14] at H
                      have c14b0 : decide (x27_2 < (l0.length : Int)) = true := decide_eq_true c14
                      clear c14
                      replace H := Option.bind_eq_some_iff.mp H
                      obtain ⟨t107, A150, H⟩ := H
                      replace H : (if x5_2.length < 8796093022208 then (impl_ListText.l1 k2 (x5_2 ++ [t107]) l0 (l0.length : Int) (wrap64 (x27_2 + 1))) else (none)) = some r := H
                      have A15 := Aside0.mk A150
                      clear A150
                      by_cases c16 : x5_2.length < 8796093022208
                      · rw [if_pos c16] at H
                        have LMc16 := Aside0.mk c16
                        clear c16
                        obtain ⟨y108, hy108⟩ : ∃ y_ : List ByteArray, y_ = (x5_2 ++ [t107]) := ⟨_, rfl⟩
                        replace H : (impl_ListText.l1 k2 y108 l0 (l0.length : Int) (wrap64 (x27_2 + 1))) = some r := by first | (rw [hy108]; with_reducible exact H) | (have H2_ := (Option.bind_some _ _).symm.trans H; rw [hy108]; with_reducible exact H2_) | (have H2_ := (Option.bind_some _ _).symm.trans H; with_reducible exact H2_) | with_reducible exact H | (rw [hy108]; exact H) | exact H
                        have Ny108 := Aside0.mk hy108
                        clear hy108
                        have H' := Aside0.mk H
                        clear H
                        have p106 : 0 ≤ (x27_2 : Int) := of_decide_eq_true (by first | (with_reducible assumption) | assumption)
                        have q106 : x27_2 < (l0.length : Int) := of_decide_eq_true (by first | (with_reducible assumption) | assumption)
                        obtain ⟨ad106, e106, hx106_0⟩ := Kd.at_int HR0.out x27_2 p106 q106
                        cases e106
                        replace hx106_0 := (HB.out.cell (World.block_lt_of_cell? w _ hx106_0)).trans hx106_0
                        replace p106 := eq_true p106
                        replace q106 := eq_true q106
                        go_wp2_with (first | ((with_reducible refine gate_callee (f := 20) rfl ?_); refine goesL_ (some 33) rfl rfl Tryd.func20 (by kernel_rfl) rfl #[.int .i64 (rd l0 x27_2)] rfl (by (try simp only [List.map_toArray, List.map_cons, List.map_nil]); first | done | rfl | (simp only [List.length_drop, List.length_take]; rfl)) ?_; (with_reducible refine (impl_Decimal.calls (rd l0 x27_2) t107 _ ?side1 A15.out).mono ?_); (case side1 => exact Tab_below HTab_.out (by repeat (first | (with_reducible first | exact HB.out | apply below_alloc | apply pw_below_drewN | apply below_drew1) | exact HB.out))); rintro e w17 ⟨rfl, hb⟩; refine ⟨_, rfl, ?_⟩; have n0_ := Aside0.mk (Kd.R_below (by (with_reducible repeat (first | apply Kd.R_alloc | apply Kd.R_drewN | apply Kd.R_drew)); exact HO_5.out) hb); have n1_ := Aside0.mk (below_step (by repeat (first | (with_reducible first | exact HB.out | apply below_alloc | apply pw_below_drewN | apply below_drew1) | exact HB.out)) hb); clear HO_5; clear HB; have HO_5 := n0_; have HB := n1_; clear n0_ n1_; (try clear hb); (try clear hb2); (try clear hk); (try clear hi)) | ((with_reducible refine gate_builtin (b := .append) (xs := #[.tmp 31, .tmp 34]) rfl ?_); at_builtin; refine Kd.R_append Kd.string (w0 := w) w.heap.size rfl (.tmp 31) (.tmp 34) 41 9 (.string ⟨#[]⟩) 16 rfl Tryd.underlying41 info9 rfl (by decide) (by omega) u5 x5_2 t107 [.string t107] (fun _ => True) (fun _ => False) rfl rfl ?aP (fun _ hk => hk.elim) ?aF ?aO ?aB ?aS ?aL ?_; (case aP => exact rfl); (case aB => exact (by repeat (first | (with_reducible first | exact HB.out | apply below_alloc | apply pw_below_drewN | apply below_drew1) | exact HB.out))); (case aF => exact (fun _ _ => trivial)); (case aO => exact (by (with_reducible repeat (first | apply Kd.R_alloc | apply Kd.R_drewN | apply Kd.R_drew)); exact HO_5.out)); (case aS => exact (below_size (by repeat (first | (with_reducible first | exact HB.out | apply below_alloc | apply pw_below_drewN | apply below_drew1) | exact HB.out)))); (case aL => have := LMc16.out; omega); intro v109 w18 ho hb hg hat; rw [← Ny108.out] at ho; have n0_ := Aside0.mk (hb); have n1_ := Aside0.mk (ho); clear HB; clear HO_5; have HB := n0_; have HO110 := n1_; clear n0_ n1_; clear ho hb hg hat))
                        go_roundg k2
                        case measure => have := HK1.out; have := HK2.out; omega
                        case rel => exact ⟨(y108), (wrap64 (x27_2 + 1)), (by first | rfl | (simp; done) | (simp [*]; done)), H', ⟨by have := HK1.out; have := HK2.out; omega⟩, ⟨by (with_reducible repeat (first | apply Kd.R_alloc | apply Kd.R_drewN | apply Kd.R_drew)); exact HO110.out⟩, ⟨by repeat (first | (with_reducible first | exact HB.out | apply below_alloc | apply pw_below_drewN | apply below_drew1) | exact HB.out)⟩⟩
                      · rw [if_neg c16] at H
                        exact absurd H (by simp)
                    · rw [if_neg c14] at H
                      exact absurd H (by simp)
                  · rw [if_neg c13] at H
                    exact absurd H (by simp)
                · rw [if_neg c12] at H
                  have c12b0 : decide (x27_2 < (l0.length : Int)) = false := decide_eq_false c12
                  clear c12
                  replace H := Option.bind_eq_some_iff.mp H
                  obtain ⟨t111, A190, H⟩ := H
                  replace H : (some t111) = some r := H
                  have A19 := Aside0.mk A190
                  clear A190
                  obtain rfl := Option.some.inj H
                  obtain ⟨Ao20, co20, eo20⟩ := Kd.R_slice HO_5.out
                  subst eo20
                  go_wp2_with (first | ((with_reducible refine gate_callee (f := 21) rfl ?_); refine goesL_ (some 38) rfl rfl Tryd.func21 (by kernel_rfl) rfl #[.slice Ao20 x5_2.length co20, .string (⟨#[44]⟩ : ByteArray)] rfl (by (try simp only [List.map_toArray, List.map_cons, List.map_nil]); first | done | rfl | (simp only [List.length_drop, List.length_take]; rfl)) ?_; (with_reducible refine (strings_Join.calls _ _ x5_2 (⟨#[44]⟩ : ByteArray) t111 _ ?side1 ?side2 A19.out).mono ?_); (case side1 => repeat (first | exact (Kd.R_reads' HO_5.out).2.2 | (with_reducible refine Kd.C_alloc ?_ _) | (with_reducible refine Kd.C_drewN ?_ _) | (with_reducible refine Kd.C_drew ?_))); (case side2 => exact (Kd.R_reads' HO_5.out).2.1); rintro e w21 ⟨rfl, hb⟩; refine ⟨_, rfl, ?_⟩; have n0_ := Aside0.mk (Kd.R_below (by (with_reducible repeat (first | apply Kd.R_alloc | apply Kd.R_drewN | apply Kd.R_drew)); exact HO_5.out) hb); have n1_ := Aside0.mk (below_step (by repeat (first | (with_reducible first | exact HB.out | apply below_alloc | apply pw_below_drewN | apply below_drew1) | exact HB.out)) hb); clear HO_5; clear HB; have HO_5 := n0_; have HB := n1_; clear n0_ n1_; (try clear hb); (try clear hb2); (try clear hk); (try clear hi)))
                  go_ret
                  exact ⟨by first | rfl | (simp [errW_none, errW_some] <;> rfl) | (simp [*, errW_none, errW_some] <;> rfl), by repeat (first | (with_reducible first | exact HB.out | apply below_alloc | apply pw_below_drewN | apply below_drew1) | exact HB.out)⟩
end Go.Proofs.YtmdhniaelmipcaaDoor.Q
namespace Go.Proofs.YtmdhniaelmipcaaDoor.Q
open Go.RowKit Go.Proofs.YtmdhniaelmipcaaDoorW.PrintWords Go.Proofs.YtmdhniaelmipcaaDoorW.PrintLast Go.Proofs.YtmdhniaelmipcaaDoorW.PrintMore
attribute [local go_sem] max2_int min2_int max_two min_two max_three min_three max_four min_four
set_option linter.unusedVariables false
set_option linter.unusedSimpArgs false
def impl_RatesText.f (k : Nat) (a0_0 : Int) (a0_1 : Int) (a0_2 : Int) (a0_3 : Int) (a0_4 : Int) : Option (ByteArray) := (impl_ValidRates.f a0_0 a0_1 a0_2 a0_3 a0_4).bind fun t102 => (if t102 = true then ((impl_ListText.f k (([a0_0, a0_1, a0_2, a0_3, a0_4] : List Int))).bind fun t106 => (some t106)) else (some (⟨#[]⟩ : ByteArray)))
set_option maxHeartbeats 8000000 in
set_option maxRecDepth 100000 in
theorem impl_RatesText.calls (k : Nat) (a0_0 : Int) (a0_1 : Int) (a0_2 : Int) (a0_3 : Int) (a0_4 : Int) (r : ByteArray) (w : World) (hTab_ : Tab_ w) (h : impl_RatesText.f k a0_0 a0_1 a0_2 a0_3 a0_4 = some r) :
    Calls Tryd.prog 7 #[.agg #[.int .i64 a0_0, .int .i64 a0_1, .int .i64 a0_2, .int .i64 a0_3, .int .i64 a0_4]] w fun e w' => e = .returned (.string r) ∧ Below w.heap.size w w' := by
  have hu25 := Tryd.underlying25
  have HTab_ := Aside0.mk hTab_
  clear hTab_
  have HB := Aside0.mk (Below.refl w.heap.size w)
  have H : ((impl_ValidRates.f a0_0 a0_1 a0_2 a0_3 a0_4).bind fun t102 => (if t102 = true then ((impl_ListText.f k (([a0_0, a0_1, a0_2, a0_3, a0_4] : List Int))).bind fun t106 => (some t106)) else (some (⟨#[]⟩ : ByteArray)))) = some r := h
  clear h
  replace H := Option.bind_eq_some_iff.mp H
  obtain ⟨t102, A20, H⟩ := H
  replace H : (if t102 = true then ((impl_ListText.f k (([a0_0, a0_1, a0_2, a0_3, a0_4] : List Int))).bind fun t106 => (some t106)) else (some (⟨#[]⟩ : ByteArray))) = some r := H
  have A2 := Aside0.mk A20
  clear A20
  have HC3 := Aside0.mk H
  clear H
  go_enter Tryd.func7, Tryd.ntmps7
  go_upto_if 5 with (first | ((with_reducible refine gate_dst (N := 1) rfl ?_); refine box_event ?hg (N := 1) ?hd (cs := #[.int .i64 a0_0, .int .i64 a0_1, .int .i64 a0_2, .int .i64 a0_3, .int .i64 a0_4]) (t := 25) ?hr ?_; (case hd => rfl); (case hg => rfl); (case hr => first | (go_simp; done) | (go_simp; rfl)); intro gb101 hg w4 hbox hb; have n0_ := Aside0.mk (below_step (by repeat (first | (with_reducible first | exact HB.out | apply below_alloc | apply pw_below_drewN | apply below_drew1) | exact HB.out)) hb); have n1_ := Aside0.mk (hbox); have n2_ := Aside0.mk ((by rw [hg]; exact (below_size (by repeat (first | (with_reducible first | exact HB.out | apply below_alloc | apply pw_below_drewN | apply below_drew1) | exact HB.out))) : w.heap.size ≤ gb101)); have n3_ := Aside0.mk ((by rw [hg]; exact (below_size (by repeat (first | (with_reducible first | exact HB.out | apply below_alloc | apply pw_below_drewN | apply below_drew1) | exact HB.out))) : w.heap.size ≤ gb101)); clear HB; have HB := n0_; have BK101 := n1_; have GW101 := n2_; have GE101 := n3_; clear n0_ n1_ n2_ n3_; clear hb hbox hg; have hcz5_0 : w4.cell? ⟨gb101, 0, none⟩ = some (.int .i64 a0_0) := (blk_cell BK101.out 0).trans rfl; have hcz5_1 : w4.cell? ⟨gb101, 1, none⟩ = some (.int .i64 a0_1) := (blk_cell BK101.out 1).trans rfl; have hcz5_2 : w4.cell? ⟨gb101, 2, none⟩ = some (.int .i64 a0_2) := (blk_cell BK101.out 2).trans rfl; have hcz5_3 : w4.cell? ⟨gb101, 3, none⟩ = some (.int .i64 a0_3) := (blk_cell BK101.out 3).trans rfl; have hcz5_4 : w4.cell? ⟨gb101, 4, none⟩ = some (.int .i64 a0_4) := (blk_cell BK101.out 4).trans rfl; have hfz5_0 := blk_frozen BK101.out 0; have hfz5_1 := blk_frozen BK101.out 1; have hfz5_2 := blk_frozen BK101.out 2; have hfz5_3 := blk_frozen BK101.out 3; have hfz5_4 := blk_frozen BK101.out 4) | ((with_reducible refine gate_callee (f := 13) rfl ?_); refine goesL_ (some 4) rfl rfl Tryd.func13 (by kernel_rfl) rfl #[.agg #[.int .i64 a0_0, .int .i64 a0_1, .int .i64 a0_2, .int .i64 a0_3, .int .i64 a0_4]] rfl (by (try simp only [List.map_toArray, List.map_cons, List.map_nil]); first | done | rfl | (simp only [List.length_drop, List.length_take]; rfl)) ?_; (with_reducible refine (impl_ValidRates.calls a0_0 a0_1 a0_2 a0_3 a0_4 t102 _ A2.out).mono ?_); rintro e w6 ⟨rfl, hb⟩; refine ⟨_, rfl, ?_⟩; have n0_ := Aside0.mk (blk_below (g := gb101) (o := .cells #[.int .i64 a0_0, .int .i64 a0_1, .int .i64 a0_2, .int .i64 a0_3, .int .i64 a0_4] 25 (0, 0)) (by (with_reducible repeat (first | refine blk_drewN ?_ _ | refine blk_drew ?_ | refine blk_alloc ?_ _)); exact BK101.out) hb); have n1_ := Aside0.mk (below_step (by repeat (first | (with_reducible first | exact HB.out | apply below_alloc | apply pw_below_drewN | apply below_drew1 | refine below_set ?_ GE101.out) | exact HB.out)) hb); clear BK101; clear HB; have BK101 := n0_; have HB := n1_; clear n0_ n1_; (try clear hb); (try clear hb2); (try clear hk); (try clear hi)))
  (try simp only [Act.put, List.setIfInBounds_toArray, List.set_cons_zero, List.set_cons_succ])
  have H := HC3.out
  clear HC3
  by_cases c7 : t102 = true
  · subst c7
    have H1 : ((impl_ListText.f k (([a0_0, a0_1, a0_2, a0_3, a0_4] : List Int))).bind fun t106 => (some t106)) = some r := by rw [if_pos rfl] at H; exact H
    clear H
    have H := H1
    clear H1
    obtain ⟨y103, hy103⟩ : ∃ y_ : List Int, y_ = (([a0_0, a0_1, a0_2, a0_3, a0_4] : List Int)) := ⟨_, rfl⟩
    replace H : ((impl_ListText.f k y103).bind fun t106 => (some t106)) = some r := by first | (rw [hy103]; with_reducible exact H) | (have H2_ := (Option.bind_some _ _).symm.trans H; rw [hy103]; with_reducible exact H2_) | (have H2_ := (Option.bind_some _ _).symm.trans H; with_reducible exact H2_) | with_reducible exact H | (rw [hy103]; exact H) | exact H
    have Ny103 := Aside0.mk hy103
    clear hy103
    replace H := Option.bind_eq_some_iff.mp H
    obtain ⟨t106, A80, H⟩ := H
    replace H : (some t106) = some r := H
    have A8 := Aside0.mk A80
    clear A80
    obtain rfl := Option.some.inj H
    have hcz9_0 : w6.cell? ⟨gb101, 0, none⟩ = some (.int .i64 a0_0) := (blk_cell BK101.out 0).trans rfl
    have hcz9_1 : w6.cell? ⟨gb101, 1, none⟩ = some (.int .i64 a0_1) := (blk_cell BK101.out 1).trans rfl
    have hcz9_2 : w6.cell? ⟨gb101, 2, none⟩ = some (.int .i64 a0_2) := (blk_cell BK101.out 2).trans rfl
    have hcz9_3 : w6.cell? ⟨gb101, 3, none⟩ = some (.int .i64 a0_3) := (blk_cell BK101.out 3).trans rfl
    have hcz9_4 : w6.cell? ⟨gb101, 4, none⟩ = some (.int .i64 a0_4) := (blk_cell BK101.out 4).trans rfl
    have hfz9_0 := blk_frozen BK101.out 0
    have hfz9_1 := blk_frozen BK101.out 1
    have hfz9_2 := blk_frozen BK101.out 2
    have hfz9_3 := blk_frozen BK101.out 3
    have hfz9_4 := blk_frozen BK101.out 4
    go_wp2_with (first | ((with_reducible refine gate_dst (N := 16) rfl ?_); refine Kd.R_lit (Kd.int .i64) _ 2 ?hg (N := 16) ?hd (xs := ([a0_0, a0_1, a0_2, a0_3, a0_4] : List Int)) (inner := [.int .i64 a0_0, .int .i64 a0_1, .int .i64 a0_2, .int .i64 a0_3, .int .i64 a0_4]) (ok := fun _ => True) (okp := fun _ => True) ?hr ?hp (fun _ hk => hk) trivial (Below.refl _ _) (Nat.le_refl _) (by simp) ?_; (case hd => rfl); (case hg => rfl); (case hr => first | (go_simp; done) | (go_simp; rfl)); (case hp => exact (Reps.one (show Kd.M (Kd.int .i64) _ _ _ a0_0 [.int .i64 a0_0] from rfl) (Reps.one (show Kd.M (Kd.int .i64) _ _ _ a0_1 [.int .i64 a0_1] from rfl) (Reps.one (show Kd.M (Kd.int .i64) _ _ _ a0_2 [.int .i64 a0_2] from rfl) (Reps.one (show Kd.M (Kd.int .i64) _ _ _ a0_3 [.int .i64 a0_3] from rfl) (Reps.one (show Kd.M (Kd.int .i64) _ _ _ a0_4 [.int .i64 a0_4] from rfl) (Reps.none _ _))))))); intro v104 w10 ho11 hb hg_ hnew_; clear hg_ hnew_; (first | rw [← Ny103.out] at ho11 | (simp only [Int.reduceToNat] at ho11; rw [← Ny103.out] at ho11)); have n0_ := Aside0.mk (Kd.R_lower ho11 (below_size (by repeat (first | (with_reducible first | exact HB.out | apply below_alloc | apply pw_below_drewN | apply below_drew1 | refine below_set ?_ GE101.out) | exact HB.out)))); have n1_ := Aside0.mk (blk_below (g := gb101) (o := .cells #[.int .i64 a0_0, .int .i64 a0_1, .int .i64 a0_2, .int .i64 a0_3, .int .i64 a0_4] 25 (0, 0)) (by (with_reducible repeat (first | refine blk_drewN ?_ _ | refine blk_drew ?_ | refine blk_alloc ?_ _)); exact BK101.out) hb); have n2_ := Aside0.mk (below_step (by repeat (first | (with_reducible first | exact HB.out | apply below_alloc | apply pw_below_drewN | apply below_drew1 | refine below_set ?_ GE101.out) | exact HB.out)) hb); clear BK101; clear HB; have HO105 := n0_; have BK101 := n1_; have HB := n2_; clear n0_ n1_ n2_; clear hb ho11; obtain ⟨Ao12, co12, eo12⟩ := Kd.R_slice HO105.out; subst eo12) | ((with_reducible refine gate_callee (f := 14) rfl ?_); refine goesL_ (some 17) rfl rfl Tryd.func14 (by kernel_rfl) rfl #[.slice Ao12 y103.length co12] rfl (by (try simp only [List.map_toArray, List.map_cons, List.map_nil]); first | done | rfl | (simp only [List.length_drop, List.length_take]; rfl)) ?_; (with_reducible refine (impl_ListText.calls k _ _ y103 t106 _ ?side1 ?side2 ?side3 A8.out).mono ?_); (case side1 => repeat (first | exact (Kd.R_reads' HO105.out).2.2 | (with_reducible refine Kd.C_alloc ?_ _) | (with_reducible refine Kd.C_drewN ?_ _) | (with_reducible refine Kd.C_drew ?_))); (case side2 => exact (Kd.R_reads' HO105.out).2.1); (case side3 => exact Tab_below HTab_.out (by repeat (first | (with_reducible first | exact HB.out | apply below_alloc | apply pw_below_drewN | apply below_drew1 | refine below_set ?_ GE101.out) | exact HB.out))); rintro e w13 ⟨rfl, hb⟩; refine ⟨_, rfl, ?_⟩; have n0_ := Aside0.mk (Kd.R_below (by (with_reducible repeat (first | apply Kd.R_alloc | apply Kd.R_drewN | apply Kd.R_drew)); exact HO105.out) hb); have n1_ := Aside0.mk (blk_below (g := gb101) (o := .cells #[.int .i64 a0_0, .int .i64 a0_1, .int .i64 a0_2, .int .i64 a0_3, .int .i64 a0_4] 25 (0, 0)) (by (with_reducible repeat (first | refine blk_drewN ?_ _ | refine blk_drew ?_ | refine blk_alloc ?_ _)); exact BK101.out) hb); have n2_ := Aside0.mk (below_step (by repeat (first | (with_reducible first | exact HB.out | apply below_alloc | apply pw_below_drewN | apply below_drew1 | refine below_set ?_ GE101.out) | exact HB.out)) hb); clear HO105; clear BK101; clear HB; have HO105 := n0_; have BK101 := n1_; have HB := n2_; clear n0_ n1_ n2_; (try clear hb); (try clear hb2); (try clear hk); (try clear hi)))
    go_ret
    exact ⟨by first | rfl | (simp [errW_none, errW_some] <;> rfl) | (simp [*, errW_none, errW_some] <;> rfl), by repeat (first | (with_reducible first | exact HB.out | apply below_alloc | apply pw_below_drewN | apply below_drew1 | refine below_set ?_ GE101.out) | exact HB.out)⟩
  · replace c7 := Bool.eq_false_iff.mpr c7
    subst c7
    have H1 : (some (⟨#[]⟩ : ByteArray)) = some r := by rw [if_neg (show ¬ (false = true) by decide)] at H; exact H
    clear H
    have H := H1
    clear H1
    obtain rfl := Option.some.inj H
    go_wp2
    go_ret
    exact ⟨by first | rfl | (simp [errW_none, errW_some] <;> rfl) | (simp [*, errW_none, errW_some] <;> rfl), by repeat (first | (with_reducible first | exact HB.out | apply below_alloc | apply pw_below_drewN | apply below_drew1 | refine below_set ?_ GE101.out) | exact HB.out)⟩
end Go.Proofs.YtmdhniaelmipcaaDoor.Q
namespace Go.Proofs.YtmdhniaelmipcaaDoor.Q
open Go.RowKit Go.Proofs.YtmdhniaelmipcaaDoorW.PrintWords Go.Proofs.YtmdhniaelmipcaaDoorW.PrintLast Go.Proofs.YtmdhniaelmipcaaDoorW.PrintMore
attribute [local go_sem] max2_int min2_int max_two min_two max_three min_three max_four min_four
set_option linter.unusedVariables false
set_option linter.unusedSimpArgs false
def laws_FnExactRatesText.f (k : Nat) (a0_0 : Int) (a0_1 : Int) (a0_2 : Int) (a0_3 : Int) (a0_4 : Int) : Option (Bool) := (laws_toRates.f a0_0 a0_1 a0_2 a0_3 a0_4).bind fun bt102 => ((spec_RatesText.f k bt102.1 bt102.2.1 bt102.2.2.1 bt102.2.2.2.1 bt102.2.2.2.2).bind fun t107 => ((laws_toRates.f a0_0 a0_1 a0_2 a0_3 a0_4).bind fun bt108 => ((impl_RatesText.f k bt108.1 bt108.2.1 bt108.2.2.1 bt108.2.2.2.1 bt108.2.2.2.2).bind fun t113 => (if t113.toList = t107.toList then (some true) else (some false)))))
set_option maxHeartbeats 8000000 in
set_option maxRecDepth 100000 in
theorem laws_FnExactRatesText.calls (k : Nat) (a0_0 : Int) (a0_1 : Int) (a0_2 : Int) (a0_3 : Int) (a0_4 : Int) (r : Bool) (w : World) (hTab_ : Tab_ w) (h : laws_FnExactRatesText.f k a0_0 a0_1 a0_2 a0_3 a0_4 = some r) :
    Calls Tryd.prog 3 #[.agg #[.int .i64 a0_0, .int .i64 a0_1, .int .i64 a0_2, .int .i64 a0_3, .int .i64 a0_4]] w fun e w' => e = .returned (.bool r) ∧ Below w.heap.size w w' := by
  have hu23 := Tryd.underlying23
  have HTab_ := Aside0.mk hTab_
  clear hTab_
  have HB := Aside0.mk (Below.refl w.heap.size w)
  have H : ((laws_toRates.f a0_0 a0_1 a0_2 a0_3 a0_4).bind fun bt102 => ((spec_RatesText.f k bt102.1 bt102.2.1 bt102.2.2.1 bt102.2.2.2.1 bt102.2.2.2.2).bind fun t107 => ((laws_toRates.f a0_0 a0_1 a0_2 a0_3 a0_4).bind fun bt108 => ((impl_RatesText.f k bt108.1 bt108.2.1 bt108.2.2.1 bt108.2.2.2.1 bt108.2.2.2.2).bind fun t113 => (if t113.toList = t107.toList then (some true) else (some false)))))) = some r := h
  clear h
  replace H := Option.bind_eq_some_iff.mp H
  obtain ⟨⟨t102, t103, t104, t105, t106⟩, A20, H⟩ := H
  replace H : ((spec_RatesText.f k t102 t103 t104 t105 t106).bind fun t107 => ((laws_toRates.f a0_0 a0_1 a0_2 a0_3 a0_4).bind fun bt108 => ((impl_RatesText.f k bt108.1 bt108.2.1 bt108.2.2.1 bt108.2.2.2.1 bt108.2.2.2.2).bind fun t113 => (if t113.toList = t107.toList then (some true) else (some false))))) = some r := H
  have A2 := Aside0.mk A20
  clear A20
  replace H := Option.bind_eq_some_iff.mp H
  obtain ⟨t107, A30, H⟩ := H
  replace H : ((laws_toRates.f a0_0 a0_1 a0_2 a0_3 a0_4).bind fun bt108 => ((impl_RatesText.f k bt108.1 bt108.2.1 bt108.2.2.1 bt108.2.2.2.1 bt108.2.2.2.2).bind fun t113 => (if t113.toList = t107.toList then (some true) else (some false)))) = some r := H
  have A3 := Aside0.mk A30
  clear A30
  replace H := Option.bind_eq_some_iff.mp H
  obtain ⟨⟨t108, t109, t110, t111, t112⟩, A40, H⟩ := H
  replace H : ((impl_RatesText.f k t108 t109 t110 t111 t112).bind fun t113 => (if t113.toList = t107.toList then (some true) else (some false))) = some r := H
  have A4 := Aside0.mk A40
  clear A40
  replace H := Option.bind_eq_some_iff.mp H
  obtain ⟨t113, A50, H⟩ := H
  replace H : (if t113.toList = t107.toList then (some true) else (some false)) = some r := H
  have A5 := Aside0.mk A50
  clear A50
  have HC6 := Aside0.mk H
  clear H
  go_enter Tryd.func3, Tryd.ntmps3
  go_upto_if 13 with (first | ((with_reducible refine gate_dst (N := 1) rfl ?_); refine box_event ?hg (N := 1) ?hd (cs := #[.int .i64 a0_0, .int .i64 a0_1, .int .i64 a0_2, .int .i64 a0_3, .int .i64 a0_4]) (t := 23) ?hr ?_; (case hd => rfl); (case hg => rfl); (case hr => first | (go_simp; done) | (go_simp; rfl)); intro gb101 hg w7 hbox hb; have n0_ := Aside0.mk (below_step (by repeat (first | (with_reducible first | exact HB.out | apply below_alloc | apply pw_below_drewN | apply below_drew1) | exact HB.out)) hb); have n1_ := Aside0.mk (hbox); have n2_ := Aside0.mk ((by rw [hg]; exact (below_size (by repeat (first | (with_reducible first | exact HB.out | apply below_alloc | apply pw_below_drewN | apply below_drew1) | exact HB.out))) : w.heap.size ≤ gb101)); have n3_ := Aside0.mk ((by rw [hg]; exact (below_size (by repeat (first | (with_reducible first | exact HB.out | apply below_alloc | apply pw_below_drewN | apply below_drew1) | exact HB.out))) : w.heap.size ≤ gb101)); clear HB; have HB := n0_; have BK101 := n1_; have GW101 := n2_; have GE101 := n3_; clear n0_ n1_ n2_ n3_; clear hb hbox hg; have hcz8_0 : w7.cell? ⟨gb101, 0, none⟩ = some (.int .i64 a0_0) := (blk_cell BK101.out 0).trans rfl; have hcz8_1 : w7.cell? ⟨gb101, 1, none⟩ = some (.int .i64 a0_1) := (blk_cell BK101.out 1).trans rfl; have hcz8_2 : w7.cell? ⟨gb101, 2, none⟩ = some (.int .i64 a0_2) := (blk_cell BK101.out 2).trans rfl; have hcz8_3 : w7.cell? ⟨gb101, 3, none⟩ = some (.int .i64 a0_3) := (blk_cell BK101.out 3).trans rfl; have hcz8_4 : w7.cell? ⟨gb101, 4, none⟩ = some (.int .i64 a0_4) := (blk_cell BK101.out 4).trans rfl; have hfz8_0 := blk_frozen BK101.out 0; have hfz8_1 := blk_frozen BK101.out 1; have hfz8_2 := blk_frozen BK101.out 2; have hfz8_3 := blk_frozen BK101.out 3; have hfz8_4 := blk_frozen BK101.out 4) | ((with_reducible refine gate_callee (f := 6) rfl ?_); refine goesL_ (some 6) rfl rfl Tryd.func6 (by kernel_rfl) rfl #[.agg #[.int .i64 a0_0, .int .i64 a0_1, .int .i64 a0_2, .int .i64 a0_3, .int .i64 a0_4]] rfl (by (try simp only [List.map_toArray, List.map_cons, List.map_nil]); first | done | rfl | (simp only [List.length_drop, List.length_take]; rfl)) ?_; (with_reducible refine (laws_toRates.calls a0_0 a0_1 a0_2 a0_3 a0_4 t102 t103 t104 t105 t106 _ A2.out).mono ?_); rintro e w9 ⟨rfl, hb⟩; refine ⟨_, rfl, ?_⟩; have n0_ := Aside0.mk (blk_below (g := gb101) (o := .cells #[.int .i64 a0_0, .int .i64 a0_1, .int .i64 a0_2, .int .i64 a0_3, .int .i64 a0_4] 23 (0, 0)) (by (with_reducible repeat (first | refine blk_drewN ?_ _ | refine blk_drew ?_ | refine blk_alloc ?_ _)); exact BK101.out) hb); have n1_ := Aside0.mk (below_step (by repeat (first | (with_reducible first | exact HB.out | apply below_alloc | apply pw_below_drewN | apply below_drew1 | refine below_set ?_ GE101.out) | exact HB.out)) hb); clear BK101; clear HB; have BK101 := n0_; have HB := n1_; clear n0_ n1_; (try clear hb); (try clear hb2); (try clear hk); (try clear hi)) | ((with_reducible refine gate_callee (f := 5) rfl ?_); refine goesL_ (some 7) rfl rfl Tryd.func5 (by kernel_rfl) rfl #[.agg #[.int .i64 t102, .int .i64 t103, .int .i64 t104, .int .i64 t105, .int .i64 t106]] rfl (by (try simp only [List.map_toArray, List.map_cons, List.map_nil]); first | done | rfl | (simp only [List.length_drop, List.length_take]; rfl)) ?_; (with_reducible refine (spec_RatesText.calls k t102 t103 t104 t105 t106 t107 _ A3.out).mono ?_); rintro e w10 ⟨rfl, hb⟩; refine ⟨_, rfl, ?_⟩; have n0_ := Aside0.mk (blk_below (g := gb101) (o := .cells #[.int .i64 a0_0, .int .i64 a0_1, .int .i64 a0_2, .int .i64 a0_3, .int .i64 a0_4] 23 (0, 0)) (by (with_reducible repeat (first | refine blk_drewN ?_ _ | refine blk_drew ?_ | refine blk_alloc ?_ _)); exact BK101.out) hb); have n1_ := Aside0.mk (below_step (by repeat (first | (with_reducible first | exact HB.out | apply below_alloc | apply pw_below_drewN | apply below_drew1 | refine below_set ?_ GE101.out) | exact HB.out)) hb); clear BK101; clear HB; have BK101 := n0_; have HB := n1_; clear n0_ n1_; (try clear hb); (try clear hb2); (try clear hk); (try clear hi); have hcz11_0 : w10.cell? ⟨gb101, 0, none⟩ = some (.int .i64 a0_0) := (blk_cell BK101.out 0).trans rfl; have hcz11_1 : w10.cell? ⟨gb101, 1, none⟩ = some (.int .i64 a0_1) := (blk_cell BK101.out 1).trans rfl; have hcz11_2 : w10.cell? ⟨gb101, 2, none⟩ = some (.int .i64 a0_2) := (blk_cell BK101.out 2).trans rfl; have hcz11_3 : w10.cell? ⟨gb101, 3, none⟩ = some (.int .i64 a0_3) := (blk_cell BK101.out 3).trans rfl; have hcz11_4 : w10.cell? ⟨gb101, 4, none⟩ = some (.int .i64 a0_4) := (blk_cell BK101.out 4).trans rfl; have hfz11_0 := blk_frozen BK101.out 0; have hfz11_1 := blk_frozen BK101.out 1; have hfz11_2 := blk_frozen BK101.out 2; have hfz11_3 := blk_frozen BK101.out 3; have hfz11_4 := blk_frozen BK101.out 4) | ((with_reducible refine gate_callee (f := 6) rfl ?_); refine goesL_ (some 9) rfl rfl Tryd.func6 (by kernel_rfl) rfl #[.agg #[.int .i64 a0_0, .int .i64 a0_1, .int .i64 a0_2, .int .i64 a0_3, .int .i64 a0_4]] rfl (by (try simp only [List.map_toArray, List.map_cons, List.map_nil]); first | done | rfl | (simp only [List.length_drop, List.length_take]; rfl)) ?_; (with_reducible refine (laws_toRates.calls a0_0 a0_1 a0_2 a0_3 a0_4 t108 t109 t110 t111 t112 _ A4.out).mono ?_); rintro e w12 ⟨rfl, hb⟩; refine ⟨_, rfl, ?_⟩; have n0_ := Aside0.mk (blk_below (g := gb101) (o := .cells #[.int .i64 a0_0, .int .i64 a0_1, .int .i64 a0_2, .int .i64 a0_3, .int .i64 a0_4] 23 (0, 0)) (by (with_reducible repeat (first | refine blk_drewN ?_ _ | refine blk_drew ?_ | refine blk_alloc ?_ _)); exact BK101.out) hb); have n1_ := Aside0.mk (below_step (by repeat (first | (with_reducible first | exact HB.out | apply below_alloc | apply pw_below_drewN | apply below_drew1 | refine below_set ?_ GE101.out) | exact HB.out)) hb); clear BK101; clear HB; have BK101 := n0_; have HB := n1_; clear n0_ n1_; (try clear hb); (try clear hb2); (try clear hk); (try clear hi)) | ((with_reducible refine gate_callee (f := 7) rfl ?_); refine goesL_ (some 10) rfl rfl Tryd.func7 (by kernel_rfl) rfl #[.agg #[.int .i64 t108, .int .i64 t109, .int .i64 t110, .int .i64 t111, .int .i64 t112]] rfl (by (try simp only [List.map_toArray, List.map_cons, List.map_nil]); first | done | rfl | (simp only [List.length_drop, List.length_take]; rfl)) ?_; (with_reducible refine (impl_RatesText.calls k t108 t109 t110 t111 t112 t113 _ ?side1 A5.out).mono ?_); (case side1 => exact Tab_below HTab_.out (by repeat (first | (with_reducible first | exact HB.out | apply below_alloc | apply pw_below_drewN | apply below_drew1 | refine below_set ?_ GE101.out) | exact HB.out))); rintro e w13 ⟨rfl, hb⟩; refine ⟨_, rfl, ?_⟩; have n0_ := Aside0.mk (blk_below (g := gb101) (o := .cells #[.int .i64 a0_0, .int .i64 a0_1, .int .i64 a0_2, .int .i64 a0_3, .int .i64 a0_4] 23 (0, 0)) (by (with_reducible repeat (first | refine blk_drewN ?_ _ | refine blk_drew ?_ | refine blk_alloc ?_ _)); exact BK101.out) hb); have n1_ := Aside0.mk (below_step (by repeat (first | (with_reducible first | exact HB.out | apply below_alloc | apply pw_below_drewN | apply below_drew1 | refine below_set ?_ GE101.out) | exact HB.out)) hb); clear BK101; clear HB; have BK101 := n0_; have HB := n1_; clear n0_ n1_; (try clear hb); (try clear hb2); (try clear hk); (try clear hi)))
  (try simp only [Act.put, List.setIfInBounds_toArray, List.set_cons_zero, List.set_cons_succ])
  have H := HC6.out
  clear HC6
  by_cases c14 : t113.toList = t107.toList
  · rw [if_pos c14] at H
    have c14b0 : (t113.toList == t107.toList) = true := beq_iff_eq.mpr c14
    have c14b1 : (t113.toList != t107.toList) = false := bne_eq_false_iff_eq.mpr c14
    clear c14
    (first | rw [c14b0] | (simp only [i64_w, i32_w]; rw [c14b0]) | (simp only [c14b2, Bool.not_true, Bool.not_false]) | (simp only [c14b1, Bool.not_true, Bool.not_false]) | (simp only [c14b0, Bool.not_true, Bool.not_false]) | skip)
    obtain rfl := Option.some.inj H
    go_wp2
    go_ret
    exact ⟨by first | rfl | (simp [errW_none, errW_some] <;> rfl) | (simp [*, errW_none, errW_some] <;> rfl), by repeat (first | (with_reducible first | exact HB.out | apply below_alloc | apply pw_below_drewN | apply below_drew1 | refine below_set ?_ GE101.out) | exact HB.out)⟩
  · rw [if_neg c14] at H
    have c14b0 : (t113.toList == t107.toList) = false := beq_eq_false_iff_ne.mpr c14
    have c14b1 : (t113.toList != t107.toList) = true := bne_iff_ne.mpr c14
    (first | rw [c14b0] | (simp only [i64_w, i32_w]; rw [c14b0]) | (simp only [c14b2, Bool.not_true, Bool.not_false]) | (simp only [c14b1, Bool.not_true, Bool.not_false]) | (simp only [c14b0, Bool.not_true, Bool.not_false]) | skip)
    obtain rfl := Option.some.inj H
    go_wp2
    go_ret
    exact ⟨by first | rfl | (simp [errW_none, errW_some] <;> rfl) | (simp [*, errW_none, errW_some] <;> rfl), by repeat (first | (with_reducible first | exact HB.out | apply below_alloc | apply pw_below_drewN | apply below_drew1 | refine below_set ?_ GE101.out) | exact HB.out)⟩
end Go.Proofs.YtmdhniaelmipcaaDoor.Q
namespace Go.Proofs.YtmdhniaelmipcaaDoor.Q
open Go.RowKit Go.Proofs.YtmdhniaelmipcaaDoorW.PrintWords Go.Proofs.YtmdhniaelmipcaaDoorW.PrintLast Go.Proofs.YtmdhniaelmipcaaDoorW.PrintMore
attribute [local go_sem] max2_int min2_int max_two min_two max_three min_three max_four min_four
set_option linter.unusedVariables false
set_option linter.unusedSimpArgs false
def laws_FnExactRatesText.Pure : Prop := ∀ (x0 : S23), W23 x0 → ∃ k, laws_FnExactRatesText.f k x0.f0 x0.f1 x0.f2 x0.f3 x0.f4 = some true
end Go.Proofs.YtmdhniaelmipcaaDoor.Q
namespace Go.Proofs.YtmdhniaelmipcaaDoor.Q
open Go.RowKit Go.Proofs.YtmdhniaelmipcaaDoorW.PrintWords Go.Proofs.YtmdhniaelmipcaaDoorW.PrintLast Go.Proofs.YtmdhniaelmipcaaDoorW.PrintMore
theorem wr64 {x : Int} (h0 : -9223372036854775808 ≤ x) (h1 : x < 9223372036854775808) : wrap64 x = x := by unfold wrap64; omega
theorem wr64s (i : Nat) (h : (i : Int) < 9223372036854775807) : wrap64 ((i : Int) + 1) = ((i + 1 : Nat) : Int) := by rw [wr64 (by omega) (by omega)]; omega
theorem Ev_suc {α : Type} {g : Nat → Option α} {r : α} (h : Ev (fun k => g (k + 1)) r) : Ev g r := by
  obtain ⟨K, hK⟩ := h
  refine ⟨K + 1, fun k hk => ?_⟩
  obtain ⟨m, rfl⟩ : ∃ m, k = m + 1 := ⟨k - 1, by omega⟩
  exact hK m (by omega)
theorem Ev_t {α : Type} {c : Prop} [Decidable c] {f g : Nat → Option α} {r : α} (h : c) (k : Ev f r) : Ev (fun n => if c then f n else g n) r := by
  obtain ⟨K, hK⟩ := k
  exact ⟨K, fun n hn => (if_pos h).trans (hK n hn)⟩
theorem Ev_f {α : Type} {c : Prop} [Decidable c] {f g : Nat → Option α} {r : α} (h : ¬ c) (k : Ev g r) : Ev (fun n => if c then f n else g n) r := by
  obtain ⟨K, hK⟩ := k
  exact ⟨K, fun n hn => (if_neg h).trans (hK n hn)⟩
theorem Ev_b {α β : Type} {g : Nat → Option α} {f : Nat → α → Option β} {a : α} {r : β} (h : Ev g a) (k : Ev (fun n => f n a) r) : Ev (fun n => (g n).bind (fun x => f n x)) r := Ev.bind h k
theorem Ev_s {α β : Type} {a : α} {f : Nat → α → Option β} {r : β} (k : Ev (fun n => f n a) r) : Ev (fun n => (some a).bind (fun x => f n x)) r := k
theorem Ev_n {α : Type} {a r : α} (h : a = r) : Ev (fun _ => some a) r := ⟨0, fun _ _ => by rw [h]⟩
theorem Ev_c {α : Type} {o : Option α} {r : α} (h : o = some r) : Ev (fun _ => o) r := ⟨0, fun _ _ => h⟩
theorem Ev_at {α : Type} {g : Nat → Option α} {r r' : α} (h : Ev g r) (e : r = r') : Ev g r' := e ▸ h
theorem getD_in {α : Type} (l : List α) (z : α) (i : Nat) (h : i < l.length) : l.getD ((i : Int).toNat) z = l[i] := by simp [List.getD, h]
end Go.Proofs.YtmdhniaelmipcaaDoor.Q
namespace Go.Proofs.YtmdhniaelmipcaaDoor.Q
open Go.RowKit Go.Proofs.YtmdhniaelmipcaaDoorW.PrintWords Go.Proofs.YtmdhniaelmipcaaDoorW.PrintLast Go.Proofs.YtmdhniaelmipcaaDoorW.PrintMore
theorem in_f (a b c : Int) : spec_l00In.f a b c = some (decide (b ≤ a) && decide (a ≤ c)) := by unfold spec_l00In.f; by_cases h : a ≥ b <;> simp [h]
theorem within_f (a b c : Int) : impl_within.f a b c = some (decide (b ≤ a) && decide (a ≤ c)) := by unfold impl_within.f; by_cases h : a ≥ b <;> simp [h]
end Go.Proofs.YtmdhniaelmipcaaDoor.Q
namespace Go.Proofs.YtmdhniaelmipcaaDoor.Q
open Go.RowKit Go.Proofs.YtmdhniaelmipcaaDoorW.PrintWords Go.Proofs.YtmdhniaelmipcaaDoorW.PrintLast Go.Proofs.YtmdhniaelmipcaaDoorW.PrintMore
set_option linter.unusedVariables false
abbrev Bs (l : List UInt8) : ByteArray := ⟨l.toArray⟩
theorem Bs_app (a b : List UInt8) : Bs a ++ Bs b = Bs (a ++ b) := by
  apply ByteArray.ext
  simp
theorem Bs_size (l : List UInt8) : (Bs l).size = l.length := by simp [ByteArray.size]
def digs (u : Nat) : List Int := if h : u = 0 then [] else (48 + (u % 10 : Nat) : Int) :: digs (u / 10)
termination_by u
decreasing_by omega
theorem digs_zero : digs 0 = [] := by rw [digs, dif_pos rfl]
theorem digs_pos {u : Nat} (h : u ≠ 0) : digs u = (48 + (u % 10 : Nat) : Int) :: digs (u / 10) := by rw [digs, dif_neg h]
theorem digs_dec (u : Nat) (h : u ≠ 0) : (digs u).reverse.map (fun n => UInt8.ofNat n.toNat) = Go.Lib.decDigits u := by
  induction u using Nat.strongRecOn with
  | _ u ih =>
    rw [digs_pos h, Go.Lib.decDigits]
    by_cases h10 : u < 10
    · rw [dif_pos h10, show u / 10 = 0 by omega, digs_zero, Nat.mod_eq_of_lt h10]
      simp only [List.reverse_cons, List.reverse_nil, List.nil_append, List.map_cons, List.map_nil]
      rw [show (48 + (u : Int)).toNat = 48 + u by omega]
    · rw [dif_neg h10, List.reverse_cons, List.map_append, ih (u / 10) (by omega) (by omega)]
      simp only [List.map_cons, List.map_nil]
      rw [show (48 + ((u % 10 : Nat) : Int)).toNat = 48 + u % 10 by omega]
def its (n : Int) : ByteArray := Bs (Go.Lib.itoa n)
theorem rev_ev (x3 : List Int) (hl : x3.length ≤ 1000) : ∀ (j : Nat) (x6 : List Int), j ≤ x3.length → x6.length + j ≤ 1000 → Ev (fun k => spec_l01Dec.l1 k x3 x6 ((j : Int) - 1)) (strOfNums (x6 ++ (x3.take j).reverse))
  | 0, x6, _, _ => by
    refine Ev_suc ?_
    simp only [spec_l01Dec.l1]
    exact Ev_f (by omega) (Ev_n (by simp))
  | j + 1, x6, h, h2 => by
    refine Ev_suc ?_
    simp only [spec_l01Dec.l1]
    have e : ((j + 1 : Nat) : Int) - 1 = (j : Int) := by omega
    rw [e]
    refine Ev_t (by omega) (Ev_t (by omega) (Ev_t (by omega) (Ev_t (by omega) ?_)))
    rw [wr64 (x := (j : Int) - 1) (by omega) (by omega)]
    have hr : rd x3 (j : Int) = x3[j] := by unfold rd; exact getD_in x3 _ j (by omega)
    have := rev_ev x3 hl j (x6 ++ [rd x3 (j : Int)]) (by omega) (by simp; omega)
    refine Ev_at this ?_
    rw [hr, List.take_succ_eq_append_getElem (by omega), List.reverse_append]
    simp
theorem dec_loop (n0 : Int) : ∀ (d u : Nat) (x3 : List Int) (m : Int), u < 10 ^ d → d ≤ 19 → x3.length + d ≤ 30 → m = (if n0 < 0 then -(u : Int) else (u : Int)) → Ev (fun k => spec_l01Dec.l0 k n0 x3 m) (strOfNums ((x3 ++ digs u ++ (if n0 < 0 then [45] else [])).reverse)) := by
  have fin : ∀ (x : List Int), x.length ≤ 100 → Ev (fun k => spec_l01Dec.j1 k x) (strOfNums x.reverse) := fun x hx => by
    refine Ev_suc ?_
    simp only [spec_l01Dec.j1]
    rw [wr64 (x := (x.length : Int) - 1) (by omega) (by omega)]
    have := rev_ev x (by omega) x.length [] (Nat.le_refl _) (by simp; omega)
    simpa using this
  have stop : ∀ (x3 : List Int), x3.length ≤ 50 → Ev (fun k => spec_l01Dec.l0 k n0 x3 0) (strOfNums ((x3 ++ (if n0 < 0 then [45] else [])).reverse)) := fun x3 h => by
    refine Ev_suc ?_
    simp only [spec_l01Dec.l0]
    refine Ev_t (by simp) ?_
    by_cases c : n0 < 0
    · rw [if_pos c]
      exact Ev_t c (Ev_t (by omega) (fin _ (by simp; omega)))
    · rw [if_neg c, List.append_nil]
      exact Ev_f c (fin _ (by omega))
  intro d
  induction d with
  | zero =>
    intro u x3 m hu hd hl hm
    have : u = 0 := by simpa using hu
    subst this
    have hm0 : m = 0 := by rw [hm]; split <;> rfl
    subst hm0
    rw [digs_zero, List.append_nil]
    exact stop x3 (by omega)
  | succ d ih =>
    intro u x3 m hu hd hl hm
    by_cases h0 : u = 0
    · subst h0
      have hm0 : m = 0 := by rw [hm]; split <;> rfl
      subst hm0
      rw [digs_zero, List.append_nil]
      exact stop x3 (by omega)
    · have hu2 : u / 10 < 10 ^ d := by rw [Nat.pow_succ] at hu; omega
      have hbig : u < 10000000000000000000 := Nat.lt_of_lt_of_le hu (Nat.le_trans (Nat.pow_le_pow_right (by decide) hd) (by decide))
      refine Ev_suc ?_
      simp only [spec_l01Dec.l0]
      have step := ih (u / 10) (x3 ++ [48 + ((u % 10 : Nat) : Int)]) (if n0 < 0 then -((u / 10 : Nat) : Int) else ((u / 10 : Nat) : Int)) hu2 (by omega) (by simp; omega) rfl
      rw [List.append_assoc x3, List.singleton_append, ← digs_pos h0] at step
      by_cases c : n0 < 0
      · rw [if_pos c] at hm step
        subst hm
        have e1 : Int.tmod (-(u : Int)) 10 = -((u % 10 : Nat) : Int) := by rw [Int.neg_tmod, Int.tmod_eq_emod_of_nonneg (by omega)]; omega
        have e2 : Int.tdiv (-(u : Int)) 10 = -((u / 10 : Nat) : Int) := by rw [Int.neg_tdiv, Int.tdiv_eq_ediv_of_nonneg (by omega)]; omega
        refine Ev_f (by omega) ?_
        rw [e1, e2, wr64 (x := -((u / 10 : Nat) : Int)) (by omega) (by omega)]
        by_cases cz : u % 10 = 0
        · refine Ev_f (by omega) (Ev_t (by omega) ?_)
          rw [wr64 (x := 48 + -((u % 10 : Nat) : Int)) (by omega) (by omega), show (48 + -((u % 10 : Nat) : Int)) % 256 = 48 + ((u % 10 : Nat) : Int) by omega]
          exact step
        · refine Ev_t (by omega) (Ev_t (by omega) ?_)
          rw [wr64 (x := - -((u % 10 : Nat) : Int)) (by omega) (by omega), wr64 (x := 48 + - -((u % 10 : Nat) : Int)) (by omega) (by omega), show (48 + - -((u % 10 : Nat) : Int)) % 256 = 48 + ((u % 10 : Nat) : Int) by omega]
          exact step
      · rw [if_neg c] at hm step
        subst hm
        have e1 : Int.tmod (u : Int) 10 = ((u % 10 : Nat) : Int) := by rw [Int.tmod_eq_emod_of_nonneg (by omega)]; omega
        have e2 : Int.tdiv (u : Int) 10 = ((u / 10 : Nat) : Int) := by rw [Int.tdiv_eq_ediv_of_nonneg (by omega)]; omega
        refine Ev_f (by omega) ?_
        rw [e1, e2, wr64 (x := ((u / 10 : Nat) : Int)) (by omega) (by omega)]
        refine Ev_f (by omega) (Ev_t (by omega) ?_)
        rw [wr64 (x := 48 + ((u % 10 : Nat) : Int)) (by omega) (by omega), show (48 + ((u % 10 : Nat) : Int)) % 256 = 48 + ((u % 10 : Nat) : Int) by omega]
        exact step
theorem dec_ev (n : Int) (h0 : -9223372036854775808 ≤ n) (h1 : n ≤ 9223372036854775807) : Ev (fun k => spec_l01Dec.f k n) (its n) := by
  simp only [spec_l01Dec.f]
  by_cases c : n = 0
  · subst c
    refine Ev_t rfl (Ev_n ?_)
    unfold its Go.Lib.itoa
    rw [if_neg (by decide), Go.Lib.decDigits, dif_pos (by decide)]
    rfl
  · refine Ev_f c ?_
    have := dec_loop n 19 n.natAbs [] n (by rw [show (10 : Nat) ^ 19 = 10000000000000000000 by decide]; omega) (by omega) (by simp) (by split <;> omega)
    refine Ev_at this ?_
    rw [List.nil_append, List.reverse_append]
    have hd := digs_dec n.natAbs (by omega)
    unfold its Go.Lib.itoa strOfNums Bs
    by_cases cn : n < 0
    · rw [if_pos cn, if_pos cn, List.map_append, hd]; rfl
    · rw [if_neg cn, if_neg cn, List.map_append, hd, show n.toNat = n.natAbs by omega]; rfl
theorem Decimal_f (n : Int) (h0 : -9223372036854775808 ≤ n) (h1 : n ≤ 9223372036854775807) : impl_Decimal.f n = some (its n) := by
  unfold impl_Decimal.f strconv_FormatInt_26.f
  rw [if_pos ⟨rfl, h0, h1⟩]
  rfl
end Go.Proofs.YtmdhniaelmipcaaDoor.Q
namespace Go.Proofs.YtmdhniaelmipcaaDoor.Q
open Go.RowKit Go.Proofs.YtmdhniaelmipcaaDoorW.PrintWords Go.Proofs.YtmdhniaelmipcaaDoorW.PrintLast Go.Proofs.YtmdhniaelmipcaaDoorW.PrintMore
set_option linter.unusedVariables false
def icat : List (List UInt8) → List UInt8
  | [] => []
  | [x] => x
  | x :: y :: r => x ++ 44 :: icat (y :: r)
theorem icat_eq : ∀ xs, Go.Lib.join xs [44] = icat xs
  | [] => rfl
  | [x] => by simp [Go.Lib.join, icat, List.intercalate]
  | x :: y :: r => by
    have := icat_eq (y :: r)
    rw [icat, ← this]
    simp [Go.Lib.join, List.intercalate]
theorem icat_snoc (z : List UInt8) : ∀ xs, xs ≠ [] → icat (xs ++ [z]) = icat xs ++ 44 :: z
  | [], h => absurd rfl h
  | [x], _ => rfl
  | x :: y :: r, _ => by
    have := icat_snoc z (y :: r) (by simp)
    rw [List.cons_append, List.cons_append, icat, ← List.cons_append, this, icat]
    simp
theorem icat_len (n : Nat) : ∀ xs : List (List UInt8), (∀ x ∈ xs, x.length ≤ n) → (icat xs).length ≤ xs.length * (n + 1)
  | [], _ => by simp [icat]
  | [x], h => by
    have := h x (by simp)
    simp only [icat, List.length_cons, List.length_nil]
    omega
  | x :: y :: r, h => by
    have h1 := h x (by simp)
    have h2 := icat_len n (y :: r) (fun z hz => h z (List.mem_cons_of_mem _ hz))
    simp only [icat, List.length_append, List.length_cons] at h2 ⊢
    rw [Nat.add_mul (r.length + 1) 1]
    omega
def nmOk (x : Int) : Prop := -1000000000000 ≤ x ∧ x ≤ 1000000000000
def itl (l : List Int) : List (List UInt8) := l.map Go.Lib.itoa
def LT_ (l : List Int) : ByteArray := if l = [] then Bs [45] else Bs (icat (itl l))
theorem itoa_short (n : Int) (h : nmOk n) : (Go.Lib.itoa n).length ≤ 21 := Go.Lib.itoa_length_le n (by unfold nmOk at h; omega) (by unfold nmOk at h; omega)
theorem itl_len (l : List Int) (hl : l.length ≤ 64) (hb : ∀ x ∈ l, nmOk x) : (icat (itl l)).length ≤ 1408 := by
  have := icat_len 21 (itl l) (fun x hx => by
    obtain ⟨n, hn, rfl⟩ := List.mem_map.1 hx
    exact itoa_short n (hb n hn))
  have e : (itl l).length = l.length := by simp [itl]
  rw [e] at this
  omega
theorem its_size (n : Int) (h : nmOk n) : (its n).size ≤ 21 := by
  unfold its
  rw [Bs_size]
  exact itoa_short n h
theorem rdi_in (l : List Int) (i : Nat) (h : i < l.length) : rd l (i : Int) = l[i] := by unfold rd; exact getD_in l _ i h
theorem list_spec (l : List Int) (hl : l.length ≤ 64) (hb : ∀ x ∈ l, nmOk x) : Ev (fun k => spec_l01List.f k l) (LT_ l) := by
  simp only [spec_l01List.f]
  by_cases h0 : l = []
  · subst h0
    exact Ev_t (by simp) (Ev_n rfl)
  have hn0 : l.length ≠ 0 := fun h => h0 (List.eq_nil_of_length_eq_zero h)
  refine Ev_f (by omega) ?_
  have go : ∀ (d i : Nat), i + d = l.length → Ev (fun k => spec_l01List.l0 k l (Bs (icat (itl (l.take i)))) i) (LT_ l) := by
    intro d
    induction d with
    | zero =>
      intro i h
      refine Ev_suc ?_
      simp only [spec_l01List.l0]
      refine Ev_f (by omega) (Ev_n ?_)
      unfold LT_
      rw [if_neg h0, List.take_of_length_le (by omega)]
    | succ d ih =>
      intro i h
      have hx := hb l[i] (List.getElem_mem _)
      have hx2 := hx
      unfold nmOk at hx2
      have hs := its_size l[i] hx
      have hlen := itl_len (l.take i) (by simp; omega) (fun x hx => hb x (List.mem_of_mem_take hx))
      have hd := dec_ev l[i] (by omega) (by omega)
      have e1 : itl (l.take (i + 1)) = itl (l.take i) ++ [Go.Lib.itoa l[i]] := by
        unfold itl
        rw [List.take_succ_eq_append_getElem (by omega), List.map_append]
        rfl
      refine Ev_suc ?_
      simp only [spec_l01List.l0]
      rw [rdi_in l i (by omega)]
      refine Ev_t (by omega) ?_
      rw [wr64s i (by omega)]
      have nxt := ih (i + 1) (by omega)
      by_cases hi : i = 0
      · subst hi
        refine Ev_f (by omega) (Ev_t (by omega) (Ev_b hd (Ev_t (by rw [Bs_size]; omega) ?_)))
        rw [e1] at nxt
        have e2 : Bs (icat (itl (l.take 0))) ++ its l[0] = Bs (icat (itl (l.take 0) ++ [Go.Lib.itoa l[0]])) := by
          unfold its
          rw [Bs_app]
          simp [itl, icat]
        rw [e2]
        exact nxt
      · refine Ev_t (by omega) (Ev_t (by rw [Bs_size]; omega) (Ev_t (by omega) (Ev_b hd (Ev_t (by rw [Bs_size]; omega) ?_))))
        rw [e1, icat_snoc _ _ (by unfold itl; intro hc; have := congrArg List.length hc; rw [List.length_map, List.length_take, List.length_nil] at this; omega)] at nxt
        have e2 : Bs (icat (itl (l.take i))) ++ (⟨#[44]⟩ : ByteArray) ++ its l[i] = Bs (icat (itl (l.take i)) ++ 44 :: Go.Lib.itoa l[i]) := by
          unfold its
          rw [show (⟨#[44]⟩ : ByteArray) = Bs [44] from rfl, Bs_app, Bs_app, List.append_assoc, List.singleton_append]
        rw [e2]
        exact nxt
  exact go l.length 0 (by omega)
theorem okW (x : Int) (h : nmOk x) : impl_within.f x (-1000000000000) 1000000000000 = some true := by
  unfold nmOk at h
  rw [within_f]
  simp [h.1, h.2]
theorem list_impl (l : List Int) (hl : l.length ≤ 64) (hb : ∀ x ∈ l, nmOk x) : Ev (fun k => impl_ListText.f k l) (LT_ l) := by
  simp only [impl_ListText.f]
  refine Ev_f (by omega) ?_
  have fin : Ev (fun k => impl_ListText.l1 k [] l (l.length : Int) 0) (Bs (icat (itl l))) := by
    have go : ∀ (d i : Nat), i + d = l.length → Ev (fun k => impl_ListText.l1 k ((l.take i).map its) l (l.length : Int) i) (Bs (icat (itl l))) := by
      intro d
      induction d with
      | zero =>
        intro i h
        refine Ev_suc ?_
        simp only [impl_ListText.l1]
        refine Ev_f (by omega) (Ev_b (Ev_c ?_) (Ev_n rfl))
        unfold strings_Join.f
        rw [List.take_of_length_le (by omega)]
        have e : (l.map its).map (fun x : ByteArray => x.data.toList) = itl l := by
          unfold itl
          rw [List.map_map]
          apply List.map_congr_left
          intro x _
          simp [its]
        have e2 : (⟨#[44]⟩ : ByteArray).data.toList = [44] := rfl
        rw [e, e2, icat_eq]
        have := itl_len l hl hb
        rw [if_pos ⟨by simp; omega, by omega⟩]
      | succ d ih =>
        intro i h
        have hx := hb l[i] (List.getElem_mem _)
        have hx2 := hx
        unfold nmOk at hx2
        refine Ev_suc ?_
        simp only [impl_ListText.l1]
        rw [rdi_in l i (by omega)]
        refine Ev_t (by omega) (Ev_t (by omega) (Ev_t (by omega) (Ev_b (Ev_c (Decimal_f l[i] (by omega) (by omega))) (Ev_t (by simp; omega) ?_))))
        rw [wr64s i (by omega)]
        have := ih (i + 1) (by omega)
        rw [List.take_succ_eq_append_getElem (by omega), List.map_append] at this
        exact this
    exact go l.length 0 (by omega)
  have go : ∀ (d i : Nat), i + d = l.length → Ev (fun k => impl_ListText.l0 k l l (l.length : Int) i) (LT_ l) := by
    intro d
    induction d with
    | zero =>
      intro i h
      refine Ev_suc ?_
      simp only [impl_ListText.l0]
      refine Ev_f (by omega) ?_
      unfold LT_
      by_cases h0 : l = []
      · subst h0
        rw [if_pos rfl]
        exact Ev_t (by simp) (Ev_n rfl)
      · have hn0 : l.length ≠ 0 := fun h => h0 (List.eq_nil_of_length_eq_zero h)
        rw [if_neg h0]
        exact Ev_f (by omega) fin
    | succ d ih =>
      intro i h
      refine Ev_suc ?_
      simp only [impl_ListText.l0]
      rw [rdi_in l i (by omega)]
      refine Ev_t (by omega) (Ev_t (by omega) (Ev_t (by omega) (Ev_b (Ev_c (okW _ (hb l[i] (List.getElem_mem _)))) (Ev_t rfl ?_))))
      rw [wr64s i (by omega)]
      exact ih (i + 1) (by omega)
  exact go l.length 0 (by omega)
end Go.Proofs.YtmdhniaelmipcaaDoor.Q
namespace Go.Proofs.YtmdhniaelmipcaaDoor.Q
open Go.RowKit Go.Proofs.YtmdhniaelmipcaaDoorW.PrintWords Go.Proofs.YtmdhniaelmipcaaDoorW.PrintLast Go.Proofs.YtmdhniaelmipcaaDoorW.PrintMore
set_option linter.unusedVariables false
theorem rates_ok (a b c d e : Int) : ∃ r, spec_l28Ok.f [(⟨a, b, c, d, e⟩ : S25)] = some r ∧ impl_ValidRates.f a b c d e = some r ∧ (r = true → ∀ x ∈ [a, b, c, d, e], 0 ≤ x ∧ x ≤ 100000) := by
  have hrd : rd_T25 [(⟨a, b, c, d, e⟩ : S25)] 0 = ⟨a, b, c, d, e⟩ := rfl
  refine ⟨(decide (0 ≤ a) && decide (a ≤ 100000)) && ((decide (0 ≤ b) && decide (b ≤ 1000)) && ((decide (0 ≤ c) && decide (c ≤ 1000)) && ((decide (0 ≤ d) && decide (d ≤ 300)) && (decide (0 ≤ e) && decide (e ≤ 200))))), ?_, ?_, ?_⟩
  · unfold spec_l28Ok.f
    simp only [hrd, in_f, List.length_cons, List.length_nil]
    cases (decide (0 ≤ a) && decide (a ≤ 100000)) <;> cases (decide (0 ≤ b) && decide (b ≤ 1000)) <;> cases (decide (0 ≤ c) && decide (c ≤ 1000)) <;> cases (decide (0 ≤ d) && decide (d ≤ 300)) <;> simp
  · unfold impl_ValidRates.f
    simp only [within_f]
    cases (decide (0 ≤ a) && decide (a ≤ 100000)) <;> cases (decide (0 ≤ b) && decide (b ≤ 1000)) <;> cases (decide (0 ≤ c) && decide (c ≤ 1000)) <;> cases (decide (0 ≤ d) && decide (d ≤ 300)) <;> simp
  · intro h
    simp only [Bool.and_eq_true, decide_eq_true_eq] at h
    intro x hx
    simp only [List.mem_cons, List.not_mem_nil, or_false] at hx
    rcases hx with rfl | rfl | rfl | rfl | rfl <;> omega
theorem law_RatesText : laws_FnExactRatesText.Pure := by
  unfold laws_FnExactRatesText.Pure
  intros
  rename_i x hx
  obtain ⟨a, b, c, d, e⟩ := x
  refine Ev.rounds (r := true) ?_
  simp only [laws_FnExactRatesText.f, laws_toRates.f, spec_RatesText.f, impl_RatesText.f]
  obtain ⟨r, h1, h2, h3⟩ := rates_ok a b c d e
  have hrd : rd_T25 [(⟨a, b, c, d, e⟩ : S25)] 0 = ⟨a, b, c, d, e⟩ := rfl
  refine Ev_s ?_
  cases r with
  | false => exact Ev_b (Ev_b (Ev_c h1) (Ev_f (by decide) (Ev_n rfl))) (Ev_s (Ev_b (Ev_b (Ev_c h2) (Ev_f (by decide) (Ev_n rfl))) (Ev_t rfl (Ev_n rfl))))
  | true =>
    have hb : ∀ x ∈ [a, b, c, d, e], nmOk x := fun x hx => by have := h3 rfl x hx; unfold nmOk; omega
    have t1 := list_spec [a, b, c, d, e] (by simp) hb
    have t2 := list_impl [a, b, c, d, e] (by simp) hb
    refine Ev_b (Ev_b (Ev_c h1) (Ev_t rfl (Ev_b ?_ (Ev_n rfl)))) (Ev_s (Ev_b (Ev_b (Ev_c h2) (Ev_t rfl (Ev_b t2 (Ev_n rfl)))) (Ev_t rfl (Ev_n rfl))))
    simp only [spec_l28Text.f, hrd]
    exact Ev_t (by simp) (Ev_b t1 (Ev_n rfl))
end Go.Proofs.YtmdhniaelmipcaaDoor.Q
namespace Go.Proofs.YtmdhniaelmipcaaDoor.Pure
open Go.Proofs.YtmdhniaelmipcaaDoor.Q
theorem FnExactRatesText : laws_FnExactRatesText.Pure := law_RatesText
end Go.Proofs.YtmdhniaelmipcaaDoor.Pure
namespace Go.Proofs.YtmdhniaelmipcaaDoor.OPN
open Go
theorem wrap_and_shaped {H : Type} {enc : TypeId × Value → H} {a : Assume} {C : Checked} {os : Os} {f : FuncId} {fn : Func} {s : ChangeSpec} {conds : List PathCond} {apart fresh handsOn again : Bool} {X : World → Array Value → Prop}
    (hX : ∀ (w w' : World) (args : Array Value), w.heap = w'.heap → X w args → X w' args)
    (own : ownKnob C.prog.godebug = none) (started : os.Started) (noInit : C.prog.inits.idxOf? f = none) (hfn : C.prog.funcs[f]? = some fn)
    (witness : ∃ (w : World) (tape : Tape) (i : Input), w.os = os ∧ (w.forCall tape i).Shaped C.prog ∧ i.vars = [] ∧ Input.okWide C.prog (w.forCall tape i) .any w.heap.size f i ∧
      ((s.pre enc C.prog fn conds apart (w.forCall tape i).memory i.args ∧ X (w.forCall tape i).memory i.args) ∧ sizedMet enc C.prog fn (OpenSpec.ofChange s) apart (w.forCall tape i).memory i.args) ∧ a.holds C.prog (lone (Frame.enter C.prog f i.args .normal) [] (w.forCall tape i)))
    (contract : ∀ (W : World) (base : Nat) (args : Array Value) (ds gs : List (DataW H)) (before : List MemPlace),
      (∀ (j : Nat) t v, fn.params[j]? = some t → args[j]? = some v → Value.okWide C.prog W .any base t v) →
      DataW.Whole enc C.prog fn.params.toList s.vars apart W args.toList ds gs before →
      conds.all (PathCond.test C.prog ⟨fn.params.toList, ds, s.plain.varTypes C.prog, gs⟩) = true →
      (DataW.weightsEach C.prog (fn.params.toList ++ s.plain.varTypes C.prog) (ds ++ gs)).all (· ≤ reachBytes) = true → X W args → W.ShapedOpen C.prog →
      a.holds C.prog (lone (Frame.enter C.prog f args .normal) [] W) →
      Calls C.prog f args W fun e W' => ∃ v, e = .returned v ∧ s.post enc C.prog fn apart fresh handsOn again W args v W') :
    ReturnsInHanded a C os f .any (fun w args => (s.pre enc C.prog fn conds apart w args ∧ X w args) ∧ sizedMet enc C.prog fn (OpenSpec.ofChange s) apart w args) (s.post enc C.prog fn apart fresh handsOn again) := by
  refine returnsInHanded_of_calls own started noInit witness ?_
  intro w tape i _ hsh _ hok hpre hholds
  obtain ⟨_, _, _, fn', hfn', _, _, _, _, hval⟩ := hok
  have e : fn' = fn := Option.some.inj (hfn'.symm.trans hfn)
  subst e
  obtain ⟨⟨⟨ds, gs, before, hw, hc⟩, hx⟩, hz⟩ := hpre
  have hw' := DataW.Whole.of_heap (w' := w.forCall tape i) (by rfl) hw
  refine (contract (w.forCall tape i) w.heap.size i.args ds gs before hval hw' hc (hz.weights hw) (hX _ _ _ (by rfl) hx) hsh hholds).mono fun e W' ⟨v, he, hp⟩ => ?_
  subst he
  exact ChangeSpec.post_blind hp
end Go.Proofs.YtmdhniaelmipcaaDoor.OPN
namespace Go.Proofs.YtmdhniaelmipcaaDoor.fnExactRatesText
open Go.ChangeShapes Go.WideShapes Go.ChangeAt Go.RowKit Go.Proofs.YtmdhniaelmipcaaDoor.OPN Go.Proofs.YtmdhniaelmipcaaDoor.Q Go.Proofs.YtmdhniaelmipcaaDoorW.PrintWords
open Go.ChangeMaps (open_string shut_string)
set_option linter.unusedVariables false
theorem own : ownKnob Tryd.prog.godebug = none := by kernel_rfl
theorem laidOut : laidOutB Tryd.prog = true := by kernel_rfl
theorem tab_of {W : World} (hL : laidMetH Tryd.prog Rows.fnExactRatesTextRow.laid W) (hsh : W.ShapedOpen Tryd.prog) : Tab_ W := by
  refine ⟨?_, ?_⟩
  · have hl := hL
    rw [MakeChecks.laidMetH_plain _ _ _ (by kernel_rfl)] at hl
    have h1 := (laidMet.tail (laidMet.tail hl))
    have e_ : (Rows.laid_internal_strconv_uint64pow10 : DataW Unit) = Lib.tabData .u64 Lib.pow10Tab := by rfl
    refine Lib.tabIs_of_head (g := 0) (t := 81) (e := 67) (n := 20) (rest := []) (by kernel_rfl) (by kernel_rfl) Tryd.underlying81 Tryd.underlying67 (by kernel_rfl) (by kernel_rfl) ?_
    rw [← e_]
    exact h1
  · exact Tryd.laysM219.s1_3 W hsh
set_option maxRecDepth 100000 in
theorem lifted (os : Os) (started : os.Started) (H : Type) (enc : TypeId × Value → H) :
    ReturnsInHanded {} Tryd.checked os 3 .any (fun w args => (Rows.fnExactRatesTextSpec.pre enc Tryd.prog Tryd.f3 Rows.fnExactRatesTextRow.domain false w args ∧ laidMetH Tryd.prog Rows.fnExactRatesTextRow.laid w) ∧ sizedMet enc Tryd.prog Tryd.f3 (OpenSpec.ofChange Rows.fnExactRatesTextSpec) false w args) (Rows.fnExactRatesTextSpec.post enc Tryd.prog Tryd.f3 false true false false) := by
  refine wrap_and_shaped (C := Tryd.checked) (X := fun w _ => laidMetH Tryd.prog Rows.fnExactRatesTextRow.laid w) (fun _ _ _ hh h => h.of_heap hh) own started (by kernel_rfl) Tryd.func3
    (ChangeSpec.witness_shaped (enc := enc) (C := Tryd.checked) (os := os) (X := fun w _ => laidMetH Tryd.prog Rows.fnExactRatesTextRow.laid w) false (World.laidAll Tryd.prog os Rows.fnExactRatesTextRow.laid) #[.agg #[.int .i64 0, .int .i64 0, .int .i64 0, .int .i64 0, .int .i64 0]] 8 (World.laidAll_os _ _ _) (World.shaped_of_ZipB (by kernel_rfl) (by kernel_rfl)) (by kernel_rfl) (by kernel_rfl) (by kernel_rfl) (by rw [MakeChecks.laidMetH_plain _ _ _ (by kernel_rfl)]; exact laidMet_laidAll _ (by kernel_rfl) (by kernel_rfl))) ?_
  intro W base args ds gs before hval0 hW hcnd hsz0 hL hsh _
  have hTab := tab_of hL hsh
  clear hL hsh
  have hval : ∀ (j : Nat) t v, Tryd.f3.params[j]? = some t → args[j]? = some v → Value.okWide Tryd.prog W .any base t v := hval0
  have hW' := hW
  obtain ⟨p, q, hA0, hV, rfl, hfz, hnd⟩ := hW
  have hA : DataW.TrodAll enc Tryd.prog W 0 (fun _ => true) true Tryd.f3.params.toList args.toList ds p := hA0
  rw [Tryd.params3] at hA hval
  obtain ⟨v0, vs0, d0, ds0, p0, q0, hargs, rfl, rfl, h0, r0⟩ := trodAll_cons hA
  obtain ⟨rfl, rfl, rfl⟩ := trodAll_nil r0
  obtain rfl : args = #[v0] := by cases args; simp_all
  obtain ⟨rfl, rfl⟩ := trodVars_none hV
  have lt0 : ∀ x ∈ p0, x.block < W.heap.size := by obtain ⟨m, hm⟩ := h0; exact DataW.trod_lt m _ _ _ hm
  have k0 := h0
  obtain ⟨cs0, rfl, hs0⟩ := okWide_struct Tryd.underlying23 (hval 0 23 v0 rfl rfl)
  obtain ⟨fu0, hf0⟩ := h0
  obtain ⟨x0, hK0, w0⟩ := opn23.get (by rw [← opn23.size, ← hs0]; simp [Value.cells]) hf0
  have hcs0 := k23_open hK0
  obtain rfl : cs0 = #[.int .i64 x0.f0, .int .i64 x0.f1, .int .i64 x0.f2, .int .i64 x0.f3, .int .i64 x0.f4] := by apply Array.ext'; exact hcs0
  clear hA0 hval0 hsz0
  obtain ⟨k, hP⟩ := Pure.FnExactRatesText x0 w0
  refine (laws_FnExactRatesText.calls k x0.f0 x0.f1 x0.f2 x0.f3 x0.f4 true W hTab hP).mono fun e W' hh => ?_
  obtain ⟨rfl, bel0⟩ := hh
  have bel : Below W.heap.size W W' := bel0
  exact ⟨_, rfl, _, _, _, [], _, [], hW', trodAll_mk1 (shut_bool Tryd.underlying4 _), (trodAll_cons_mk (Below.trod laidOut (by kernel_rfl) (of_decide_eq_true (by kernel_rfl)) k0 bel lt0) trodAll_mk0), rfl, bel.frame _, fun h => by cases h⟩
theorem over : Rows.fnExactRatesTextRow.holds Tryd.pinned (OpenSpec.ofChange Rows.fnExactRatesTextSpec) :=
  OpenClaim.holds_of_wide 3 Tryd.f3 rfl rfl rfl rfl rfl rfl rfl ⟨rfl, rfl, rfl, rfl, rfl⟩ rfl rfl rfl rfl rfl (by kernel_rfl) Tryd.func3 (by kernel_rfl)
    (of_decide_eq_true (by kernel_rfl)) (by unfold Func.isWrapper; first | (rw [if_pos (by decide +kernel)]; kernel_rfl) | (rw [if_neg (by decide +kernel)]; exact ⟨rfl, rfl⟩))
    (fun os started H enc _ => lifted os started H enc)
theorem proved : Rows.FnExactRatesTextSaid := over
#print axioms proved
end Go.Proofs.YtmdhniaelmipcaaDoor.fnExactRatesText
namespace Go.Proofs.YtmdhniaelmipcaaDoor
open Go
theorem fnExactRatesText_holds : Rows.FnExactRatesTextCardSaid :=
  Claim7.holds_tied_plain_at .later [] [.data, .data, .data] true (true, "290b519c5d26309809d300eac38034cbe5ad3028246f96b98ef5b742dfa2f8cc") false fnExactRatesText.proved (fun _ h => by cases h) (by kernel_rfl) (fun _ h => by cases h) fnExactRatesText_row_tie rfl ⟨rfl, rfl⟩ (by kernel_rfl) rfl
    (fun f fn hf hfn => by
      obtain rfl : f = 3 := Option.some.inj ((show Tryd.prog.funcNamed "loop.example/g00956/laws.FnExactRatesText" = some 3 by kernel_rfl).symm.trans hf) |>.symm
      obtain rfl : fn = Tryd.f3 := (Option.some.inj (Tryd.func3.symm.trans hfn)).symm
      exact ⟨by kernel_rfl, fun j t ht => by
        rw [Tryd.params3] at ht
        have hm : t ∈ [23] := by simpa using Array.mem_of_getElem? ht
        have hall : ([23].all fun u => !Tryd.prog.wantsStandIn u) = true := by kernel_rfl
        exact (show Tryd.prog.wantsStandIn t = false by simpa using List.all_eq_true.1 hall t hm)⟩)
    (by kernel_rfl)
end Go.Proofs.YtmdhniaelmipcaaDoor
