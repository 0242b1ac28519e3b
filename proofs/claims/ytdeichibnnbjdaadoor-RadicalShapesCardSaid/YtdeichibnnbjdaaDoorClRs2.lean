/-
  RadicalShapes: of any alphabet, words, shape and list of shapes: what is merged, split, found by the program is the document's, and what comes in stays; no condition but that the tables of utf8 stand as their text lays them.
-/
import Derived.Test.YtdeichibnnbjdaaDoorClRs1
import Derived.Test.YtdeichibnnbjdaaDoorProg
import Derived.Below
import Derived.Deep.Draws
import Derived.Deep.AppendLies
import Derived.Maps.AppendAt
import Derived.OwnWalk
import Derived.Laws.BytesArg
import Derived.Laws.MakeOwn
import Derived.Laws.OwnMore
import Derived.Deep.OwnRows
import Derived.Tactics
import Derived.Lib.ConvBytes
import Derived.Laws.Slices
import Derived.WalkKit
import Derived.KernelRfl
import Derived.RowKit3
import Derived.Deep.LoopGhost
import Derived.Deep.QuietTactic
import Derived.BigQuiet
import Derived.WideLaws
import Derived.Deep.DeepCutAuto
import Derived.Deep.CutBlock
import Derived.Deep.RegionHeld3
import Derived.Laws.Rows
import Derived.Lib.AppendStr
import Derived.ArgAppend
import Derived.Laws.IdiomCopy
import Derived.OrdersHeld
import Derived.Laws.BitsLemmas
import Derived.RowKit
import Derived.Lib.SlTrimSet
import Derived.Maps.OwnOps
import Derived.Maps.Views
import Derived.WalkSpells
import Derived.Lib.Hide
import Derived.WalkLawsBesides
import Derived.Lib.MapLaws
import Derived.Lib.RuneCountTail
import Derived.Shelf.Unicode.DecodeSlow
import Derived.Lib.OthersKept
import Derived.Laws.BitsAllLaws
import Derived.Laws.Cover4
section
-- printed by a program of this session (wip/tools/prx.sh: a turned copy of the kit's print, with functions given from outside)
namespace Go.Proofs.YtdeichibnnbjdaaDoor.RRf
open Go.RowKit Go.Proofs.YtdeichibnnbjdaaDoor Go.Proofs.YtdeichibnnbjdaaDoor.Ext Go.Proofs.YtdeichibnnbjdaaDoorW.PrintWords Go.Proofs.YtdeichibnnbjdaaDoorW.PrintLast Go.Proofs.YtdeichibnnbjdaaDoorW.PrintMore
attribute [local go_sem] max2_int min2_int max_two min_two max_three min_three max_four min_four   -- for this text's walks alone
set_option linter.unusedVariables false
set_option linter.unusedSimpArgs false

/-! ### cognateref02_Find: function 53 -/
def cognateref02_Find.l0 : Nat → Int → Int → List ByteArray → List (S74) → Option (Int)
  | 0, _, _, _, _ => none
  | k + 1, x1, x5, x143000, x143001 => if x5 < (x143001.length : Int) then (if 0 ≤ x5 then (if ((rd_T74 x143001 x5).f0) = x1 then (some x5) else (cognateref02_Find.l0 k x1 (wrap64 (x5 + 1)) x143000 x143001)) else (none)) else (some (-1))
def cognateref02_Find.f (k : Nat) (l0_0 : List ByteArray) (l0_1 : List (S74)) (a1 : Int) : Option (Int) := cognateref02_Find.l0 k a1 0 l0_0 l0_1
set_option maxHeartbeats 8000000 in
set_option maxRecDepth 100000 in
theorem cognateref02_Find.calls (k : Nat) (A0_0 : Option Addr) (c0_0 : Nat) (l0_0 : List ByteArray) (A0_1 : Option Addr) (c0_1 : Nat) (l0_1 : List (S74)) (a1 : Int) (r : Int) (w : World) (hr0_0 : Kd.C Kd.string w A0_0 l0_0.length l0_0) (hc0_0 : l0_0.length ≤ c0_0) (hr0_1 : Kd.C k74 w A0_1 l0_1.length l0_1) (hc0_1 : l0_1.length ≤ c0_1) (h : cognateref02_Find.f k l0_0 l0_1 a1 = some r) :
    Calls Tryd.prog 53 #[.agg #[.slice A0_0 l0_0.length c0_0, .slice A0_1 l0_1.length c0_1], .int .i32 a1] w fun e w' => e = .returned (.int .i64 r) ∧ Below w.heap.size w w' := by
  have hu25 := Tryd.underlying25
  have HR0_0 := Aside0.mk hr0_0
  have HC0_0 := Aside0.mk hc0_0
  clear hr0_0 hc0_0
  have HR0_1 := Aside0.mk hr0_1
  have HC0_1 := Aside0.mk hc0_1
  clear hr0_1 hc0_1
  have HB := Aside0.mk (Below.refl w.heap.size w)
  have H : (cognateref02_Find.l0 k a1 0 l0_0 l0_1) = some r := h
  clear h
  have H' := Aside0.mk H
  clear H
  go_enter Tryd.func53, Tryd.ntmps53
  go_wp2_with (first | ((with_reducible refine gate_dst (N := 2) rfl ?_); refine box_event ?hg (N := 2) ?hd (cs := #[.slice A0_0 l0_0.length c0_0, .slice A0_1 l0_1.length c0_1]) (t := 25) ?hr ?_; (case hd => rfl); (case hg => rfl); (case hr => first | (go_simp; done) | (go_simp; rfl)); intro gb142 hg w3 hbox hb; have n0_ := Aside0.mk (below_step (by repeat (first | (with_reducible first | exact HB.out | apply below_alloc | apply pw_below_drewN | apply below_drew1) | exact HB.out)) hb); have n1_ := Aside0.mk (hbox); have n2_ := Aside0.mk ((by rw [hg]; exact (below_size (by repeat (first | (with_reducible first | exact HB.out | apply below_alloc | apply pw_below_drewN | apply below_drew1) | exact HB.out))) : w.heap.size ≤ gb142)); have n3_ := Aside0.mk ((by rw [hg]; exact (below_size (by repeat (first | (with_reducible first | exact HB.out | apply below_alloc | apply pw_below_drewN | apply below_drew1) | exact HB.out))) : w.heap.size ≤ gb142)); clear HB; have HB := n0_; have BK142 := n1_; have GW142 := n2_; have GE142 := n3_; clear n0_ n1_ n2_ n3_; clear hb hbox hg))
  go_loopg [5] k (fun kq v5 w' => ∃ (x5_1 : Int), v5 = .int .i64 x5_1 ∧ Aside0 (cognateref02_Find.l0 kq a1 x5_1 l0_0 l0_1 = some r) ∧ Aside0 (kq ≤ k) ∧ Aside0 (w'.heap[gb142]? = some (.cells #[(.slice A0_0 l0_0.length c0_0), (.slice A0_1 l0_1.length c0_1)] 25 (0, 0))) ∧ Aside0 (Below w.heap.size w w'))
  case atStart => exact ⟨(0), (by first | rfl | (simp; done) | (simp [*]; done)), H', ⟨Nat.le_refl _⟩, ⟨by (with_reducible repeat (first | refine blk_drewN ?_ _ | refine blk_drew ?_ | refine blk_alloc ?_ _)); exact BK142.out⟩, ⟨by repeat (first | (with_reducible first | exact HB.out | apply below_alloc | apply pw_below_drewN | apply below_drew1 | refine below_set ?_ GE142.out) | exact HB.out)⟩⟩
  case round =>
    clear H'
    try clear p2
    obtain ⟨x5_1, rfl, HA, HK1, BK142, HB⟩ := hrel
    cases gk with
    | zero => exact absurd HA.out (by simp [cognateref02_Find.l0])
    | succ k1 =>
      have H := HA.out
      clear HA
      simp only [cognateref02_Find.l0] at H
      by_cases c4 : x5_1 < (l0_1.length : Int)
      · rw [if_pos c4] at H
        have c4b0 : decide (x5_1 < (l0_1.length : Int)) = true := decide_eq_true c4
        clear c4
        by_cases c5 : 0 ≤ x5_1
        · rw [if_pos c5] at H
          have c5b0 : decide (0 ≤ x5_1) = true := decide_eq_true c5
          clear c5
          by_cases c6 : ((rd_T74 l0_1 x5_1).f0) = a1
          · rw [if_pos c6] at H
            have c6b0 : (((rd_T74 l0_1 x5_1).f0) == a1) = true := beq_iff_eq.mpr c6
            have c6b1 : (((rd_T74 l0_1 x5_1).f0) != a1) = false := bne_eq_false_iff_eq.mpr c6
            clear c6
            obtain rfl := Option.some.inj H
            have hcz7_0 : wr.cell? ⟨gb142, 0, none⟩ = some (.slice A0_0 l0_0.length c0_0) := (blk_cell BK142.out 0).trans rfl
            have hcz7_1 : wr.cell? ⟨gb142, 1, none⟩ = some (.slice A0_1 l0_1.length c0_1) := (blk_cell BK142.out 1).trans rfl
            have hfz7_0 := blk_frozen BK142.out 0
            have hfz7_1 := blk_frozen BK142.out 1
            have p143 : 0 ≤ (x5_1 : Int) := of_decide_eq_true (by first | (with_reducible assumption) | assumption)
            have q143 : x5_1 < (l0_1.length : Int) := of_decide_eq_true (by first | (with_reducible assumption) | assumption)
            obtain ⟨ad143, e143, hx143_0, hx143_1, hx143_2⟩ := at_T74 HR0_1.out x5_1 p143 q143
            cases e143
            replace hx143_0 := (HB.out.cell (World.block_lt_of_cell? w _ hx143_0)).trans hx143_0
            replace hx143_1 := (HB.out.cell (World.block_lt_of_cell? w _ hx143_1)).trans hx143_1
            replace hx143_2 := (HB.out.cell (World.block_lt_of_cell? w _ hx143_2)).trans hx143_2
            replace p143 := eq_true p143
            replace q143 := eq_true q143
            go_wp2
            go_ret
            exact ⟨by first | rfl | (simp [errW_none, errW_some] <;> rfl) | (simp [*, errW_none, errW_some] <;> rfl), by repeat (first | (with_reducible first | exact HB.out | apply below_alloc | apply pw_below_drewN | apply below_drew1 | refine below_set ?_ GE142.out) | exact HB.out)⟩
          · rw [if_neg c6] at H
            have c6b0 : (((rd_T74 l0_1 x5_1).f0) == a1) = false := beq_eq_false_iff_ne.mpr c6
            have c6b1 : (((rd_T74 l0_1 x5_1).f0) != a1) = true := bne_iff_ne.mpr c6
            have H' := Aside0.mk H
            clear H
            have hcz8_0 : wr.cell? ⟨gb142, 0, none⟩ = some (.slice A0_0 l0_0.length c0_0) := (blk_cell BK142.out 0).trans rfl
            have hcz8_1 : wr.cell? ⟨gb142, 1, none⟩ = some (.slice A0_1 l0_1.length c0_1) := (blk_cell BK142.out 1).trans rfl
            have hfz8_0 := blk_frozen BK142.out 0
            have hfz8_1 := blk_frozen BK142.out 1
            have p143 : 0 ≤ (x5_1 : Int) := of_decide_eq_true (by first | (with_reducible assumption) | assumption)
            have q143 : x5_1 < (l0_1.length : Int) := of_decide_eq_true (by first | (with_reducible assumption) | assumption)
            obtain ⟨ad143, e143, hx143_0, hx143_1, hx143_2⟩ := at_T74 HR0_1.out x5_1 p143 q143
            cases e143
            replace hx143_0 := (HB.out.cell (World.block_lt_of_cell? w _ hx143_0)).trans hx143_0
            replace hx143_1 := (HB.out.cell (World.block_lt_of_cell? w _ hx143_1)).trans hx143_1
            replace hx143_2 := (HB.out.cell (World.block_lt_of_cell? w _ hx143_2)).trans hx143_2
            replace p143 := eq_true p143
            replace q143 := eq_true q143
            go_wp2
            go_roundg k1
            case measure => have := HK1.out; omega
            case rel => exact ⟨(wrap64 (x5_1 + 1)), (by first | rfl | (simp; done) | (simp [*]; done)), H', ⟨by have := HK1.out; omega⟩, ⟨by (with_reducible repeat (first | refine blk_drewN ?_ _ | refine blk_drew ?_ | refine blk_alloc ?_ _)); exact BK142.out⟩, ⟨by repeat (first | (with_reducible first | exact HB.out | apply below_alloc | apply pw_below_drewN | apply below_drew1 | refine below_set ?_ GE142.out) | exact HB.out)⟩⟩
        · rw [if_neg c5] at H
          exact absurd H (by simp)
      · rw [if_neg c4] at H
        have c4b0 : decide (x5_1 < (l0_1.length : Int)) = false := decide_eq_false c4
        clear c4
        obtain rfl := Option.some.inj H
        have hcz9_0 : wr.cell? ⟨gb142, 0, none⟩ = some (.slice A0_0 l0_0.length c0_0) := (blk_cell BK142.out 0).trans rfl
        have hcz9_1 : wr.cell? ⟨gb142, 1, none⟩ = some (.slice A0_1 l0_1.length c0_1) := (blk_cell BK142.out 1).trans rfl
        have hfz9_0 := blk_frozen BK142.out 0
        have hfz9_1 := blk_frozen BK142.out 1
        go_wp2
        go_ret
        exact ⟨by first | rfl | (simp [errW_none, errW_some] <;> rfl) | (simp [*, errW_none, errW_some] <;> rfl), by repeat (first | (with_reducible first | exact HB.out | apply below_alloc | apply pw_below_drewN | apply below_drew1 | refine below_set ?_ GE142.out) | exact HB.out)⟩

/-! ### cognateref03_Number: function 75 -/
def cognateref03_Number.l0 : Nat → Int → Int → List ByteArray → List (S74) → Option (Int)
  | 0, _, _, _, _ => none
  | k + 1, x1, x5, x145000, x145001 => if x5 < (x145001.length : Int) then (if 0 ≤ x5 then (if ((rd_T74 x145001 x5).f0) = x1 then (some x5) else (cognateref03_Number.l0 k x1 (wrap64 (x5 + 1)) x145000 x145001)) else (none)) else (some (-1))
def cognateref03_Number.f (k : Nat) (l0_0 : List ByteArray) (l0_1 : List (S74)) (a1 : Int) : Option (Int) := cognateref03_Number.l0 k a1 0 l0_0 l0_1
set_option maxHeartbeats 8000000 in
set_option maxRecDepth 100000 in
theorem cognateref03_Number.calls (k : Nat) (A0_0 : Option Addr) (c0_0 : Nat) (l0_0 : List ByteArray) (A0_1 : Option Addr) (c0_1 : Nat) (l0_1 : List (S74)) (a1 : Int) (r : Int) (w : World) (hr0_0 : Kd.C Kd.string w A0_0 l0_0.length l0_0) (hc0_0 : l0_0.length ≤ c0_0) (hr0_1 : Kd.C k74 w A0_1 l0_1.length l0_1) (hc0_1 : l0_1.length ≤ c0_1) (h : cognateref03_Number.f k l0_0 l0_1 a1 = some r) :
    Calls Tryd.prog 75 #[.agg #[.slice A0_0 l0_0.length c0_0, .slice A0_1 l0_1.length c0_1], .int .i32 a1] w fun e w' => e = .returned (.int .i64 r) ∧ Below w.heap.size w w' := by
  have hu25 := Tryd.underlying25
  have HR0_0 := Aside0.mk hr0_0
  have HC0_0 := Aside0.mk hc0_0
  clear hr0_0 hc0_0
  have HR0_1 := Aside0.mk hr0_1
  have HC0_1 := Aside0.mk hc0_1
  clear hr0_1 hc0_1
  have HB := Aside0.mk (Below.refl w.heap.size w)
  have H : (cognateref03_Number.l0 k a1 0 l0_0 l0_1) = some r := h
  clear h
  have H' := Aside0.mk H
  clear H
  go_enter Tryd.func75, Tryd.ntmps75
  go_wp2_with (first | ((with_reducible refine gate_dst (N := 2) rfl ?_); refine box_event ?hg (N := 2) ?hd (cs := #[.slice A0_0 l0_0.length c0_0, .slice A0_1 l0_1.length c0_1]) (t := 25) ?hr ?_; (case hd => rfl); (case hg => rfl); (case hr => first | (go_simp; done) | (go_simp; rfl)); intro gb144 hg w3 hbox hb; have n0_ := Aside0.mk (below_step (by repeat (first | (with_reducible first | exact HB.out | apply below_alloc | apply pw_below_drewN | apply below_drew1) | exact HB.out)) hb); have n1_ := Aside0.mk (hbox); have n2_ := Aside0.mk ((by rw [hg]; exact (below_size (by repeat (first | (with_reducible first | exact HB.out | apply below_alloc | apply pw_below_drewN | apply below_drew1) | exact HB.out))) : w.heap.size ≤ gb144)); have n3_ := Aside0.mk ((by rw [hg]; exact (below_size (by repeat (first | (with_reducible first | exact HB.out | apply below_alloc | apply pw_below_drewN | apply below_drew1) | exact HB.out))) : w.heap.size ≤ gb144)); clear HB; have HB := n0_; have BK144 := n1_; have GW144 := n2_; have GE144 := n3_; clear n0_ n1_ n2_ n3_; clear hb hbox hg))
  go_loopg [5] k (fun kq v5 w' => ∃ (x5_1 : Int), v5 = .int .i64 x5_1 ∧ Aside0 (cognateref03_Number.l0 kq a1 x5_1 l0_0 l0_1 = some r) ∧ Aside0 (kq ≤ k) ∧ Aside0 (w'.heap[gb144]? = some (.cells #[(.slice A0_0 l0_0.length c0_0), (.slice A0_1 l0_1.length c0_1)] 25 (0, 0))) ∧ Aside0 (Below w.heap.size w w'))
  case atStart => exact ⟨(0), (by first | rfl | (simp; done) | (simp [*]; done)), H', ⟨Nat.le_refl _⟩, ⟨by (with_reducible repeat (first | refine blk_drewN ?_ _ | refine blk_drew ?_ | refine blk_alloc ?_ _)); exact BK144.out⟩, ⟨by repeat (first | (with_reducible first | exact HB.out | apply below_alloc | apply pw_below_drewN | apply below_drew1 | refine below_set ?_ GE144.out) | exact HB.out)⟩⟩
  case round =>
    clear H'
    try clear p2
    obtain ⟨x5_1, rfl, HA, HK1, BK144, HB⟩ := hrel
    cases gk with
    | zero => exact absurd HA.out (by simp [cognateref03_Number.l0])
    | succ k1 =>
      have H := HA.out
      clear HA
      simp only [cognateref03_Number.l0] at H
      by_cases c4 : x5_1 < (l0_1.length : Int)
      · rw [if_pos c4] at H
        have c4b0 : decide (x5_1 < (l0_1.length : Int)) = true := decide_eq_true c4
        clear c4
        by_cases c5 : 0 ≤ x5_1
        · rw [if_pos c5] at H
          have c5b0 : decide (0 ≤ x5_1) = true := decide_eq_true c5
          clear c5
          by_cases c6 : ((rd_T74 l0_1 x5_1).f0) = a1
          · rw [if_pos c6] at H
            have c6b0 : (((rd_T74 l0_1 x5_1).f0) == a1) = true := beq_iff_eq.mpr c6
            have c6b1 : (((rd_T74 l0_1 x5_1).f0) != a1) = false := bne_eq_false_iff_eq.mpr c6
            clear c6
            obtain rfl := Option.some.inj H
            have hcz7_0 : wr.cell? ⟨gb144, 0, none⟩ = some (.slice A0_0 l0_0.length c0_0) := (blk_cell BK144.out 0).trans rfl
            have hcz7_1 : wr.cell? ⟨gb144, 1, none⟩ = some (.slice A0_1 l0_1.length c0_1) := (blk_cell BK144.out 1).trans rfl
            have hfz7_0 := blk_frozen BK144.out 0
            have hfz7_1 := blk_frozen BK144.out 1
            have p145 : 0 ≤ (x5_1 : Int) := of_decide_eq_true (by first | (with_reducible assumption) | assumption)
            have q145 : x5_1 < (l0_1.length : Int) := of_decide_eq_true (by first | (with_reducible assumption) | assumption)
            obtain ⟨ad145, e145, hx145_0, hx145_1, hx145_2⟩ := at_T74 HR0_1.out x5_1 p145 q145
            cases e145
            replace hx145_0 := (HB.out.cell (World.block_lt_of_cell? w _ hx145_0)).trans hx145_0
            replace hx145_1 := (HB.out.cell (World.block_lt_of_cell? w _ hx145_1)).trans hx145_1
            replace hx145_2 := (HB.out.cell (World.block_lt_of_cell? w _ hx145_2)).trans hx145_2
            replace p145 := eq_true p145
            replace q145 := eq_true q145
            go_wp2
            go_ret
            exact ⟨by first | rfl | (simp [errW_none, errW_some] <;> rfl) | (simp [*, errW_none, errW_some] <;> rfl), by repeat (first | (with_reducible first | exact HB.out | apply below_alloc | apply pw_below_drewN | apply below_drew1 | refine below_set ?_ GE144.out) | exact HB.out)⟩
          · rw [if_neg c6] at H
            have c6b0 : (((rd_T74 l0_1 x5_1).f0) == a1) = false := beq_eq_false_iff_ne.mpr c6
            have c6b1 : (((rd_T74 l0_1 x5_1).f0) != a1) = true := bne_iff_ne.mpr c6
            have H' := Aside0.mk H
            clear H
            have hcz8_0 : wr.cell? ⟨gb144, 0, none⟩ = some (.slice A0_0 l0_0.length c0_0) := (blk_cell BK144.out 0).trans rfl
            have hcz8_1 : wr.cell? ⟨gb144, 1, none⟩ = some (.slice A0_1 l0_1.length c0_1) := (blk_cell BK144.out 1).trans rfl
            have hfz8_0 := blk_frozen BK144.out 0
            have hfz8_1 := blk_frozen BK144.out 1
            have p145 : 0 ≤ (x5_1 : Int) := of_decide_eq_true (by first | (with_reducible assumption) | assumption)
            have q145 : x5_1 < (l0_1.length : Int) := of_decide_eq_true (by first | (with_reducible assumption) | assumption)
            obtain ⟨ad145, e145, hx145_0, hx145_1, hx145_2⟩ := at_T74 HR0_1.out x5_1 p145 q145
            cases e145
            replace hx145_0 := (HB.out.cell (World.block_lt_of_cell? w _ hx145_0)).trans hx145_0
            replace hx145_1 := (HB.out.cell (World.block_lt_of_cell? w _ hx145_1)).trans hx145_1
            replace hx145_2 := (HB.out.cell (World.block_lt_of_cell? w _ hx145_2)).trans hx145_2
            replace p145 := eq_true p145
            replace q145 := eq_true q145
            go_wp2
            go_roundg k1
            case measure => have := HK1.out; omega
            case rel => exact ⟨(wrap64 (x5_1 + 1)), (by first | rfl | (simp; done) | (simp [*]; done)), H', ⟨by have := HK1.out; omega⟩, ⟨by (with_reducible repeat (first | refine blk_drewN ?_ _ | refine blk_drew ?_ | refine blk_alloc ?_ _)); exact BK144.out⟩, ⟨by repeat (first | (with_reducible first | exact HB.out | apply below_alloc | apply pw_below_drewN | apply below_drew1 | refine below_set ?_ GE144.out) | exact HB.out)⟩⟩
        · rw [if_neg c5] at H
          exact absurd H (by simp)
      · rw [if_neg c4] at H
        have c4b0 : decide (x5_1 < (l0_1.length : Int)) = false := decide_eq_false c4
        clear c4
        obtain rfl := Option.some.inj H
        have hcz9_0 : wr.cell? ⟨gb144, 0, none⟩ = some (.slice A0_0 l0_0.length c0_0) := (blk_cell BK144.out 0).trans rfl
        have hcz9_1 : wr.cell? ⟨gb144, 1, none⟩ = some (.slice A0_1 l0_1.length c0_1) := (blk_cell BK144.out 1).trans rfl
        have hfz9_0 := blk_frozen BK144.out 0
        have hfz9_1 := blk_frozen BK144.out 1
        go_wp2
        go_ret
        exact ⟨by first | rfl | (simp [errW_none, errW_some] <;> rfl) | (simp [*, errW_none, errW_some] <;> rfl), by repeat (first | (with_reducible first | exact HB.out | apply below_alloc | apply pw_below_drewN | apply below_drew1 | refine below_set ?_ GE144.out) | exact HB.out)⟩

/-! ### cognateref03_Read: function 50 -/
mutual
def cognateref03_Read.l0 : Nat → ByteArray → Int → List Int → Int → List ByteArray → List (S74) → Option (List Int × Int)
  | 0, _, _, _, _, _, _ => none
  | k + 1, x1, x2, x8, x9, x147000, x147001 => if x9 < (x1.size : Int) then (if 0 ≤ x9 then (if x9 ≤ (x1.size : Int) then ((utf8_DecodeRuneInString.f (x1.extract (x9 : Int).toNat x1.size)).bind fun bt147 => (if bt147.1 = 65533 then (cognateref03_Read.j1 k x1 x2 x8 x9 bt147.1 bt147.2 (bt147.2 == 1) x147000 x147001) else (cognateref03_Read.j1 k x1 x2 x8 x9 bt147.1 bt147.2 false x147000 x147001))) else (none)) else (none)) else (some (x8, 0))
def cognateref03_Read.j1 : Nat → ByteArray → Int → List Int → Int → Int → Int → Bool → List ByteArray → List (S74) → Option (List Int × Int)
  | 0, _, _, _, _, _, _, _, _, _ => none
  | k + 1, x1, x2, x8, x9, x10, x11, x23, x147000, x147001 => if x23 = true then (some (([] : List Int), 6)) else ((cognateref03_Number.f k x147000 x147001 x10).bind fun t149 => (if t149 < 0 then (some (([] : List Int), 5)) else (if (x8.length : Int) = x2 then (some (([] : List Int), 4)) else (if x8.length < 35184372088832 then (cognateref03_Read.l0 k x1 x2 (x8 ++ [x10]) (wrap64 (x9 + x11)) x147000 x147001) else (none)))))
end
def cognateref03_Read.f (k : Nat) (l0_0 : List ByteArray) (l0_1 : List (S74)) (a1 : ByteArray) (a2 : Int) : Option (List Int × Int) := cognateref03_Read.l0 k a1 a2 ([] : List Int) 0 l0_0 l0_1
set_option maxHeartbeats 8000000 in
set_option maxRecDepth 100000 in
theorem cognateref03_Read.calls (k : Nat) (A0_0 : Option Addr) (c0_0 : Nat) (l0_0 : List ByteArray) (A0_1 : Option Addr) (c0_1 : Nat) (l0_1 : List (S74)) (a1 : ByteArray) (a2 : Int) (r1 : List Int) (r2 : Int) (w : World) (hr0_0 : Kd.C Kd.string w A0_0 l0_0.length l0_0) (hc0_0 : l0_0.length ≤ c0_0) (hr0_1 : Kd.C k74 w A0_1 l0_1.length l0_1) (hc0_1 : l0_1.length ≤ c0_1) (hT : Tabs w) (h : cognateref03_Read.f k l0_0 l0_1 a1 a2 = some (r1, r2)) :
    Calls Tryd.prog 50 #[.agg #[.slice A0_0 l0_0.length c0_0, .slice A0_1 l0_1.length c0_1], .string a1, .int .i64 a2] w fun e w' => ∃ v0_ : Value, e = .returned (.tuple #[v0_, .int .i64 r2]) ∧ Kd.R (Kd.int .i32) 21 w' w.heap.size (fun _ => True) v0_ r1 ∧ Below w.heap.size w w' := by
  have hu25 := Tryd.underlying25
  have HR0_0 := Aside0.mk hr0_0
  have HC0_0 := Aside0.mk hc0_0
  clear hr0_0 hc0_0
  have HR0_1 := Aside0.mk hr0_1
  have HC0_1 := Aside0.mk hc0_1
  clear hr0_1 hc0_1
  have HB := Aside0.mk (Below.refl w.heap.size w)
  have HT := Aside0.mk hT
  clear hT
  have H : (cognateref03_Read.l0 k a1 a2 ([] : List Int) 0 l0_0 l0_1) = some (r1, r2) := h
  clear h
  have H' := Aside0.mk H
  clear H
  go_enter Tryd.func50, Tryd.ntmps50
  go_wp2_with (first | ((with_reducible refine gate_dst (N := 3) rfl ?_); refine box_event ?hg (N := 3) ?hd (cs := #[.slice A0_0 l0_0.length c0_0, .slice A0_1 l0_1.length c0_1]) (t := 25) ?hr ?_; (case hd => rfl); (case hg => rfl); (case hr => first | (go_simp; done) | (go_simp; rfl)); intro gb146 hg w4 hbox hb; have n0_ := Aside0.mk (below_step (by repeat (first | (with_reducible first | exact HB.out | apply below_alloc | apply pw_below_drewN | apply below_drew1) | exact HB.out)) hb); have n1_ := Aside0.mk (hbox); have n2_ := Aside0.mk ((by rw [hg]; exact (below_size (by repeat (first | (with_reducible first | exact HB.out | apply below_alloc | apply pw_below_drewN | apply below_drew1) | exact HB.out))) : w.heap.size ≤ gb146)); have n3_ := Aside0.mk ((by rw [hg]; exact (below_size (by repeat (first | (with_reducible first | exact HB.out | apply below_alloc | apply pw_below_drewN | apply below_drew1) | exact HB.out))) : w.heap.size ≤ gb146)); clear HB; have HB := n0_; have BK146 := n1_; have GW146 := n2_; have GE146 := n3_; clear n0_ n1_ n2_ n3_; clear hb hbox hg))
  go_loopg [8, 9] k (fun kq v8 v9 w' => ∃ (x8_1 : List Int) (x9_1 : Int), v9 = .int .i64 x9_1 ∧ Aside0 (cognateref03_Read.l0 kq a1 a2 x8_1 x9_1 l0_0 l0_1 = some (r1, r2)) ∧ Aside0 (kq ≤ k) ∧ Aside0 (Kd.R (Kd.int .i32) 21 w' w.heap.size (fun _ => True) v8 x8_1) ∧ Aside0 (w'.heap[gb146]? = some (.cells #[(.slice A0_0 l0_0.length c0_0), (.slice A0_1 l0_1.length c0_1)] 25 (0, 0))) ∧ Aside0 (Below w.heap.size w w'))
  case atStart => exact ⟨(([] : List Int)), (0), (by first | rfl | (simp; done) | (simp [*]; done)), H', ⟨Nat.le_refl _⟩, ⟨by first | exact Kd.R_nil _ _ _ _ _ | exact Kd.N_nil _ _ _ _ _ | exact Kd.V_nil _ _ _ _ _ | exact Kd.Q_nil _ _ _ _ _ | exact Kd.S_nil _ _ _ _ _⟩, ⟨by (with_reducible repeat (first | refine blk_drewN ?_ _ | refine blk_drew ?_ | refine blk_alloc ?_ _)); exact BK146.out⟩, ⟨by repeat (first | (with_reducible first | exact HB.out | apply below_alloc | apply pw_below_drewN | apply below_drew1 | refine below_set ?_ GE146.out) | exact HB.out)⟩⟩
  case round =>
    clear H'
    try clear p2
    obtain ⟨x8_1, x9_1, rfl, HA, HK1, HO_8, BK146, HB⟩ := hrel
    cases gk with
    | zero => exact absurd HA.out (by simp [cognateref03_Read.l0])
    | succ k1 =>
      have H := HA.out
      clear HA
      simp only [cognateref03_Read.l0] at H
      by_cases c5 : x9_1 < (a1.size : Int)
      · rw [if_pos c5] at H
        have c5b0 : decide (x9_1 < (a1.size : Int)) = true := decide_eq_true c5
        clear c5
        by_cases c6 : 0 ≤ x9_1
        · rw [if_pos c6] at H
          have c6b0 := eq_true c6
          have c6b1 : decide (0 ≤ x9_1) = true := decide_eq_true c6
          clear c6
          by_cases c7 : x9_1 ≤ (a1.size : Int)
          · rw [if_pos c7] at H
            have c7b0 := eq_true c7
            have c7b1 : decide (x9_1 ≤ (a1.size : Int)) = true := decide_eq_true c7
            clear c7
            replace H := Option.bind_eq_some_iff.mp H
            obtain ⟨⟨t147, t148⟩, A80, H⟩ := H
            replace H : (if t147 = 65533 then (cognateref03_Read.j1 k1 a1 a2 x8_1 x9_1 t147 t148 (t148 == 1) l0_0 l0_1) else (cognateref03_Read.j1 k1 a1 a2 x8_1 x9_1 t147 t148 false l0_0 l0_1)) = some (r1, r2) := H
            have A8 := Aside0.mk A80
            clear A80
            have HC9 := Aside0.mk H
            clear H
            go_upto_region 5 with (first | ((with_reducible refine gate_callee (f := 77) rfl ?_); refine goesL_ (some 20) rfl rfl Tryd.func77 (by kernel_rfl) rfl #[.string (a1.extract (x9_1 : Int).toNat a1.size)] rfl (by (try simp only [List.map_toArray, List.map_cons, List.map_nil]); first | done | rfl | (simp only [List.length_drop, List.length_take]; rfl)) ?_; (with_reducible refine (utf8_DecodeRuneInString.calls (a1.extract (x9_1 : Int).toNat a1.size) t147 t148 _ ?side1 A8.out).mono ?_); (case side1 => exact Tabs.below HT.out (by repeat (first | (with_reducible first | exact HB.out | apply below_alloc | apply pw_below_drewN | apply below_drew1 | refine below_set ?_ GE146.out) | exact HB.out))); rintro e w10 ⟨rfl, hb⟩; refine ⟨_, rfl, ?_⟩; have n0_ := Aside0.mk (Kd.R_below (by (with_reducible repeat (first | apply Kd.R_alloc | apply Kd.R_drewN | apply Kd.R_drew)); exact HO_8.out) hb); have n1_ := Aside0.mk (blk_below (g := gb146) (o := .cells #[.slice A0_0 l0_0.length c0_0, .slice A0_1 l0_1.length c0_1] 25 (0, 0)) (by (with_reducible repeat (first | refine blk_drewN ?_ _ | refine blk_drew ?_ | refine blk_alloc ?_ _)); exact BK146.out) hb); have n2_ := Aside0.mk (below_step (by repeat (first | (with_reducible first | exact HB.out | apply below_alloc | apply pw_below_drewN | apply below_drew1 | refine below_set ?_ GE146.out) | exact HB.out)) hb); clear HO_8; clear BK146; clear HB; have HO_8 := n0_; have BK146 := n1_; have HB := n2_; clear n0_ n1_ n2_; (try clear hb); (try clear hb2); (try clear hk); (try clear hi)))
            (try simp only [Act.put, List.setIfInBounds_toArray, List.set_cons_zero, List.set_cons_succ])
            go_cut [23] (fun v23 wc => ∃ (kq : Nat) (x23_8 : Bool), v23 = .bool x23_8 ∧ Aside0 (cognateref03_Read.j1 kq a1 a2 x8_1 x9_1 t147 t148 x23_8 l0_0 l0_1 = some (r1, r2)) ∧ Aside0 (kq ≤ k1) ∧ Aside0 (Kd.R (Kd.int .i32) 21 wc w.heap.size (fun _ => True) u8 x8_1) ∧ Aside0 (wc.heap[gb146]? = some (.cells #[(.slice A0_0 l0_0.length c0_0), (.slice A0_1 l0_1.length c0_1)] 25 (0, 0))) ∧ Aside0 (Below w.heap.size w wc))
            case first =>
              have H := HC9.out
              clear HC9
              by_cases c11 : t147 = 65533
              · rw [if_pos c11] at H
                have c11b0 : (t147 == 65533) = true := beq_iff_eq.mpr c11
                have c11b1 : (t147 != 65533) = false := bne_eq_false_iff_eq.mpr c11
                clear c11
                (first | rw [c11b0] | (simp only [i64_w, i32_w]; rw [c11b0]) | skip)
                have H' := Aside0.mk H
                clear H
                go_wp2
                go_meet
                case rel => exact ⟨_, ((t148 == 1)), (by first | rfl | (simp; done) | (simp [*]; done)), H', ⟨by have := HK1.out; first | omega | exact Nat.le_refl _⟩, ⟨by (with_reducible repeat (first | apply Kd.R_alloc | apply Kd.R_drewN | apply Kd.R_drew)); exact HO_8.out⟩, ⟨by (with_reducible repeat (first | refine blk_drewN ?_ _ | refine blk_drew ?_ | refine blk_alloc ?_ _)); exact BK146.out⟩, ⟨by repeat (first | (with_reducible first | exact HB.out | apply below_alloc | apply pw_below_drewN | apply below_drew1 | refine below_set ?_ GE146.out) | exact HB.out)⟩⟩
              · rw [if_neg c11] at H
                have c11b0 : (t147 == 65533) = false := beq_eq_false_iff_ne.mpr c11
                have c11b1 : (t147 != 65533) = true := bne_iff_ne.mpr c11
                (first | rw [c11b0] | (simp only [i64_w, i32_w]; rw [c11b0]) | skip)
                have H' := Aside0.mk H
                clear H
                go_wp2
                go_meet
                case rel => exact ⟨_, (false), (by first | rfl | (simp; done) | (simp [*]; done)), H', ⟨by have := HK1.out; first | omega | exact Nat.le_refl _⟩, ⟨by (with_reducible repeat (first | apply Kd.R_alloc | apply Kd.R_drewN | apply Kd.R_drew)); exact HO_8.out⟩, ⟨by (with_reducible repeat (first | refine blk_drewN ?_ _ | refine blk_drew ?_ | refine blk_alloc ?_ _)); exact BK146.out⟩, ⟨by repeat (first | (with_reducible first | exact HB.out | apply below_alloc | apply pw_below_drewN | apply below_drew1 | refine below_set ?_ GE146.out) | exact HB.out)⟩⟩
            case rest =>
              clear HC9
              try clear c1
              try clear p2
              try clear c5
              try clear c5b0
              try clear c6
              try clear c6b0
              try clear c6b1
              try clear c7
              try clear c7b0
              try clear c7b1
              try clear c11
              try clear c11b0
              try clear c11b1
              try clear p2
              obtain ⟨kq, x23_8, rfl, HA, HJ8, HO_8, BK146, HB⟩ := hcut
              cases kq with
              | zero => exact absurd HA.out (by simp [cognateref03_Read.j1])
              | succ kj8 =>
                have H := HA.out
                clear HA
                simp only [cognateref03_Read.j1] at H
                by_cases c12 : x23_8 = true
                · subst c12
                  have H1 : (some (([] : List Int), 6)) = some (r1, r2) := by rw [if_pos rfl] at H; exact H
                  clear H
                  have H := H1
                  clear H1
                  simp only [Option.some.injEq, Prod.mk.injEq] at H
                  obtain ⟨rfl, rfl⟩ := H
                  go_wp2
                  go_ret2
                  exact ⟨_, by first | rfl | (simp [errW_none, errW_some] <;> rfl) | (simp [*, errW_none, errW_some] <;> rfl), by first | exact Kd.R_nil _ _ _ _ _ | exact Kd.N_nil _ _ _ _ _ | exact Kd.V_nil _ _ _ _ _ | exact Kd.Q_nil _ _ _ _ _ | exact Kd.S_nil _ _ _ _ _, by repeat (first | (with_reducible first | exact HB.out | apply below_alloc | apply pw_below_drewN | apply below_drew1 | refine below_set ?_ GE146.out) | exact HB.out)⟩
                · replace c12 := Bool.eq_false_iff.mpr c12
                  subst c12
                  have H1 : ((cognateref03_Number.f kj8 l0_0 l0_1 t147).bind fun t149 => (if t149 < 0 then (some (([] : List Int), 5)) else (if (x8_1.length : Int) = a2 then (some (([] : List Int), 4)) else (if x8_1.length < 35184372088832 then (cognateref03_Read.l0 kj8 a1 a2 (x8_1 ++ [t147]) (wrap64 (x9_1 + t148)) l0_0 l0_1) else (none))))) = some (r1, r2) := by rw [if_neg (show ¬ (false = true) by decide)] at H; exact H
                  clear H
                  have H := H1
                  clear H1
                  replace H := Option.bind_eq_some_iff.mp H
                  obtain ⟨t149, A130, H⟩ := H
                  replace H : (if t149 < 0 then (some (([] : List Int), 5)) else (if (x8_1.length : Int) = a2 then (some (([] : List Int), 4)) else (if x8_1.length < 35184372088832 then (cognateref03_Read.l0 kj8 a1 a2 (x8_1 ++ [t147]) (wrap64 (x9_1 + t148)) l0_0 l0_1) else (none)))) = some (r1, r2) := H
                  have A13 := Aside0.mk A130
                  clear A130
                  by_cases c14 : t149 < 0
                  · rw [if_pos c14] at H
                    have c14b0 : decide (t149 < 0) = true := decide_eq_true c14
                    clear c14
                    simp only [Option.some.injEq, Prod.mk.injEq] at H
                    obtain ⟨rfl, rfl⟩ := H
                    have hcz15_0 : wc.cell? ⟨gb146, 0, none⟩ = some (.slice A0_0 l0_0.length c0_0) := (blk_cell BK146.out 0).trans rfl
                    have hcz15_1 : wc.cell? ⟨gb146, 1, none⟩ = some (.slice A0_1 l0_1.length c0_1) := (blk_cell BK146.out 1).trans rfl
                    have hfz15_0 := blk_frozen BK146.out 0
                    have hfz15_1 := blk_frozen BK146.out 1
                    go_wp2_with (first | ((with_reducible refine gate_callee (f := 75) rfl ?_); refine goesL_ (some 33) rfl rfl Tryd.func75 (by kernel_rfl) rfl #[.agg #[.slice A0_0 l0_0.length c0_0, .slice A0_1 l0_1.length c0_1], .int .i32 t147] rfl (by (try simp only [List.map_toArray, List.map_cons, List.map_nil]); first | done | rfl | (simp only [List.length_drop, List.length_take]; rfl)) ?_; (with_reducible refine (cognateref03_Number.calls kj8 _ _ l0_0 _ _ l0_1 t147 t149 _ ?side1 ?side2 ?side3 ?side4 A13.out).mono ?_); (case side1 => repeat (first | exact (Kd.C_below HR0_0.out HB.out) | (with_reducible refine Kd.C_alloc ?_ _) | (with_reducible refine Kd.C_drewN ?_ _) | (with_reducible refine Kd.C_drew ?_))); (case side2 => exact HC0_0.out); (case side3 => repeat (first | exact (Kd.C_below HR0_1.out HB.out) | (with_reducible refine Kd.C_alloc ?_ _) | (with_reducible refine Kd.C_drewN ?_ _) | (with_reducible refine Kd.C_drew ?_))); (case side4 => exact HC0_1.out); rintro e w16 ⟨rfl, hb⟩; refine ⟨_, rfl, ?_⟩; have n0_ := Aside0.mk (Kd.R_below (by (with_reducible repeat (first | apply Kd.R_alloc | apply Kd.R_drewN | apply Kd.R_drew)); exact HO_8.out) hb); have n1_ := Aside0.mk (blk_below (g := gb146) (o := .cells #[.slice A0_0 l0_0.length c0_0, .slice A0_1 l0_1.length c0_1] 25 (0, 0)) (by (with_reducible repeat (first | refine blk_drewN ?_ _ | refine blk_drew ?_ | refine blk_alloc ?_ _)); exact BK146.out) hb); have n2_ := Aside0.mk (below_step (by repeat (first | (with_reducible first | exact HB.out | apply below_alloc | apply pw_below_drewN | apply below_drew1 | refine below_set ?_ GE146.out) | exact HB.out)) hb); clear HO_8; clear BK146; clear HB; have HO_8 := n0_; have BK146 := n1_; have HB := n2_; clear n0_ n1_ n2_; (try clear hb); (try clear hb2); (try clear hk); (try clear hi)))
                    go_ret2
                    exact ⟨_, by first | rfl | (simp [errW_none, errW_some] <;> rfl) | (simp [*, errW_none, errW_some] <;> rfl), by first | exact Kd.R_nil _ _ _ _ _ | exact Kd.N_nil _ _ _ _ _ | exact Kd.V_nil _ _ _ _ _ | exact Kd.Q_nil _ _ _ _ _ | exact Kd.S_nil _ _ _ _ _, by repeat (first | (with_reducible first | exact HB.out | apply below_alloc | apply pw_below_drewN | apply below_drew1 | refine below_set ?_ GE146.out) | exact HB.out)⟩
                  · rw [if_neg c14] at H
                    have c14b0 : decide (t149 < 0) = false := decide_eq_false c14
                    clear c14
                    by_cases c17 : (x8_1.length : Int) = a2
                    · rw [if_pos c17] at H
                      have c17b0 : ((x8_1.length : Int) == a2) = true := beq_iff_eq.mpr c17
                      have c17b1 : ((x8_1.length : Int) != a2) = false := bne_eq_false_iff_eq.mpr c17
                      clear c17
                      simp only [Option.some.injEq, Prod.mk.injEq] at H
                      obtain ⟨rfl, rfl⟩ := H
                      have hcz18_0 : wc.cell? ⟨gb146, 0, none⟩ = some (.slice A0_0 l0_0.length c0_0) := (blk_cell BK146.out 0).trans rfl
                      have hcz18_1 : wc.cell? ⟨gb146, 1, none⟩ = some (.slice A0_1 l0_1.length c0_1) := (blk_cell BK146.out 1).trans rfl
                      have hfz18_0 := blk_frozen BK146.out 0
                      have hfz18_1 := blk_frozen BK146.out 1
                      go_wp2_with (first | ((with_reducible refine gate_callee (f := 75) rfl ?_); refine goesL_ (some 33) rfl rfl Tryd.func75 (by kernel_rfl) rfl #[.agg #[.slice A0_0 l0_0.length c0_0, .slice A0_1 l0_1.length c0_1], .int .i32 t147] rfl (by (try simp only [List.map_toArray, List.map_cons, List.map_nil]); first | done | rfl | (simp only [List.length_drop, List.length_take]; rfl)) ?_; (with_reducible refine (cognateref03_Number.calls kj8 _ _ l0_0 _ _ l0_1 t147 t149 _ ?side1 ?side2 ?side3 ?side4 A13.out).mono ?_); (case side1 => repeat (first | exact (Kd.C_below HR0_0.out HB.out) | (with_reducible refine Kd.C_alloc ?_ _) | (with_reducible refine Kd.C_drewN ?_ _) | (with_reducible refine Kd.C_drew ?_))); (case side2 => exact HC0_0.out); (case side3 => repeat (first | exact (Kd.C_below HR0_1.out HB.out) | (with_reducible refine Kd.C_alloc ?_ _) | (with_reducible refine Kd.C_drewN ?_ _) | (with_reducible refine Kd.C_drew ?_))); (case side4 => exact HC0_1.out); rintro e w19 ⟨rfl, hb⟩; refine ⟨_, rfl, ?_⟩; have n0_ := Aside0.mk (Kd.R_below (by (with_reducible repeat (first | apply Kd.R_alloc | apply Kd.R_drewN | apply Kd.R_drew)); exact HO_8.out) hb); have n1_ := Aside0.mk (blk_below (g := gb146) (o := .cells #[.slice A0_0 l0_0.length c0_0, .slice A0_1 l0_1.length c0_1] 25 (0, 0)) (by (with_reducible repeat (first | refine blk_drewN ?_ _ | refine blk_drew ?_ | refine blk_alloc ?_ _)); exact BK146.out) hb); have n2_ := Aside0.mk (below_step (by repeat (first | (with_reducible first | exact HB.out | apply below_alloc | apply pw_below_drewN | apply below_drew1 | refine below_set ?_ GE146.out) | exact HB.out)) hb); clear HO_8; clear BK146; clear HB; have HO_8 := n0_; have BK146 := n1_; have HB := n2_; clear n0_ n1_ n2_; (try clear hb); (try clear hb2); (try clear hk); (try clear hi); obtain ⟨Ao20, co20, eo20⟩ := Kd.R_slice HO_8.out; subst eo20))
                      go_ret2
                      exact ⟨_, by first | rfl | (simp [errW_none, errW_some] <;> rfl) | (simp [*, errW_none, errW_some] <;> rfl), by first | exact Kd.R_nil _ _ _ _ _ | exact Kd.N_nil _ _ _ _ _ | exact Kd.V_nil _ _ _ _ _ | exact Kd.Q_nil _ _ _ _ _ | exact Kd.S_nil _ _ _ _ _, by repeat (first | (with_reducible first | exact HB.out | apply below_alloc | apply pw_below_drewN | apply below_drew1 | refine below_set ?_ GE146.out) | exact HB.out)⟩
                    · rw [if_neg c17] at H
                      have c17b0 : ((x8_1.length : Int) == a2) = false := beq_eq_false_iff_ne.mpr c17
                      have c17b1 : ((x8_1.length : Int) != a2) = true := bne_iff_ne.mpr c17
                      by_cases c21 : x8_1.length < 35184372088832
                      · rw [if_pos c21] at H
                        have LMc21 := Aside0.mk c21
                        clear c21
                        obtain ⟨y150, hy150⟩ : ∃ y_ : List Int, y_ = (x8_1 ++ [t147]) := ⟨_, rfl⟩
                        replace H : (cognateref03_Read.l0 kj8 a1 a2 y150 (wrap64 (x9_1 + t148)) l0_0 l0_1) = some (r1, r2) := by first | (rw [hy150]; with_reducible exact H) | (have H2_ := (Option.bind_some _ _).symm.trans H; rw [hy150]; with_reducible exact H2_) | (have H2_ := (Option.bind_some _ _).symm.trans H; with_reducible exact H2_) | with_reducible exact H | (rw [hy150]; exact H) | exact H
                        have Ny150 := Aside0.mk hy150
                        clear hy150
                        have H' := Aside0.mk H
                        clear H
                        have hcz22_0 : wc.cell? ⟨gb146, 0, none⟩ = some (.slice A0_0 l0_0.length c0_0) := (blk_cell BK146.out 0).trans rfl
                        have hcz22_1 : wc.cell? ⟨gb146, 1, none⟩ = some (.slice A0_1 l0_1.length c0_1) := (blk_cell BK146.out 1).trans rfl
                        have hfz22_0 := blk_frozen BK146.out 0
                        have hfz22_1 := blk_frozen BK146.out 1
                        go_wp2_with (first | ((with_reducible refine gate_callee (f := 75) rfl ?_); refine goesL_ (some 33) rfl rfl Tryd.func75 (by kernel_rfl) rfl #[.agg #[.slice A0_0 l0_0.length c0_0, .slice A0_1 l0_1.length c0_1], .int .i32 t147] rfl (by (try simp only [List.map_toArray, List.map_cons, List.map_nil]); first | done | rfl | (simp only [List.length_drop, List.length_take]; rfl)) ?_; (with_reducible refine (cognateref03_Number.calls kj8 _ _ l0_0 _ _ l0_1 t147 t149 _ ?side1 ?side2 ?side3 ?side4 A13.out).mono ?_); (case side1 => repeat (first | exact (Kd.C_below HR0_0.out HB.out) | (with_reducible refine Kd.C_alloc ?_ _) | (with_reducible refine Kd.C_drewN ?_ _) | (with_reducible refine Kd.C_drew ?_))); (case side2 => exact HC0_0.out); (case side3 => repeat (first | exact (Kd.C_below HR0_1.out HB.out) | (with_reducible refine Kd.C_alloc ?_ _) | (with_reducible refine Kd.C_drewN ?_ _) | (with_reducible refine Kd.C_drew ?_))); (case side4 => exact HC0_1.out); rintro e w23 ⟨rfl, hb⟩; refine ⟨_, rfl, ?_⟩; have n0_ := Aside0.mk (Kd.R_below (by (with_reducible repeat (first | apply Kd.R_alloc | apply Kd.R_drewN | apply Kd.R_drew)); exact HO_8.out) hb); have n1_ := Aside0.mk (blk_below (g := gb146) (o := .cells #[.slice A0_0 l0_0.length c0_0, .slice A0_1 l0_1.length c0_1] 25 (0, 0)) (by (with_reducible repeat (first | refine blk_drewN ?_ _ | refine blk_drew ?_ | refine blk_alloc ?_ _)); exact BK146.out) hb); have n2_ := Aside0.mk (below_step (by repeat (first | (with_reducible first | exact HB.out | apply below_alloc | apply pw_below_drewN | apply below_drew1 | refine below_set ?_ GE146.out) | exact HB.out)) hb); clear HO_8; clear BK146; clear HB; have HO_8 := n0_; have BK146 := n1_; have HB := n2_; clear n0_ n1_ n2_; (try clear hb); (try clear hb2); (try clear hk); (try clear hi); obtain ⟨Ao24, co24, eo24⟩ := Kd.R_slice HO_8.out; subst eo24) | ((with_reducible refine gate_builtin (b := .append) (xs := #[.tmp 40, .tmp 42]) rfl ?_); at_builtin; refine Kd.R_append (Kd.int .i32) (w0 := w) w.heap.size rfl (.tmp 40) (.tmp 42) 51 21 (.int .i32 0) 4 rfl Tryd.underlying51 info21 rfl (by decide) (by omega) (.slice Ao24 x8_1.length co24) x8_1 t147 [.int .i32 t147] (fun _ => True) (fun _ => False) rfl rfl ?aP (fun _ hk => hk.elim) ?aF ?aO ?aB ?aS ?aL ?_; (case aP => exact rfl); (case aB => exact (by repeat (first | (with_reducible first | exact HB.out | apply below_alloc | apply pw_below_drewN | apply below_drew1 | refine below_set ?_ GE146.out) | exact HB.out))); (case aF => exact (fun _ _ => trivial)); (case aO => exact (by (with_reducible repeat (first | apply Kd.R_alloc | apply Kd.R_drewN | apply Kd.R_drew)); exact HO_8.out)); (case aS => exact (below_size (by repeat (first | (with_reducible first | exact HB.out | apply below_alloc | apply pw_below_drewN | apply below_drew1 | refine below_set ?_ GE146.out) | exact HB.out)))); (case aL => have := LMc21.out; omega); intro v151 w25 ho hb hg hat; rw [← Ny150.out] at ho; have n0_ := Aside0.mk (blk_grown (g := gb146) (o := .cells #[.slice A0_0 l0_0.length c0_0, .slice A0_1 l0_1.length c0_1] 25 (0, 0)) (by (with_reducible repeat (first | refine blk_drewN ?_ _ | refine blk_drew ?_ | refine blk_alloc ?_ _)); exact BK146.out) hg (Kd.R_ne HO_8.out BK146.out (by decide))); have n1_ := Aside0.mk (hb); have n2_ := Aside0.mk (ho); clear BK146; clear HB; clear HO_8; have BK146 := n0_; have HB := n1_; have HO152 := n2_; clear n0_ n1_ n2_; clear ho hb hg hat))
                        go_roundg kj8
                        case measure => have := HK1.out; have := HJ8.out; omega
                        case rel => exact ⟨(y150), (wrap64 (x9_1 + t148)), (by first | rfl | (simp; done) | (simp [*]; done)), H', ⟨by have := HK1.out; have := HJ8.out; omega⟩, ⟨by (with_reducible repeat (first | apply Kd.R_alloc | apply Kd.R_drewN | apply Kd.R_drew)); exact HO152.out⟩, ⟨by (with_reducible repeat (first | refine blk_drewN ?_ _ | refine blk_drew ?_ | refine blk_alloc ?_ _)); exact BK146.out⟩, ⟨by repeat (first | (with_reducible first | exact HB.out | apply below_alloc | apply pw_below_drewN | apply below_drew1 | refine below_set ?_ GE146.out) | exact HB.out)⟩⟩
                      · rw [if_neg c21] at H
                        exact absurd H (by simp)
          · rw [if_neg c7] at H
            exact absurd H (by simp)
        · rw [if_neg c6] at H
          exact absurd H (by simp)
      · rw [if_neg c5] at H
        have c5b0 : decide (x9_1 < (a1.size : Int)) = false := decide_eq_false c5
        clear c5
        simp only [Option.some.injEq, Prod.mk.injEq] at H
        obtain ⟨rfl, rfl⟩ := H
        go_wp2
        go_ret2
        exact ⟨_, by first | rfl | (simp [errW_none, errW_some] <;> rfl) | (simp [*, errW_none, errW_some] <;> rfl), by (with_reducible repeat (first | apply Kd.R_alloc | apply Kd.R_drewN | apply Kd.R_drew)); exact HO_8.out, by repeat (first | (with_reducible first | exact HB.out | apply below_alloc | apply pw_below_drewN | apply below_drew1 | refine below_set ?_ GE146.out) | exact HB.out)⟩

/-! ### cognateref03_Letters: function 33 -/
def cognateref03_Letters.f (k : Nat) (l0_0 : List ByteArray) (l0_1 : List (S74)) (a1 : ByteArray) : Option (List Int × Int) := (cognateref02_Check.f k l0_0 l0_1).bind fun t154 => (if t154 = 0 then ((cognateref03_Read.f k l0_0 l0_1 a1 64).bind fun bt155 => (some (bt155.1, bt155.2))) else (some (([] : List Int), t154)))
set_option maxHeartbeats 8000000 in
set_option maxRecDepth 100000 in
theorem cognateref03_Letters.calls (k : Nat) (A0_0 : Option Addr) (c0_0 : Nat) (l0_0 : List ByteArray) (A0_1 : Option Addr) (c0_1 : Nat) (l0_1 : List (S74)) (a1 : ByteArray) (r1 : List Int) (r2 : Int) (w : World) (hr0_0 : Kd.C Kd.string w A0_0 l0_0.length l0_0) (hc0_0 : l0_0.length ≤ c0_0) (hr0_1 : Kd.C k74 w A0_1 l0_1.length l0_1) (hc0_1 : l0_1.length ≤ c0_1) (hT : Tabs w) (h : cognateref03_Letters.f k l0_0 l0_1 a1 = some (r1, r2)) :
    Calls Tryd.prog 33 #[.agg #[.slice A0_0 l0_0.length c0_0, .slice A0_1 l0_1.length c0_1], .string a1] w fun e w' => ∃ v0_ : Value, e = .returned (.tuple #[v0_, .int .i64 r2]) ∧ Kd.R (Kd.int .i32) 21 w' w.heap.size (fun _ => True) v0_ r1 ∧ Below w.heap.size w w' := by
  have hu25 := Tryd.underlying25
  have HR0_0 := Aside0.mk hr0_0
  have HC0_0 := Aside0.mk hc0_0
  clear hr0_0 hc0_0
  have HR0_1 := Aside0.mk hr0_1
  have HC0_1 := Aside0.mk hc0_1
  clear hr0_1 hc0_1
  have HB := Aside0.mk (Below.refl w.heap.size w)
  have HT := Aside0.mk hT
  clear hT
  have H : ((cognateref02_Check.f k l0_0 l0_1).bind fun t154 => (if t154 = 0 then ((cognateref03_Read.f k l0_0 l0_1 a1 64).bind fun bt155 => (some (bt155.1, bt155.2))) else (some (([] : List Int), t154)))) = some (r1, r2) := h
  clear h
  replace H := Option.bind_eq_some_iff.mp H
  obtain ⟨t154, A30, H⟩ := H
  replace H : (if t154 = 0 then ((cognateref03_Read.f k l0_0 l0_1 a1 64).bind fun bt155 => (some (bt155.1, bt155.2))) else (some (([] : List Int), t154))) = some (r1, r2) := H
  have A3 := Aside0.mk A30
  clear A30
  by_cases c4 : t154 = 0
  · rw [if_pos c4] at H
    have c4b0 : (t154 == 0) = true := beq_iff_eq.mpr c4
    have c4b1 : (t154 != 0) = false := bne_eq_false_iff_eq.mpr c4
    clear c4
    replace H := Option.bind_eq_some_iff.mp H
    obtain ⟨⟨t155, t158⟩, A50, H⟩ := H
    replace H : (some (t155, t158)) = some (r1, r2) := H
    have A5 := Aside0.mk A50
    clear A50
    simp only [Option.some.injEq, Prod.mk.injEq] at H
    obtain ⟨rfl, rfl⟩ := H
    go_enter Tryd.func33, Tryd.ntmps33
    go_wp2_with (first | ((with_reducible refine gate_dst (N := 2) rfl ?_); refine box_event ?hg (N := 2) ?hd (cs := #[.slice A0_0 l0_0.length c0_0, .slice A0_1 l0_1.length c0_1]) (t := 25) ?hr ?_; (case hd => rfl); (case hg => rfl); (case hr => first | (go_simp; done) | (go_simp; rfl)); intro gb153 hg w6 hbox hb; have n0_ := Aside0.mk (below_step (by repeat (first | (with_reducible first | exact HB.out | apply below_alloc | apply pw_below_drewN | apply below_drew1) | exact HB.out)) hb); have n1_ := Aside0.mk (hbox); have n2_ := Aside0.mk ((by rw [hg]; exact (below_size (by repeat (first | (with_reducible first | exact HB.out | apply below_alloc | apply pw_below_drewN | apply below_drew1) | exact HB.out))) : w.heap.size ≤ gb153)); have n3_ := Aside0.mk ((by rw [hg]; exact (below_size (by repeat (first | (with_reducible first | exact HB.out | apply below_alloc | apply pw_below_drewN | apply below_drew1) | exact HB.out))) : w.heap.size ≤ gb153)); clear HB; have HB := n0_; have BK153 := n1_; have GW153 := n2_; have GE153 := n3_; clear n0_ n1_ n2_ n3_; clear hb hbox hg; have hcz7_0 : w6.cell? ⟨gb153, 0, none⟩ = some (.slice A0_0 l0_0.length c0_0) := (blk_cell BK153.out 0).trans rfl; have hcz7_1 : w6.cell? ⟨gb153, 1, none⟩ = some (.slice A0_1 l0_1.length c0_1) := (blk_cell BK153.out 1).trans rfl; have hfz7_0 := blk_frozen BK153.out 0; have hfz7_1 := blk_frozen BK153.out 1) | ((with_reducible refine gate_callee (f := 42) rfl ?_); refine goesL_ (some 9) rfl rfl Tryd.func42 (by kernel_rfl) rfl #[.agg #[.slice A0_0 l0_0.length c0_0, .slice A0_1 l0_1.length c0_1]] rfl (by (try simp only [List.map_toArray, List.map_cons, List.map_nil]); first | done | rfl | (simp only [List.length_drop, List.length_take]; rfl)) ?_; (with_reducible refine (cognateref02_Check.calls k _ _ l0_0 _ _ l0_1 t154 _ ?side1 ?side2 ?side3 ?side4 A3.out).mono ?_); (case side1 => repeat (first | exact (Kd.C_below HR0_0.out HB.out) | (with_reducible refine Kd.C_alloc ?_ _) | (with_reducible refine Kd.C_drewN ?_ _) | (with_reducible refine Kd.C_drew ?_))); (case side2 => exact HC0_0.out); (case side3 => repeat (first | exact (Kd.C_below HR0_1.out HB.out) | (with_reducible refine Kd.C_alloc ?_ _) | (with_reducible refine Kd.C_drewN ?_ _) | (with_reducible refine Kd.C_drew ?_))); (case side4 => exact HC0_1.out); rintro e w8 ⟨rfl, hb⟩; refine ⟨_, rfl, ?_⟩; have n0_ := Aside0.mk (blk_below (g := gb153) (o := .cells #[.slice A0_0 l0_0.length c0_0, .slice A0_1 l0_1.length c0_1] 25 (0, 0)) (by (with_reducible repeat (first | refine blk_drewN ?_ _ | refine blk_drew ?_ | refine blk_alloc ?_ _)); exact BK153.out) hb); have n1_ := Aside0.mk (below_step (by repeat (first | (with_reducible first | exact HB.out | apply below_alloc | apply pw_below_drewN | apply below_drew1 | refine below_set ?_ GE153.out) | exact HB.out)) hb); clear BK153; clear HB; have BK153 := n0_; have HB := n1_; clear n0_ n1_; (try clear hb); (try clear hb2); (try clear hk); (try clear hi); have hcz9_0 : w8.cell? ⟨gb153, 0, none⟩ = some (.slice A0_0 l0_0.length c0_0) := (blk_cell BK153.out 0).trans rfl; have hcz9_1 : w8.cell? ⟨gb153, 1, none⟩ = some (.slice A0_1 l0_1.length c0_1) := (blk_cell BK153.out 1).trans rfl; have hfz9_0 := blk_frozen BK153.out 0; have hfz9_1 := blk_frozen BK153.out 1) | ((with_reducible refine gate_callee (f := 50) rfl ?_); refine goesL_ (some 16) rfl rfl Tryd.func50 (by kernel_rfl) rfl #[.agg #[.slice A0_0 l0_0.length c0_0, .slice A0_1 l0_1.length c0_1], .string a1, .int .i64 64] rfl (by (try simp only [List.map_toArray, List.map_cons, List.map_nil]); first | done | rfl | (simp only [List.length_drop, List.length_take]; rfl)) ?_; (with_reducible refine (cognateref03_Read.calls k _ _ l0_0 _ _ l0_1 a1 64 t155 t158 _ ?side1 ?side2 ?side3 ?side4 ?side5 A5.out).mono ?_); (case side1 => repeat (first | exact (Kd.C_below HR0_0.out HB.out) | (with_reducible refine Kd.C_alloc ?_ _) | (with_reducible refine Kd.C_drewN ?_ _) | (with_reducible refine Kd.C_drew ?_))); (case side2 => exact HC0_0.out); (case side3 => repeat (first | exact (Kd.C_below HR0_1.out HB.out) | (with_reducible refine Kd.C_alloc ?_ _) | (with_reducible refine Kd.C_drewN ?_ _) | (with_reducible refine Kd.C_drew ?_))); (case side4 => exact HC0_1.out); (case side5 => exact Tabs.below HT.out (by repeat (first | (with_reducible first | exact HB.out | apply below_alloc | apply pw_below_drewN | apply below_drew1 | refine below_set ?_ GE153.out) | exact HB.out))); rintro e w10 ⟨v156, rfl, ho0, hb⟩; refine ⟨_, rfl, ?_⟩; have n0_ := Aside0.mk (Kd.R_lower ho0 (below_size (by repeat (first | (with_reducible first | exact HB.out | apply below_alloc | apply pw_below_drewN | apply below_drew1 | refine below_set ?_ GE153.out) | exact HB.out)))); have n1_ := Aside0.mk (blk_below (g := gb153) (o := .cells #[.slice A0_0 l0_0.length c0_0, .slice A0_1 l0_1.length c0_1] 25 (0, 0)) (by (with_reducible repeat (first | refine blk_drewN ?_ _ | refine blk_drew ?_ | refine blk_alloc ?_ _)); exact BK153.out) hb); have n2_ := Aside0.mk (below_step (by repeat (first | (with_reducible first | exact HB.out | apply below_alloc | apply pw_below_drewN | apply below_drew1 | refine below_set ?_ GE153.out) | exact HB.out)) hb); clear BK153; clear HB; have HO157 := n0_; have BK153 := n1_; have HB := n2_; clear n0_ n1_ n2_; (try clear hb); (try clear hb2); (try clear hk); (try clear hi); (try clear ho0)))
    go_ret2
    exact ⟨_, by first | rfl | (simp [errW_none, errW_some] <;> rfl) | (simp [*, errW_none, errW_some] <;> rfl), by (with_reducible repeat (first | apply Kd.R_alloc | apply Kd.R_drewN | apply Kd.R_drew)); exact HO157.out, by repeat (first | (with_reducible first | exact HB.out | apply below_alloc | apply pw_below_drewN | apply below_drew1 | refine below_set ?_ GE153.out) | exact HB.out)⟩
  · rw [if_neg c4] at H
    have c4b0 : (t154 == 0) = false := beq_eq_false_iff_ne.mpr c4
    have c4b1 : (t154 != 0) = true := bne_iff_ne.mpr c4
    simp only [Option.some.injEq, Prod.mk.injEq] at H
    obtain ⟨rfl, rfl⟩ := H
    go_enter Tryd.func33, Tryd.ntmps33
    go_wp2_with (first | ((with_reducible refine gate_dst (N := 2) rfl ?_); refine box_event ?hg (N := 2) ?hd (cs := #[.slice A0_0 l0_0.length c0_0, .slice A0_1 l0_1.length c0_1]) (t := 25) ?hr ?_; (case hd => rfl); (case hg => rfl); (case hr => first | (go_simp; done) | (go_simp; rfl)); intro gb153 hg w11 hbox hb; have n0_ := Aside0.mk (below_step (by repeat (first | (with_reducible first | exact HB.out | apply below_alloc | apply pw_below_drewN | apply below_drew1) | exact HB.out)) hb); have n1_ := Aside0.mk (hbox); have n2_ := Aside0.mk ((by rw [hg]; exact (below_size (by repeat (first | (with_reducible first | exact HB.out | apply below_alloc | apply pw_below_drewN | apply below_drew1) | exact HB.out))) : w.heap.size ≤ gb153)); have n3_ := Aside0.mk ((by rw [hg]; exact (below_size (by repeat (first | (with_reducible first | exact HB.out | apply below_alloc | apply pw_below_drewN | apply below_drew1) | exact HB.out))) : w.heap.size ≤ gb153)); clear HB; have HB := n0_; have BK153 := n1_; have GW153 := n2_; have GE153 := n3_; clear n0_ n1_ n2_ n3_; clear hb hbox hg; have hcz12_0 : w11.cell? ⟨gb153, 0, none⟩ = some (.slice A0_0 l0_0.length c0_0) := (blk_cell BK153.out 0).trans rfl; have hcz12_1 : w11.cell? ⟨gb153, 1, none⟩ = some (.slice A0_1 l0_1.length c0_1) := (blk_cell BK153.out 1).trans rfl; have hfz12_0 := blk_frozen BK153.out 0; have hfz12_1 := blk_frozen BK153.out 1) | ((with_reducible refine gate_callee (f := 42) rfl ?_); refine goesL_ (some 9) rfl rfl Tryd.func42 (by kernel_rfl) rfl #[.agg #[.slice A0_0 l0_0.length c0_0, .slice A0_1 l0_1.length c0_1]] rfl (by (try simp only [List.map_toArray, List.map_cons, List.map_nil]); first | done | rfl | (simp only [List.length_drop, List.length_take]; rfl)) ?_; (with_reducible refine (cognateref02_Check.calls k _ _ l0_0 _ _ l0_1 t154 _ ?side1 ?side2 ?side3 ?side4 A3.out).mono ?_); (case side1 => repeat (first | exact (Kd.C_below HR0_0.out HB.out) | (with_reducible refine Kd.C_alloc ?_ _) | (with_reducible refine Kd.C_drewN ?_ _) | (with_reducible refine Kd.C_drew ?_))); (case side2 => exact HC0_0.out); (case side3 => repeat (first | exact (Kd.C_below HR0_1.out HB.out) | (with_reducible refine Kd.C_alloc ?_ _) | (with_reducible refine Kd.C_drewN ?_ _) | (with_reducible refine Kd.C_drew ?_))); (case side4 => exact HC0_1.out); rintro e w13 ⟨rfl, hb⟩; refine ⟨_, rfl, ?_⟩; have n0_ := Aside0.mk (blk_below (g := gb153) (o := .cells #[.slice A0_0 l0_0.length c0_0, .slice A0_1 l0_1.length c0_1] 25 (0, 0)) (by (with_reducible repeat (first | refine blk_drewN ?_ _ | refine blk_drew ?_ | refine blk_alloc ?_ _)); exact BK153.out) hb); have n1_ := Aside0.mk (below_step (by repeat (first | (with_reducible first | exact HB.out | apply below_alloc | apply pw_below_drewN | apply below_drew1 | refine below_set ?_ GE153.out) | exact HB.out)) hb); clear BK153; clear HB; have BK153 := n0_; have HB := n1_; clear n0_ n1_; (try clear hb); (try clear hb2); (try clear hk); (try clear hi)))
    go_ret2
    exact ⟨_, by first | rfl | (simp [errW_none, errW_some] <;> rfl) | (simp [*, errW_none, errW_some] <;> rfl), by first | exact Kd.R_nil _ _ _ _ _ | exact Kd.N_nil _ _ _ _ _ | exact Kd.V_nil _ _ _ _ _ | exact Kd.Q_nil _ _ _ _ _ | exact Kd.S_nil _ _ _ _ _, by repeat (first | (with_reducible first | exact HB.out | apply below_alloc | apply pw_below_drewN | apply below_drew1 | refine below_set ?_ GE153.out) | exact HB.out)⟩

/-! ### cognateref03_Has: function 48 -/
/-! ### cognateref03_SameInts: function 14 -/
def cognateref03_SameInts.l0 : Nat → List Int → List Int → Int → Option (Bool)
  | 0, _, _, _ => none
  | k + 1, x0, x1, x5 => if x5 < (x0.length : Int) then (if 0 ≤ x5 then (if x5 < (x1.length : Int) then (if (rd x0 x5) = (rd x1 x5) then (cognateref03_SameInts.l0 k x0 x1 (wrap64 (x5 + 1))) else (some false)) else (none)) else (none)) else (some true)
def cognateref03_SameInts.f (k : Nat) (l0 : List Int) (l1 : List Int) : Option (Bool) := if (l0.length : Int) = (l1.length : Int) then (cognateref03_SameInts.l0 k l0 l1 0) else (some false)
set_option maxHeartbeats 8000000 in
set_option maxRecDepth 100000 in
theorem cognateref03_SameInts.calls (k : Nat) (A0 : Option Addr) (c0 : Nat) (l0 : List Int) (A1 : Option Addr) (c1 : Nat) (l1 : List Int) (r : Bool) (w : World) (hr0 : Kd.C (Kd.int .i64) w A0 l0.length l0) (hc0 : l0.length ≤ c0) (hr1 : Kd.C (Kd.int .i64) w A1 l1.length l1) (hc1 : l1.length ≤ c1) (h : cognateref03_SameInts.f k l0 l1 = some r) :
    Calls Tryd.prog 14 #[.slice A0 l0.length c0, .slice A1 l1.length c1] w fun e w' => e = .returned (.bool r) ∧ Drawn0 w w' := by
  have HR0 := Aside0.mk hr0
  have HC0 := Aside0.mk hc0
  clear hr0 hc0
  have HR1 := Aside0.mk hr1
  have HC1 := Aside0.mk hc1
  clear hr1 hc1
  have H : (if (l0.length : Int) = (l1.length : Int) then (cognateref03_SameInts.l0 k l0 l1 0) else (some false)) = some r := h
  clear h
  by_cases c3 : (l0.length : Int) = (l1.length : Int)
  · rw [if_pos c3] at H
    have c3b0 : ((l0.length : Int) == (l1.length : Int)) = true := beq_iff_eq.mpr c3
    have c3b1 : ((l0.length : Int) != (l1.length : Int)) = false := bne_eq_false_iff_eq.mpr c3
    have c3b2 : (l0.length == l1.length) = true := by first | simpa using c3 | (simp at c3 ⊢; omega)
    clear c3
    have H' := Aside0.mk H
    clear H
    go_enter Tryd.func14, Tryd.ntmps14
    go_wp2
    repeat (go_quiet (fail); try go_wp2)
    go_loopg [5] k (fun kq v5 w' => ∃ (x5_1 : Int), v5 = .int .i64 x5_1 ∧ Aside0 (cognateref03_SameInts.l0 kq l0 l1 x5_1 = some r) ∧ Aside0 (kq ≤ k) ∧ Drawn0 w w')
    case atStart => exact ⟨(0), (by first | rfl | (simp; done) | (simp [*]; done)), H', ⟨Nat.le_refl _⟩, by repeat (first | exact Drawn0.refl _ | apply Drawn0.step)⟩
    case round =>
      clear H'
      try clear c1
      try clear p2
      try clear c3
      try clear c3b0
      try clear c3b1
      try clear c3b2
      obtain ⟨x5_1, rfl, HA, HK1, ⟨m1, rfl⟩⟩ := hrel
      cases gk with
      | zero => exact absurd HA.out (by simp [cognateref03_SameInts.l0])
      | succ k1 =>
        have H := HA.out
        clear HA
        simp only [cognateref03_SameInts.l0] at H
        by_cases c4 : x5_1 < (l0.length : Int)
        · rw [if_pos c4] at H
          have c4b0 : decide (x5_1 < (l0.length : Int)) = true := decide_eq_true c4
          clear c4
          by_cases c5 : 0 ≤ x5_1
          · rw [if_pos c5] at H
            have c5b0 : decide (0 ≤ x5_1) = true := decide_eq_true c5
            clear c5
            by_cases c6 : x5_1 < (l1.length : Int)
            · rw [if_pos c6] at H
              have c6b0 : decide (x5_1 < (l1.length : Int)) = true := decide_eq_true c6
              clear c6
              by_cases c7 : (rd l0 x5_1) = (rd l1 x5_1)
              · rw [if_pos c7] at H
                have c7b0 : ((rd l0 x5_1) == (rd l1 x5_1)) = true := beq_iff_eq.mpr c7
                have c7b1 : ((rd l0 x5_1) != (rd l1 x5_1)) = false := bne_eq_false_iff_eq.mpr c7
                clear c7
                have H' := Aside0.mk H
                clear H
                have p163 : 0 ≤ (x5_1 : Int) := of_decide_eq_true (by first | (with_reducible assumption) | assumption)
                have q163 : x5_1 < (l0.length : Int) := of_decide_eq_true (by first | (with_reducible assumption) | assumption)
                obtain ⟨ad163, e163, hx163_0⟩ := Kd.at_int HR0.out x5_1 p163 q163
                cases e163
                replace p163 := eq_true p163
                replace q163 := eq_true q163
                have p164 : 0 ≤ (x5_1 : Int) := of_decide_eq_true (by first | (with_reducible assumption) | assumption)
                have q164 : x5_1 < (l1.length : Int) := of_decide_eq_true (by first | (with_reducible assumption) | assumption)
                obtain ⟨ad164, e164, hx164_0⟩ := Kd.at_int HR1.out x5_1 p164 q164
                cases e164
                replace p164 := eq_true p164
                replace q164 := eq_true q164
                go_wp2
                repeat (go_quiet (fail); try go_wp2)
                go_roundg k1
                case measure => have := HK1.out; omega
                case rel => exact ⟨(wrap64 (x5_1 + 1)), (by first | rfl | (simp; done) | (simp [*]; done)), H', ⟨by have := HK1.out; omega⟩, by repeat (first | exact Drawn0.refl _ | apply Drawn0.step)⟩
              · rw [if_neg c7] at H
                have c7b0 : ((rd l0 x5_1) == (rd l1 x5_1)) = false := beq_eq_false_iff_ne.mpr c7
                have c7b1 : ((rd l0 x5_1) != (rd l1 x5_1)) = true := bne_iff_ne.mpr c7
                obtain rfl := Option.some.inj H
                have p163 : 0 ≤ (x5_1 : Int) := of_decide_eq_true (by first | (with_reducible assumption) | assumption)
                have q163 : x5_1 < (l0.length : Int) := of_decide_eq_true (by first | (with_reducible assumption) | assumption)
                obtain ⟨ad163, e163, hx163_0⟩ := Kd.at_int HR0.out x5_1 p163 q163
                cases e163
                replace p163 := eq_true p163
                replace q163 := eq_true q163
                have p164 : 0 ≤ (x5_1 : Int) := of_decide_eq_true (by first | (with_reducible assumption) | assumption)
                have q164 : x5_1 < (l1.length : Int) := of_decide_eq_true (by first | (with_reducible assumption) | assumption)
                obtain ⟨ad164, e164, hx164_0⟩ := Kd.at_int HR1.out x5_1 p164 q164
                cases e164
                replace p164 := eq_true p164
                replace q164 := eq_true q164
                go_wp2
                repeat (go_quiet (fail); try go_wp2)
                go_ret
                exact ⟨by first | rfl | (simp; done) | (simp [*]; done), by repeat (first | exact Drawn0.refl _ | apply Drawn0.step)⟩
            · rw [if_neg c6] at H
              exact absurd H (by simp)
          · rw [if_neg c5] at H
            exact absurd H (by simp)
        · rw [if_neg c4] at H
          have c4b0 : decide (x5_1 < (l0.length : Int)) = false := decide_eq_false c4
          clear c4
          obtain rfl := Option.some.inj H
          go_wp2
          repeat (go_quiet (fail); try go_wp2)
          go_ret
          exact ⟨by first | rfl | (simp; done) | (simp [*]; done), by repeat (first | exact Drawn0.refl _ | apply Drawn0.step)⟩
  · rw [if_neg c3] at H
    have c3b0 : ((l0.length : Int) == (l1.length : Int)) = false := beq_eq_false_iff_ne.mpr c3
    have c3b1 : ((l0.length : Int) != (l1.length : Int)) = true := bne_iff_ne.mpr c3
    have c3b2 : (l0.length == l1.length) = false := by first | simpa using c3 | (simp at c3 ⊢; omega)
    obtain rfl := Option.some.inj H
    go_enter Tryd.func14, Tryd.ntmps14
    go_wp2
    repeat (go_quiet (fail); try go_wp2)
    go_ret
    exact ⟨by first | rfl | (simp; done) | (simp [*]; done), by repeat (first | exact Drawn0.refl _ | apply Drawn0.step)⟩

end Go.Proofs.YtdeichibnnbjdaaDoor.RRf
end
section
-- printed by a program of this session (wip/tools/prx.sh: a turned copy of the kit's print, with functions given from outside)
namespace Go.Proofs.YtdeichibnnbjdaaDoor.RRf
open Go.RowKit Go.Proofs.YtdeichibnnbjdaaDoor Go.Proofs.YtdeichibnnbjdaaDoor.Ext Go.Proofs.YtdeichibnnbjdaaDoorW.PrintWords Go.Proofs.YtdeichibnnbjdaaDoorW.PrintLast Go.Proofs.YtdeichibnnbjdaaDoorW.PrintMore
attribute [local go_sem] max2_int min2_int max_two min_two max_three min_three max_four min_four   -- for this text's walks alone
set_option linter.unusedVariables false
set_option linter.unusedSimpArgs false

/-! ### cognateref03_SameWords: function 21 -/
def cognateref03_SameWords.l0 : Nat → List ByteArray → List ByteArray → Int → Option (Bool)
  | 0, _, _, _ => none
  | k + 1, x0, x1, x5 => if x5 < (x0.length : Int) then (if 0 ≤ x5 then (if x5 < (x1.length : Int) then (if (rdOf ByteArray.empty x0 x5).toList = (rdOf ByteArray.empty x1 x5).toList then (cognateref03_SameWords.l0 k x0 x1 (wrap64 (x5 + 1))) else (some false)) else (none)) else (none)) else (some true)
def cognateref03_SameWords.f (k : Nat) (l0 : List ByteArray) (l1 : List ByteArray) : Option (Bool) := if (l0.length : Int) = (l1.length : Int) then (cognateref03_SameWords.l0 k l0 l1 0) else (some false)
set_option maxHeartbeats 8000000 in
set_option maxRecDepth 100000 in
theorem cognateref03_SameWords.calls (k : Nat) (A0 : Option Addr) (c0 : Nat) (l0 : List ByteArray) (A1 : Option Addr) (c1 : Nat) (l1 : List ByteArray) (r : Bool) (w : World) (hr0 : Kd.C Kd.string w A0 l0.length l0) (hc0 : l0.length ≤ c0) (hr1 : Kd.C Kd.string w A1 l1.length l1) (hc1 : l1.length ≤ c1) (h : cognateref03_SameWords.f k l0 l1 = some r) :
    Calls Tryd.prog 21 #[.slice A0 l0.length c0, .slice A1 l1.length c1] w fun e w' => e = .returned (.bool r) ∧ Drawn0 w w' := by
  have HR0 := Aside0.mk hr0
  have HC0 := Aside0.mk hc0
  clear hr0 hc0
  have HR1 := Aside0.mk hr1
  have HC1 := Aside0.mk hc1
  clear hr1 hc1
  have H : (if (l0.length : Int) = (l1.length : Int) then (cognateref03_SameWords.l0 k l0 l1 0) else (some false)) = some r := h
  clear h
  by_cases c3 : (l0.length : Int) = (l1.length : Int)
  · rw [if_pos c3] at H
    have c3b0 : ((l0.length : Int) == (l1.length : Int)) = true := beq_iff_eq.mpr c3
    have c3b1 : ((l0.length : Int) != (l1.length : Int)) = false := bne_eq_false_iff_eq.mpr c3
    have c3b2 : (l0.length == l1.length) = true := by first | simpa using c3 | (simp at c3 ⊢; omega)
    clear c3
    have H' := Aside0.mk H
    clear H
    go_enter Tryd.func21, Tryd.ntmps21
    go_wp2
    repeat (go_quiet (fail); try go_wp2)
    go_loopg [5] k (fun kq v5 w' => ∃ (x5_1 : Int), v5 = .int .i64 x5_1 ∧ Aside0 (cognateref03_SameWords.l0 kq l0 l1 x5_1 = some r) ∧ Aside0 (kq ≤ k) ∧ Drawn0 w w')
    case atStart => exact ⟨(0), (by first | rfl | (simp; done) | (simp [*]; done)), H', ⟨Nat.le_refl _⟩, by repeat (first | exact Drawn0.refl _ | apply Drawn0.step)⟩
    case round =>
      clear H'
      try clear c1
      try clear c2
      try clear p2
      try clear c3
      try clear c3b0
      try clear c3b1
      try clear c3b2
      obtain ⟨x5_1, rfl, HA, HK1, ⟨m1, rfl⟩⟩ := hrel
      cases gk with
      | zero => exact absurd HA.out (by simp [cognateref03_SameWords.l0])
      | succ k1 =>
        have H := HA.out
        clear HA
        simp only [cognateref03_SameWords.l0] at H
        by_cases c4 : x5_1 < (l0.length : Int)
        · rw [if_pos c4] at H
          have c4b0 : decide (x5_1 < (l0.length : Int)) = true := decide_eq_true c4
          clear c4
          by_cases c5 : 0 ≤ x5_1
          · rw [if_pos c5] at H
            have c5b0 : decide (0 ≤ x5_1) = true := decide_eq_true c5
            clear c5
            by_cases c6 : x5_1 < (l1.length : Int)
            · rw [if_pos c6] at H
              have c6b0 : decide (x5_1 < (l1.length : Int)) = true := decide_eq_true c6
              clear c6
              by_cases c7 : (rdOf ByteArray.empty l0 x5_1).toList = (rdOf ByteArray.empty l1 x5_1).toList
              · rw [if_pos c7] at H
                have c7b0 : ((rdOf ByteArray.empty l0 x5_1).toList == (rdOf ByteArray.empty l1 x5_1).toList) = true := beq_iff_eq.mpr c7
                have c7b1 : ((rdOf ByteArray.empty l0 x5_1).toList != (rdOf ByteArray.empty l1 x5_1).toList) = false := bne_eq_false_iff_eq.mpr c7
                clear c7
                have H' := Aside0.mk H
                clear H
                have p165 : 0 ≤ (x5_1 : Int) := of_decide_eq_true (by first | (with_reducible assumption) | assumption)
                have q165 : x5_1 < (l0.length : Int) := of_decide_eq_true (by first | (with_reducible assumption) | assumption)
                obtain ⟨ad165, e165, hx165_0⟩ := Kd.at_string HR0.out x5_1 p165 q165
                cases e165
                replace p165 := eq_true p165
                replace q165 := eq_true q165
                have p166 : 0 ≤ (x5_1 : Int) := of_decide_eq_true (by first | (with_reducible assumption) | assumption)
                have q166 : x5_1 < (l1.length : Int) := of_decide_eq_true (by first | (with_reducible assumption) | assumption)
                obtain ⟨ad166, e166, hx166_0⟩ := Kd.at_string HR1.out x5_1 p166 q166
                cases e166
                replace p166 := eq_true p166
                replace q166 := eq_true q166
                go_wp2
                repeat (go_quiet (fail); try go_wp2)
                go_roundg k1
                case measure => have := HK1.out; omega
                case rel => exact ⟨(wrap64 (x5_1 + 1)), (by first | rfl | (simp; done) | (simp [*]; done)), H', ⟨by have := HK1.out; omega⟩, by repeat (first | exact Drawn0.refl _ | apply Drawn0.step)⟩
              · rw [if_neg c7] at H
                have c7b0 : ((rdOf ByteArray.empty l0 x5_1).toList == (rdOf ByteArray.empty l1 x5_1).toList) = false := beq_eq_false_iff_ne.mpr c7
                have c7b1 : ((rdOf ByteArray.empty l0 x5_1).toList != (rdOf ByteArray.empty l1 x5_1).toList) = true := bne_iff_ne.mpr c7
                obtain rfl := Option.some.inj H
                have p165 : 0 ≤ (x5_1 : Int) := of_decide_eq_true (by first | (with_reducible assumption) | assumption)
                have q165 : x5_1 < (l0.length : Int) := of_decide_eq_true (by first | (with_reducible assumption) | assumption)
                obtain ⟨ad165, e165, hx165_0⟩ := Kd.at_string HR0.out x5_1 p165 q165
                cases e165
                replace p165 := eq_true p165
                replace q165 := eq_true q165
                have p166 : 0 ≤ (x5_1 : Int) := of_decide_eq_true (by first | (with_reducible assumption) | assumption)
                have q166 : x5_1 < (l1.length : Int) := of_decide_eq_true (by first | (with_reducible assumption) | assumption)
                obtain ⟨ad166, e166, hx166_0⟩ := Kd.at_string HR1.out x5_1 p166 q166
                cases e166
                replace p166 := eq_true p166
                replace q166 := eq_true q166
                go_wp2
                repeat (go_quiet (fail); try go_wp2)
                go_ret
                exact ⟨by first | rfl | (simp; done) | (simp [*]; done), by repeat (first | exact Drawn0.refl _ | apply Drawn0.step)⟩
            · rw [if_neg c6] at H
              exact absurd H (by simp)
          · rw [if_neg c5] at H
            exact absurd H (by simp)
        · rw [if_neg c4] at H
          have c4b0 : decide (x5_1 < (l0.length : Int)) = false := decide_eq_false c4
          clear c4
          obtain rfl := Option.some.inj H
          go_wp2
          repeat (go_quiet (fail); try go_wp2)
          go_ret
          exact ⟨by first | rfl | (simp; done) | (simp [*]; done), by repeat (first | exact Drawn0.refl _ | apply Drawn0.step)⟩
  · rw [if_neg c3] at H
    have c3b0 : ((l0.length : Int) == (l1.length : Int)) = false := beq_eq_false_iff_ne.mpr c3
    have c3b1 : ((l0.length : Int) != (l1.length : Int)) = true := bne_iff_ne.mpr c3
    have c3b2 : (l0.length == l1.length) = false := by first | simpa using c3 | (simp at c3 ⊢; omega)
    obtain rfl := Option.some.inj H
    go_enter Tryd.func21, Tryd.ntmps21
    go_wp2
    repeat (go_quiet (fail); try go_wp2)
    go_ret
    exact ⟨by first | rfl | (simp; done) | (simp [*]; done), by repeat (first | exact Drawn0.refl _ | apply Drawn0.step)⟩

end Go.Proofs.YtdeichibnnbjdaaDoor.RRf
end
section
-- printed by a program of this session (wip/tools/prx.sh: a turned copy of the kit's print, with functions given from outside)
namespace Go.Proofs.YtdeichibnnbjdaaDoor.RF1
open Go.RowKit Go.Proofs.YtdeichibnnbjdaaDoor Go.Proofs.YtdeichibnnbjdaaDoor.Ext Go.Proofs.YtdeichibnnbjdaaDoorW.PrintWords Go.Proofs.YtdeichibnnbjdaaDoorW.PrintLast Go.Proofs.YtdeichibnnbjdaaDoorW.PrintMore
attribute [local go_sem] max2_int min2_int max_two min_two max_three min_three max_four min_four   -- for this text's walks alone
set_option linter.unusedVariables false
set_option linter.unusedSimpArgs false



end Go.Proofs.YtdeichibnnbjdaaDoor.RF1
end
section
-- printed by a program of this session (wip/tools/prx.sh: a turned copy of the kit's print, with functions given from outside)
namespace Go.Proofs.YtdeichibnnbjdaaDoor.RF0
open Go.RowKit Go.Proofs.YtdeichibnnbjdaaDoor Go.Proofs.YtdeichibnnbjdaaDoor.Ext Go.Proofs.YtdeichibnnbjdaaDoorW.PrintWords Go.Proofs.YtdeichibnnbjdaaDoorW.PrintLast Go.Proofs.YtdeichibnnbjdaaDoorW.PrintMore
attribute [local go_sem] max2_int min2_int max_two min_two max_three min_three max_four min_four   -- for this text's walks alone
set_option linter.unusedVariables false
set_option linter.unusedSimpArgs false



end Go.Proofs.YtdeichibnnbjdaaDoor.RF0
end
section
-- printed by a program of this session (wip/tools/prx.sh: a turned copy of the kit's print, with functions given from outside)
namespace Go.Proofs.YtdeichibnnbjdaaDoor.RF0
open Go.RowKit Go.Proofs.YtdeichibnnbjdaaDoor Go.Proofs.YtdeichibnnbjdaaDoor.Ext Go.Proofs.YtdeichibnnbjdaaDoorW.PrintWords Go.Proofs.YtdeichibnnbjdaaDoorW.PrintLast Go.Proofs.YtdeichibnnbjdaaDoorW.PrintMore
attribute [local go_sem] max2_int min2_int max_two min_two max_three min_three max_four min_four   -- for this text's walks alone
set_option linter.unusedVariables false
set_option linter.unusedSimpArgs false

/-! ### feature_named: function 54 -/
def feature_named.f (a0 : ByteArray) : Option (Bool) := if a0.toList = ([] : List UInt8) then (some false) else (if (a0.size : Int) ≤ 32 then ((strings_Trim.f a0 (⟨#[97, 98, 99, 100, 101, 102, 103, 104, 105, 106, 107, 108, 109, 110, 111, 112, 113, 114, 115, 116, 117, 118, 119, 120, 121, 122]⟩ : ByteArray)).bind fun t101 => (some (t101.toList == ([] : List UInt8)))) else (some false))
set_option maxHeartbeats 8000000 in
set_option maxRecDepth 100000 in
theorem feature_named.calls (a0 : ByteArray) (r : Bool) (w : World) (h : feature_named.f a0 = some r) :
    Calls Tryd.prog 54 #[.string a0] w fun e w' => e = .returned (.bool r) ∧ Below w.heap.size w w' := by
  have HB := Aside0.mk (Below.refl w.heap.size w)
  have H : (if a0.toList = ([] : List UInt8) then (some false) else (if (a0.size : Int) ≤ 32 then ((strings_Trim.f a0 (⟨#[97, 98, 99, 100, 101, 102, 103, 104, 105, 106, 107, 108, 109, 110, 111, 112, 113, 114, 115, 116, 117, 118, 119, 120, 121, 122]⟩ : ByteArray)).bind fun t101 => (some (t101.toList == ([] : List UInt8)))) else (some false))) = some r := h
  clear h
  by_cases c2 : a0.toList = ([] : List UInt8)
  · rw [if_pos c2] at H
    have c2b0 : (a0.toList == ([] : List UInt8)) = true := beq_iff_eq.mpr c2
    have c2b1 : (a0.toList != ([] : List UInt8)) = false := bne_eq_false_iff_eq.mpr c2
    clear c2
    obtain rfl := Option.some.inj H
    go_enter Tryd.func54, Tryd.ntmps54
    go_wp2
    go_ret
    exact ⟨by first | rfl | (simp [errW_none, errW_some] <;> rfl) | (simp [*, errW_none, errW_some] <;> rfl), by repeat (first | (with_reducible first | exact HB.out | apply below_alloc | apply pw_below_drewN | apply below_drew1) | exact HB.out)⟩
  · rw [if_neg c2] at H
    have c2b0 : (a0.toList == ([] : List UInt8)) = false := beq_eq_false_iff_ne.mpr c2
    have c2b1 : (a0.toList != ([] : List UInt8)) = true := bne_iff_ne.mpr c2
    by_cases c3 : (a0.size : Int) ≤ 32
    · rw [if_pos c3] at H
      have c3b0 : decide ((a0.size : Int) ≤ 32) = true := decide_eq_true c3
      have c3b1 : decide (a0.size ≤ 32) = true := decide_eq_true (by omega)
      clear c3
      replace H := Option.bind_eq_some_iff.mp H
      obtain ⟨t101, A40, H⟩ := H
      replace H : (some (t101.toList == ([] : List UInt8))) = some r := H
      have A4 := Aside0.mk A40
      clear A40
      obtain rfl := Option.some.inj H
      go_enter Tryd.func54, Tryd.ntmps54
      go_wp2_with (first | (go_at_call 38; (with_reducible refine (strings_Trim.calls a0 (⟨#[97, 98, 99, 100, 101, 102, 103, 104, 105, 106, 107, 108, 109, 110, 111, 112, 113, 114, 115, 116, 117, 118, 119, 120, 121, 122]⟩ : ByteArray) t101 _ A4.out).mono ?_); rintro e w5 ⟨rfl, hb⟩; have n0_ := Aside0.mk (below_step (by repeat (first | (with_reducible first | exact HB.out | apply below_alloc | apply pw_below_drewN | apply below_drew1) | exact HB.out)) hb); clear HB; have HB := n0_; clear n0_; (try clear hb); (try clear hb2); (try clear hk); (try clear hi)))
      go_ret
      exact ⟨by first | rfl | (simp [errW_none, errW_some] <;> rfl) | (simp [*, errW_none, errW_some] <;> rfl), by repeat (first | (with_reducible first | exact HB.out | apply below_alloc | apply pw_below_drewN | apply below_drew1) | exact HB.out)⟩
    · rw [if_neg c3] at H
      have c3b0 : decide ((a0.size : Int) ≤ 32) = false := decide_eq_false c3
      have c3b1 : decide (a0.size ≤ 32) = false := decide_eq_false (by omega)
      clear c3
      obtain rfl := Option.some.inj H
      go_enter Tryd.func54, Tryd.ntmps54
      go_wp2
      go_ret
      exact ⟨by first | rfl | (simp [errW_none, errW_some] <;> rfl) | (simp [*, errW_none, errW_some] <;> rfl), by repeat (first | (with_reducible first | exact HB.out | apply below_alloc | apply pw_below_drewN | apply below_drew1) | exact HB.out)⟩

/-! ### feature_lettered: function 55 -/
mutual
def feature_lettered.j0 : Nat → Int → Bool → Option (Bool)
  | 0, _, _ => none
  | k + 1, x0, x3 => if x3 = true then (feature_lettered.j1 k x0 x3) else (if 65 ≤ x0 then (feature_lettered.j1 k x0 (decide (x0 ≤ 90))) else (feature_lettered.j1 k x0 false))
def feature_lettered.j1 : Nat → Int → Bool → Option (Bool)
  | 0, _, _ => none
  | k + 1, x0, x3 => if x3 = true then (some true) else (if x0 < 161 then (some false) else (if x0 > 1114111 then (some false) else (if x0 = 65533 then (some false) else (if (x0 / 2048) = 27 then (some false) else (some true)))))
end
def feature_lettered.f (k : Nat) (a0 : Int) : Option (Bool) := if 97 ≤ a0 then (feature_lettered.j0 k a0 (decide (a0 ≤ 122))) else (feature_lettered.j0 k a0 false)
set_option maxHeartbeats 8000000 in
set_option maxRecDepth 100000 in
theorem feature_lettered.calls (k : Nat) (a0 : Int) (r : Bool) (w : World) (h : feature_lettered.f k a0 = some r) :
    Calls Tryd.prog 55 #[.int .i32 a0] w fun e w' => e = .returned (.bool r) ∧ Drawn0 w w' := by
  have H : (if 97 ≤ a0 then (feature_lettered.j0 k a0 (decide (a0 ≤ 122))) else (feature_lettered.j0 k a0 false)) = some r := h
  clear h
  have HC2 := Aside0.mk H
  clear H
  go_enter Tryd.func55, Tryd.ntmps55
  go_upto_region 1 with (fail)
  go_cut [3] (fun v3 wc => ∃ (kq : Nat) (x3_1 : Bool), v3 = .bool x3_1 ∧ Aside0 (feature_lettered.j0 kq a0 x3_1 = some r) ∧ Aside0 (kq ≤ k) ∧ Drawn0 w wc)
  case first =>
    have H := HC2.out
    clear HC2
    by_cases c3 : 97 ≤ a0
    · rw [if_pos c3] at H
      have c3b0 : decide (97 ≤ a0) = true := decide_eq_true c3
      clear c3
      (first | rw [c3b0] | (simp only [i64_w, i32_w]; rw [c3b0]) | skip)
      have H' := Aside0.mk H
      clear H
      go_wp2
      go_meet
      case rel => exact ⟨_, (decide (a0 ≤ 122)), (by first | rfl | (simp; done) | (simp [*]; done)), H', ⟨by first | omega | exact Nat.le_refl _⟩, by repeat (first | exact Drawn0.refl _ | apply Drawn0.step)⟩
    · rw [if_neg c3] at H
      have c3b0 : decide (97 ≤ a0) = false := decide_eq_false c3
      clear c3
      (first | rw [c3b0] | (simp only [i64_w, i32_w]; rw [c3b0]) | skip)
      have H' := Aside0.mk H
      clear H
      go_wp2
      go_meet
      case rel => exact ⟨_, (false), (by first | rfl | (simp; done) | (simp [*]; done)), H', ⟨by first | omega | exact Nat.le_refl _⟩, by repeat (first | exact Drawn0.refl _ | apply Drawn0.step)⟩
  case rest =>
    clear HC2
    try clear p2
    try clear c3
    try clear c3b0
    obtain ⟨kq, x3_1, rfl, HA, HJ1, ⟨mc1, rfl⟩⟩ := hcut
    cases kq with
    | zero => exact absurd HA.out (by simp [feature_lettered.j0])
    | succ kj1 =>
      have H := HA.out
      clear HA
      simp only [feature_lettered.j0] at H
      have HC4 := Aside0.mk H
      clear H
      go_upto_if 3 with (fail)
      go_cut [3] (fun v3 wc => ∃ (kq : Nat) (x3_3 : Bool), v3 = .bool x3_3 ∧ Aside0 (feature_lettered.j1 kq a0 x3_3 = some r) ∧ Aside0 (kq ≤ kj1) ∧ Drawn0 w wc)
      case first =>
        have H := HC4.out
        clear HC4
        by_cases c5 : x3_1 = true
        · subst c5
          have H1 : (feature_lettered.j1 kj1 a0 true) = some r := by rw [if_pos rfl] at H; exact H
          clear H
          have H := H1
          clear H1
          have H' := Aside0.mk H
          clear H
          go_wp2
          go_meet
          case rel => exact ⟨_, (true), (by first | rfl | (simp; done) | (simp [*]; done)), H', ⟨by have := HJ1.out; first | omega | exact Nat.le_refl _⟩, by repeat (first | exact Drawn0.refl _ | apply Drawn0.step)⟩
        · replace c5 := Bool.eq_false_iff.mpr c5
          subst c5
          have H1 : (if 65 ≤ a0 then (feature_lettered.j1 kj1 a0 (decide (a0 ≤ 90))) else (feature_lettered.j1 kj1 a0 false)) = some r := by rw [if_neg (show ¬ (false = true) by decide)] at H; exact H
          clear H
          have H := H1
          clear H1
          by_cases c6 : 65 ≤ a0
          · rw [if_pos c6] at H
            have c6b0 : decide (65 ≤ a0) = true := decide_eq_true c6
            clear c6
            (first | rw [c6b0] | (simp only [i64_w, i32_w]; rw [c6b0]) | skip)
            have H' := Aside0.mk H
            clear H
            go_wp2
            go_meet
            case rel => exact ⟨_, (decide (a0 ≤ 90)), (by first | rfl | (simp; done) | (simp [*]; done)), H', ⟨by have := HJ1.out; first | omega | exact Nat.le_refl _⟩, by repeat (first | exact Drawn0.refl _ | apply Drawn0.step)⟩
          · rw [if_neg c6] at H
            have c6b0 : decide (65 ≤ a0) = false := decide_eq_false c6
            clear c6
            (first | rw [c6b0] | (simp only [i64_w, i32_w]; rw [c6b0]) | skip)
            have H' := Aside0.mk H
            clear H
            go_wp2
            go_meet
            case rel => exact ⟨_, (false), (by first | rfl | (simp; done) | (simp [*]; done)), H', ⟨by have := HJ1.out; first | omega | exact Nat.le_refl _⟩, by repeat (first | exact Drawn0.refl _ | apply Drawn0.step)⟩
      case rest =>
        clear HC4
        try clear c1
        try clear p2
        try clear c3
        try clear c3b0
        try clear c5
        try clear c6
        try clear c6b0
        try clear p2
        obtain ⟨kq, x3_3, rfl, HA, HJ3, ⟨mc3, rfl⟩⟩ := hcut
        cases kq with
        | zero => exact absurd HA.out (by simp [feature_lettered.j1])
        | succ kj3 =>
          have H := HA.out
          clear HA
          simp only [feature_lettered.j1] at H
          by_cases c7 : x3_3 = true
          · subst c7
            have H1 : (some true) = some r := by rw [if_pos rfl] at H; exact H
            clear H
            have H := H1
            clear H1
            obtain rfl := Option.some.inj H
            go_wp2
            go_ret
            exact ⟨by first | rfl | (simp; done) | (simp [*]; done), by repeat (first | exact Drawn0.refl _ | apply Drawn0.step)⟩
          · replace c7 := Bool.eq_false_iff.mpr c7
            subst c7
            have H1 : (if a0 < 161 then (some false) else (if a0 > 1114111 then (some false) else (if a0 = 65533 then (some false) else (if (a0 / 2048) = 27 then (some false) else (some true))))) = some r := by rw [if_neg (show ¬ (false = true) by decide)] at H; exact H
            clear H
            have H := H1
            clear H1
            by_cases c8 : a0 < 161
            · rw [if_pos c8] at H
              have c8b0 : decide (a0 < 161) = true := decide_eq_true c8
              clear c8
              obtain rfl := Option.some.inj H
              go_wp2
              go_ret
              exact ⟨by first | rfl | (simp; done) | (simp [*]; done), by repeat (first | exact Drawn0.refl _ | apply Drawn0.step)⟩
            · rw [if_neg c8] at H
              have c8b0 : decide (a0 < 161) = false := decide_eq_false c8
              clear c8
              by_cases c9 : a0 > 1114111
              · rw [if_pos c9] at H
                have c9b0 : decide (1114111 < a0) = true := decide_eq_true c9
                clear c9
                obtain rfl := Option.some.inj H
                go_wp2
                go_ret
                exact ⟨by first | rfl | (simp; done) | (simp [*]; done), by repeat (first | exact Drawn0.refl _ | apply Drawn0.step)⟩
              · rw [if_neg c9] at H
                have c9b0 : decide (1114111 < a0) = false := decide_eq_false c9
                clear c9
                by_cases c10 : a0 = 65533
                · rw [if_pos c10] at H
                  have c10b0 : (a0 == 65533) = true := beq_iff_eq.mpr c10
                  have c10b1 : (a0 != 65533) = false := bne_eq_false_iff_eq.mpr c10
                  clear c10
                  obtain rfl := Option.some.inj H
                  go_wp2
                  go_ret
                  exact ⟨by first | rfl | (simp; done) | (simp [*]; done), by repeat (first | exact Drawn0.refl _ | apply Drawn0.step)⟩
                · rw [if_neg c10] at H
                  have c10b0 : (a0 == 65533) = false := beq_eq_false_iff_ne.mpr c10
                  have c10b1 : (a0 != 65533) = true := bne_iff_ne.mpr c10
                  by_cases c11 : (a0 / 2048) = 27
                  · rw [if_pos c11] at H
                    have c11b0 : ((a0 / 2048) == 27) = true := beq_iff_eq.mpr c11
                    have c11b1 : ((a0 / 2048) != 27) = false := bne_eq_false_iff_eq.mpr c11
                    clear c11
                    obtain rfl := Option.some.inj H
                    go_wp2
                    go_ret
                    exact ⟨by first | rfl | (simp; done) | (simp [*]; done), by repeat (first | exact Drawn0.refl _ | apply Drawn0.step)⟩
                  · rw [if_neg c11] at H
                    have c11b0 : ((a0 / 2048) == 27) = false := beq_eq_false_iff_ne.mpr c11
                    have c11b1 : ((a0 / 2048) != 27) = true := bne_iff_ne.mpr c11
                    obtain rfl := Option.some.inj H
                    go_wp2
                    go_ret
                    exact ⟨by first | rfl | (simp; done) | (simp [*]; done), by repeat (first | exact Drawn0.refl _ | apply Drawn0.step)⟩

/-! ### feature_within: function 56 -/
def feature_within.f (l0_0 : List ByteArray) (l0_1 : List (S74)) (a1 : Int) (a2 : Int) : Option (Bool) := if (shr .u32 (Go.bits .or .u32 a1 a2) (l0_0.length : Int)) = 0 then (some ((Go.bits .and .u32 a1 a2) == 0)) else (some false)
set_option maxHeartbeats 8000000 in
set_option maxRecDepth 100000 in
theorem feature_within.calls (A0_0 : Option Addr) (c0_0 : Nat) (l0_0 : List ByteArray) (A0_1 : Option Addr) (c0_1 : Nat) (l0_1 : List (S74)) (a1 : Int) (a2 : Int) (r : Bool) (w : World) (hr0_0 : Kd.C Kd.string w A0_0 l0_0.length l0_0) (hc0_0 : l0_0.length ≤ c0_0) (hr0_1 : Kd.C k74 w A0_1 l0_1.length l0_1) (hc0_1 : l0_1.length ≤ c0_1) (h : feature_within.f l0_0 l0_1 a1 a2 = some r) :
    Calls Tryd.prog 56 #[.agg #[.slice A0_0 l0_0.length c0_0, .slice A0_1 l0_1.length c0_1], .int .u32 a1, .int .u32 a2] w fun e w' => e = .returned (.bool r) ∧ Below w.heap.size w w' := by
  have hu25 := Tryd.underlying25
  have HR0_0 := Aside0.mk hr0_0
  have HC0_0 := Aside0.mk hc0_0
  clear hr0_0 hc0_0
  have HR0_1 := Aside0.mk hr0_1
  have HC0_1 := Aside0.mk hc0_1
  clear hr0_1 hc0_1
  have HB := Aside0.mk (Below.refl w.heap.size w)
  have H : (if (shr .u32 (Go.bits .or .u32 a1 a2) (l0_0.length : Int)) = 0 then (some ((Go.bits .and .u32 a1 a2) == 0)) else (some false)) = some r := h
  clear h
  obtain ⟨ji4, hji4⟩ : ∃ j_ : Int, (shr .u32 (Go.bits .or .u32 a1 a2) (l0_0.length : Int)) = j_ := ⟨_, rfl⟩
  replace H : (if (ji4) = 0 then (some ((Go.bits .and .u32 a1 a2) == 0)) else (some false)) = some r := by first | (rw [hji4] at H; exact H) | (simp only [hji4] at H ⊢; exact H)
  have hji4_ : ((Go.bits .or .u32 a1 a2) / 2 ^ min (l0_0.length : Int).toNat 32) = ji4 := hji4
  have hji4z : (l0_0.length : Int) ≤ 32 → ((Go.bits .or .u32 a1 a2) / 2 ^ (l0_0.length : Int).toNat) = ji4 := shr_small hji4
  have hji4p : ((Go.bits .or .u32 a1 a2) / 2 ^ min l0_0.length 32) = ji4 := hji4_
  have hji4q : (l0_0.length : Int) ≤ 32 → ((Go.bits .or .u32 a1 a2) / 2 ^ l0_0.length) = ji4 := hji4z
  by_cases c5 : (ji4) = 0
  · rw [if_pos c5] at H
    have c5b0 : ((ji4) == 0) = true := beq_iff_eq.mpr c5
    have c5b1 : ((ji4) != 0) = false := bne_eq_false_iff_eq.mpr c5
    clear c5
    obtain rfl := Option.some.inj H
    go_enter Tryd.func56, Tryd.ntmps56
    go_wp2_with (first | ((with_reducible refine gate_dst (N := 3) rfl ?_); refine box_event ?hg (N := 3) ?hd (cs := #[.slice A0_0 l0_0.length c0_0, .slice A0_1 l0_1.length c0_1]) (t := 25) ?hr ?_; (case hd => rfl); (case hg => rfl); (case hr => first | (go_simp; done) | (go_simp; rfl)); intro gb102 hg w6 hbox hb; have n0_ := Aside0.mk (below_step (by repeat (first | (with_reducible first | exact HB.out | apply below_alloc | apply pw_below_drewN | apply below_drew1) | exact HB.out)) hb); have n1_ := Aside0.mk (hbox); have n2_ := Aside0.mk ((by rw [hg]; exact (below_size (by repeat (first | (with_reducible first | exact HB.out | apply below_alloc | apply pw_below_drewN | apply below_drew1) | exact HB.out))) : w.heap.size ≤ gb102)); have n3_ := Aside0.mk ((by rw [hg]; exact (below_size (by repeat (first | (with_reducible first | exact HB.out | apply below_alloc | apply pw_below_drewN | apply below_drew1) | exact HB.out))) : w.heap.size ≤ gb102)); clear HB; have HB := n0_; have BK102 := n1_; have GW102 := n2_; have GE102 := n3_; clear n0_ n1_ n2_ n3_; clear hb hbox hg; have hcz7_0 : w6.cell? ⟨gb102, 0, none⟩ = some (.slice A0_0 l0_0.length c0_0) := (blk_cell BK102.out 0).trans rfl; have hcz7_1 : w6.cell? ⟨gb102, 1, none⟩ = some (.slice A0_1 l0_1.length c0_1) := (blk_cell BK102.out 1).trans rfl; have hfz7_0 := blk_frozen BK102.out 0; have hfz7_1 := blk_frozen BK102.out 1))
    go_ret
    exact ⟨by first | rfl | (simp [errW_none, errW_some] <;> rfl) | (simp only [← hji4]; first | rfl | (simp [errW_none, errW_some] <;> rfl)) | (simp [*, errW_none, errW_some] <;> rfl), by repeat (first | (with_reducible first | exact HB.out | apply below_alloc | apply pw_below_drewN | apply below_drew1 | refine below_set ?_ GE102.out) | exact HB.out)⟩
  · rw [if_neg c5] at H
    have c5b0 : ((ji4) == 0) = false := beq_eq_false_iff_ne.mpr c5
    have c5b1 : ((ji4) != 0) = true := bne_iff_ne.mpr c5
    obtain rfl := Option.some.inj H
    go_enter Tryd.func56, Tryd.ntmps56
    go_wp2_with (first | ((with_reducible refine gate_dst (N := 3) rfl ?_); refine box_event ?hg (N := 3) ?hd (cs := #[.slice A0_0 l0_0.length c0_0, .slice A0_1 l0_1.length c0_1]) (t := 25) ?hr ?_; (case hd => rfl); (case hg => rfl); (case hr => first | (go_simp; done) | (go_simp; rfl)); intro gb102 hg w8 hbox hb; have n0_ := Aside0.mk (below_step (by repeat (first | (with_reducible first | exact HB.out | apply below_alloc | apply pw_below_drewN | apply below_drew1) | exact HB.out)) hb); have n1_ := Aside0.mk (hbox); have n2_ := Aside0.mk ((by rw [hg]; exact (below_size (by repeat (first | (with_reducible first | exact HB.out | apply below_alloc | apply pw_below_drewN | apply below_drew1) | exact HB.out))) : w.heap.size ≤ gb102)); have n3_ := Aside0.mk ((by rw [hg]; exact (below_size (by repeat (first | (with_reducible first | exact HB.out | apply below_alloc | apply pw_below_drewN | apply below_drew1) | exact HB.out))) : w.heap.size ≤ gb102)); clear HB; have HB := n0_; have BK102 := n1_; have GW102 := n2_; have GE102 := n3_; clear n0_ n1_ n2_ n3_; clear hb hbox hg; have hcz9_0 : w8.cell? ⟨gb102, 0, none⟩ = some (.slice A0_0 l0_0.length c0_0) := (blk_cell BK102.out 0).trans rfl; have hcz9_1 : w8.cell? ⟨gb102, 1, none⟩ = some (.slice A0_1 l0_1.length c0_1) := (blk_cell BK102.out 1).trans rfl; have hfz9_0 := blk_frozen BK102.out 0; have hfz9_1 := blk_frozen BK102.out 1))
    go_ret
    exact ⟨by first | rfl | (simp [errW_none, errW_some] <;> rfl) | (simp only [← hji4]; first | rfl | (simp [errW_none, errW_some] <;> rfl)) | (simp [*, errW_none, errW_some] <;> rfl), by repeat (first | (with_reducible first | exact HB.out | apply below_alloc | apply pw_below_drewN | apply below_drew1 | refine below_set ?_ GE102.out) | exact HB.out)⟩

/-! ### feature_like: function 86 -/
/-! ### runes_long: function 83 -/
def runes_long.f (a0 : ByteArray) : Option (Int) := if (a0.size : Int) > 65536 then (some 3) else (some 0)
set_option maxHeartbeats 8000000 in
set_option maxRecDepth 100000 in
theorem runes_long.calls (a0 : ByteArray) (r : Int) (w : World) (h : runes_long.f a0 = some r) :
    Calls Tryd.prog 83 #[.string a0] w fun e w' => e = .returned (.int .i64 r) ∧ Drawn0 w w' := by
  have H : (if (a0.size : Int) > 65536 then (some 3) else (some 0)) = some r := h
  clear h
  by_cases c2 : (a0.size : Int) > 65536
  · rw [if_pos c2] at H
    have c2b0 : decide (65536 < (a0.size : Int)) = true := decide_eq_true c2
    have c2b1 : decide (65536 < a0.size) = true := decide_eq_true (by omega)
    clear c2
    obtain rfl := Option.some.inj H
    go_enter Tryd.func83, Tryd.ntmps83
    go_wp2
    go_ret
    exact ⟨by first | rfl | (simp; done) | (simp [*]; done), by repeat (first | exact Drawn0.refl _ | apply Drawn0.step)⟩
  · rw [if_neg c2] at H
    have c2b0 : decide (65536 < (a0.size : Int)) = false := decide_eq_false c2
    have c2b1 : decide (65536 < a0.size) = false := decide_eq_false (by omega)
    clear c2
    obtain rfl := Option.some.inj H
    go_enter Tryd.func83, Tryd.ntmps83
    go_wp2
    go_ret
    exact ⟨by first | rfl | (simp; done) | (simp [*]; done), by repeat (first | exact Drawn0.refl _ | apply Drawn0.step)⟩

/-! ### utf8_RuneLen: function 95 -/
def utf8_RuneLen.j0 : Nat → Int → Bool → Option (Int)
  | 0, _, _ => none
  | k + 1, x0, x12 => if x12 = true then (some (-1)) else (if x0 ≤ 65535 then (some 3) else (if x0 ≤ 1114111 then (some 4) else (some (-1))))
def utf8_RuneLen.f (k : Nat) (a0 : Int) : Option (Int) := if a0 < 0 then (some (-1)) else (if a0 ≤ 127 then (some 1) else (if a0 ≤ 2047 then (some 2) else (if 55296 ≤ a0 then (utf8_RuneLen.j0 k a0 (decide (a0 ≤ 57343))) else (utf8_RuneLen.j0 k a0 false))))
set_option maxHeartbeats 8000000 in
set_option maxRecDepth 100000 in
theorem utf8_RuneLen.calls (k : Nat) (a0 : Int) (r : Int) (w : World) (h : utf8_RuneLen.f k a0 = some r) :
    Calls Tryd.prog 95 #[.int .i32 a0] w fun e w' => e = .returned (.int .i64 r) ∧ Drawn0 w w' := by
  have H : (if a0 < 0 then (some (-1)) else (if a0 ≤ 127 then (some 1) else (if a0 ≤ 2047 then (some 2) else (if 55296 ≤ a0 then (utf8_RuneLen.j0 k a0 (decide (a0 ≤ 57343))) else (utf8_RuneLen.j0 k a0 false))))) = some r := h
  clear h
  by_cases c2 : a0 < 0
  · rw [if_pos c2] at H
    have c2b0 : decide (a0 < 0) = true := decide_eq_true c2
    clear c2
    obtain rfl := Option.some.inj H
    go_enter Tryd.func95, Tryd.ntmps95
    go_wp2
    go_ret
    exact ⟨by first | rfl | (simp; done) | (simp [*]; done), by repeat (first | exact Drawn0.refl _ | apply Drawn0.step)⟩
  · rw [if_neg c2] at H
    have c2b0 : decide (a0 < 0) = false := decide_eq_false c2
    clear c2
    by_cases c3 : a0 ≤ 127
    · rw [if_pos c3] at H
      have c3b0 : decide (a0 ≤ 127) = true := decide_eq_true c3
      clear c3
      obtain rfl := Option.some.inj H
      go_enter Tryd.func95, Tryd.ntmps95
      go_wp2
      go_ret
      exact ⟨by first | rfl | (simp; done) | (simp [*]; done), by repeat (first | exact Drawn0.refl _ | apply Drawn0.step)⟩
    · rw [if_neg c3] at H
      have c3b0 : decide (a0 ≤ 127) = false := decide_eq_false c3
      clear c3
      by_cases c4 : a0 ≤ 2047
      · rw [if_pos c4] at H
        have c4b0 : decide (a0 ≤ 2047) = true := decide_eq_true c4
        clear c4
        obtain rfl := Option.some.inj H
        go_enter Tryd.func95, Tryd.ntmps95
        go_wp2
        go_ret
        exact ⟨by first | rfl | (simp; done) | (simp [*]; done), by repeat (first | exact Drawn0.refl _ | apply Drawn0.step)⟩
      · rw [if_neg c4] at H
        have c4b0 : decide (a0 ≤ 2047) = false := decide_eq_false c4
        clear c4
        have HC5 := Aside0.mk H
        clear H
        go_enter Tryd.func95, Tryd.ntmps95
        go_upto_region 7 with (fail)
        go_cut [12] (fun v12 wc => ∃ (kq : Nat) (x12_4 : Bool), v12 = .bool x12_4 ∧ Aside0 (utf8_RuneLen.j0 kq a0 x12_4 = some r) ∧ Aside0 (kq ≤ k) ∧ Drawn0 w wc)
        case first =>
          have H := HC5.out
          clear HC5
          by_cases c6 : 55296 ≤ a0
          · rw [if_pos c6] at H
            have c6b0 : decide (55296 ≤ a0) = true := decide_eq_true c6
            clear c6
            (first | rw [c6b0] | (simp only [i64_w, i32_w]; rw [c6b0]) | skip)
            have H' := Aside0.mk H
            clear H
            go_wp2
            go_meet
            case rel => exact ⟨_, (decide (a0 ≤ 57343)), (by first | rfl | (simp; done) | (simp [*]; done)), H', ⟨by first | omega | exact Nat.le_refl _⟩, by repeat (first | exact Drawn0.refl _ | apply Drawn0.step)⟩
          · rw [if_neg c6] at H
            have c6b0 : decide (55296 ≤ a0) = false := decide_eq_false c6
            clear c6
            (first | rw [c6b0] | (simp only [i64_w, i32_w]; rw [c6b0]) | skip)
            have H' := Aside0.mk H
            clear H
            go_wp2
            go_meet
            case rel => exact ⟨_, (false), (by first | rfl | (simp; done) | (simp [*]; done)), H', ⟨by first | omega | exact Nat.le_refl _⟩, by repeat (first | exact Drawn0.refl _ | apply Drawn0.step)⟩
        case rest =>
          clear HC5
          try clear c2
          try clear c2b0
          try clear p2
          try clear c3
          try clear c3b0
          try clear c4
          try clear c4b0
          try clear c6
          try clear c6b0
          obtain ⟨kq, x12_4, rfl, HA, HJ4, ⟨mc4, rfl⟩⟩ := hcut
          cases kq with
          | zero => exact absurd HA.out (by simp [utf8_RuneLen.j0])
          | succ kj4 =>
            have H := HA.out
            clear HA
            simp only [utf8_RuneLen.j0] at H
            by_cases c7 : x12_4 = true
            · subst c7
              have H1 : (some (-1)) = some r := by rw [if_pos rfl] at H; exact H
              clear H
              have H := H1
              clear H1
              obtain rfl := Option.some.inj H
              go_wp2
              go_ret
              exact ⟨by first | rfl | (simp; done) | (simp [*]; done), by repeat (first | exact Drawn0.refl _ | apply Drawn0.step)⟩
            · replace c7 := Bool.eq_false_iff.mpr c7
              subst c7
              have H1 : (if a0 ≤ 65535 then (some 3) else (if a0 ≤ 1114111 then (some 4) else (some (-1)))) = some r := by rw [if_neg (show ¬ (false = true) by decide)] at H; exact H
              clear H
              have H := H1
              clear H1
              by_cases c8 : a0 ≤ 65535
              · rw [if_pos c8] at H
                have c8b0 : decide (a0 ≤ 65535) = true := decide_eq_true c8
                clear c8
                obtain rfl := Option.some.inj H
                go_wp2
                go_ret
                exact ⟨by first | rfl | (simp; done) | (simp [*]; done), by repeat (first | exact Drawn0.refl _ | apply Drawn0.step)⟩
              · rw [if_neg c8] at H
                have c8b0 : decide (a0 ≤ 65535) = false := decide_eq_false c8
                clear c8
                by_cases c9 : a0 ≤ 1114111
                · rw [if_pos c9] at H
                  have c9b0 : decide (a0 ≤ 1114111) = true := decide_eq_true c9
                  clear c9
                  obtain rfl := Option.some.inj H
                  go_wp2
                  go_ret
                  exact ⟨by first | rfl | (simp; done) | (simp [*]; done), by repeat (first | exact Drawn0.refl _ | apply Drawn0.step)⟩
                · rw [if_neg c9] at H
                  have c9b0 : decide (a0 ≤ 1114111) = false := decide_eq_false c9
                  clear c9
                  obtain rfl := Option.some.inj H
                  go_wp2
                  go_ret
                  exact ⟨by first | rfl | (simp; done) | (simp [*]; done), by repeat (first | exact Drawn0.refl _ | apply Drawn0.step)⟩

end Go.Proofs.YtdeichibnnbjdaaDoor.RF0
end
section
/-
  Alphabets: which may be; what the program's small tests answer.
-/
set_option linter.unusedSimpArgs false
set_option linter.unusedVariables false
namespace Go.Proofs.YtdeichibnnbjdaaDoor
open Go.RowKit Go.Proofs.YtdeichibnnbjdaaDoorW.PrintWords Go.Proofs.YtdeichibnnbjdaaDoorW.PrintLast Go.Proofs.YtdeichibnnbjdaaDoorW.PrintMore Go.Proofs.YtdeichibnnbjdaaDoor.Ext Go.Proofs.YtdeichibnnbjdaaDoor.RF0

def az (b : UInt8) : Bool := decide (97 ≤ b.toNat) && decide (b.toNat ≤ 122)
def nameOk (s : ByteArray) : Bool := decide (1 ≤ s.size) && decide (s.size ≤ 32) && s.data.toList.all az
def runeOk (r : Int) : Bool := (decide (97 ≤ r) && decide (r ≤ 122)) || (decide (65 ≤ r) && decide (r ≤ 90)) || (decide (161 ≤ r) && decide (r ≤ 1114111) && !(decide (r = 65533)) && !(decide (55296 ≤ r) && decide (r ≤ 57343)))
def withinB (n : Nat) (p m : Int) : Bool := decide (shr .u32 (Go.bits .or .u32 p m) (n : Int) = 0) && decide (Go.bits .and .u32 p m = 0)
def namesOk : List ByteArray → List (List UInt8) → Bool
  | [], _ => true
  | f :: fs, seen => nameOk f && !(seen.contains f.data.toList) && namesOk fs (f.data.toList :: seen)
def lettersOk (n : Nat) : List Letter → List Int → Bool
  | [], _ => true
  | x :: xs, seen => runeOk x.f0 && !(seen.contains x.f0) && withinB n x.f1 x.f2 && lettersOk n xs (x.f0 :: seen)
def okA (l0 : List ByteArray) (l1 : List Letter) : Bool := decide (l0.length ≤ 24) && decide (1 ≤ l1.length) && decide (l1.length ≤ 128) && namesOk l0 [] && lettersOk l0.length l1 []

theorem dropWhile_nil {α : Type} (p : α → Bool) : ∀ l : List α, (l.dropWhile p = []) ↔ l.all p = true
  | [] => by simp
  | x :: xs => by
    by_cases h : p x = true
    · simp [List.dropWhile_cons, h, dropWhile_nil p xs]
    · simp [List.dropWhile_cons, h]
theorem trimS_nil (l cs : List UInt8) : Lib.trimS l cs = [] ↔ l.all (cs.contains ·) = true := by
  unfold Lib.trimS Lib.trimRightS Lib.trimLeftS
  rw [dropWhile_nil, List.all_reverse, ← List.all_reverse (l := l)]
  constructor
  · intro h
    rw [← dropWhile_nil]
    cases hd : l.reverse.dropWhile (cs.contains ·) with
    | nil => rfl
    | cons x xs =>
      have h2 := List.head?_dropWhile_not (cs.contains ·) l.reverse
      rw [hd] at h h2
      simp only [List.head?_cons, List.all_cons, Bool.and_eq_true] at h h2
      rw [h.1] at h2
      cases h2
  · intro h
    rw [← dropWhile_nil] at h
    rw [h]
    rfl
theorem az_contains (b : UInt8) : ([97, 98, 99, 100, 101, 102, 103, 104, 105, 106, 107, 108, 109, 110, 111, 112, 113, 114, 115, 116, 117, 118, 119, 120, 121, 122] : List UInt8).contains b = az b := by
  have h : ∀ n, n < 256 → ([97, 98, 99, 100, 101, 102, 103, 104, 105, 106, 107, 108, 109, 110, 111, 112, 113, 114, 115, 116, 117, 118, 119, 120, 121, 122] : List UInt8).contains (UInt8.ofNat n) = az (UInt8.ofNat n) := by decide +kernel
  have h2 := h b.toNat b.toNat_lt
  rwa [UInt8.ofNat_toNat] at h2
theorem named_eq (s : ByteArray) : feature_named.f s = some (nameOk s) := by
  unfold feature_named.f nameOk
  have hl : s.toList = s.data.toList := Lib.toList_data s
  rw [hl]
  have hsz : s.data.toList.length = s.size := by simp
  by_cases h0 : s.data.toList = []
  · rw [if_pos h0]
    have : s.size = 0 := by rw [← hsz, h0]; rfl
    simp [this]
  · rw [if_neg h0]
    have h1 : 1 ≤ s.size := by
      rw [← hsz]
      cases hd : s.data.toList with
      | nil => exact absurd hd h0
      | cons x xs => simp
    by_cases h2 : s.size ≤ 32
    · rw [if_pos (by omega)]
      unfold strings_Trim.f
      rw [if_pos ⟨by omega, by decide, by decide⟩]
      simp only [Option.bind_some, Lib.toList_data]
      have ht := trimS_nil s.data.toList ([97, 98, 99, 100, 101, 102, 103, 104, 105, 106, 107, 108, 109, 110, 111, 112, 113, 114, 115, 116, 117, 118, 119, 120, 121, 122] : List UInt8)
      have e : (s.data.toList.all (([97, 98, 99, 100, 101, 102, 103, 104, 105, 106, 107, 108, 109, 110, 111, 112, 113, 114, 115, 116, 117, 118, 119, 120, 121, 122] : List UInt8).contains ·)) = s.data.toList.all az := by
        congr 1
        funext b
        exact az_contains b
      rw [e] at ht
      simp only [h1, h2, decide_true, Bool.true_and]
      congr 1
      rw [Bool.eq_iff_iff, beq_iff_eq]
      exact ht
    · rw [if_neg (by omega)]
      simp [h2]
theorem lettered_eq (k : Nat) (r : Int) : feature_lettered.f (k + 2) r = some (runeOk r) := by
  simp only [feature_lettered.f, feature_lettered.j0, feature_lettered.j1]
  unfold runeOk
  by_cases a : 97 ≤ r <;> by_cases b : r ≤ 122 <;> by_cases c : 65 ≤ r <;> by_cases d : r ≤ 90 <;> by_cases e : r < 161 <;> by_cases f : r > 1114111 <;> first
    | (exfalso; omega)
    | (simp [a, b, c, d, e, f]; done)
    | (simp [a, b, c, d, e, f]; omega)
    | (by_cases g : r = 65533
       · simp [g]
       · by_cases h : r / 2048 = 27
         · simp [a, b, c, d, e, f, g, h]; omega
         · simp [a, b, c, d, e, f, g, h]; omega)
theorem within_eq (l0 : List ByteArray) (l1 : List Letter) (p m : Int) : feature_within.f l0 l1 p m = some (withinB l0.length p m) := by
  unfold feature_within.f withinB
  split
  · rename_i h
    simp [h]
    rfl
  · rename_i h
    simp [h]
end Go.Proofs.YtdeichibnnbjdaaDoor
end
section
/-
  A map that the call makes: look-ups at bool elements; a set as a list of keys. No program in sight.
-/
namespace Go.Proofs.YtdeichibnnbjdaaDoor
open Go.RowKit Go.Maps

theorem plainElem_bool_inv {H : Type} {P : Program} {e : TypeId} (he : P.underlying e = some .bool) {v : Value} {z : DataW H × List MemPlace} (h : plainElem P e v = some z) : ∃ c, v = .bool c ∧ z = (.lit (.bool c), []) := by
  unfold plainElem at h
  rw [he] at h
  cases v <;> simp at h
  exact ⟨_, rfl, h.symm⟩
theorem lookup_bool {H : Type} {P : Program} {w : World} {k : TypeId} {b n : Nat} {D : DataW H} {t e : TypeId} (h : w.ownsMap P k (plainElem P e) b n D) (K : Keyed P k) (ht : P.underlying t = some (.map k e)) (he : P.underlying e = some .bool) (hz : (zeroValue e).run P w = .ok (.bool false) w)
    {key : Value} {kl : Lit} (hkey : keyOf P k key = some kl) : ∃ c, (Instr.lookup t (.map (some b)) key false).run P w = .ok (.bool c) w ∧ D.atKey kl (.lit (.bool false)) = .lit (.bool c) := by
  obtain ⟨v, ps, hrun, hv⟩ := h.lookup K ht hz (plainElem_bool he false) hkey
  obtain ⟨c, rfl, hc⟩ := plainElem_bool_inv he hv
  simp only [Prod.mk.injEq] at hc
  exact ⟨c, hrun, hc.1⟩
/-- 'm[k]' at bool elements. -/
theorem wpList_lookup_own_bool {H : Type} {P : Program} (w : World) {ops : Array Oper} {rest : List Oper} {o : Oper} {a : Act} {Q : Exit → Act → World → Prop}
    (hg : o.guard = none) (m x : Operand) (t : TypeId) (hop : o.op = Op.lookup t m x false)
    (k e : TypeId) (K : Keyed P k) (ht : P.underlying t = some (.map k e)) (he : P.underlying e = some .bool) (hz : (zeroValue e).run P w = .ok (.bool false) w) (b n : Nat) (D : DataW H)
    (hm : a.eval m = .map (some b)) (hown : w.ownsMap P k (plainElem P e) b n D) (key : Value) (kl : Lit) (hx : a.eval x = key) (hkey : keyOf P k key = some kl)
    (hK : ∀ c : Bool, D.atKey kl (.lit (.bool false)) = .lit (.bool c) → wpList P ops Q rest (a.put o.dst (.bool c)) w) :
    wpList P ops Q (o :: rest) a w := by
  refine wpList_plain hg fun K' hK' => ?_
  obtain ⟨c, hrun, hat⟩ := lookup_bool hown K ht he hz hkey
  unfold Oper.wp
  simp [execOp, hop, hm, hx, hrun, Result.andThen]
  exact hK' _ _ (hK c hat)

/-- The map D reads as the set of these keys. -/
structure SetIs (D : DataW Unit) (ks : List Lit) : Prop where
  isMap : IsMap D
  mem : ∀ kl, kl ∈ ks → D.atKey kl (.lit (.bool false)) = .lit (.bool true)
  nmem : ∀ kl, ¬ kl ∈ ks → D.atKey kl (.lit (.bool false)) = .lit (.bool false)
theorem SetIs.empty : SetIs (.map []) [] := ⟨isMap_empty, (fun _ h => absurd h (by simp)), fun kl _ => atKey_of_not_has (k := kl) rfl _⟩
theorem SetIs.put {D : DataW Unit} {ks : List Lit} (h : SetIs D ks) {k : Lit} (hk : WideAt.IsKeyLit k) : SetIs (D.put k (.lit (.bool true))) (k :: ks) := by
  refine ⟨h.isMap.put _ _, fun kl hm => ?_, fun kl hm => ?_⟩
  · by_cases e : kl = k
    · subst e
      exact atKey_put_same h.isMap hk _ _
    · rw [atKey_put_other e]
      exact h.mem kl (by simpa [e] using hm)
  · have e : kl ≠ k := fun e => hm (by simp [e])
    rw [atKey_put_other e]
    exact h.nmem kl (fun h2 => hm (by simp [h2]))
theorem SetIs.iff {D : DataW Unit} {ks : List Lit} (h : SetIs D ks) {kl : Lit} {c : Bool} (hc : D.atKey kl (.lit (.bool false)) = .lit (.bool c)) : c = true ↔ kl ∈ ks := by
  constructor
  · intro e
    subst e
    apply Classical.byContradiction
    intro hn
    rw [h.nmem kl hn] at hc
    cases hc
  · intro hm
    rw [h.mem kl hm] at hc
    injection hc with hc
    injection hc with hc
    exact hc.symm
end Go.Proofs.YtdeichibnnbjdaaDoor
end
section
/-
  feature.Check by a walk: whether an alphabet may be.
-/
set_option linter.unusedSimpArgs false
set_option linter.unusedVariables false
namespace Go.Proofs.YtdeichibnnbjdaaDoor
open Go.RowKit Go.Maps Go.WideMaps Go.Proofs.YtdeichibnnbjdaaDoorW.PrintWords Go.Proofs.YtdeichibnnbjdaaDoorW.PrintLast Go.Proofs.YtdeichibnnbjdaaDoorW.PrintMore Go.Proofs.YtdeichibnnbjdaaDoor.Ext Go.Proofs.YtdeichibnnbjdaaDoor.RF0

theorem zeroBool (w : World) : (zeroValue 4).run Tryd.prog w = .ok (.bool false) w := by kernel_rfl
theorem namesOk_at (l0 : List ByteArray) (k : Nat) (h : k < l0.length) (seen : List (List UInt8)) :
    namesOk (l0.drop k) seen = (nameOk (l0.getD k ByteArray.empty) && !(seen.contains (l0.getD k ByteArray.empty).data.toList) && namesOk (l0.drop (k + 1)) ((l0.getD k ByteArray.empty).data.toList :: seen)) := by
  rw [List.drop_eq_getElem_cons h]
  simp [namesOk, List.getD_eq_getElem?_getD, List.getElem?_eq_getElem h]
def seenN (l0 : List ByteArray) (k : Nat) : List (List UInt8) := (l0.take k).reverse.map (fun s => s.data.toList)
theorem seenN_succ (l0 : List ByteArray) (k : Nat) (h : k < l0.length) : seenN l0 (k + 1) = (l0.getD k ByteArray.empty).data.toList :: seenN l0 k := by
  unfold seenN
  rw [List.take_succ_eq_append_getElem h, List.reverse_append, List.map_append]
  simp [List.getD_eq_getElem?_getD, List.getElem?_eq_getElem h]
def N1 (l0 : List ByteArray) (k : Nat) : Prop := namesOk l0 [] = namesOk (l0.drop k) (seenN l0 k)

theorem N1_zero (l0 : List ByteArray) : N1 l0 0 := rfl
theorem N1_succ (l0 : List ByteArray) (k : Nat) (h : k < l0.length) (hn : N1 l0 k) (h1 : nameOk (l0.getD k ByteArray.empty) = true) (h2 : ¬ Lit.string (l0.getD k ByteArray.empty).data.toList ∈ (seenN l0 k).map Lit.string) : N1 l0 (k + 1) := by
  unfold N1 at hn ⊢
  rw [hn, namesOk_at l0 k h, h1, seenN_succ l0 k h]
  have : (seenN l0 k).contains (l0.getD k ByteArray.empty).data.toList = false := by
    rw [Bool.eq_false_iff]
    intro hc
    exact h2 (List.mem_map.2 ⟨_, by simpa using hc, rfl⟩)
  rw [this]
  simp
theorem N1_bad (l0 : List ByteArray) (k : Nat) (h : k < l0.length) (hn : N1 l0 k) (hb : nameOk (l0.getD k ByteArray.empty) = false ∨ Lit.string (l0.getD k ByteArray.empty).data.toList ∈ (seenN l0 k).map Lit.string) (l1 : List Letter) : okA l0 l1 = false := by
  unfold N1 at hn
  unfold okA
  rw [hn, namesOk_at l0 k h]
  rcases hb with hb | hb
  · rw [hb]; simp
  · obtain ⟨x, hx, e⟩ := List.mem_map.1 hb
    injection e with e
    subst e
    have : (seenN l0 k).contains (l0.getD k ByteArray.empty).data.toList = true := by simpa using hx
    rw [this]
    simp
theorem N1_end (l0 : List ByteArray) (hn : N1 l0 l0.length) : namesOk l0 [] = true := by
  unfold N1 at hn
  rw [hn, List.drop_of_length_le (Nat.le_refl _)]
  rfl
def seenL (l1 : List Letter) (k : Nat) : List Int := (l1.take k).reverse.map (fun x => x.f0)
def L1 (n : Nat) (l1 : List Letter) (k : Nat) : Prop := lettersOk n l1 [] = lettersOk n (l1.drop k) (seenL l1 k)
theorem seenL_succ (l1 : List Letter) (k : Nat) (h : k < l1.length) : seenL l1 (k + 1) = l1[k].f0 :: seenL l1 k := by
  unfold seenL
  rw [List.take_succ_eq_append_getElem h, List.reverse_append, List.map_append]
  simp
theorem lettersOk_at (n : Nat) (l1 : List Letter) (k : Nat) (h : k < l1.length) (seen : List Int) :
    lettersOk n (l1.drop k) seen = (runeOk l1[k].f0 && !(seen.contains l1[k].f0) && withinB n l1[k].f1 l1[k].f2 && lettersOk n (l1.drop (k + 1)) (l1[k].f0 :: seen)) := by
  rw [List.drop_eq_getElem_cons h]
  rfl
theorem L1_zero (n : Nat) (l1 : List Letter) : L1 n l1 0 := rfl
theorem L1_succ (n : Nat) (l1 : List Letter) (k : Nat) (h : k < l1.length) (hn : L1 n l1 k) (h1 : runeOk l1[k].f0 = true) (h2 : ¬ Lit.int .i32 l1[k].f0 ∈ (seenL l1 k).map (Lit.int .i32)) (h3 : withinB n l1[k].f1 l1[k].f2 = true) : L1 n l1 (k + 1) := by
  unfold L1 at hn ⊢
  rw [hn, lettersOk_at n l1 k h, h1, h3, seenL_succ l1 k h]
  have : (seenL l1 k).contains l1[k].f0 = false := by
    rw [Bool.eq_false_iff]
    intro hc
    exact h2 (List.mem_map.2 ⟨_, by simpa using hc, rfl⟩)
  rw [this]
  simp
theorem L1_bad (l0 : List ByteArray) (l1 : List Letter) (k : Nat) (h : k < l1.length) (hn : L1 l0.length l1 k) (hb : runeOk l1[k].f0 = false ∨ Lit.int .i32 l1[k].f0 ∈ (seenL l1 k).map (Lit.int .i32) ∨ withinB l0.length l1[k].f1 l1[k].f2 = false) : okA l0 l1 = false := by
  unfold L1 at hn
  unfold okA
  rw [hn, lettersOk_at _ l1 k h]
  rcases hb with hb | hb | hb
  · rw [hb]; simp
  · obtain ⟨x, hx, e⟩ := List.mem_map.1 hb
    injection e with _ e
    subst e
    have : (seenL l1 k).contains l1[k].f0 = true := by simpa using hx
    rw [this]
    simp
  · rw [hb]; simp
theorem L1_end (n : Nat) (l1 : List Letter) (hn : L1 n l1 l1.length) : lettersOk n l1 [] = true := by
  unfold L1 at hn
  rw [hn, List.drop_of_length_le (Nat.le_refl _)]
  rfl
theorem okA_true (l0 : List ByteArray) (l1 : List Letter) (n0 : l0.length ≤ 24) (n1 : 1 ≤ l1.length) (n2 : l1.length ≤ 128) (h0 : namesOk l0 [] = true) (h1 : lettersOk l0.length l1 [] = true) : okA l0 l1 = true := by
  unfold okA
  simp [n0, n1, n2, h0, h1]
def chk (l0 : List ByteArray) (l1 : List Letter) : Int := if okA l0 l1 = true then 0 else 7
theorem chk_bad {l0 : List ByteArray} {l1 : List Letter} (h : okA l0 l1 = false) : chk l0 l1 = 7 := by unfold chk; rw [h]; rfl
theorem chk_ok {l0 : List ByteArray} {l1 : List Letter} (h : okA l0 l1 = true) : chk l0 l1 = 0 := by unfold chk; rw [h]; rfl
theorem ret_i64 {a b : Int} (h : a = b) : Ending.returned (.int .i64 a) = .returned (.int .i64 b) := by rw [h]
theorem rune_wf {r : Int} (h : runeOk r = true) : (Lit.int .i32 r).wf = true := by
  unfold runeOk at h
  simp at h
  have h0 : -2147483648 ≤ r ∧ r ≤ 2147483647 := by omega
  simp [Lit.wf, IntKind.min, IntKind.max, IntKind.signed, IntKind.bits]
  omega

set_option maxHeartbeats 2000000 in
set_option maxRecDepth 100000 in
theorem check_walk (A0 A1 : Option Addr) (c0 c1 : Nat) (l0 : List ByteArray) (l1 : List Letter) (r : Int) (w : World) (hF : Kd.C Kd.string w A0 l0.length l0) (hcF : l0.length ≤ c0) (hL : Kd.C kLetter w A1 l1.length l1) (hcL : l1.length ≤ c1)
    (n0 : l0.length ≤ 24) (n1 : 1 ≤ l1.length) (n2 : l1.length ≤ 128) (hr : Hid (chk l0 l1 = r)) :
    Calls Tryd.prog 37 #[.agg #[.slice A0 l0.length c0, .slice A1 l1.length c1]] w fun e w' => e = .returned (.int .i64 r) ∧ Below w.heap.size w w' := by
  have hmm := @run_makeMap Tryd.prog
  have HF := Lib.hid (Kd.reads_of_C (d := ByteArray.empty) (h1 := fun _ => rfl) hF)
  have HL := Lib.hid hL
  have HF0 := Lib.hid hF
  clear hF hL
  go_enter Tryd.func37, Tryd.ntmps37
  go_wp2_with fail
  go_loopw [29] (fun i wr => ∃ k : Nat, k ≤ l0.length ∧ i = .int .i64 k ∧ Below w.heap.size w wr ∧ w.heap.size + 2 ≤ wr.heap.size ∧ Hid (wr.heap[w.heap.size]? = some (.cells #[.slice A0 l0.length c0, .slice A1 l1.length c1] 25 (0, 0))) ∧ Hid (N1 l0 k) ∧
      ∃ D, wr.ownsMap Tryd.prog 9 (plainElem Tryd.prog 4) (w.heap.size + 1) k D ∧ Hid (SetIs D ((seenN l0 k).map Lit.string)))
    (fun i _ => l0.length - (intOf i).toNat)
  case atStart =>
    refine ⟨0, Nat.zero_le _, rfl, ((Below.refl _ _).alloc (Nat.le_refl _) _).alloc (by simp) _, by simp, blk_alloc (blk_new _ _) _, N1_zero _, _, ?_, SetIs.empty⟩
    have := World.ownsMap_made (w.alloc (.cells #[.slice A0 l0.length c0, .slice A1 l1.length c1] 25)) Tryd.prog 9 (plainElem (H := Unit) Tryd.prog 4)
    simpa using this
  case round =>
    obtain ⟨k, hk, rfl, hb, hsz, hbx, hN, D, hown, hS⟩ := hrel
    by_cases hlt : k < l0.length
    · obtain ⟨ad, hA, hc⟩ := HF.out.2.2 (by omega)
      subst hA
      have hck := hb.cell (p := ad.add k) (by have := World.block_lt_of_cell? w _ (hc k hlt); exact this)
      rw [hc k hlt] at hck
      clear hc
      obtain ⟨s, hs⟩ : ∃ s, s = l0.getD k ByteArray.empty := ⟨_, rfl⟩
      rw [← hs] at hck
      have Hs := Lib.hid hs
      clear hs
      cases hs : nameOk s with
      | false =>
        have hnm := fun W => feature_named.calls s false W ((named_eq s).trans (by rw [hs]))
        have Hok : Hid (okA l0 l1 = false) := N1_bad l0 k hlt hN.out (.inl (by rw [← Hs.out]; exact hs)) l1
        clear hs
        go_wp2_with (go_at_call 54; refine (hnm _).mono ?_; rintro e w1 ⟨rfl, hb1⟩)
        go_ret
        exact ⟨ret_i64 ((chk_bad Hok.out).symm.trans hr.out), below_step hb hb1⟩
      | true =>
        have hnm := fun W => feature_named.calls s true W ((named_eq s).trans (by rw [hs]))
        have hkey : keyOf Tryd.prog 9 (.string s) = some (.string s.data.toList) := keyOf_string_mk Tryd.underlying9 (by unfold nameOk at hs; simp at hs; unfold maxLen; omega)
        have Hn : Hid (nameOk s = true) := hs
        clear hs
        go_wp2_with (first | (go_at_call 54; refine (hnm _).mono ?_; rintro e w1 ⟨rfl, hb1⟩; have hown1 := hown.kept (grown_of_below hb1 none) (by simp)) | (at_lookup; (try (refine gate_guard (by rfl) ?_; dsimp only)); refine wpList_lookup_own_bool _ rfl _ _ 93 rfl 9 4 (string_keyed Tryd.underlying9) Tryd.underlying93 Tryd.underlying4 (zeroBool _) (w.heap.size + 1) k _ rfl hown1 _ _ rfl hkey ?_; intro c hat) | (at_mapUpdate; refine wpList_mapUpdate_own _ rfl _ _ _ 93 rfl 9 4 (string_keyed Tryd.underlying9) Tryd.underlying93 _ (w.heap.size + 1) k _ rfl hown1 (by unfold maxLen; omega) _ _ _ rfl rfl hkey _ [] (plainElem_bool Tryd.underlying4 true) ?_; intro w2 hown2 hgrow2))
        · have hc1 : c = true := by assumption
          have Hok : okA l0 l1 = false := N1_bad l0 k hlt hN.out (.inr (by rw [← Hs.out]; exact (hS.out.iff hat).1 hc1)) l1
          go_ret
          exact ⟨ret_i64 ((chk_bad Hok).symm.trans hr.out), below_step hb hb1⟩
        · have hc1 : c = false := by assumption
          have hni : ¬ Lit.string s.data.toList ∈ (seenN l0 k).map Lit.string := fun hm => by
            have := (hS.out.iff hat).2 hm
            rw [hc1] at this
            cases this
          have s1 := hb1.size
          have s2 := hgrow2.size
          go_roundw
          case rel =>
            refine ⟨k + 1, by omega, by go_num, (below_step hb hb1).grown hgrow2 (by omega) (fun j hj => by cases hj; omega), by omega, blk_grown (blk_below hbx.out hb1) hgrow2 (by simp), N1_succ l0 k hlt hN.out (by rw [← Hs.out]; exact Hn.out) (by rw [← Hs.out]; exact hni), _, hown2, ?_⟩
            have := hS.out.put (k := Lit.string s.data.toList) trivial
            rw [seenN_succ l0 k hlt, ← Hs.out]
            exact this
          case measure => simp [intOf]; omega
    · obtain rfl : k = l0.length := by omega
      have Hn := Lib.hid (N1_end l0 hN.out)
      have HbxL := Lib.hid hbx.out
      obtain ⟨wo, rfl⟩ : ∃ wo : World, wo = wr := ⟨_, rfl⟩
      have hcB0 : ∀ o, (wo.alloc o).cell? ⟨w.heap.size, 0, none⟩ = some (.slice A0 l0.length c0) := fun o => (blk_cell (blk_alloc hbx.out o) 0).trans rfl
      have hcB1 : ∀ o, (wo.alloc o).cell? ⟨w.heap.size, 1, none⟩ = some (.slice A1 l1.length c1) := fun o => (blk_cell (blk_alloc hbx.out o) 1).trans rfl
      have hb0 := hb
      clear hown hS hbx
      go_wp2_with fail
      clear hcB0 hcB1
      go_loopw [48] (fun i wr => ∃ k : Nat, k ≤ l1.length ∧ i = .int .i64 k ∧ Below w.heap.size w wr ∧ wo.heap.size + 1 ≤ wr.heap.size ∧ Hid (wr.heap[w.heap.size]? = some (.cells #[.slice A0 l0.length c0, .slice A1 l1.length c1] 25 (0, 0))) ∧ Hid (L1 l0.length l1 k) ∧
          ∃ D, wr.ownsMap Tryd.prog 21 (plainElem Tryd.prog 4) wo.heap.size k D ∧ Hid (SetIs D ((seenL l1 k).map (Lit.int .i32))))
        (fun i _ => l1.length - (intOf i).toNat)
      case atStart =>
        exact ⟨0, Nat.zero_le _, rfl, hb.alloc hb.size _, by simp, blk_alloc HbxL.out _, L1_zero _ _, _, World.ownsMap_made _ _ _ _, SetIs.empty⟩
      case round =>
        obtain ⟨k, hk, rfl, hb, hsz, hbx, hN, D, hown, hS⟩ := hrel
        by_cases hlt : k < l1.length
        · obtain ⟨ad, hA, hx0, hx1, hx2⟩ := at_T74 (Kd.C_below HL.out hb) k (by omega) (by omega)
          subst hA
          rw [Int.toNat_natCast] at hx0 hx1 hx2
          have hrd : rd_T74 l1 k = l1[k] := by simp [rd_T74, List.getD_eq_getElem?_getD, List.getElem?_eq_getElem hlt]
          rw [hrd] at hx0 hx1 hx2
          obtain ⟨x, hx⟩ : ∃ x, x = l1[k] := ⟨_, rfl⟩
          rw [← hx] at hx0 hx1 hx2
          have Hx := Lib.hid hx
          clear hx hrd
          obtain ⟨x0, x1, x2⟩ := x
          dsimp only at hx0 hx1 hx2
          cases h1 : runeOk x0 with
          | false =>
            have hlet := fun W => feature_lettered.calls 2 x0 false W ((lettered_eq 0 x0).trans (by rw [h1]))
            have Hok : Hid (okA l0 l1 = false) := L1_bad l0 l1 k hlt hN.out (.inl (by rw [← Hx.out]; exact h1))
            clear h1
            go_wp2_with (go_at_call 55; refine (hlet _).mono ?_; rintro e w1 ⟨rfl, ⟨nd, rfl⟩⟩)
            go_ret
            exact ⟨ret_i64 ((chk_bad Hok.out).symm.trans hr.out), pw_below_drewN (hb.alloc hb.size _) _⟩
          | true =>
            have hlet := fun W => feature_lettered.calls 2 x0 true W ((lettered_eq 0 x0).trans (by rw [h1]))
            have hkey : keyOf Tryd.prog 21 (.int .i32 x0) = some (.int .i32 x0) := keyOf_int_mk Tryd.underlying21 (rune_wf h1)
            have H1 : Hid (runeOk l1[k].f0 = true) := by rw [← Hx.out]; exact h1
            clear h1
            have hbo := hb.alloc hb.size (.cells #[.int .i32 x0, .int .u32 x1, .int .u32 x2] 74)
            have hown1 := hown.alloc (.cells #[.int .i32 x0, .int .u32 x1, .int .u32 x2] 74)
            have hcB0 : (wr.alloc (.cells #[.int .i32 x0, .int .u32 x1, .int .u32 x2] 74)).cell? ⟨w.heap.size, 0, none⟩ = some (.slice A0 l0.length c0) := (blk_cell (blk_alloc hbx.out _) 0).trans rfl
            have hcB1 : (wr.alloc (.cells #[.int .i32 x0, .int .u32 x1, .int .u32 x2] 74)).cell? ⟨w.heap.size, 1, none⟩ = some (.slice (some ad) l1.length c1) := (blk_cell (blk_alloc hbx.out _) 1).trans rfl
            have hbl := blk_new wr (.cells #[.int .i32 x0, .int .u32 x1, .int .u32 x2] 74)
            have HF1 := Lib.hid (fun n => Kd.C_below HF0.out (pw_below_drewN hbo n))
            have HL1 := Lib.hid (fun n => Kd.C_below HL.out (pw_below_drewN hbo n))
            have Hbl := Lib.hid hbl
            have Hbo := Lib.hid hbo
            clear hbl hbo
            cases h3 : withinB l0.length x1 x2 with
            | false =>
              have hwi := fun W hF hL => feature_within.calls A0 c0 l0 (some ad) c1 l1 x1 x2 false W hF hcF hL hcL ((within_eq l0 l1 x1 x2).trans (by rw [h3]))
              have Hok : Hid (okA l0 l1 = false) := L1_bad l0 l1 k hlt hN.out (.inr (.inr (by rw [← Hx.out]; exact h3)))
              clear h3
              go_wp2_with (first | (go_at_call 55; refine (hlet _).mono ?_; rintro e w1 ⟨rfl, ⟨nd, rfl⟩⟩) | (at_lookup; (try (refine gate_guard (by rfl) ?_; dsimp only)); refine wpList_lookup_own_bool _ rfl _ _ 94 rfl 21 4 (int_keyed Tryd.underlying21) Tryd.underlying94 Tryd.underlying4 (zeroBool _) wo.heap.size k _ rfl hown1 _ _ rfl hkey ?_; intro c hat) | (go_at_call 56; refine (hwi _ (HF1.out nd) (HL1.out nd)).mono ?_; rintro e w1 ⟨rfl, hb1⟩))
              · have hc1 : c = true := by assumption
                have Hok2 : okA l0 l1 = false := L1_bad l0 l1 k hlt hN.out (.inr (.inl (by rw [← Hx.out]; exact (hS.out.iff hat).1 hc1)))
                go_ret
                exact ⟨ret_i64 ((chk_bad Hok2).symm.trans hr.out), pw_below_drewN Hbo.out _⟩
              · go_ret
                exact ⟨ret_i64 ((chk_bad Hok.out).symm.trans hr.out), below_step (pw_below_drewN Hbo.out nd) hb1⟩
            | true =>
              have hwi := fun W hF hL => feature_within.calls A0 c0 l0 (some ad) c1 l1 x1 x2 true W hF hcF hL hcL ((within_eq l0 l1 x1 x2).trans (by rw [h3]))
              have H3 : Hid (withinB l0.length l1[k].f1 l1[k].f2 = true) := by rw [← Hx.out]; exact h3
              clear h3
              go_wp2_with (first | (go_at_call 55; refine (hlet _).mono ?_; rintro e w1 ⟨rfl, ⟨nd, rfl⟩⟩) | (at_lookup; (try (refine gate_guard (by rfl) ?_; dsimp only)); refine wpList_lookup_own_bool _ rfl _ _ 94 rfl 21 4 (int_keyed Tryd.underlying21) Tryd.underlying94 Tryd.underlying4 (zeroBool _) wo.heap.size k _ rfl hown1 _ _ rfl hkey ?_; intro c hat) | (go_at_call 56; refine (hwi _ (HF1.out nd) (HL1.out nd)).mono ?_; rintro e w1 ⟨rfl, hb1⟩; have hown2 := World.ownsMap.kept (w := (wr.alloc (.cells #[.int .i32 x0, .int .u32 x1, .int .u32 x2] 74)).drewN nd) hown1 (grown_of_below hb1 none) (by simp); have hcl : w1.cell? ⟨wr.heap.size, 0, none⟩ = some (.int .i32 x0) := (blk_cell (blk_below (blk_drewN Hbl.out nd) hb1) 0).trans rfl) | (at_mapUpdate; refine wpList_mapUpdate_own _ rfl _ _ _ 94 rfl 21 4 (int_keyed Tryd.underlying21) Tryd.underlying94 _ wo.heap.size k _ rfl hown2 (by unfold maxLen; omega) _ _ _ rfl rfl hkey _ [] (plainElem_bool Tryd.underlying4 true) ?_; intro w2 hown3 hgrow2))
              · have hc1 : c = true := by assumption
                have Hok2 : okA l0 l1 = false := L1_bad l0 l1 k hlt hN.out (.inr (.inl (by rw [← Hx.out]; exact (hS.out.iff hat).1 hc1)))
                go_ret
                exact ⟨ret_i64 ((chk_bad Hok2).symm.trans hr.out), pw_below_drewN Hbo.out _⟩
              · have hc0 : ¬ c = true := by assumption
                have hc1 : c = false := by simpa using hc0
                have hni : ¬ Lit.int .i32 x0 ∈ (seenL l1 k).map (Lit.int .i32) := fun hm => by
                  have := (hS.out.iff hat).2 hm
                  rw [hc1] at this
                  cases this
                have s1 := hb1.size
                have s2 := hgrow2.size
                simp at s1
                go_roundw
                case rel =>
                  refine ⟨k + 1, by omega, by go_num, (below_step (pw_below_drewN Hbo.out nd) hb1).grown hgrow2 (by omega) (fun j hj => by cases hj; exact hb0.size), by omega, blk_grown (blk_below (blk_drewN (blk_alloc hbx.out _) nd) hb1) hgrow2 (by simp; omega), L1_succ _ l1 k hlt hN.out H1.out (by rw [← Hx.out]; exact hni) H3.out, _, hown3, ?_⟩
                  have := hS.out.put (k := Lit.int .i32 x0) trivial
                  rw [seenL_succ l1 k hlt, ← Hx.out]
                  exact this
                case measure => simp [intOf]; omega
        · obtain rfl : k = l1.length := by omega
          have Hok := okA_true l0 l1 n0 n1 n2 Hn.out (L1_end _ _ hN.out)
          go_wp2_with fail
          go_ret
          exact ⟨ret_i64 ((chk_ok Hok).symm.trans hr.out), hb⟩

namespace Ext
def feature_Check.f (l0 : List ByteArray) (l1 : List Letter) : Option Int := some (chk l0 l1)
set_option maxHeartbeats 1000000 in
theorem feature_Check.calls (A0 : Option Addr) (c0 : Nat) (l0 : List ByteArray) (A1 : Option Addr) (c1 : Nat) (l1 : List Letter) (r : Int) (w : World) (hF : Kd.C Kd.string w A0 l0.length l0) (hcF : l0.length ≤ c0) (hL : Kd.C kLetter w A1 l1.length l1) (hcL : l1.length ≤ c1)
    (h : feature_Check.f l0 l1 = some r) :
    Calls Tryd.prog 37 #[.agg #[.slice A0 l0.length c0, .slice A1 l1.length c1]] w fun e w' => e = .returned (.int .i64 r) ∧ Below w.heap.size w w' := by
  have hr : chk l0 l1 = r := Option.some.inj h
  clear h
  by_cases n0 : l0.length ≤ 24
  · by_cases n1 : 1 ≤ l1.length
    · by_cases n2 : l1.length ≤ 128
      · exact check_walk A0 A1 c0 c1 l0 l1 r w hF hcF hL hcL n0 n1 n2 hr
      · have Hr : Hid (7 = r) := by rw [← hr]; exact (chk_bad (by unfold okA; simp [n2])).symm
        have e0 : decide (24 < l0.length) = false := decide_eq_false (by omega)
        have e1 : decide (l1.length < 1) = false := decide_eq_false (by omega)
        have e2 : decide (128 < l1.length) = true := decide_eq_true (by omega)
        clear hr
        go_enter Tryd.func37, Tryd.ntmps37
        go_wp2_with fail
        go_ret
        exact ⟨ret_i64 Hr.out, (Below.refl _ _).alloc (Nat.le_refl _) _⟩
    · have Hr : Hid (7 = r) := by rw [← hr]; exact (chk_bad (by unfold okA; simp [n1])).symm
      have e0 : decide (24 < l0.length) = false := decide_eq_false (by omega)
      have e1 : decide (l1.length < 1) = true := decide_eq_true (by omega)
      clear hr
      go_enter Tryd.func37, Tryd.ntmps37
      go_wp2_with fail
      go_ret
      exact ⟨ret_i64 Hr.out, (Below.refl _ _).alloc (Nat.le_refl _) _⟩
  · have Hr : Hid (7 = r) := by rw [← hr]; exact (chk_bad (by unfold okA; simp [n0])).symm
    have e0 : decide (24 < l0.length) = true := decide_eq_true (by omega)
    clear hr
    go_enter Tryd.func37, Tryd.ntmps37
    go_wp2_with fail
    go_ret
    exact ⟨ret_i64 Hr.out, (Below.refl _ _).alloc (Nat.le_refl _) _⟩
end Ext
end Go.Proofs.YtdeichibnnbjdaaDoor
end
section
/-
  What a text's rune at a place is: width, range, and back again. Plain facts.
-/
set_option linter.unusedSimpArgs false
set_option linter.unusedVariables false
namespace Go.Proofs.YtdeichibnnbjdaaDoor
open Go.RowKit Go.Proofs.YtdeichibnnbjdaaDoorW.PrintWords Go.Proofs.YtdeichibnnbjdaaDoorW.PrintLast Go.Proofs.YtdeichibnnbjdaaDoorW.PrintMore Go.Proofs.YtdeichibnnbjdaaDoor.RF0

theorem dec_pos (s : ByteArray) (pos : Nat) : 1 ≤ (Utf8.decode s pos).2 := Lib.width_pos s pos
theorem dropsz (s : ByteArray) (pos : Nat) (h : pos < s.size) : s.data.toList.drop pos ≠ [] := by
  intro e
  have := congrArg List.length e
  simp at this
  omega
theorem dec_le (s : ByteArray) (pos : Nat) (h : pos < s.size) : pos + (Utf8.decode s pos).2 ≤ s.size := by
  have := Lib.decodeL_le (s.data.toList.drop pos) (dropsz s pos h)
  rw [Lib.decodeL_drop] at this
  simp at this
  omega
theorem dec_shape (s : ByteArray) (pos : Nat) : (Utf8.decode s pos).1 ≤ 1114111 ∧ (Utf8.decode s pos).2 ≤ 4 := by
  rw [Lib.decode_at]
  have k0 := (s.get! pos).toNat_lt
  have k1 := (s.get! (pos + 1)).toNat_lt
  have k2 := (s.get! (pos + 2)).toNat_lt
  have k3 := (s.get! (pos + 3)).toNat_lt
  rcases Lib.decodeN_shape (s.size - pos) (s.get! pos).toNat (s.get! (pos + 1)).toNat (s.get! (pos + 2)).toNat (s.get! (pos + 3)).toNat with ⟨c, e⟩ | ⟨c1, c2, c3, cv, e⟩ | ⟨c1, c2, c3, c4, cv, cs, e⟩ | ⟨c1, c2, c3, c4, c5, cv, cw, e⟩ | e
  all_goals (rw [e]; dsimp only; omega)
theorem dec_rune (s : ByteArray) (pos : Nat) : (Utf8.decode s pos).1 ≤ 1114111 := (dec_shape s pos).1
theorem decodeGo_tail (s : ByteArray) (pos : Nat) (h : pos < s.size) : Lib.decodeGo (s.extract pos s.size) = Utf8.decode s pos := by
  unfold Lib.decodeGo
  rw [if_neg (by simp; omega), Lib.tail_decode]
  rfl
theorem runeLen_eq (r : Int) : utf8_RuneLen.f 1 r = some (Lib.runeLen r) := by
  simp only [utf8_RuneLen.f, utf8_RuneLen.j0]
  unfold Lib.runeLen
  by_cases a : r < 0
  · simp [a]
  · by_cases b : r ≤ 127
    · simp [a, b]
    · by_cases c : r ≤ 2047
      · simp [a, b, c]
      · by_cases d : 55296 ≤ r
        · by_cases e : r ≤ 57343
          · simp [a, b, c, d, e]
          · simp [a, b, c, d, e]
            by_cases f : r ≤ 65535
            · simp [f]
            · simp [f]
              by_cases g : r ≤ 1114111
              · simp [g]
              · simp [g]
        · simp [a, b, c, d]
          by_cases f : r ≤ 65535
          · simp [f]
          · omega
theorem runeLen_dec (s : ByteArray) (pos : Nat) (h : (Utf8.decode s pos).1 ≠ 65533) : Lib.runeLen ((Utf8.decode s pos).1 : Int) = ((Utf8.decode s pos).2 : Int) := by
  rw [← Lib.decodeL_drop] at h ⊢
  exact Lib.runeLen_decode _ h
/-- A rune of 65533 takes one byte (a broken one) or three. -/
theorem dec_err (s : ByteArray) (pos : Nat) (h : (Utf8.decode s pos).1 = 65533) : (Utf8.decode s pos).2 = 1 ∨ (Utf8.decode s pos).2 = 3 := by
  rw [Lib.decode_at] at h ⊢
  have k0 := (s.get! pos).toNat_lt
  have k1 := (s.get! (pos + 1)).toNat_lt
  have k2 := (s.get! (pos + 2)).toNat_lt
  have k3 := (s.get! (pos + 3)).toNat_lt
  rcases Lib.decodeN_shape (s.size - pos) (s.get! pos).toNat (s.get! (pos + 1)).toNat (s.get! (pos + 2)).toNat (s.get! (pos + 3)).toNat with ⟨c, e⟩ | ⟨c1, c2, c3, cv, e⟩ | ⟨c1, c2, c3, c4, cv, cs, e⟩ | ⟨c1, c2, c3, c4, c5, cv, cw, e⟩ | e
  all_goals (rw [e] at h ⊢; dsimp only at h ⊢; omega)
end Go.Proofs.YtdeichibnnbjdaaDoor
end
section
/-
  runes.Pieces: the callback that appends a piece, the walk over a text's runes, the list.
-/
set_option linter.unusedSimpArgs false
set_option linter.unusedVariables false
namespace Go.Proofs.YtdeichibnnbjdaaDoor
open Go.RowKit Go.Proofs.YtdeichibnnbjdaaDoorW.PrintWords Go.Proofs.YtdeichibnnbjdaaDoorW.PrintLast Go.Proofs.YtdeichibnnbjdaaDoorW.PrintMore Go.Proofs.YtdeichibnnbjdaaDoor.Ext Go.Proofs.YtdeichibnnbjdaaDoor.RF0

/-- The piece of a text at a place. -/
def pieceAt (s : ByteArray) (pos : Nat) : Piece := ⟨(Utf8.decode s pos).1, pos, (Utf8.decode s pos).2, decide ((Utf8.decode s pos).1 = 65533 ∧ (Utf8.decode s pos).2 = 1)⟩
def piecesFrom (s : ByteArray) : Nat → Nat → List Piece
  | 0, _ => []
  | f + 1, pos => if pos < s.size then pieceAt s pos :: piecesFrom s f (pos + (Utf8.decode s pos).2) else []
def pieces (s : ByteArray) : List Piece := piecesFrom s s.size 0
theorem piecesFrom_length (s : ByteArray) : ∀ f pos, (piecesFrom s f pos).length ≤ f
  | 0, _ => by simp [piecesFrom]
  | f + 1, pos => by
    unfold piecesFrom
    split
    · have := piecesFrom_length s f (pos + (Utf8.decode s pos).2)
      simp only [List.length_cons]
      omega
    · simp

set_option maxHeartbeats 1000000 in
set_option maxRecDepth 100000 in
theorem addPiece (b : Nat) (v : Value) (xs : List Piece) (p : Piece) (w : World) (hblk : w.heap[b]? = some (.cells #[v] 112 (0, 0))) (HO : Kd.R kPiece 90 w (b + 1) (fun _ => True) v xs) (hl : xs.length ≤ 70000) :
    Calls Tryd.prog 85 #[.agg #[.int .i32 p.f0, .int .i64 p.f1, .int .i64 p.f2, .bool p.f3], .pointer (some ⟨b, 0, none⟩)] w fun e w' =>
      ∃ v', e = .returned (.bool true) ∧ w'.heap[b]? = some (.cells #[v'] 112 (0, 0)) ∧ Kd.R kPiece 90 w' (b + 1) (fun _ => True) v' (xs ++ [p]) ∧ Below b w w' ∧ Lib.OthersKept 90 (some b) w w' := by
  obtain ⟨A, c, rfl⟩ := Kd.R_slice HO
  have hbl := blk_lt hblk
  have hu := Tryd.underlying90
  have Hblk := Lib.hid hblk
  have Hblk1 := Lib.hid (blk_alloc hblk (.cells #[.int .i32 p.f0, .int .i64 p.f1, .int .i64 p.f2, .bool p.f3] 90))
  have hc0 : (w.alloc (.cells #[.int .i32 p.f0, .int .i64 p.f1, .int .i64 p.f2, .bool p.f3] 90)).cell? ⟨b, 0, none⟩ = some (.slice A xs.length c) := (blk_cell (blk_alloc hblk _) 0).trans rfl
  have HO1 := Kd.R_below HO ((Below.refl w.heap.size w).alloc (Nat.le_refl _) (.cells #[.int .i32 p.f0, .int .i64 p.f1, .int .i64 p.f2, .bool p.f3] 90))
  clear hblk
  go_enter Tryd.func85, Tryd.ntmps85
  go_wp2_with (at_builtin; go_must (refine Kd.R_append (w0 := w) kPiece (b + 1) rfl (.tmp 4) (.tmp 6) 112 90 _ _ rfl Tryd.underlying112 info90 (by decide) (by decide) (by decide) _ xs p _ (fun _ => True) (fun _ => False) rfl (by first | rfl | simp [Act.eval]) (k90_mkM _ _ _ p) (fun _ h => h.elim) (fun _ _ => trivial) HO1 ((Below.refl _ _).alloc (by omega) _) (by simp; omega) (by omega) ?_); intro v1 w2 HR HB hg hat; have hb2 := Lib.hid (blk_grown Hblk1.out hg (Kd.R_ne HO1 Hblk1.out (by decide))); obtain ⟨A2, c2, rfl⟩ := Kd.R_slice HR; have hc2 : w2.cell? ⟨b, 0, none⟩ = some (.slice A xs.length c) := (blk_cell hb2.out 0).trans rfl; have hf2 := blk_frozen hb2.out 0; have HRh := Lib.hid HR; have Hat := Lib.hid hat; clear HR hat)
  go_ret
  have hbw2 : Below b w w2 := HB.mono (by omega)
  refine ⟨_, rfl, by simpa using blk_set hb2.out 0 (.slice A2 (xs ++ [p]).length c2), Kd.R_set HRh.out hb2.out (by decide) 0 _, hbw2.setCell (Nat.le_refl _) _, ?_⟩
  refine Lib.OthersKept.setCell (b := b) (Lib.OthersKept.grown ((Lib.OthersKept.refl _ _ _).alloc _) hg ?_) ⟨b, 0, none⟩ rfl _
  intro g hg2
  obtain ⟨cells, hcl⟩ := own_typed (Kd.R_own HO1).choose_spec g hg2
  exact ⟨_, _, hcl⟩

theorem R_iterAt {α : Type} {d : Kd α} {e : Nat} {w : World} {base : Nat} {ok : Nat → Prop} {v : Value} {xs : List α} (h : d.R e w base ok v xs) {k : Nat} {s : ByteArray} {pos : Nat} (hk : w.heap[k]? = some (.stringIter s pos)) (pos' : Nat) : d.R e (w.iterAt k s pos') base ok v xs := by
  refine Kd.R_mono (Kd.R_move (Kd.R_bound h) (fun k0 hk0 => ?_)) (fun _ h => h.1)
  obtain ⟨_, _, _, q, _, cells, hc⟩ := hk0
  refine Lib.iterAt_other w k k0 s pos' ?_
  rintro rfl
  rw [hk] at hc
  cases hc
theorem R_alloc {α : Type} {d : Kd α} {e : Nat} {w : World} {base : Nat} {ok : Nat → Prop} {v : Value} {xs : List α} (h : d.R e w base ok v xs) (o : Obj) : d.R e (w.alloc o) base ok v xs := Kd.R_below h ((Below.refl _ _).alloc (Nat.le_refl _) o)

set_option maxHeartbeats 2000000 in
set_option maxRecDepth 100000 in
theorem each_walk (b : Nat) (v : Value) (s : ByteArray) (w : World) (hT : ∀ W, Below b w W → Tabs W) (hblk : w.heap[b]? = some (.cells #[v] 112 (0, 0))) (HO : Kd.R kPiece 90 w (b + 1) (fun _ => True) v []) (hs : s.size ≤ 65536) :
    Calls Tryd.prog 84 #[.string s, .func (.func 85) #[] #[.pointer (some ⟨b, 0, none⟩)]] w fun e w' =>
      ∃ v', e = .returned (.tuple #[]) ∧ w'.heap[b]? = some (.cells #[v'] 112 (0, 0)) ∧ Kd.R kPiece 90 w' (b + 1) (fun _ => True) v' (pieces s) ∧ Below b w w' := by
  have hbl := blk_lt hblk
  have hu := Tryd.underlying90
  have Hblk := Lib.hid hblk
  have HO0 := Lib.hid HO
  have HT := Lib.hid hT
  clear hblk HO hT
  go_enter Tryd.func84, Tryd.ntmps84
  go_wp2_with fail
  go_loopw [4] (fun _ wr => ∃ (pos fuel : Nat) (acc : List Piece) (v : Value), wr.heap[w.heap.size]? = some (.stringIter s pos) ∧ Hid (wr.heap[b]? = some (.cells #[v] 112 (0, 0))) ∧ Hid (Kd.R kPiece 90 wr (b + 1) (fun _ => True) v acc) ∧ Below b w wr ∧
      Hid (acc ++ piecesFrom s fuel pos = pieces s) ∧ s.size ≤ pos + fuel ∧ acc.length ≤ pos ∧ w.heap.size < wr.heap.size)
    (fun _ w' => s.size - w'.iterPos w.heap.size)
  case atStart => exact ⟨0, s.size, [], v, World.iter_heap _ _ _, blk_alloc Hblk.out _, R_alloc HO0.out _, (Below.refl _ _).alloc (by omega) _, rfl, by omega, by simp, by simp [World.iter]⟩
  case round =>
    obtain ⟨pos, fuel, acc, v, hit, hbk, hR, hb, hacc, hf, hal, hsz⟩ := hrel
    by_cases hp : pos < s.size
    · have hnx : ∀ ty, (Instr.next (.pointer (some ⟨w.heap.size, 0, none⟩)) true ty).run Tryd.prog wr = _ := fun ty => Lib.run_next_any_at wr w.heap.size s pos ty hit hp
      obtain ⟨r, n, hd⟩ : ∃ r n, Utf8.decode s pos = (r, n) := ⟨_, _, rfl⟩
      have f1 := dec_pos s pos
      have f2 := dec_le s pos hp
      have f3 := dec_rune s pos
      have HG := Lib.hid (decodeGo_tail s pos hp)
      have HE := Lib.hid (dec_err s pos)
      have HRL := Lib.hid (runeLen_dec s pos)
      have HP : Hid (pieceAt s pos = ⟨r, pos, n, decide (r = 65533 ∧ n = 1)⟩) := by unfold pieceAt; rw [hd]; rfl
      have HPF : Hid (piecesFrom s fuel pos = pieceAt s pos :: piecesFrom s (fuel - 1) (pos + n)) := by
        obtain ⟨f, rfl⟩ : ∃ f, fuel = f + 1 := ⟨fuel - 1, by omega⟩
        show piecesFrom s (f + 1) pos = _
        rw [piecesFrom, if_pos hp, hd]
        rfl
      rw [hd] at hnx f1 f2 f3 HG HE HRL
      dsimp only at hnx f1 f2 f3 HG HE HRL
      have hrl := fun W => utf8_RuneLen.calls 1 (r : Int) (Lib.runeLen r) W (runeLen_eq r)
      have hlr : ∃ m, Lib.runeLen (r : Int) = m := ⟨_, rfl⟩
      obtain ⟨m, hm⟩ := hlr
      rw [hm] at hrl
      have Hm := Lib.hid hm
      clear hm
      have hw1 : ∀ nd, ∃ wq, wq = (wr.iterAt w.heap.size s (pos + n)).drewN nd ∧ wq.heap[w.heap.size]? = some (.stringIter s (pos + n)) ∧ Hid (wq.heap[b]? = some (.cells #[v] 112 (0, 0))) ∧ Hid (Kd.R kPiece 90 wq (b + 1) (fun _ => True) v acc) ∧ Below b w wq ∧ w.heap.size < wq.heap.size := by
        intro nd
        have hz1 := Lib.iterAt_size wr w.heap.size s (pos + n)
        exact ⟨_, rfl, Lib.iterAt_heap wr w.heap.size s pos (pos + n) hit, (Lib.iterAt_other wr w.heap.size b s (pos + n) (by omega)).trans hbk.out, Kd.R_below (R_iterAt hR.out hit (pos + n)) ((Below.refl _ _).trans (pw_below_drewN (Below.refl _ _) nd)), pw_below_drewN (Lib.below_iterAt hb (Nat.le_of_lt hbl) s (pos + n)) nd, by show w.heap.size < (wr.iterAt w.heap.size s (pos + n)).heap.size; omega⟩
      by_cases hE : r = 65533
      · subst hE
        have HTq := Lib.hid (fun W (h : Below b w W) => HT.out W h)
        have HmE : Hid (m = 3) := by rw [← Hm.out]; rfl
        have hDc := fun W hT => utf8_DecodeRuneInString.calls (s.extract pos s.size) 65533 (n : Int) W hT (by unfold utf8_DecodeRuneInString.f; rw [HG.out]; rfl)
        by_cases hn1 : n = 1
        · subst hn1
          have hE1 : ((65533 : Int) == 65533) = true := rfl
          have hn2 : (((1 : Nat) : Int) == 1) = true := rfl
          go_wp2_with (first | (go_at_call 95; refine (hrl _).mono ?_; rintro e w1 ⟨rfl, ⟨nd, rfl⟩⟩; obtain ⟨wq, hwq, hit1, hbk1, hR1, hb1, hsz1⟩ := hw1 nd; rw [← hwq]; clear hwq hw1) | (go_at_call 77; refine (hDc _ (HTq.out _ (hb1.alloc (by omega) _))).mono ?_; rintro e w2 ⟨rfl, hb2⟩; have hbp := Lib.hid (blk_below (blk_new wq (.cells #[.int .i32 65533, .int .i64 pos, .int .i64 m, .bool false] 90)) hb2); have hc0 := blk_cell hbp.out 0; have hc1 := blk_cell hbp.out 1; have hc2 := blk_cell hbp.out 2; have hc3 := blk_cell hbp.out 3; have hf2 := blk_frozen hbp.out 2; have hf3 := blk_frozen hbp.out 3; simp at hc0 hc1 hc2 hc3) | (go_at_call 85; have HB : Hid (Below wq.heap.size wq ((w2.setCell ⟨wq.heap.size, 2, none⟩ (.int .i64 1)).setCell ⟨wq.heap.size, 3, none⟩ (.bool true))) := ((((Below.refl wq.heap.size wq).alloc (Nat.le_refl _) _).trans (hb2.mono (by simp))).setCell (Nat.le_refl _) _).setCell (Nat.le_refl _) _; refine (addPiece b v acc ⟨65533, (pos : Int), 1, true⟩ _ (blk_below hbk1.out HB.out) (Kd.R_below hR1.out HB.out) (by omega)).mono ?_; rintro e w3 ⟨v2, rfl, hbk2, hR2, hb3, hk2⟩))
          have HPF2 := HPF.out
          have e1 : (⟨65533, (pos : Int), 1, true⟩ : Piece) = pieceAt s pos := by rw [HP.out]; simp
          rw [e1] at hR2
          have hit2 := hk2 w.heap.size _ (blk_below hit1 HB.out) (by simp; omega) (by intro c fz; simp)
          have sz2 := hb3.size
          have sz3 := HB.out.size
          go_roundw
          case rel => exact ⟨pos + 1, fuel - 1, acc ++ [pieceAt s pos], v2, hit2, hbk2, hR2, ((hb1.trans (HB.out.mono (by omega))).trans hb3), by rw [List.append_assoc, List.singleton_append, ← HPF2]; exact hacc.out, by omega, by simp; omega, by omega⟩
          case measure => rw [iterPos_of hit, iterPos_of hit2]; omega
        · obtain rfl : n = 3 := (HE.out rfl).resolve_left hn1
          have hE1 : ((65533 : Int) == 65533) = true := rfl
          have hn2 : (((3 : Nat) : Int) == 1) = false := rfl
          go_wp2_with (first | (go_at_call 95; refine (hrl _).mono ?_; rintro e w1 ⟨rfl, ⟨nd, rfl⟩⟩; obtain ⟨wq, hwq, hit1, hbk1, hR1, hb1, hsz1⟩ := hw1 nd; rw [← hwq]; clear hwq hw1) | (go_at_call 77; refine (hDc _ (HTq.out _ (hb1.alloc (by omega) _))).mono ?_; rintro e w2 ⟨rfl, hb2⟩; have hbp := Lib.hid (blk_below (blk_new wq (.cells #[.int .i32 65533, .int .i64 pos, .int .i64 m, .bool false] 90)) hb2); have hc0 := blk_cell hbp.out 0; have hc1 := blk_cell hbp.out 1; have hc2 := blk_cell hbp.out 2; have hc3 := blk_cell hbp.out 3; simp at hc0 hc1 hc2 hc3; have HB : Hid (Below wq.heap.size wq w2) := ((Below.refl wq.heap.size wq).alloc (Nat.le_refl _) _).trans (hb2.mono (by simp))) | (go_at_call 85; refine (addPiece b v acc ⟨65533, (pos : Int), m, false⟩ _ (blk_below hbk1.out HB.out) (Kd.R_below hR1.out HB.out) (by omega)).mono ?_; rintro e w3 ⟨v2, rfl, hbk2, hR2, hb3, hk2⟩))
          have HPF2 := HPF.out
          have e1 : (⟨65533, (pos : Int), m, false⟩ : Piece) = pieceAt s pos := by rw [HP.out, HmE.out]; simp
          rw [e1] at hR2
          have hit2 := hk2 w.heap.size _ (blk_below hit1 HB.out) (by simp; omega) (by intro c fz; simp)
          have sz2 := hb3.size
          have sz3 := HB.out.size
          go_roundw
          case rel => exact ⟨pos + 3, fuel - 1, acc ++ [pieceAt s pos], v2, hit2, hbk2, hR2, ((hb1.trans (HB.out.mono (by omega))).trans hb3), by rw [List.append_assoc, List.singleton_append, ← HPF2]; exact hacc.out, by omega, by simp; omega, by omega⟩
          case measure => rw [iterPos_of hit, iterPos_of hit2]; omega
      · have hE1 : (((r : Nat) : Int) == 65533) = false := by simp; omega
        have HPn : Hid (m = (n : Int)) := by rw [← Hm.out]; exact HRL.out hE
        go_wp2_with (first | (go_at_call 95; refine (hrl _).mono ?_; rintro e w1 ⟨rfl, ⟨nd, rfl⟩⟩; obtain ⟨wq, hwq, hit1, hbk1, hR1, hb1, hsz1⟩ := hw1 nd; rw [← hwq]; clear hwq hw1) | (go_at_call 85; refine (addPiece b v acc ⟨(r : Int), (pos : Int), m, false⟩ _ (blk_alloc hbk1.out _) (R_alloc hR1.out _) (by omega)).mono ?_; rintro e w2 ⟨v2, rfl, hbk2, hR2, hb2, hk2⟩))
        have HPF2 := HPF.out
        have e1 : (⟨(r : Int), (pos : Int), m, false⟩ : Piece) = pieceAt s pos := by rw [HP.out, HPn.out, decide_eq_false (by omega)]
        rw [e1] at hR2
        have hit2 := hk2 w.heap.size _ (blk_alloc hit1 _) (by simp; omega) (by intro c fz; simp)
        have sz2 := hb2.size
        go_roundw
        case rel => exact ⟨pos + n, fuel - 1, acc ++ [pieceAt s pos], v2, hit2, hbk2, hR2, (hb1.alloc (by omega) _).trans hb2, by rw [List.append_assoc, List.singleton_append, ← HPF2]; exact hacc.out, by omega, by simp; omega, by simp at sz2; omega⟩
        case measure => rw [iterPos_of hit, iterPos_of hit2]; omega
    · have hnx : ∀ ty, (Instr.next (.pointer (some ⟨w.heap.size, 0, none⟩)) true ty).run Tryd.prog wr = _ := fun ty => Lib.run_next_end_at wr w.heap.size s pos ty hit hp
      go_wp2_with fail
      go_end0
      have hz : piecesFrom s fuel pos = [] := by
        cases fuel with
        | zero => rfl
        | succ f => exact if_neg hp
      have := hacc.out
      rw [hz, List.append_nil] at this
      subst this
      exact ⟨v, rfl, hbk.out, hR.out, hb⟩

set_option maxHeartbeats 1000000 in
set_option maxRecDepth 100000 in
theorem Pieces_walk (s : ByteArray) (w : World) (hT : Tabs w) :
    Calls Tryd.prog 71 #[.string s] w fun e w' =>
      ∃ v, e = .returned (.tuple #[v, .int .i64 (if s.size ≤ 65536 then 0 else 3)]) ∧ Kd.R kPiece 90 w' w.heap.size (fun _ => True) v (if s.size ≤ 65536 then pieces s else []) ∧ Below w.heap.size w w' := by
  have HT := Lib.hid hT
  clear hT
  by_cases hs : s.size ≤ 65536
  · rw [if_pos hs, if_pos hs]
    have hlo := fun W => runes_long.calls s 0 W (if_neg (by omega))
    go_enter Tryd.func71, Tryd.ntmps71
    go_wp2_with (first | (go_at_call 83; refine (hlo _).mono ?_; rintro e w1 ⟨rfl, ⟨nd, rfl⟩⟩) | (go_at_call 84; refine (each_walk w.heap.size (.slice none 0 0) s _ (fun W h => HT.out.below (((pw_below_drewN (Below.refl _ _) nd).alloc (Nat.le_refl _) _).trans h)) (blk_new (w.drewN nd) _) (Kd.R_nil _ _ _ _ _) hs).mono ?_; rintro e w2 ⟨v2, rfl, hbk2, hR2, hb2⟩; have hc := (blk_cell hbk2 0).trans rfl))
    go_ret2
    exact ⟨_, rfl, Kd.R_lower hR2 (by simp), ((pw_below_drewN (Below.refl _ _) nd).alloc (Nat.le_refl _) _).trans hb2⟩
  · rw [if_neg hs, if_neg hs]
    have hlo := fun W => runes_long.calls s 3 W (if_pos (by omega))
    go_enter Tryd.func71, Tryd.ntmps71
    go_wp2_with (first | (go_at_call 83; refine (hlo _).mono ?_; rintro e w1 ⟨rfl, ⟨nd, rfl⟩⟩))
    go_ret2
    exact ⟨_, rfl, Kd.R_nil _ _ _ _ _, pw_below_drewN (Below.refl _ _) nd⟩
end Go.Proofs.YtdeichibnnbjdaaDoor
end
section
/-
  word.ranks, word.read, word.Letters by walks: a word's letters.
-/
set_option linter.unusedSimpArgs false
set_option linter.unusedVariables false
namespace Go.Proofs.YtdeichibnnbjdaaDoor
open Go.RowKit Go.Maps Go.WideMaps Go.Proofs.YtdeichibnnbjdaaDoorW.PrintWords Go.Proofs.YtdeichibnnbjdaaDoorW.PrintLast Go.Proofs.YtdeichibnnbjdaaDoorW.PrintMore Go.Proofs.YtdeichibnnbjdaaDoor.Ext Go.Proofs.YtdeichibnnbjdaaDoor.RF0

theorem C_alloc {α : Type} {d : Kd α} {w : World} {A : Option Addr} {n : Nat} {xs : List α} (h : Kd.C d w A n xs) (o : Obj) : Kd.C d (w.alloc o) A n xs := Kd.C_below h ((Below.refl _ _).alloc (Nat.le_refl _) o)
theorem B_alloc (w : World) (o : Obj) : Below w.heap.size w (w.alloc o) := (Below.refl _ _).alloc (Nat.le_refl _) o
/-- The map D has these keys and no others. -/
structure HasIs (D : DataW Unit) (ks : List Lit) : Prop where
  isMap : IsMap D
  iff : ∀ kl, Go.Maps.has D kl = true ↔ kl ∈ ks
theorem HasIs.empty : HasIs (.map []) [] := ⟨isMap_empty, fun kl => by simp [has_eq]⟩
theorem HasIs.put {D : DataW Unit} {ks : List Lit} (h : HasIs D ks) {k : Lit} (hk : WideAt.IsKeyLit k) (d : DataW Unit) : HasIs (D.put k d) (k :: ks) := by
  refine ⟨h.isMap.put _ _, fun kl => ?_⟩
  by_cases e : kl = k
  · subst e
    simp [has_put_same h.isMap hk]
  · rw [has_put_other e, h.iff]
    simp [e]
/-- make(map, n) is make(map). -/
theorem makeMap_hint {P : Program} {t k e : TypeId} (ht : P.underlying t = some (.map k e)) (w : World) (q : IntKind) (n : Int) : (Instr.makeMap t (some (.int q n))).run P w = .ok (.map (some w.heap.size)) (w.alloc (.map #[] 0)) := by
  simp [Instr.makeMap, run_underlying ht, asInt, asIntOf, Result.andThen]
theorem zeroInt (w : World) : (zeroValue 3).run Tryd.prog w = .ok (.int .i64 0) w := by kernel_rfl

theorem lettersOk_rune (n : Nat) : ∀ (l : List Letter) (seen : List Int), lettersOk n l seen = true → ∀ x ∈ l, runeOk x.f0 = true
  | [], _, _ => by simp
  | y :: ys, seen, h => by
    simp only [lettersOk, Bool.and_eq_true] at h
    intro x hx
    rcases List.mem_cons.1 hx with rfl | hx
    · exact h.1.1.1
    · exact lettersOk_rune n ys _ h.2 x hx
theorem chk_rune {l0 : List ByteArray} {l1 : List Letter} (h : chk l0 l1 = 0) : ∀ x ∈ l1, runeOk x.f0 = true := by
  have : okA l0 l1 = true := by
    unfold chk at h
    split at h
    · assumption
    · cases h
  unfold okA at this
  simp only [Bool.and_eq_true] at this
  exact lettersOk_rune _ _ _ this.2
theorem chk_len {l0 : List ByteArray} {l1 : List Letter} (h : chk l0 l1 = 0) : l1.length ≤ 128 := by
  have : okA l0 l1 = true := by
    unfold chk at h
    split at h
    · assumption
    · cases h
  unfold okA at this
  simp at this
  omega

def keysN (l1 : List Letter) (k : Nat) : List Lit := (l1.take k).reverse.map (fun x => Lit.int .i32 x.f0)
theorem keysN_succ (l1 : List Letter) (k : Nat) (h : k < l1.length) : keysN l1 (k + 1) = Lit.int .i32 l1[k].f0 :: keysN l1 k := by
  unfold keysN
  rw [List.take_succ_eq_append_getElem h, List.reverse_append, List.map_append]
  simp

set_option maxHeartbeats 2000000 in
set_option maxRecDepth 100000 in
theorem ranks_walk (A0 A1 : Option Addr) (c0 c1 : Nat) (l0 : List ByteArray) (l1 : List Letter) (w : World) (hF : Kd.C Kd.string w A0 l0.length l0) (hcF : l0.length ≤ c0) (hL : Kd.C kLetter w A1 l1.length l1) (hcL : l1.length ≤ c1) (hok : chk l0 l1 = 0) :
    Calls Tryd.prog 44 #[.agg #[.slice A0 l0.length c0, .slice A1 l1.length c1]] w fun e w' => ∃ b n D, e = .returned (.tuple #[.map (some b), .int .i64 0]) ∧ w.heap.size ≤ b ∧ w'.ownsMap Tryd.prog 21 (plainElem (H := Unit) Tryd.prog 3) b n D ∧ HasIs D (keysN l1 l1.length) ∧ Below w.heap.size w w' := by
  have hmm := fun w n => makeMap_hint (P := Tryd.prog) Tryd.underlying78 w .i64 n
  have hch := fun W hF hL => feature_Check.calls A0 c0 l0 A1 c1 l1 0 W hF hcF hL hcL (by unfold feature_Check.f; rw [hok])
  have HF := Lib.hid hF
  have HL := Lib.hid hL
  have Hok := Lib.hid hok
  clear hF hL hok
  go_enter Tryd.func44, Tryd.ntmps44
  go_wp2_with (first | (go_at_call 37; refine (hch _ (Kd.C_below HF.out ((Below.refl _ _).alloc (Nat.le_refl _) _)) (Kd.C_below HL.out ((Below.refl _ _).alloc (Nat.le_refl _) _))).mono ?_; rintro e w1 ⟨rfl, hb1⟩; have hbx := Lib.hid (blk_below (blk_new w (.cells #[.slice A0 l0.length c0, .slice A1 l1.length c1] 25)) hb1); have hc1 := (blk_cell hbx.out 1).trans rfl; have hcB : ∀ o, (w1.alloc o).cell? ⟨w.heap.size, 1, none⟩ = some (.slice A1 l1.length c1) := fun o => (blk_cell (blk_alloc hbx.out o) 1).trans rfl))
  go_loopw [20] (fun i wr => ∃ k : Nat, k ≤ l1.length ∧ i = .int .i64 k ∧ Below w.heap.size w wr ∧ w1.heap.size < wr.heap.size ∧
      ∃ D, wr.ownsMap Tryd.prog 21 (plainElem (H := Unit) Tryd.prog 3) w1.heap.size k D ∧ Hid (HasIs D (keysN l1 k)))
    (fun i _ => l1.length - (intOf i).toNat)
  case atStart =>
    refine ⟨0, Nat.zero_le _, rfl, (below_step ((Below.refl _ _).alloc (Nat.le_refl _) _) hb1).alloc ?_ _, by simp, _, World.ownsMap_made _ _ _ _, HasIs.empty⟩
    have h2 := hb1.size
    simp at h2
    omega
  case round =>
    obtain ⟨k, hk, rfl, hb, hsz, D, hown, hS⟩ := hrel
    by_cases hlt : k < l1.length
    · obtain ⟨ad, hA, hx0, hx1, hx2⟩ := at_T74 (Kd.C_below HL.out hb) k (by omega) (by omega)
      subst hA
      rw [Int.toNat_natCast] at hx0 hx1 hx2
      have hrd : rd_T74 l1 k = l1[k] := by simp [rd_T74, List.getD_eq_getElem?_getD, List.getElem?_eq_getElem hlt]
      rw [hrd] at hx0 hx1 hx2
      obtain ⟨x, hx⟩ : ∃ x, x = l1[k] := ⟨_, rfl⟩
      rw [← hx] at hx0 hx1 hx2
      have h1 : runeOk x.f0 = true := chk_rune Hok.out x (by rw [hx]; exact List.getElem_mem hlt)
      have Hx := Lib.hid hx
      clear hx hrd
      obtain ⟨x0, x1, x2⟩ := x
      dsimp only at hx0 hx1 hx2 h1
      have hkey : keyOf Tryd.prog 21 (.int .i32 x0) = some (.int .i32 x0) := keyOf_int_mk Tryd.underlying21 (rune_wf h1)
      clear h1
      have hln := chk_len Hok.out
      have hown1 := hown.alloc (.cells #[.int .i32 x0, .int .u32 x1, .int .u32 x2] 74)
      have Hb := Lib.hid (hb.alloc hb.size (.cells #[.int .i32 x0, .int .u32 x1, .int .u32 x2] 74))
      have h1s := hb1.size
      simp at h1s
      go_wp2_with (at_mapUpdate; refine wpList_mapUpdate_own _ rfl _ _ _ 78 rfl 21 3 (int_keyed Tryd.underlying21) Tryd.underlying78 _ w1.heap.size k _ rfl hown1 (by unfold maxLen; omega) _ _ _ rfl rfl hkey _ [] (plainElem_int Tryd.underlying3 (by simp [Lit.wf, IntKind.min, IntKind.max, IntKind.signed, IntKind.bits]; omega)) ?_; intro w2 hown3 hgrow2)
      have s2 := hgrow2.size
      simp at s2
      go_roundw
      case rel =>
        refine ⟨k + 1, by omega, by go_num, Hb.out.grown hgrow2 (by simp; omega) (fun j hj => by cases hj; omega), by omega, _, hown3, ?_⟩
        have := hS.out.put (k := Lit.int .i32 x0) trivial (.lit (.int .i64 k))
        rw [keysN_succ l1 k hlt, ← Hx.out]
        exact this
      case measure => simp [intOf]; omega
    · obtain rfl : k = l1.length := by omega
      go_wp2_with fail
      go_ret2
      exact ⟨_, _, _, rfl, by (have h2 := hb1.size); simp at h2; omega, hown, hS.out, hb⟩

theorem chk_or (l0 : List ByteArray) (l1 : List Letter) : chk l0 l1 = 0 ∨ chk l0 l1 = 7 := by
  unfold chk
  split
  · exact .inl rfl
  · exact .inr rfl

set_option maxHeartbeats 2000000 in
set_option maxRecDepth 100000 in
theorem ranks_bad (A0 A1 : Option Addr) (c0 c1 : Nat) (l0 : List ByteArray) (l1 : List Letter) (w : World) (hF : Kd.C Kd.string w A0 l0.length l0) (hcF : l0.length ≤ c0) (hL : Kd.C kLetter w A1 l1.length l1) (hcL : l1.length ≤ c1) (hok : chk l0 l1 = 7) :
    Calls Tryd.prog 44 #[.agg #[.slice A0 l0.length c0, .slice A1 l1.length c1]] w fun e w' => e = .returned (.tuple #[.map none, .int .i64 7]) ∧ Below w.heap.size w w' := by
  have hch := fun W hF hL => feature_Check.calls A0 c0 l0 A1 c1 l1 7 W hF hcF hL hcL (by unfold feature_Check.f; rw [hok])
  have HF := Lib.hid hF
  have HL := Lib.hid hL
  clear hF hL hok
  go_enter Tryd.func44, Tryd.ntmps44
  go_wp2_with (first | (go_at_call 37; refine (hch _ (Kd.C_below HF.out ((Below.refl _ _).alloc (Nat.le_refl _) _)) (Kd.C_below HL.out ((Below.refl _ _).alloc (Nat.le_refl _) _))).mono ?_; rintro e w1 ⟨rfl, hb1⟩))
  go_ret2
  exact ⟨rfl, below_step ((Below.refl _ _).alloc (Nat.le_refl _) _) hb1⟩

theorem piecesFrom_rune (s : ByteArray) : ∀ f pos, ∀ p ∈ piecesFrom s f pos, 0 ≤ p.f0 ∧ p.f0 ≤ 1114111
  | 0, _ => by simp [piecesFrom]
  | f + 1, pos => by
    unfold piecesFrom
    split
    · intro p hp
      rcases List.mem_cons.1 hp with rfl | hp
      · have := dec_rune s pos
        unfold pieceAt
        dsimp only
        omega
      · exact piecesFrom_rune s f _ p hp
    · simp
/-- A word's letters out of its pieces. -/
def readP (ks : List Int) : List Piece → List Int → List Int × Int
  | [], acc => (acc, 0)
  | p :: ps, acc => if p.f3 = true then ([], 6) else if ks.contains p.f0 = false then ([], 5) else if acc.length = 64 then ([], 4) else readP ks ps (acc ++ [p.f0])
theorem readP_at (ks : List Int) (ps : List Piece) (k : Nat) (h : k < ps.length) (acc : List Int) :
    readP ks (ps.drop k) acc = if ps[k].f3 = true then ([], 6) else if ks.contains ps[k].f0 = false then ([], 5) else if acc.length = 64 then ([], 4) else readP ks (ps.drop (k + 1)) (acc ++ [ps[k].f0]) := by
  rw [List.drop_eq_getElem_cons h]
  rfl
theorem rune_wf2 {r : Int} (h : 0 ≤ r ∧ r ≤ 1114111) : (Lit.int .i32 r).wf = true := by
  simp [Lit.wf, IntKind.min, IntKind.max, IntKind.signed, IntKind.bits]
  omega
def cut (s : ByteArray) : ByteArray := if s.size ≤ 65536 then s else s.extract 0 65536
theorem cut_size (s : ByteArray) : (cut s).size ≤ 65536 := by
  unfold cut
  split
  · assumption
  · simp; omega
def kindsOf (l1 : List Letter) : List Int := l1.map (fun x => x.f0)
theorem has_keys {D : DataW Unit} {l1 : List Letter} (h : HasIs D (keysN l1 l1.length)) (r : Int) : Go.Maps.has D (.int .i32 r) = (kindsOf l1).contains r := by
  rw [Bool.eq_iff_iff, h.iff]
  unfold keysN kindsOf
  simp

set_option maxHeartbeats 2000000 in
set_option maxRecDepth 100000 in
theorem read_walk (b n : Nat) (D : DataW Unit) (l1 : List Letter) (s : ByteArray) (w : World) (hT : Tabs w) (hown : w.ownsMap Tryd.prog 21 (plainElem (H := Unit) Tryd.prog 3) b n D) (hD : HasIs D (keysN l1 l1.length)) (l : List Int) (e : Int) (hr : Hid (readP (kindsOf l1) (pieces (cut s)) [] = (l, e))) :
    Calls Tryd.prog 45 #[.map (some b), .string s] w fun e' w' => ∃ v, e' = .returned (.tuple #[v, .int .i64 e]) ∧ Kd.R (Kd.int .i32) 21 w' w.heap.size (fun _ => True) v l ∧ Below w.heap.size w w' := by
  have hP := Pieces_walk (cut s) w hT
  rw [if_pos (cut_size s), if_pos (cut_size s)] at hP
  have HD := Lib.hid hD
  have hlen := piecesFrom_length (cut s) (cut s).size 0
  have hcs := cut_size s
  obtain ⟨ps, hps⟩ : ∃ ps, ps = pieces (cut s) := ⟨_, rfl⟩
  rw [← hps] at hP hr
  have hpl : ps.length ≤ 65536 := by rw [hps]; exact Nat.le_trans hlen hcs
  have hrn : ∀ p ∈ ps, 0 ≤ p.f0 ∧ p.f0 ≤ 1114111 := by rw [hps]; exact piecesFrom_rune _ _ _
  clear hps hD hT hlen
  have hcc : (cut s = s ∧ decide (65536 < (s.size : Int)) = false) ∨ (cut s = s.extract 0 65536 ∧ decide (65536 < (s.size : Int)) = true ∧ 65536 ≤ s.size) := by
    unfold cut
    by_cases h : s.size ≤ 65536
    · rw [if_pos h]
      exact .inl ⟨rfl, decide_eq_false (by omega)⟩
    · rw [if_neg h]
      exact .inr ⟨rfl, decide_eq_true (by omega), by omega⟩
  rcases hcc with ⟨hc, hd⟩ | ⟨hc, hd, hge⟩
  all_goals (
    rw [hc] at hP
    have HP := Lib.hid hP
    clear hP hc hcs
    go_enter Tryd.func45, Tryd.ntmps45
    go_wp2_with (first | (go_at_call 71; refine HP.out.mono ?_; rintro e1 w1 ⟨v1, rfl, hR1, hb1⟩; obtain ⟨A, c, rfl, hlc, hC1⟩ := Kd.R_reads hR1))
    have Hb1 := Lib.hid hb1
    have HC1 := Lib.hid hC1
    have hown1 := hown.kept (grown_of_below hb1 none) (by simp)
    clear hb1 hC1 hR1 hown
    go_loopw [8, 28] (fun o i wr => ∃ (k : Nat) (acc : List Int), k ≤ ps.length ∧ i = .int .i64 k ∧ Below w1.heap.size w1 wr ∧ Hid (Kd.R (Kd.int .i32) 21 wr w1.heap.size (fun _ => True) o acc) ∧ acc.length ≤ 64 ∧ Hid (readP (kindsOf l1) (ps.drop k) acc = (l, e)))
      (fun _ i _ => ps.length - (intOf i).toNat)
    case atStart => exact ⟨0, [], Nat.zero_le _, rfl, Below.refl _ _, Kd.R_nil _ _ _ _ _, by simp, hr⟩
    case round =>
      obtain ⟨k, acc, hk, rfl, hb, hR, hal, hq⟩ := hrel
      by_cases hlt : k < ps.length
      · obtain ⟨ad, hA, hx0, hx1, hx2, hx3⟩ := at_T90 (Kd.C_below HC1.out hb) k (by omega) (by omega)
        subst hA
        rw [Int.toNat_natCast] at hx0 hx1 hx2 hx3
        have hrd : rd_T90 ps k = ps[k] := by simp [rd_T90, List.getD_eq_getElem?_getD, List.getElem?_eq_getElem hlt]
        rw [hrd] at hx0 hx1 hx2 hx3
        have hq2 := hq.out
        rw [readP_at _ _ _ hlt] at hq2
        have hwf := rune_wf2 (hrn _ (List.getElem_mem hlt))
        obtain ⟨p, hp⟩ : ∃ p, p = ps[k] := ⟨_, rfl⟩
        rw [← hp] at hx0 hx1 hx2 hx3 hq2 hwf
        clear hp hrd hq
        obtain ⟨p0, p1, p2, p3⟩ := p
        dsimp only at hx0 hx1 hx2 hx3 hq2 hwf
        have hkey : keyOf Tryd.prog 21 (.int .i32 p0) = some (.int .i32 p0) := keyOf_int_mk Tryd.underlying21 hwf
        obtain ⟨Ao, co, hv⟩ := Kd.R_slice hR.out
        have hR2 := Lib.hid (hv ▸ hR.out)
        subst hv
        have hhas := has_keys HD.out p0
        have hown2 := hown1.kept (grown_of_below hb none) (by simp)
        have hown3 := hown2.alloc (.cells #[.int .i32 p0, .int .i64 p1, .int .i64 p2, .bool p3] 90)
        cases p3 with
        | true =>
          rw [if_pos rfl] at hq2
          obtain ⟨rfl, rfl⟩ : [] = l ∧ 6 = e := by simpa using hq2
          go_wp2_with fail
          go_ret2
          exact ⟨_, rfl, Kd.R_nil _ _ _ _ _, below_step Hb1.out (hb.alloc hb.size _)⟩
        | false =>
          rw [if_neg (by simp)] at hq2
          cases hks : (kindsOf l1).contains p0 with
          | false =>
            rw [if_pos hks] at hq2
            rw [hks] at hhas
            obtain ⟨rfl, rfl⟩ : [] = l ∧ 5 = e := by simpa using hq2
            go_wp2_with (at_lookup; (try (refine gate_guard (by rfl) ?_; dsimp only)); refine wpList_lookup_own_ok_int _ rfl _ _ 78 rfl 21 3 .i64 (int_keyed Tryd.underlying21) Tryd.underlying78 Tryd.underlying3 (zeroInt _) b n D rfl hown3 _ _ rfl hkey ?_; intro c hat hwc; rw [hhas])
            go_ret2
            exact ⟨_, rfl, Kd.R_nil _ _ _ _ _, below_step Hb1.out (hb.alloc hb.size _)⟩
          | true =>
            rw [if_neg (by rw [hks]; simp)] at hq2
            rw [hks] at hhas
            by_cases hm : acc.length = 64
            · rw [if_pos hm] at hq2
              obtain ⟨rfl, rfl⟩ : [] = l ∧ 4 = e := by simpa using hq2
              have he : ((acc.length : Int) == 64) = true := by simp; omega
              go_wp2_with (at_lookup; (try (refine gate_guard (by rfl) ?_; dsimp only)); refine wpList_lookup_own_ok_int _ rfl _ _ 78 rfl 21 3 .i64 (int_keyed Tryd.underlying21) Tryd.underlying78 Tryd.underlying3 (zeroInt _) b n D rfl hown3 _ _ rfl hkey ?_; intro c hat hwc; rw [hhas])
              go_ret2
              exact ⟨_, rfl, Kd.R_nil _ _ _ _ _, below_step Hb1.out (hb.alloc hb.size _)⟩
            · rw [if_neg hm] at hq2
              have Hq2 := Lib.hid hq2
              clear hq2
              have he : ((acc.length : Int) == 64) = false := by simp; omega
              go_wp2_with (first | (at_lookup; (try (refine gate_guard (by rfl) ?_; dsimp only)); refine wpList_lookup_own_ok_int _ rfl _ _ 78 rfl 21 3 .i64 (int_keyed Tryd.underlying21) Tryd.underlying78 Tryd.underlying3 (zeroInt _) b n D rfl hown3 _ _ rfl hkey ?_; intro c hat hwc; rw [hhas]) | (at_builtin; go_must (refine Kd.R_append (w0 := w1) (Kd.int .i32) w1.heap.size rfl (.tmp 46) (.tmp 49) 51 21 _ _ rfl Tryd.underlying51 info21 (by decide) (by decide) (by decide) _ acc p0 _ (fun _ => True) (fun _ => False) rfl (by first | rfl | simp [Act.eval]) rfl (fun _ h => h.elim) (fun _ _ => trivial) (R_alloc hR2.out _) (hb.alloc hb.size _) (hb.alloc hb.size _).size (by omega) ?_); intro v2 w2 HR HB hg hat; have HRh := Lib.hid HR; have HBh := Lib.hid HB; clear HR HB hg hat))
              go_roundw
              case rel => exact ⟨k + 1, acc ++ [p0], by omega, by go_num, HBh.out, HRh.out, by simp; omega, Hq2.out⟩
              case measure => simp [intOf]; omega
      · obtain rfl : k = ps.length := by omega
        have hq2 := hq.out
        rw [List.drop_of_length_le (Nat.le_refl _)] at hq2
        obtain ⟨rfl, rfl⟩ : acc = l ∧ 0 = e := by simpa [readP] using hq2
        go_wp2_with fail
        go_ret2
        exact ⟨_, rfl, Kd.R_lower hR.out Hb1.out.size, below_step Hb1.out hb⟩)

/-- A word's letters in an alphabet. -/
def lettersOf (l0 : List ByteArray) (l1 : List Letter) (s : ByteArray) : List Int × Int := if chk l0 l1 = 0 then readP (kindsOf l1) (pieces (cut s)) [] else ([], 7)

namespace Ext
def word_Letters.f (l0 : List ByteArray) (l1 : List Letter) (s : ByteArray) : Option (List Int × Int) := some (lettersOf l0 l1 s)
set_option maxHeartbeats 2000000 in
set_option maxRecDepth 100000 in
theorem word_Letters.calls (A0 : Option Addr) (c0 : Nat) (l0 : List ByteArray) (A1 : Option Addr) (c1 : Nat) (l1 : List Letter) (s : ByteArray) (r1 : List Int) (r2 : Int) (w : World) (hF : Kd.C Kd.string w A0 l0.length l0) (hcF : l0.length ≤ c0) (hL : Kd.C kLetter w A1 l1.length l1) (hcL : l1.length ≤ c1) (hT : Tabs w)
    (h : word_Letters.f l0 l1 s = some (r1, r2)) :
    Calls Tryd.prog 27 #[.agg #[.slice A0 l0.length c0, .slice A1 l1.length c1], .string s] w fun e w' => ∃ v, e = .returned (.tuple #[v, .int .i64 r2]) ∧ Kd.R (Kd.int .i32) 21 w' w.heap.size (fun _ => True) v r1 ∧ Below w.heap.size w w' := by
  have hr : lettersOf l0 l1 s = (r1, r2) := Option.some.inj h
  clear h
  unfold lettersOf at hr
  rcases chk_or l0 l1 with hk | hk
  · have hrk := fun W hF hL => ranks_walk A0 A1 c0 c1 l0 l1 W hF hcF hL hcL hk
    rw [if_pos hk] at hr
    have Hr := Lib.hid hr
    have HT := Lib.hid hT
    have HF := Lib.hid hF
    have HL := Lib.hid hL
    clear hr hF hL hT
    go_enter Tryd.func27, Tryd.ntmps27
    go_wp2_with (first | (go_at_call 44; refine (hrk _ (C_alloc HF.out _) (C_alloc HL.out _)).mono ?_; rintro e1 w1 ⟨b, n, D, rfl, hbw, hown, hD, hb1⟩; have hb1 := below_step (B_alloc w _) hb1) | (go_at_call 45; refine (read_walk b n D l1 s w1 (HT.out.below hb1) hown hD r1 r2 Hr.out).mono ?_; rintro e2 w2 ⟨v2, rfl, hR2, hb2⟩))
    go_ret2
    exact ⟨_, rfl, Kd.R_lower hR2 hb1.size, below_step hb1 hb2⟩
  · have hrk := fun W hF hL => ranks_bad A0 A1 c0 c1 l0 l1 W hF hcF hL hcL hk
    rw [if_neg (by omega)] at hr
    obtain ⟨rfl, rfl⟩ : [] = r1 ∧ 7 = r2 := by simpa using hr
    have HF := Lib.hid hF
    have HL := Lib.hid hL
    clear hr hF hL hT
    go_enter Tryd.func27, Tryd.ntmps27
    go_wp2_with (first | (go_at_call 44; refine (hrk _ (C_alloc HF.out _) (C_alloc HL.out _)).mono ?_; rintro e1 w1 ⟨rfl, hb1⟩; have hb1 := below_step (B_alloc w _) hb1))
    go_ret2
    exact ⟨_, rfl, Kd.R_nil _ _ _ _ _, hb1⟩
end Ext
end Go.Proofs.YtdeichibnnbjdaaDoor
end
section
-- printed by a program of this session (wip/tools/prx.sh: a turned copy of the kit's print, with functions given from outside)
namespace Go.Proofs.YtdeichibnnbjdaaDoor.RF1
open Go.RowKit Go.Proofs.YtdeichibnnbjdaaDoor Go.Proofs.YtdeichibnnbjdaaDoor.Ext Go.Proofs.YtdeichibnnbjdaaDoorW.PrintWords Go.Proofs.YtdeichibnnbjdaaDoorW.PrintLast Go.Proofs.YtdeichibnnbjdaaDoorW.PrintMore
attribute [local go_sem] max2_int min2_int max_two min_two max_three min_three max_four min_four   -- for this text's walks alone
set_option linter.unusedVariables false
set_option linter.unusedSimpArgs false

/-! ### feature_within: function 56 -/
def feature_within.f (l0_0 : List ByteArray) (l0_1 : List (S74)) (a1 : Int) (a2 : Int) : Option (Bool) := if (shr .u32 (Go.bits .or .u32 a1 a2) (l0_0.length : Int)) = 0 then (some ((Go.bits .and .u32 a1 a2) == 0)) else (some false)
set_option maxHeartbeats 8000000 in
set_option maxRecDepth 100000 in
theorem feature_within.calls (A0_0 : Option Addr) (c0_0 : Nat) (l0_0 : List ByteArray) (A0_1 : Option Addr) (c0_1 : Nat) (l0_1 : List (S74)) (a1 : Int) (a2 : Int) (r : Bool) (w : World) (hr0_0 : Kd.C Kd.string w A0_0 l0_0.length l0_0) (hc0_0 : l0_0.length ≤ c0_0) (hr0_1 : Kd.C k74 w A0_1 l0_1.length l0_1) (hc0_1 : l0_1.length ≤ c0_1) (h : feature_within.f l0_0 l0_1 a1 a2 = some r) :
    Calls Tryd.prog 56 #[.agg #[.slice A0_0 l0_0.length c0_0, .slice A0_1 l0_1.length c0_1], .int .u32 a1, .int .u32 a2] w fun e w' => e = .returned (.bool r) ∧ Below w.heap.size w w' := by
  have hu25 := Tryd.underlying25
  have HR0_0 := Aside0.mk hr0_0
  have HC0_0 := Aside0.mk hc0_0
  clear hr0_0 hc0_0
  have HR0_1 := Aside0.mk hr0_1
  have HC0_1 := Aside0.mk hc0_1
  clear hr0_1 hc0_1
  have HB := Aside0.mk (Below.refl w.heap.size w)
  have H : (if (shr .u32 (Go.bits .or .u32 a1 a2) (l0_0.length : Int)) = 0 then (some ((Go.bits .and .u32 a1 a2) == 0)) else (some false)) = some r := h
  clear h
  obtain ⟨ji4, hji4⟩ : ∃ j_ : Int, (shr .u32 (Go.bits .or .u32 a1 a2) (l0_0.length : Int)) = j_ := ⟨_, rfl⟩
  replace H : (if (ji4) = 0 then (some ((Go.bits .and .u32 a1 a2) == 0)) else (some false)) = some r := by first | (rw [hji4] at H; exact H) | (simp only [hji4] at H ⊢; exact H)
  have hji4_ : ((Go.bits .or .u32 a1 a2) / 2 ^ min (l0_0.length : Int).toNat 32) = ji4 := hji4
  have hji4z : (l0_0.length : Int) ≤ 32 → ((Go.bits .or .u32 a1 a2) / 2 ^ (l0_0.length : Int).toNat) = ji4 := shr_small hji4
  have hji4p : ((Go.bits .or .u32 a1 a2) / 2 ^ min l0_0.length 32) = ji4 := hji4_
  have hji4q : (l0_0.length : Int) ≤ 32 → ((Go.bits .or .u32 a1 a2) / 2 ^ l0_0.length) = ji4 := hji4z
  by_cases c5 : (ji4) = 0
  · rw [if_pos c5] at H
    have c5b0 : ((ji4) == 0) = true := beq_iff_eq.mpr c5
    have c5b1 : ((ji4) != 0) = false := bne_eq_false_iff_eq.mpr c5
    clear c5
    obtain rfl := Option.some.inj H
    go_enter Tryd.func56, Tryd.ntmps56
    go_wp2_with (first | ((with_reducible refine gate_dst (N := 3) rfl ?_); refine box_event ?hg (N := 3) ?hd (cs := #[.slice A0_0 l0_0.length c0_0, .slice A0_1 l0_1.length c0_1]) (t := 25) ?hr ?_; (case hd => rfl); (case hg => rfl); (case hr => first | (go_simp; done) | (go_simp; rfl)); intro gb101 hg w6 hbox hb; have n0_ := Aside0.mk (below_step (by repeat (first | (with_reducible first | exact HB.out | apply below_alloc | apply pw_below_drewN | apply below_drew1) | exact HB.out)) hb); have n1_ := Aside0.mk (hbox); have n2_ := Aside0.mk ((by rw [hg]; exact (below_size (by repeat (first | (with_reducible first | exact HB.out | apply below_alloc | apply pw_below_drewN | apply below_drew1) | exact HB.out))) : w.heap.size ≤ gb101)); have n3_ := Aside0.mk ((by rw [hg]; exact (below_size (by repeat (first | (with_reducible first | exact HB.out | apply below_alloc | apply pw_below_drewN | apply below_drew1) | exact HB.out))) : w.heap.size ≤ gb101)); clear HB; have HB := n0_; have BK101 := n1_; have GW101 := n2_; have GE101 := n3_; clear n0_ n1_ n2_ n3_; clear hb hbox hg; have hcz7_0 : w6.cell? ⟨gb101, 0, none⟩ = some (.slice A0_0 l0_0.length c0_0) := (blk_cell BK101.out 0).trans rfl; have hcz7_1 : w6.cell? ⟨gb101, 1, none⟩ = some (.slice A0_1 l0_1.length c0_1) := (blk_cell BK101.out 1).trans rfl; have hfz7_0 := blk_frozen BK101.out 0; have hfz7_1 := blk_frozen BK101.out 1))
    go_ret
    exact ⟨by first | rfl | (simp [errW_none, errW_some] <;> rfl) | (simp only [← hji4]; first | rfl | (simp [errW_none, errW_some] <;> rfl)) | (simp [*, errW_none, errW_some] <;> rfl), by repeat (first | (with_reducible first | exact HB.out | apply below_alloc | apply pw_below_drewN | apply below_drew1 | refine below_set ?_ GE101.out) | exact HB.out)⟩
  · rw [if_neg c5] at H
    have c5b0 : ((ji4) == 0) = false := beq_eq_false_iff_ne.mpr c5
    have c5b1 : ((ji4) != 0) = true := bne_iff_ne.mpr c5
    obtain rfl := Option.some.inj H
    go_enter Tryd.func56, Tryd.ntmps56
    go_wp2_with (first | ((with_reducible refine gate_dst (N := 3) rfl ?_); refine box_event ?hg (N := 3) ?hd (cs := #[.slice A0_0 l0_0.length c0_0, .slice A0_1 l0_1.length c0_1]) (t := 25) ?hr ?_; (case hd => rfl); (case hg => rfl); (case hr => first | (go_simp; done) | (go_simp; rfl)); intro gb101 hg w8 hbox hb; have n0_ := Aside0.mk (below_step (by repeat (first | (with_reducible first | exact HB.out | apply below_alloc | apply pw_below_drewN | apply below_drew1) | exact HB.out)) hb); have n1_ := Aside0.mk (hbox); have n2_ := Aside0.mk ((by rw [hg]; exact (below_size (by repeat (first | (with_reducible first | exact HB.out | apply below_alloc | apply pw_below_drewN | apply below_drew1) | exact HB.out))) : w.heap.size ≤ gb101)); have n3_ := Aside0.mk ((by rw [hg]; exact (below_size (by repeat (first | (with_reducible first | exact HB.out | apply below_alloc | apply pw_below_drewN | apply below_drew1) | exact HB.out))) : w.heap.size ≤ gb101)); clear HB; have HB := n0_; have BK101 := n1_; have GW101 := n2_; have GE101 := n3_; clear n0_ n1_ n2_ n3_; clear hb hbox hg; have hcz9_0 : w8.cell? ⟨gb101, 0, none⟩ = some (.slice A0_0 l0_0.length c0_0) := (blk_cell BK101.out 0).trans rfl; have hcz9_1 : w8.cell? ⟨gb101, 1, none⟩ = some (.slice A0_1 l0_1.length c0_1) := (blk_cell BK101.out 1).trans rfl; have hfz9_0 := blk_frozen BK101.out 0; have hfz9_1 := blk_frozen BK101.out 1))
    go_ret
    exact ⟨by first | rfl | (simp [errW_none, errW_some] <;> rfl) | (simp only [← hji4]; first | rfl | (simp [errW_none, errW_some] <;> rfl)) | (simp [*, errW_none, errW_some] <;> rfl), by repeat (first | (with_reducible first | exact HB.out | apply below_alloc | apply pw_below_drewN | apply below_drew1 | refine below_set ?_ GE101.out) | exact HB.out)⟩

/-! ### feature_like: function 86 -/
/-! ### feature_Class: function 72 -/
/-! ### slices_Index_rune_rune: function 87 -/
/-! ### slices_Contains_rune_rune: function 73 -/
/-! ### word_Peaks: function 46 -/
/-! ### radical_Skip: function 12 -/
-- NOT PRINTED: function 65 (api_Letter)

-- NOT PRINTED: function 41 (feature_Of)

end Go.Proofs.YtdeichibnnbjdaaDoor.RF1
end
section
-- printed by a program of this session (wip/tools/prx.sh: a turned copy of the kit's print, with functions given from outside)
namespace Go.Proofs.YtdeichibnnbjdaaDoor.RF1
open Go.RowKit Go.Proofs.YtdeichibnnbjdaaDoor Go.Proofs.YtdeichibnnbjdaaDoor.Ext Go.Proofs.YtdeichibnnbjdaaDoorW.PrintWords Go.Proofs.YtdeichibnnbjdaaDoorW.PrintLast Go.Proofs.YtdeichibnnbjdaaDoorW.PrintMore
attribute [local go_sem] max2_int min2_int max_two min_two max_three min_three max_four min_four   -- for this text's walks alone
set_option linter.unusedVariables false
set_option linter.unusedSimpArgs false

/-! ### radical_Holes: function 24 -/
def radical_Holes.f (a0_0 : ByteArray) (a0_1 : ByteArray) : Option (Int) := (strings_Count.f a0_1 (⟨#[95]⟩ : ByteArray)).bind fun t144 => (some t144)
set_option maxHeartbeats 8000000 in
set_option maxRecDepth 100000 in
theorem radical_Holes.calls (a0_0 : ByteArray) (a0_1 : ByteArray) (r : Int) (w : World) (h : radical_Holes.f a0_0 a0_1 = some r) :
    Calls Tryd.prog 24 #[.agg #[.string a0_0, .string a0_1]] w fun e w' => e = .returned (.int .i64 r) ∧ Below w.heap.size w w' := by
  have hu32 := Tryd.underlying32
  have HB := Aside0.mk (Below.refl w.heap.size w)
  have H : ((strings_Count.f a0_1 (⟨#[95]⟩ : ByteArray)).bind fun t144 => (some t144)) = some r := h
  clear h
  replace H := Option.bind_eq_some_iff.mp H
  obtain ⟨t144, A20, H⟩ := H
  replace H : (some t144) = some r := H
  have A2 := Aside0.mk A20
  clear A20
  obtain rfl := Option.some.inj H
  go_enter Tryd.func24, Tryd.ntmps24
  go_wp2_with (first | ((with_reducible refine gate_dst (N := 1) rfl ?_); refine box_event ?hg (N := 1) ?hd (cs := #[.string a0_0, .string a0_1]) (t := 32) ?hr ?_; (case hd => rfl); (case hg => rfl); (case hr => first | (go_simp; done) | (go_simp; rfl)); intro gb143 hg w3 hbox hb; have n0_ := Aside0.mk (below_step (by repeat (first | (with_reducible first | exact HB.out | apply below_alloc | apply pw_below_drewN | apply below_drew1) | exact HB.out)) hb); have n1_ := Aside0.mk (hbox); have n2_ := Aside0.mk ((by rw [hg]; exact (below_size (by repeat (first | (with_reducible first | exact HB.out | apply below_alloc | apply pw_below_drewN | apply below_drew1) | exact HB.out))) : w.heap.size ≤ gb143)); have n3_ := Aside0.mk ((by rw [hg]; exact (below_size (by repeat (first | (with_reducible first | exact HB.out | apply below_alloc | apply pw_below_drewN | apply below_drew1) | exact HB.out))) : w.heap.size ≤ gb143)); clear HB; have HB := n0_; have BK143 := n1_; have GW143 := n2_; have GE143 := n3_; clear n0_ n1_ n2_ n3_; clear hb hbox hg; have hcz4_0 : w3.cell? ⟨gb143, 0, none⟩ = some (.string a0_0) := (blk_cell BK143.out 0).trans rfl; have hcz4_1 : w3.cell? ⟨gb143, 1, none⟩ = some (.string a0_1) := (blk_cell BK143.out 1).trans rfl; have hfz4_0 := blk_frozen BK143.out 0; have hfz4_1 := blk_frozen BK143.out 1) | ((with_reducible refine gate_callee (f := 43) rfl ?_); refine goesL_ (some 5) rfl rfl Tryd.func43 (by kernel_rfl) rfl #[.string a0_1, .string (⟨#[95]⟩ : ByteArray)] rfl (by (try simp only [List.map_toArray, List.map_cons, List.map_nil]); first | done | rfl | (simp only [List.length_drop, List.length_take]; rfl)) ?_; (with_reducible refine (strings_Count.calls a0_1 (⟨#[95]⟩ : ByteArray) t144 _ A2.out).mono ?_); rintro e w5 ⟨rfl, hb⟩; refine ⟨_, rfl, ?_⟩; have n0_ := Aside0.mk (blk_below (g := gb143) (o := .cells #[.string a0_0, .string a0_1] 32 (0, 0)) (by (with_reducible repeat (first | refine blk_drewN ?_ _ | refine blk_drew ?_ | refine blk_alloc ?_ _)); exact BK143.out) hb); have n1_ := Aside0.mk (below_step (by repeat (first | (with_reducible first | exact HB.out | apply below_alloc | apply pw_below_drewN | apply below_drew1 | refine below_set ?_ GE143.out) | exact HB.out)) hb); clear BK143; clear HB; have BK143 := n0_; have HB := n1_; clear n0_ n1_; (try clear hb); (try clear hb2); (try clear hk); (try clear hi)))
  go_ret
  exact ⟨by first | rfl | (simp [errW_none, errW_some] <;> rfl) | (simp [*, errW_none, errW_some] <;> rfl), by repeat (first | (with_reducible first | exact HB.out | apply below_alloc | apply pw_below_drewN | apply below_drew1 | refine below_set ?_ GE143.out) | exact HB.out)⟩

end Go.Proofs.YtdeichibnnbjdaaDoor.RF1
end
section
/-
  What the printed functions feature.Class, slices.Contains, word.Peaks, radical.Skip compute, in plain words.
-/
set_option linter.unusedSimpArgs false
set_option linter.unusedVariables false
namespace Go.Proofs.YtdeichibnnbjdaaDoor
open Go.RowKit Go.Proofs.YtdeichibnnbjdaaDoorW.PrintWords Go.Proofs.YtdeichibnnbjdaaDoorW.PrintLast Go.Proofs.YtdeichibnnbjdaaDoorW.PrintMore Go.Proofs.YtdeichibnnbjdaaDoor.Ext

theorem wrap_succ {i : Int} (h0 : 0 ≤ i) (h1 : i < 4611686018427387904) : wrap64 (i + 1) = i + 1 := by
  unfold wrap64
  omega

theorem rdL (l1 : List Letter) (i : Nat) (h : i < l1.length) : rd_T74 l1 (i : Int) = l1[i] := by
  simp [rd_T74, List.getD_eq_getElem?_getD, List.getElem?_eq_getElem h]
theorem readP_len (ks : List Int) : ∀ (ps : List Piece) (acc : List Int), acc.length ≤ 64 → (readP ks ps acc).1.length ≤ 64
  | [], acc, h => h
  | p :: ps, acc, h => by
    unfold readP
    split
    · simp
    · split
      · simp
      · split
        · simp
        · exact readP_len ks ps _ (by simp; omega)
theorem lettersOf_len (l0 : List ByteArray) (l1 : List Letter) (s : ByteArray) : (lettersOf l0 l1 s).1.length ≤ 64 := by
  unfold lettersOf
  split
  · exact readP_len _ _ _ (by simp)
  · simp
end Go.Proofs.YtdeichibnnbjdaaDoor
end
section
/-
  What the printed reference functions (layers 1 to 3) compute, in plain words.
-/
set_option linter.unusedSimpArgs false
set_option linter.unusedVariables false
namespace Go.Proofs.YtdeichibnnbjdaaDoor
open Go.RowKit Go.Proofs.YtdeichibnnbjdaaDoorW.PrintWords Go.Proofs.YtdeichibnnbjdaaDoorW.PrintLast Go.Proofs.YtdeichibnnbjdaaDoorW.PrintMore Go.Proofs.YtdeichibnnbjdaaDoor.Ext

theorem rd_at (l : List Int) (i : Nat) (h : i < l.length) : YtdeichibnnbjdaaDoorW.PrintWords.rd l (i : Int) = l[i] := by
  unfold YtdeichibnnbjdaaDoorW.PrintWords.rd
  rw [Int.toNat_natCast, List.getD_eq_getElem?_getD, List.getElem?_eq_getElem h]
  rfl
/-! ### runes as bytes -/
def byN (s : ByteArray) : List Int := s.data.toList.map (fun b => (b.toNat : Int))
theorem rune_eq (r : Int) : RRf.cognateref01_Rune.f r = some (Utf8.valid r) := by
  unfold RRf.cognateref01_Rune.f Utf8.valid
  by_cases a : 0 ≤ r
  · by_cases b : r ≤ 1114111
    · by_cases c : r < 55296
      · simp [a, b, c]
      · simp [a, b, c]
        omega
    · simp [a, b]
      omega
  · simp [a]
    omega
def bytesOfRune (c : Nat) : List Nat := if c < 128 then [c] else if c < 2048 then [192 + c / 64, 128 + c % 64] else if c < 65536 then [224 + c / 4096, 128 + c / 64 % 64, 128 + c % 64] else [240 + c / 262144, 128 + c / 4096 % 64, 128 + c / 64 % 64, 128 + c % 64]
theorem tdiv64 (c : Nat) : Int.tdiv (c : Int) 64 = ((c / 64 : Nat) : Int) := rfl
theorem tdiv4096 (c : Nat) : Int.tdiv (c : Int) 4096 = ((c / 4096 : Nat) : Int) := rfl
theorem tdiv262144 (c : Nat) : Int.tdiv (c : Int) 262144 = ((c / 262144 : Nat) : Int) := rfl
theorem tmod64 (c : Nat) : Int.tmod (c : Int) 64 = ((c % 64 : Nat) : Int) := rfl
theorem wrap32N (c : Nat) (h : c < 2147483648) : wrap32 (c : Int) = (c : Int) := by unfold wrap32; omega
theorem j0_eq (c k : Nat) (hc : c ≤ 1114111) : RRf.cognateref01_one.j0 (k + 1) (c : Int) = some ((bytesOfRune c).map (fun n : Nat => (n : Int))) := by
  unfold RRf.cognateref01_one.j0 bytesOfRune
  simp only [tdiv64, tdiv4096, tdiv262144, tmod64]
  rw [wrap32N (c / 64) (by omega), wrap32N (c / 4096) (by omega), wrap32N (c / 262144) (by omega)]
  simp only [tmod64]
  unfold wrap32
  by_cases a : c < 128
  · rw [if_pos (by omega), if_pos a]
    simp; omega
  · rw [if_neg (by omega), if_neg a]
    by_cases b : c < 2048
    · rw [if_pos (by omega), if_pos b]
      simp; omega
    · rw [if_neg (by omega), if_neg b]
      by_cases d : c < 65536
      · rw [if_pos (by omega), if_pos d]
        simp; omega
      · rw [if_neg (by omega), if_neg d]
        simp; omega
theorem encode_by (r : Int) : byN (Utf8.encode r) = (bytesOfRune (if Utf8.valid r = true then r.toNat else 65533)).map (fun n : Nat => (n : Int)) := by
  have hv : (if Utf8.valid r = true then r.toNat else 65533) ≤ 1114111 := by
    split
    · rename_i h
      unfold Utf8.valid at h
      simp at h
      omega
    · omega
  unfold byN Utf8.encode Utf8.runeError bytesOfRune
  generalize (if Utf8.valid r = true then r.toNat else 65533) = c at hv
  have e1 : 0xFFFD = 65533 := rfl
  by_cases a : c < 128
  · simp [a]; omega
  · by_cases b : c < 2048
    · simp [a, b]; omega
    · by_cases d : c < 65536
      · simp [a, b, d]; omega
      · simp [a, b, d]; omega
theorem one_eq (r : Int) (k : Nat) (hr : -2147483648 ≤ r ∧ r ≤ 2147483647) : RRf.cognateref01_one.f (k + 1) r = some (byN (Utf8.encode r)) := by
  unfold RRf.cognateref01_one.f
  rw [rune_eq, Option.bind_some, encode_by]
  by_cases h : Utf8.valid r = true
  · rw [if_pos h, if_pos h]
    have h2 := h
    unfold Utf8.valid at h2
    simp at h2
    have e : r = ((r.toNat : Nat) : Int) := by omega
    conv => lhs; rw [e]
    exact j0_eq _ k (by omega)
  · rw [if_neg h, if_neg h]
    exact j0_eq 65533 k (by omega)
def numsL : List Int → List Int
  | [] => []
  | r :: rs => byN (Utf8.encode r) ++ numsL rs
theorem byN_append (a b : ByteArray) : byN (a ++ b) = byN a ++ byN b := by
  unfold byN
  simp
theorem str_byN (a : ByteArray) : strOfNums (byN a) = a := by
  unfold strOfNums byN
  obtain ⟨d⟩ := a
  congr 1
  rw [List.map_map]
  have : ((fun n : Int => UInt8.ofNat n.toNat) ∘ fun b : UInt8 => (b.toNat : Int)) = id := by
    funext b
    simp
  rw [this]
  simp
theorem foldl_runes : ∀ (l : List Int) (a : ByteArray), byN (l.foldl (fun r n => r ++ Utf8.encode n) a) = byN a ++ numsL l
  | [], a => by simp [numsL]
  | x :: xs, a => by
    rw [List.foldl_cons, foldl_runes xs, byN_append]
    simp [numsL]
theorem runesBytes_nums (l : List Int) : strOfNums (numsL l) = runesBytes l := by
  rw [← str_byN (runesBytes l)]
  congr 1
  unfold runesBytes
  rw [foldl_runes]
  rfl
theorem numsL_len : ∀ l : List Int, (numsL l).length ≤ 4 * l.length
  | [] => by simp [numsL]
  | x :: xs => by
    have h1 := numsL_len xs
    have h2 := encode_size_le x
    have : (byN (Utf8.encode x)).length = (Utf8.encode x).size := by unfold byN; rw [List.length_map, Array.length_toList]; rfl
    simp only [numsL, List.length_append, List.length_cons]
    omega
theorem numsL_append : ∀ a b : List Int, numsL (a ++ b) = numsL a ++ numsL b
  | [], b => rfl
  | x :: xs, b => by simp [numsL, numsL_append xs b]
theorem Text_loop (l : List Int) (hl : l.length ≤ 1000000) (hr : ∀ x ∈ l, -2147483648 ≤ x ∧ x ≤ 2147483647) : ∀ (n i k : Nat), i + n = l.length → n + 2 ≤ k →
    RRf.cognateref01_Text.l0 k l (numsL (l.take i)) (i : Int) = some (runesBytes l)
  | 0, i, k, hi, hk => by
    obtain ⟨k, rfl⟩ : ∃ q, k = q + 1 := ⟨k - 1, by omega⟩
    unfold RRf.cognateref01_Text.l0
    rw [if_neg (by omega), List.take_of_length_le (by omega), runesBytes_nums]
  | n + 1, i, k, hi, hk => by
    obtain ⟨k, rfl⟩ : ∃ q, k = q + 2 := ⟨k - 2, by omega⟩
    have hlt : i < l.length := by omega
    have hrd : YtdeichibnnbjdaaDoorW.PrintWords.rd l (i : Int) = l[i] := rd_at l i hlt
    have h1 := numsL_len (l.take i)
    have h2 := encode_size_le l[i]
    have h3 : (byN (Utf8.encode l[i])).length = (Utf8.encode l[i]).size := by unfold byN; rw [List.length_map, Array.length_toList]; rfl
    rw [List.length_take] at h1
    unfold RRf.cognateref01_Text.l0
    rw [if_pos (by omega), if_pos (by omega), hrd, one_eq _ k (hr _ (List.getElem_mem hlt)), Option.bind_some, if_pos (by omega), wrap_succ (by omega) (by omega)]
    have e : (i : Int) + 1 = ((i + 1 : Nat) : Int) := by omega
    have e2 : numsL (l.take i) ++ byN (Utf8.encode l[i]) = numsL (l.take (i + 1)) := by
      rw [List.take_succ_eq_append_getElem hlt, numsL_append]
      simp [numsL]
    rw [e, e2]
    exact Text_loop l hl hr n (i + 1) (k + 1) (by omega) (by omega)
theorem Text_eq (l : List Int) (hl : l.length ≤ 1000000) (hr : ∀ x ∈ l, -2147483648 ≤ x ∧ x ≤ 2147483647) (k : Nat) (hk : l.length + 2 ≤ k) : RRf.cognateref01_Text.f k l = some (runesBytes l) := by
  unfold RRf.cognateref01_Text.f
  have := Text_loop l hl hr l.length 0 k (by omega) hk
  simpa [numsL] using this
end Go.Proofs.YtdeichibnnbjdaaDoor
end
section
/-
  What the printed reference functions of layer 2 compute: May, Check.
-/
set_option linter.unusedSimpArgs false
set_option linter.unusedVariables false
namespace Go.Proofs.YtdeichibnnbjdaaDoor
open Go.RowKit Go.Proofs.YtdeichibnnbjdaaDoorW.PrintWords Go.Proofs.YtdeichibnnbjdaaDoorW.PrintLast Go.Proofs.YtdeichibnnbjdaaDoorW.PrintMore Go.Proofs.YtdeichibnnbjdaaDoor.Ext

def u32 (x : Int) : Prop := 0 ≤ x ∧ x < 4294967296
instance (x : Int) : Decidable (u32 x) := by unfold u32; exact inferInstance
theorem or_u32 {p m : Int} (hp : u32 p) (hm : u32 m) : ∃ q : Nat, Go.bits .or .u32 p m = (q : Int) ∧ q < 4294967296 := by
  rw [u32_or p m hp.1 hp.2 hm.1 hm.2]
  refine ⟨_, rfl, ?_⟩
  have h1 : p.toNat < 2 ^ 32 := by have := hp.2; omega
  have h2 : m.toNat < 2 ^ 32 := by have := hm.2; omega
  exact Nat.or_lt_two_pow h1 h2
theorem mask_iff (q n : Nat) (hq : q < 4294967296) (hn : n ≤ 24) : (Go.bits .and .u32 (q : Int) (((2 ^ n - 1 : Nat)) : Int) = (q : Int)) ↔ shr .u32 (q : Int) (n : Int) = 0 := by
  have h2 : 2 ^ n ≤ 2 ^ 24 := Nat.pow_le_pow_right (by omega) hn
  have h3 : 0 < 2 ^ n := Nat.pos_of_ne_zero (by simp)
  rw [u32_and_nat q (2 ^ n - 1) hq (by omega), Nat.and_two_pow_sub_one_eq_mod]
  have e : shr .u32 (q : Int) (n : Int) = ((q / 2 ^ n : Nat) : Int) := by
    unfold shr
    have : min ((n : Int)).toNat IntKind.u32.bits = n := by simp [IntKind.bits]; omega
    rw [this]
    simp
  rw [e]
  constructor
  · intro h
    have h4 : q % 2 ^ n = q := by omega
    have h5 := Nat.mod_lt q h3
    have : q / 2 ^ n = 0 := Nat.div_eq_of_lt (by omega)
    omega
  · intro h
    have h4 : q / 2 ^ n = 0 := by omega
    have h5 : q < 2 ^ n := by
      rcases Nat.div_eq_zero_iff.1 h4 with h | h
      · omega
      · exact h
    rw [Nat.mod_eq_of_lt h5]
theorem all_eq (l0 : List ByteArray) (l1 : List Letter) (hn : l0.length ≤ 24) : RRf.cognateref02_all.f l0 l1 = some (((2 ^ l0.length - 1 : Nat)) : Int) := by
  unfold RRf.cognateref02_all.f
  have hw : IntKind.u64.wrap (l0.length : Int) = (l0.length : Int) := by simp [IntKind.wrap, IntKind.bits, IntKind.signed]; omega
  rw [hw, if_pos (by omega)]
  have h2 : 2 ^ l0.length ≤ 2 ^ 24 := Nat.pow_le_pow_right (by omega) hn
  have h3 : 0 < 2 ^ l0.length := Nat.pos_of_ne_zero (by simp)
  have e : shl .u32 1 (l0.length : Int) = ((2 ^ l0.length : Nat) : Int) := by
    unfold shl
    have : min ((l0.length : Int)).toNat IntKind.u32.bits = l0.length := by simp [IntKind.bits]; omega
    rw [this, IntKind.wrap_u32, Int.one_mul]
    have : ((2 : Int) ^ l0.length) = ((2 ^ l0.length : Nat) : Int) := by simp
    rw [this]
    omega
  rw [e]
  congr 1
  omega
theorem May_eq (l0 : List ByteArray) (l1 : List Letter) (p m : Int) (hn : l0.length ≤ 24) (hp : u32 p) (hm : u32 m) : RRf.cognateref02_May.f l0 l1 p m = some (withinB l0.length p m) := by
  unfold RRf.cognateref02_May.f withinB
  rw [all_eq l0 l1 hn, Option.bind_some]
  obtain ⟨q, e, hq⟩ := or_u32 hp hm
  rw [e]
  have := mask_iff q l0.length hq hn
  by_cases h : shr .u32 (q : Int) (l0.length : Int) = 0
  · rw [if_pos (this.2 h), decide_eq_true h]
    simp [Bool.beq_eq_decide_eq]
  · rw [if_neg (fun h2 => h (this.1 h2)), decide_eq_false h]
    rfl
theorem letter_eq (r : Int) : RRf.cognateref02_letter.f r = some (runeOk r) := by
  unfold RRf.cognateref02_letter.f runeOk
  repeat' split
  all_goals (congr 1; first | (symm; simp; omega) | (simp; omega) | (rw [Bool.eq_iff_iff]; simp; omega))
theorem bt_nat (s : ByteArray) (i : Nat) (h : i < s.size) : bt s (i : Int) = ((s.data.toList[i]'(by rw [Array.length_toList]; exact h)).toNat : Int) := by
  unfold bt
  rw [dif_pos (by simpa using h)]
  simp
  rfl
theorem name_loop (s : ByteArray) (hs : s.size < 1000000) : ∀ (n i k : Nat), i + n = s.size → n + 1 ≤ k → RRf.cognateref02_name.l0 k s (i : Int) = some ((s.data.toList.drop i).all az)
  | 0, i, k, hi, hk => by
    obtain ⟨k, rfl⟩ : ∃ q, k = q + 1 := ⟨k - 1, by omega⟩
    unfold RRf.cognateref02_name.l0
    rw [if_neg (by omega), List.drop_of_length_le (by rw [Array.length_toList]; show s.size ≤ i; omega)]
    rfl
  | n + 1, i, k, hi, hk => by
    obtain ⟨k, rfl⟩ : ∃ q, k = q + 1 := ⟨k - 1, by omega⟩
    have hlt : i < s.size := by omega
    have hlt2 : i < s.data.toList.length := by rw [Array.length_toList]; exact hlt
    have e : (i : Int) + 1 = ((i + 1 : Nat) : Int) := by omega
    unfold RRf.cognateref02_name.l0
    rw [if_pos (by omega), if_pos (by omega), bt_nat s i hlt, wrap_succ (by omega) (by omega), e, List.drop_eq_getElem_cons hlt2, name_loop s hs n (i + 1) k (by omega) (by omega)]
    generalize s.data.toList.drop (i + 1) = t
    simp only [List.all_cons, az]
    by_cases a : s.data.toList[i].toNat < 97
    · rw [if_pos (by omega), decide_eq_false (by omega)]
      simp
    · rw [if_neg (by omega), decide_eq_true (by omega : 97 ≤ s.data.toList[i].toNat)]
      by_cases b : s.data.toList[i].toNat > 122
      · rw [if_pos (by omega), decide_eq_false (by omega)]
        simp
      · rw [if_neg (by omega), decide_eq_true (by omega : s.data.toList[i].toNat ≤ 122)]
        simp
theorem name_eq (s : ByteArray) (k : Nat) (hk : 35 ≤ k) : RRf.cognateref02_name.f k s = some (nameOk s) := by
  obtain ⟨k, rfl⟩ : ∃ q, k = q + 1 := ⟨k - 1, by omega⟩
  unfold RRf.cognateref02_name.f nameOk
  by_cases a : s.size < 1
  · rw [if_pos (by omega)]
    rw [RRf.cognateref02_name.j0, if_pos rfl, decide_eq_false (by omega)]
    rfl
  · rw [if_neg (by omega)]
    rw [RRf.cognateref02_name.j0]
    by_cases b : s.size > 32
    · rw [if_pos (decide_eq_true (by omega)), decide_eq_false (by omega : ¬ s.size ≤ 32)]
      simp
    · rw [if_neg (by simp; omega), decide_eq_true (by omega : s.size ≤ 32), decide_eq_true (by omega : 1 ≤ s.size)]
      have := name_loop s (by omega) s.size 0 k (by omega) (by omega)
      simpa using this
theorem rdB (l : List ByteArray) (i : Nat) (h : i < l.length) : rdOf ByteArray.empty l (i : Int) = l[i] := by
  unfold rdOf
  rw [Int.toNat_natCast, List.getD_eq_getElem?_getD, List.getElem?_eq_getElem h]
  rfl
theorem take_drop_cons {α : Type} (l : List α) (i j : Nat) (hj : j < i) (hi : i ≤ l.length) : (l.take i).drop j = l[j] :: (l.take i).drop (j + 1) := by
  rw [List.drop_eq_getElem_cons (by simp; omega)]
  simp
theorem inner_names (l0 : List ByteArray) (l1 : List Letter) (i : Nat) (hi : i < l0.length) (hl : l0.length ≤ 24) (R : Option Int) : ∀ (n j k : Nat) (b : Bool), j + n = i → n + 1 ≤ k → RRf.cognateref02_Check.l0 (k - n - 1) (wrap64 ((i : Int) + 1)) l0 l1 = R →
    RRf.cognateref02_Check.l1 k (i : Int) b (j : Int) l0 l1 = if (b && ((l0.take i).drop j).all (fun x => x.data.toList != l0[i].data.toList)) = true then R else some 7
  | 0, j, k, b, hj, hk, hR => by
    obtain ⟨k, rfl⟩ : ∃ q, k = q + 1 := ⟨k - 1, by omega⟩
    obtain rfl : j = i := by omega
    unfold RRf.cognateref02_Check.l1
    rw [if_neg (by omega), List.drop_of_length_le (by simp; omega)]
    have : k + 1 - 0 - 1 = k := by omega
    rw [this] at hR
    cases b with
    | true => simpa using hR
    | false => rfl
  | n + 1, j, k, b, hj, hk, hR => by
    obtain ⟨k, rfl⟩ : ∃ q, k = q + 1 := ⟨k - 1, by omega⟩
    have e : (j : Int) + 1 = ((j + 1 : Nat) : Int) := by omega
    have hR2 : RRf.cognateref02_Check.l0 (k - n - 1) (wrap64 ((i : Int) + 1)) l0 l1 = R := by
      rw [← hR]
      congr 1
      omega
    unfold RRf.cognateref02_Check.l1
    rw [if_pos (by omega), take_drop_cons l0 i j (by omega) (by omega)]
    generalize hg : (l0.take i).drop (j + 1) = t
    cases b with
    | true =>
      rw [if_pos rfl, if_pos (by omega), if_pos (by omega), if_pos (by omega), if_pos (by omega), rdB l0 j (by omega), rdB l0 i hi, wrap_succ (by omega) (by omega), e, inner_names l0 l1 i hi hl R n (j + 1) k _ (by omega) (by omega) hR2, hg, ByteArray.toList_eq, ByteArray.toList_eq]
      simp only [List.all_cons, Bool.true_and]
    | false =>
      rw [if_neg (by simp), wrap_succ (by omega) (by omega), e, inner_names l0 l1 i hi hl R n (j + 1) k _ (by omega) (by omega) hR2]
      rfl
theorem seenN_not (l0 : List ByteArray) (i : Nat) (x : List UInt8) : (!(seenN l0 i).contains x) = (l0.take i).all (fun y => y.data.toList != x) := by
  rw [Bool.eq_iff_iff]
  unfold seenN
  simp only [Bool.not_eq_true', List.all_eq_true, bne_iff_ne, ne_eq]
  constructor
  · intro h y hy e
    rw [Bool.eq_false_iff] at h
    apply h
    simp only [List.contains_iff_mem, List.mem_map, List.mem_reverse]
    exact ⟨y, hy, e⟩
  · intro h
    rw [Bool.eq_false_iff]
    intro hc
    simp only [List.contains_iff_mem, List.mem_map, List.mem_reverse] at hc
    obtain ⟨y, hy, e⟩ := hc
    exact h y hy e
theorem outer_names (l0 : List ByteArray) (l1 : List Letter) (hl : l0.length ≤ 24) (K : Nat) (R : Option Int) (hR : ∀ k, K ≤ k → RRf.cognateref02_Check.l2 k 0 l0 l1 = R) : ∀ (n i k : Nat), i + n = l0.length → K + n * 100 + 1 ≤ k →
    RRf.cognateref02_Check.l0 k (i : Int) l0 l1 = if namesOk (l0.drop i) (seenN l0 i) = true then R else some 7
  | 0, i, k, hi, hk => by
    obtain ⟨k, rfl⟩ : ∃ q, k = q + 1 := ⟨k - 1, by omega⟩
    unfold RRf.cognateref02_Check.l0
    rw [if_neg (by omega), List.drop_of_length_le (by omega), hR k (by omega)]
    rfl
  | n + 1, i, k, hi, hk => by
    obtain ⟨k, rfl⟩ : ∃ q, k = q + 1 := ⟨k - 1, by omega⟩
    have hlt : i < l0.length := by omega
    have e : (i : Int) + 1 = ((i + 1 : Nat) : Int) := by omega
    unfold RRf.cognateref02_Check.l0
    rw [if_pos (by omega), if_pos (by omega), rdB l0 i hlt, name_eq _ k (by omega), Option.bind_some]
    have hin := inner_names l0 l1 i hlt hl (RRf.cognateref02_Check.l0 (k - i - 1) (wrap64 ((i : Int) + 1)) l0 l1) i 0 k (nameOk l0[i]) (by omega) (by omega) rfl
    have e0 : ((0 : Nat) : Int) = 0 := rfl
    rw [e0] at hin
    rw [hin, wrap_succ (by omega) (by omega), e, outer_names l0 l1 hl K R hR n (i + 1) (k - i - 1) (by omega) (by omega), namesOk_at l0 i hlt (seenN l0 i)]
    have hg : l0.getD i ByteArray.empty = l0[i] := by rw [List.getD_eq_getElem?_getD, List.getElem?_eq_getElem hlt]; rfl
    rw [hg, seenN_not, seenN_succ l0 i hlt, hg, List.drop_zero]
    cases nameOk l0[i] <;> cases (l0.take i).all (fun y => y.data.toList != l0[i].data.toList) <;> simp
end Go.Proofs.YtdeichibnnbjdaaDoor
end
section
/-
  What the printed reference functions of layers 2 and 3 compute: Check, Find, Letters, Has, lists compared.
-/
set_option linter.unusedSimpArgs false
set_option linter.unusedVariables false
namespace Go.Proofs.YtdeichibnnbjdaaDoor
open Go.RowKit Go.Proofs.YtdeichibnnbjdaaDoorW.PrintWords Go.Proofs.YtdeichibnnbjdaaDoorW.PrintLast Go.Proofs.YtdeichibnnbjdaaDoorW.PrintMore Go.Proofs.YtdeichibnnbjdaaDoor.Ext

theorem inner_letters (l0 : List ByteArray) (l1 : List Letter) (i : Nat) (hi : i < l1.length) (hl : l1.length ≤ 128) (R : Option Int) (r a b : Int) : ∀ (n j k : Nat) (f : Bool), j + n = i → n + 1 ≤ k → RRf.cognateref02_Check.l2 (k - n - 1) (wrap64 ((i : Int) + 1)) l0 l1 = R →
    RRf.cognateref02_Check.l3 k (i : Int) f (j : Int) l0 l1 r a b = if (f && ((l1.take i).drop j).all (fun x => x.f0 != r)) = true then R else some 7
  | 0, j, k, f, hj, hk, hR => by
    obtain ⟨k, rfl⟩ : ∃ q, k = q + 1 := ⟨k - 1, by omega⟩
    obtain rfl : j = i := by omega
    unfold RRf.cognateref02_Check.l3
    rw [if_neg (by omega), List.drop_of_length_le (by simp; omega)]
    have : k + 1 - 0 - 1 = k := by omega
    rw [this] at hR
    cases f with
    | true => simpa using hR
    | false => rfl
  | n + 1, j, k, f, hj, hk, hR => by
    obtain ⟨k, rfl⟩ : ∃ q, k = q + 1 := ⟨k - 1, by omega⟩
    have e : (j : Int) + 1 = ((j + 1 : Nat) : Int) := by omega
    have hR2 : RRf.cognateref02_Check.l2 (k - n - 1) (wrap64 ((i : Int) + 1)) l0 l1 = R := by
      rw [← hR]
      congr 1
      omega
    unfold RRf.cognateref02_Check.l3
    rw [if_pos (by omega), take_drop_cons l1 i j (by omega) (by omega)]
    generalize hg : (l1.take i).drop (j + 1) = t
    cases f with
    | true =>
      rw [if_pos rfl, if_pos (by omega), if_pos (by omega), rdL l1 j (by omega), wrap_succ (by omega) (by omega), e, inner_letters l0 l1 i hi hl R r a b n (j + 1) k _ (by omega) (by omega) hR2, hg]
      simp only [List.all_cons, Bool.true_and]
    | false =>
      rw [if_neg (by simp), wrap_succ (by omega) (by omega), e, inner_letters l0 l1 i hi hl R r a b n (j + 1) k _ (by omega) (by omega) hR2]
      rfl
theorem seenL_not (l1 : List Letter) (i : Nat) (r : Int) : (!(seenL l1 i).contains r) = (l1.take i).all (fun y => y.f0 != r) := by
  rw [Bool.eq_iff_iff]
  unfold seenL
  simp only [Bool.not_eq_true', List.all_eq_true, bne_iff_ne, ne_eq]
  constructor
  · intro h y hy e
    rw [Bool.eq_false_iff] at h
    apply h
    simp only [List.contains_iff_mem, List.mem_map, List.mem_reverse]
    exact ⟨y, hy, e⟩
  · intro h
    rw [Bool.eq_false_iff]
    intro hc
    simp only [List.contains_iff_mem, List.mem_map, List.mem_reverse] at hc
    obtain ⟨y, hy, e⟩ := hc
    exact h y hy e
/-- Each letter's bits are 32. -/
def wfA (l1 : List Letter) : Prop := ∀ x ∈ l1, u32 x.f1 ∧ u32 x.f2
instance (l1 : List Letter) : Decidable (wfA l1) := by unfold wfA; exact inferInstance
theorem outer_letters (l0 : List ByteArray) (l1 : List Letter) (hl0 : l0.length ≤ 24) (hl : l1.length ≤ 128) (hw : wfA l1) : ∀ (n i k : Nat), i + n = l1.length → n * 200 + 1 ≤ k →
    RRf.cognateref02_Check.l2 k (i : Int) l0 l1 = if lettersOk l0.length (l1.drop i) (seenL l1 i) = true then some 0 else some 7
  | 0, i, k, hi, hk => by
    obtain ⟨k, rfl⟩ : ∃ q, k = q + 1 := ⟨k - 1, by omega⟩
    unfold RRf.cognateref02_Check.l2
    rw [if_neg (by omega), List.drop_of_length_le (by omega)]
    rfl
  | n + 1, i, k, hi, hk => by
    obtain ⟨k, rfl⟩ : ∃ q, k = q + 2 := ⟨k - 2, by omega⟩
    have hlt : i < l1.length := by omega
    have e : (i : Int) + 1 = ((i + 1 : Nat) : Int) := by omega
    have hwx := hw _ (List.getElem_mem hlt)
    unfold RRf.cognateref02_Check.l2
    rw [if_pos (by omega), if_pos (by omega), rdL l1 i hlt, letter_eq, Option.bind_some, May_eq l0 l1 _ _ hl0 hwx.1 hwx.2, Option.bind_some]
    have hin := fun f => inner_letters l0 l1 i hlt hl (RRf.cognateref02_Check.l2 (k - i - 1) (wrap64 ((i : Int) + 1)) l0 l1) l1[i].f0 l1[i].f1 l1[i].f2 i 0 k f (by omega) (by omega) rfl
    have e0 : ((0 : Nat) : Int) = 0 := rfl
    rw [e0] at hin
    have hj : ∀ f, RRf.cognateref02_Check.j4 (k + 1) (i : Int) f l0 l1 l1[i].f0 l1[i].f1 l1[i].f2 = RRf.cognateref02_Check.l3 k (i : Int) f 0 l0 l1 l1[i].f0 l1[i].f1 l1[i].f2 := fun f => by rw [RRf.cognateref02_Check.j4]
    rw [hj, hj, hin, hin, wrap_succ (by omega) (by omega), e, outer_letters l0 l1 hl0 hl hw n (i + 1) (k - i - 1) (by omega) (by omega), lettersOk_at l0.length l1 i hlt (seenL l1 i), seenL_not, seenL_succ l1 i hlt, List.drop_zero]
    cases runeOk l1[i].f0 <;> cases (l1.take i).all (fun y => y.f0 != l1[i].f0) <;> cases withinB l0.length l1[i].f1 l1[i].f2 <;> simp
theorem Check_eq (l0 : List ByteArray) (l1 : List Letter) (hw : wfA l1) (k : Nat) (hk : 30000 ≤ k) : RRf.cognateref02_Check.f k l0 l1 = some (chk l0 l1) := by
  obtain ⟨k, rfl⟩ : ∃ q, k = q + 1 := ⟨k - 1, by omega⟩
  have hj : ∀ b, RRf.cognateref02_Check.j0 (k + 1) b l0 l1 = if b = true then some 7 else RRf.cognateref02_Check.l0 k 0 l0 l1 := fun b => by rw [RRf.cognateref02_Check.j0]
  unfold RRf.cognateref02_Check.f
  rw [hj, hj]
  by_cases a : l0.length ≤ 24
  · rw [if_neg (by omega)]
    by_cases b : 1 ≤ l1.length
    · rw [if_neg (by omega)]
      by_cases c : l1.length ≤ 128
      · rw [if_neg (by simp; omega)]
        have hR : ∀ k, 25601 ≤ k → RRf.cognateref02_Check.l2 k 0 l0 l1 = if lettersOk l0.length l1 [] = true then some 0 else some 7 := by
          intro k hk
          have := outer_letters l0 l1 a c hw l1.length 0 k (by omega) (by omega)
          simpa [seenL] using this
        have := outer_names l0 l1 a 25601 _ hR l0.length 0 k (by omega) (by omega)
        have e0 : ((0 : Nat) : Int) = 0 := rfl
        rw [e0] at this
        rw [this, List.drop_zero]
        have e1 : seenN l0 0 = [] := rfl
        rw [e1]
        unfold chk okA
        rw [decide_eq_true a, decide_eq_true b, decide_eq_true c]
        cases namesOk l0 [] <;> cases lettersOk l0.length l1 [] <;> rfl
      · rw [if_pos (by simp; omega), chk_bad (by unfold okA; simp [c])]
    · rw [if_pos (by omega), if_pos rfl, chk_bad (by unfold okA; simp [b])]
  · rw [if_pos (by omega), if_pos rfl, chk_bad (by unfold okA; simp [a])]

/-! ### a rune's number -/
def numOf (l1 : List Letter) (r : Int) : Int := match l1.findIdx? (fun x => x.f0 == r) with | some i => (i : Int) | none => -1
theorem numOf_drop (l1 : List Letter) (r : Int) (i : Nat) (h : i < l1.length) : ((l1.drop i).findIdx? (fun x => x.f0 == r)) = if l1[i].f0 = r then some 0 else ((l1.drop (i + 1)).findIdx? (fun x => x.f0 == r)).map (· + 1) := by
  rw [List.drop_eq_getElem_cons h]
  generalize l1.drop (i + 1) = t
  rw [List.findIdx?_cons]
  by_cases e : l1[i].f0 = r
  · simp [e]
  · simp [e]
theorem Number_loop (l0 : List ByteArray) (l1 : List Letter) (r : Int) (hl : l1.length ≤ 1000000) : ∀ (n i k : Nat), i + n = l1.length → n + 1 ≤ k →
    RRf.cognateref03_Number.l0 k r (i : Int) l0 l1 = some (match (l1.drop i).findIdx? (fun x => x.f0 == r) with | some j => ((i + j : Nat) : Int) | none => -1)
  | 0, i, k, hi, hk => by
    obtain ⟨k, rfl⟩ : ∃ q, k = q + 1 := ⟨k - 1, by omega⟩
    unfold RRf.cognateref03_Number.l0
    rw [if_neg (by omega), List.drop_of_length_le (by omega)]
    rfl
  | n + 1, i, k, hi, hk => by
    obtain ⟨k, rfl⟩ : ∃ q, k = q + 1 := ⟨k - 1, by omega⟩
    have hlt : i < l1.length := by omega
    have e : (i : Int) + 1 = ((i + 1 : Nat) : Int) := by omega
    unfold RRf.cognateref03_Number.l0
    rw [if_pos (by omega), if_pos (by omega), rdL l1 i hlt, numOf_drop l1 r i hlt]
    by_cases h : l1[i].f0 = r
    · rw [if_pos h, if_pos h]
      simp
    · rw [if_neg h, if_neg h, wrap_succ (by omega) (by omega), e, Number_loop l0 l1 r hl n (i + 1) k (by omega) (by omega)]
      cases (l1.drop (i + 1)).findIdx? (fun x => x.f0 == r) with
      | none => rfl
      | some j =>
        show some (((i + 1 + j : Nat)) : Int) = some (((i + (j + 1) : Nat)) : Int)
        congr 2
        omega
theorem Number_eq (l0 : List ByteArray) (l1 : List Letter) (r : Int) (hl : l1.length ≤ 1000000) (k : Nat) (hk : l1.length + 1 ≤ k) : RRf.cognateref03_Number.f k l0 l1 r = some (numOf l1 r) := by
  unfold RRf.cognateref03_Number.f numOf
  have := Number_loop l0 l1 r hl l1.length 0 k (by omega) hk
  simpa using this
theorem Find_loop (l0 : List ByteArray) (l1 : List Letter) (r : Int) : ∀ (k : Nat) (i : Int), RRf.cognateref02_Find.l0 k r i l0 l1 = RRf.cognateref03_Number.l0 k r i l0 l1
  | 0, i => rfl
  | k + 1, i => by
    unfold RRf.cognateref02_Find.l0 RRf.cognateref03_Number.l0
    rw [Find_loop l0 l1 r k]
theorem Find_eq (l0 : List ByteArray) (l1 : List Letter) (r : Int) (hl : l1.length ≤ 1000000) (k : Nat) (hk : l1.length + 1 ≤ k) : RRf.cognateref02_Find.f k l0 l1 r = some (numOf l1 r) := by
  rw [← Number_eq l0 l1 r hl k hk]
  exact Find_loop l0 l1 r k 0
theorem numOf_neg (l1 : List Letter) (r : Int) : numOf l1 r < 0 ↔ (kindsOf l1).contains r = false := by
  unfold numOf kindsOf
  cases h : l1.findIdx? (fun x => x.f0 == r) with
  | none =>
    rw [List.findIdx?_eq_none_iff] at h
    constructor
    · intro _
      rw [Bool.eq_false_iff]
      intro hc
      simp only [List.contains_iff_mem, List.mem_map] at hc
      obtain ⟨x, hx, e⟩ := hc
      have := h x hx
      simp [e] at this
    · intro _
      show (-1 : Int) < 0
      omega
  | some i =>
    rw [List.findIdx?_eq_some_iff_getElem] at h
    obtain ⟨hi, hp, _⟩ := h
    constructor
    · intro h2
      have h2 : (i : Int) < 0 := h2
      omega
    · intro hc
      rw [Bool.eq_false_iff] at hc
      exact absurd (by simp only [List.contains_iff_mem, List.mem_map]; exact ⟨l1[i], List.getElem_mem hi, by simpa using hp⟩) hc

/-! ### a word's letters -/
theorem Read_loop (l0 : List ByteArray) (l1 : List Letter) (s : ByteArray) (hl : l1.length ≤ 128) (hs : s.size ≤ 65536) : ∀ (n pos k : Nat) (acc : List Int) (f : Nat), pos + n = s.size → n * 2 + 200 ≤ k → n ≤ f → acc.length ≤ 64 →
    RRf.cognateref03_Read.l0 k s 64 acc (pos : Int) l0 l1 = some (readP (kindsOf l1) (piecesFrom s f pos) acc) := by
  intro n
  induction n using Nat.strongRecOn with
  | ind n ih =>
    intro pos k acc f hp hk hf ha
    obtain ⟨k, rfl⟩ : ∃ q, k = q + 2 := ⟨k - 2, by omega⟩
    unfold RRf.cognateref03_Read.l0
    by_cases hlt : pos < s.size
    · obtain ⟨f, rfl⟩ : ∃ q, f = q + 1 := ⟨f - 1, by omega⟩
      have f1 := dec_pos s pos
      have f2 := dec_le s pos hlt
      have hd : utf8_DecodeRuneInString.f (s.extract ((pos : Int)).toNat s.size) = some (((Utf8.decode s pos).1 : Int), ((Utf8.decode s pos).2 : Int)) := by
        unfold utf8_DecodeRuneInString.f
        rw [Int.toNat_natCast, decodeGo_tail s pos hlt]
      have hj : ∀ b, RRf.cognateref03_Read.j1 (k + 1) s 64 acc (pos : Int) ((Utf8.decode s pos).1 : Int) ((Utf8.decode s pos).2 : Int) b l0 l1 = if b = true then some ([], 6) else if (kindsOf l1).contains ((Utf8.decode s pos).1 : Int) = false then some ([], 5) else if acc.length = 64 then some ([], 4) else RRf.cognateref03_Read.l0 k s 64 (acc ++ [((Utf8.decode s pos).1 : Int)]) (((pos + (Utf8.decode s pos).2 : Nat)) : Int) l0 l1 := by
        intro b
        have hwr : wrap64 ((pos : Int) + ((Utf8.decode s pos).2 : Int)) = (((pos + (Utf8.decode s pos).2 : Nat)) : Int) := by unfold wrap64; omega
        rw [RRf.cognateref03_Read.j1, Number_eq l0 l1 _ (by omega) k (by omega), Option.bind_some, hwr]
        cases b with
        | true => rfl
        | false =>
          have hF : ¬ (false = true) := by simp
          rw [if_neg hF, if_neg hF]
          cases hc : (kindsOf l1).contains ((Utf8.decode s pos).1 : Int) with
          | false => rw [if_pos ((numOf_neg l1 _).2 hc), if_pos rfl]
          | true =>
            rw [if_neg (fun h => by have := (numOf_neg l1 _).1 h; rw [hc] at this; cases this), if_neg (show ¬ (true = false) by simp)]
            by_cases h64 : acc.length = 64
            · rw [if_pos (by omega), if_pos h64]
            · rw [if_neg (by omega), if_neg h64, if_pos (by omega)]
      rw [if_pos (by omega), if_pos (by omega), if_pos (by omega), hd, Option.bind_some, hj, hj]
      have hpc : piecesFrom s (f + 1) pos = pieceAt s pos :: piecesFrom s f (pos + (Utf8.decode s pos).2) := by rw [piecesFrom, if_pos hlt]
      rw [hpc]
      have hrp : ∀ ps, readP (kindsOf l1) (pieceAt s pos :: ps) acc = if (pieceAt s pos).f3 = true then ([], 6) else if (kindsOf l1).contains (pieceAt s pos).f0 = false then ([], 5) else if acc.length = 64 then ([], 4) else readP (kindsOf l1) ps (acc ++ [(pieceAt s pos).f0]) := fun ps => rfl
      rw [hrp]
      have hih : ¬ acc.length = 64 → RRf.cognateref03_Read.l0 k s 64 (acc ++ [((Utf8.decode s pos).1 : Int)]) (((pos + (Utf8.decode s pos).2 : Nat)) : Int) l0 l1 = some (readP (kindsOf l1) (piecesFrom s f (pos + (Utf8.decode s pos).2)) (acc ++ [((Utf8.decode s pos).1 : Int)])) :=
        fun h64 => ih (s.size - (pos + (Utf8.decode s pos).2)) (by omega) _ k _ f (by omega) (by omega) (by omega) (by simp; omega)
      have hf0 : (pieceAt s pos).f0 = ((Utf8.decode s pos).1 : Int) := rfl
      have hf3 : (pieceAt s pos).f3 = decide ((Utf8.decode s pos).1 = 65533 ∧ (Utf8.decode s pos).2 = 1) := rfl
      rw [hf0, hf3]
      have hF : ¬ (false = true) := by simp
      have hend : ∀ ps, RRf.cognateref03_Read.l0 k s 64 (acc ++ [((Utf8.decode s pos).1 : Int)]) (((pos + (Utf8.decode s pos).2 : Nat)) : Int) l0 l1 = some (readP (kindsOf l1) ps (acc ++ [((Utf8.decode s pos).1 : Int)])) ∨ acc.length = 64 → (if (kindsOf l1).contains ((Utf8.decode s pos).1 : Int) = false then some ([], 5) else if acc.length = 64 then some ([], 4) else RRf.cognateref03_Read.l0 k s 64 (acc ++ [((Utf8.decode s pos).1 : Int)]) (((pos + (Utf8.decode s pos).2 : Nat)) : Int) l0 l1) = some (if (kindsOf l1).contains ((Utf8.decode s pos).1 : Int) = false then ([], 5) else if acc.length = 64 then ([], 4) else readP (kindsOf l1) ps (acc ++ [((Utf8.decode s pos).1 : Int)])) := by
        intro ps h
        by_cases hc : (kindsOf l1).contains ((Utf8.decode s pos).1 : Int) = false
        · rw [if_pos hc, if_pos hc]
        · rw [if_neg hc, if_neg hc]
          by_cases h64 : acc.length = 64
          · rw [if_pos h64, if_pos h64]
          · rw [if_neg h64, if_neg h64]
            exact h.resolve_right h64
      have hor : RRf.cognateref03_Read.l0 k s 64 (acc ++ [((Utf8.decode s pos).1 : Int)]) (((pos + (Utf8.decode s pos).2 : Nat)) : Int) l0 l1 = some (readP (kindsOf l1) (piecesFrom s f (pos + (Utf8.decode s pos).2)) (acc ++ [((Utf8.decode s pos).1 : Int)])) ∨ acc.length = 64 := by
        by_cases h64 : acc.length = 64
        · exact .inr h64
        · exact .inl (hih h64)
      by_cases e : (Utf8.decode s pos).1 = 65533
      · rw [if_pos (by show ((Utf8.decode s pos).1 : Int) = 65533; omega)]
        by_cases e2 : (Utf8.decode s pos).2 = 1
        · have hD : decide ((Utf8.decode s pos).1 = 65533 ∧ (Utf8.decode s pos).2 = 1) = true := decide_eq_true ⟨e, e2⟩
          rw [hD, if_pos (by simp [e2]), if_pos rfl]
        · have hD : decide ((Utf8.decode s pos).1 = 65533 ∧ (Utf8.decode s pos).2 = 1) = false := decide_eq_false (fun h => e2 h.2)
          rw [hD, if_neg (by simp; omega), if_neg hF]
          exact hend _ hor
      · have hD : decide ((Utf8.decode s pos).1 = 65533 ∧ (Utf8.decode s pos).2 = 1) = false := decide_eq_false (fun h => e h.1)
        rw [if_neg (by show ¬ ((Utf8.decode s pos).1 : Int) = 65533; omega), hD, if_neg hF, if_neg hF]
        exact hend _ hor
    · rw [if_neg (by omega)]
      have : piecesFrom s f pos = [] := by
        cases f with
        | zero => rfl
        | succ f => rw [piecesFrom, if_neg hlt]
      rw [this]
      rfl
theorem Letters_eq (l0 : List ByteArray) (l1 : List Letter) (s : ByteArray) (hw : wfA l1) (hs : s.size ≤ 65536) (k : Nat) (hk : 200000 ≤ k) : RRf.cognateref03_Letters.f k l0 l1 s = some (lettersOf l0 l1 s) := by
  unfold RRf.cognateref03_Letters.f lettersOf
  rw [Check_eq l0 l1 hw k (by omega), Option.bind_some]
  by_cases h : chk l0 l1 = 0
  · rw [if_pos h, if_pos h]
    unfold RRf.cognateref03_Read.f pieces cut
    have := Read_loop l0 l1 s (chk_len h) hs s.size 0 k [] s.size (by omega) (by omega) (by omega) (by simp)
    have e0 : ((0 : Nat) : Int) = 0 := rfl
    rw [e0] at this
    rw [this, Option.bind_some, if_pos hs]
  · rw [if_neg h, if_neg h]
    rcases chk_or l0 l1 with h2 | h2
    · exact absurd h2 h
    · rw [h2]

/-! ### lists compared -/
theorem SameInts_loop (a b : List Int) (hl : a.length = b.length) (h : a.length ≤ 1000000) : ∀ (n i k : Nat), i + n = a.length → n + 1 ≤ k → RRf.cognateref03_SameInts.l0 k a b (i : Int) = some (decide (a.drop i = b.drop i))
  | 0, i, k, hi, hk => by
    obtain ⟨k, rfl⟩ : ∃ q, k = q + 1 := ⟨k - 1, by omega⟩
    unfold RRf.cognateref03_SameInts.l0
    rw [if_neg (by omega), List.drop_of_length_le (by omega), List.drop_of_length_le (by omega)]
    simp
  | n + 1, i, k, hi, hk => by
    obtain ⟨k, rfl⟩ : ∃ q, k = q + 1 := ⟨k - 1, by omega⟩
    have h1 : i < a.length := by omega
    have h2 : i < b.length := by omega
    have e : (i : Int) + 1 = ((i + 1 : Nat) : Int) := by omega
    unfold RRf.cognateref03_SameInts.l0
    rw [if_pos (by omega), if_pos (by omega), if_pos (by omega), rd_at a i h1, rd_at b i h2, wrap_succ (by omega) (by omega), e, SameInts_loop a b hl h n (i + 1) k (by omega) (by omega), List.drop_eq_getElem_cons h1, List.drop_eq_getElem_cons h2]
    generalize a.drop (i + 1) = s
    generalize b.drop (i + 1) = t
    by_cases e : a[i] = b[i]
    · rw [if_pos e, e]
      simp
    · rw [if_neg e]
      simp [e]
theorem SameInts_eq (a b : List Int) (h : a.length ≤ 1000000) (k : Nat) (hk : a.length + 1 ≤ k) : RRf.cognateref03_SameInts.f k a b = some (decide (a = b)) := by
  unfold RRf.cognateref03_SameInts.f
  by_cases hl : a.length = b.length
  · rw [if_pos (by omega)]
    have := SameInts_loop a b hl h a.length 0 k (by omega) hk
    simpa using this
  · rw [if_neg (by omega)]
    symm
    rw [decide_eq_false (fun e => hl (by rw [e]))]
theorem SameWords_loop (a b : List ByteArray) (hl : a.length = b.length) (h : a.length ≤ 1000000) : ∀ (n i k : Nat), i + n = a.length → n + 1 ≤ k → RRf.cognateref03_SameWords.l0 k a b (i : Int) = some (decide (a.drop i = b.drop i))
  | 0, i, k, hi, hk => by
    obtain ⟨k, rfl⟩ : ∃ q, k = q + 1 := ⟨k - 1, by omega⟩
    unfold RRf.cognateref03_SameWords.l0
    rw [if_neg (by omega), List.drop_of_length_le (by omega), List.drop_of_length_le (by omega)]
    simp
  | n + 1, i, k, hi, hk => by
    obtain ⟨k, rfl⟩ : ∃ q, k = q + 1 := ⟨k - 1, by omega⟩
    have h1 : i < a.length := by omega
    have h2 : i < b.length := by omega
    have e : (i : Int) + 1 = ((i + 1 : Nat) : Int) := by omega
    have hinj : ((a[i]).toList = (b[i]).toList) ↔ a[i] = b[i] := by
      rw [ByteArray.toList_eq, ByteArray.toList_eq]
      exact ⟨fun h => by
        cases ha : a[i]
        cases hb : b[i]
        rw [ha, hb] at h
        congr 1
        exact Array.toList_inj.1 h, fun h => by rw [h]⟩
    unfold RRf.cognateref03_SameWords.l0
    rw [if_pos (by omega), if_pos (by omega), if_pos (by omega), rdB a i h1, rdB b i h2, wrap_succ (by omega) (by omega), e, SameWords_loop a b hl h n (i + 1) k (by omega) (by omega), List.drop_eq_getElem_cons h1, List.drop_eq_getElem_cons h2]
    generalize a.drop (i + 1) = s
    generalize b.drop (i + 1) = t
    by_cases e : a[i] = b[i]
    · rw [if_pos (hinj.2 e), e]
      simp
    · rw [if_neg (fun h => e (hinj.1 h))]
      simp [e]
theorem SameWords_eq (a b : List ByteArray) (h : a.length ≤ 1000000) (k : Nat) (hk : a.length + 1 ≤ k) : RRf.cognateref03_SameWords.f k a b = some (decide (a = b)) := by
  unfold RRf.cognateref03_SameWords.f
  by_cases hl : a.length = b.length
  · rw [if_pos (by omega)]
    have := SameWords_loop a b hl h a.length 0 k (by omega) hk
    simpa using this
  · rw [if_neg (by omega)]
    symm
    rw [decide_eq_false (fun e => hl (by rw [e]))]
end Go.Proofs.YtdeichibnnbjdaaDoor
end
section
/-
  A letter's class, two ways; the reference functions as contracts in plain words.
-/
set_option linter.unusedSimpArgs false
set_option linter.unusedVariables false
namespace Go.Proofs.YtdeichibnnbjdaaDoor
open Go.RowKit Go.Proofs.YtdeichibnnbjdaaDoorW.PrintWords Go.Proofs.YtdeichibnnbjdaaDoorW.PrintLast Go.Proofs.YtdeichibnnbjdaaDoorW.PrintMore Go.Proofs.YtdeichibnnbjdaaDoor.Ext

/-- No rune twice. -/
def apart : List Letter → Prop
  | [] => True
  | x :: xs => (∀ y ∈ xs, y.f0 ≠ x.f0) ∧ apart xs
namespace Ext
/-- An alphabet that is not too large. -/
def smallA (l0 : List ByteArray) (l1 : List Letter) : Prop := l0.length ≤ 1000 ∧ l1.length ≤ 1000 ∧ wfA l1
instance (l0 : List ByteArray) (l1 : List Letter) : Decidable (smallA l0 l1) := by unfold smallA; exact inferInstance
def runes32 (l : List Int) : Prop := ∀ x ∈ l, -2147483648 ≤ x ∧ x ≤ 2147483647
instance (l : List Int) : Decidable (runes32 l) := by unfold runes32; exact inferInstance
def cognateref01_Text.f (l : List Int) : Option ByteArray := if l.length ≤ 1000000 ∧ runes32 l then some (runesBytes l) else none
theorem cognateref01_Text.calls (A0 : Option Addr) (c0 : Nat) (l0 : List Int) (r : ByteArray) (w : World) (hr0 : Kd.C (Kd.int .i32) w A0 l0.length l0) (hc0 : l0.length ≤ c0) (h : cognateref01_Text.f l0 = some r) :
    Calls Tryd.prog 32 #[.slice A0 l0.length c0] w fun e w' => e = .returned (.string r) ∧ Below w.heap.size w w' := by
  unfold cognateref01_Text.f at h
  split at h
  · rename_i hc
    exact RRf.cognateref01_Text.calls (l0.length + 2) A0 c0 l0 r w hr0 hc0 ((Text_eq l0 hc.1 hc.2 _ (by omega)).trans h)
  · cases h
def cognateref02_May.f (l0 : List ByteArray) (l1 : List Letter) (p m : Int) : Option Bool := if l0.length ≤ 24 ∧ u32 p ∧ u32 m then some (withinB l0.length p m) else none
theorem cognateref02_May.calls (A0 : Option Addr) (c0 : Nat) (l0 : List ByteArray) (A1 : Option Addr) (c1 : Nat) (l1 : List Letter) (p m : Int) (r : Bool) (w : World) (hF : Kd.C Kd.string w A0 l0.length l0) (hcF : l0.length ≤ c0) (hL : Kd.C kLetter w A1 l1.length l1) (hcL : l1.length ≤ c1) (h : cognateref02_May.f l0 l1 p m = some r) :
    Calls Tryd.prog 47 #[.agg #[.slice A0 l0.length c0, .slice A1 l1.length c1], .int .u32 p, .int .u32 m] w fun e w' => e = .returned (.bool r) ∧ Below w.heap.size w w' := by
  unfold cognateref02_May.f at h
  split at h
  · rename_i hc
    exact RRf.cognateref02_May.calls A0 c0 l0 A1 c1 l1 p m r w hF hcF hL hcL ((May_eq l0 l1 p m hc.1 hc.2.1 hc.2.2).trans h)
  · cases h
def cognateref02_Check.f (l0 : List ByteArray) (l1 : List Letter) : Option Int := if smallA l0 l1 then some (chk l0 l1) else none
theorem cognateref02_Check.calls (A0 : Option Addr) (c0 : Nat) (l0 : List ByteArray) (A1 : Option Addr) (c1 : Nat) (l1 : List Letter) (r : Int) (w : World) (hF : Kd.C Kd.string w A0 l0.length l0) (hcF : l0.length ≤ c0) (hL : Kd.C kLetter w A1 l1.length l1) (hcL : l1.length ≤ c1) (h : cognateref02_Check.f l0 l1 = some r) :
    Calls Tryd.prog 42 #[.agg #[.slice A0 l0.length c0, .slice A1 l1.length c1]] w fun e w' => e = .returned (.int .i64 r) ∧ Below w.heap.size w w' := by
  unfold cognateref02_Check.f at h
  split at h
  · rename_i hc
    exact RRf.cognateref02_Check.calls 30000 A0 c0 l0 A1 c1 l1 r w hF hcF hL hcL ((Check_eq l0 l1 hc.2.2 _ (by omega)).trans h)
  · cases h
def cognateref02_Find.f (l0 : List ByteArray) (l1 : List Letter) (x : Int) : Option Int := if l1.length ≤ 1000 then some (numOf l1 x) else none
theorem cognateref02_Find.calls (A0 : Option Addr) (c0 : Nat) (l0 : List ByteArray) (A1 : Option Addr) (c1 : Nat) (l1 : List Letter) (x : Int) (r : Int) (w : World) (hF : Kd.C Kd.string w A0 l0.length l0) (hcF : l0.length ≤ c0) (hL : Kd.C kLetter w A1 l1.length l1) (hcL : l1.length ≤ c1) (h : cognateref02_Find.f l0 l1 x = some r) :
    Calls Tryd.prog 53 #[.agg #[.slice A0 l0.length c0, .slice A1 l1.length c1], .int .i32 x] w fun e w' => e = .returned (.int .i64 r) ∧ Below w.heap.size w w' := by
  unfold cognateref02_Find.f at h
  split at h
  · rename_i hc
    exact RRf.cognateref02_Find.calls (l1.length + 1) A0 c0 l0 A1 c1 l1 x r w hF hcF hL hcL ((Find_eq l0 l1 x (by omega) _ (by omega)).trans h)
  · cases h
def cognateref03_Letters.f (l0 : List ByteArray) (l1 : List Letter) (s : ByteArray) : Option (List Int × Int) := if smallA l0 l1 ∧ s.size ≤ 65536 then some (lettersOf l0 l1 s) else none
theorem cognateref03_Letters.calls (A0 : Option Addr) (c0 : Nat) (l0 : List ByteArray) (A1 : Option Addr) (c1 : Nat) (l1 : List Letter) (s : ByteArray) (r1 : List Int) (r2 : Int) (w : World) (hF : Kd.C Kd.string w A0 l0.length l0) (hcF : l0.length ≤ c0) (hL : Kd.C kLetter w A1 l1.length l1) (hcL : l1.length ≤ c1) (hT : Tabs w) (h : cognateref03_Letters.f l0 l1 s = some (r1, r2)) :
    Calls Tryd.prog 33 #[.agg #[.slice A0 l0.length c0, .slice A1 l1.length c1], .string s] w fun e w' => ∃ v, e = .returned (.tuple #[v, .int .i64 r2]) ∧ Kd.R (Kd.int .i32) 21 w' w.heap.size (fun _ => True) v r1 ∧ Below w.heap.size w w' := by
  unfold cognateref03_Letters.f at h
  split at h
  · rename_i hc
    exact RRf.cognateref03_Letters.calls 200000 A0 c0 l0 A1 c1 l1 s r1 r2 w hF hcF hL hcL hT ((Letters_eq l0 l1 s hc.1.2.2 hc.2 _ (by omega)).trans h)
  · cases h
def cognateref03_SameInts.f (a b : List Int) : Option Bool := if a.length ≤ 1000000 then some (decide (a = b)) else none
theorem cognateref03_SameInts.calls (A0 : Option Addr) (c0 : Nat) (l0 : List Int) (A1 : Option Addr) (c1 : Nat) (l1 : List Int) (r : Bool) (w : World) (h0 : Kd.C (Kd.int .i64) w A0 l0.length l0) (hc0 : l0.length ≤ c0) (h1 : Kd.C (Kd.int .i64) w A1 l1.length l1) (hc1 : l1.length ≤ c1) (h : cognateref03_SameInts.f l0 l1 = some r) :
    Calls Tryd.prog 14 #[.slice A0 l0.length c0, .slice A1 l1.length c1] w fun e w' => e = .returned (.bool r) ∧ Below w.heap.size w w' := by
  unfold cognateref03_SameInts.f at h
  split at h
  · rename_i hc
    refine (RRf.cognateref03_SameInts.calls (l0.length + 1) A0 c0 l0 A1 c1 l1 r w h0 hc0 h1 hc1 ((SameInts_eq l0 l1 hc _ (by omega)).trans h)).mono ?_
    rintro e w' ⟨he, n, rfl⟩
    exact ⟨he, pw_below_drewN (Below.refl _ _) n⟩
  · cases h
def cognateref03_SameWords.f (a b : List ByteArray) : Option Bool := if a.length ≤ 1000000 then some (decide (a = b)) else none
theorem cognateref03_SameWords.calls (A0 : Option Addr) (c0 : Nat) (l0 : List ByteArray) (A1 : Option Addr) (c1 : Nat) (l1 : List ByteArray) (r : Bool) (w : World) (h0 : Kd.C Kd.string w A0 l0.length l0) (hc0 : l0.length ≤ c0) (h1 : Kd.C Kd.string w A1 l1.length l1) (hc1 : l1.length ≤ c1) (h : cognateref03_SameWords.f l0 l1 = some r) :
    Calls Tryd.prog 21 #[.slice A0 l0.length c0, .slice A1 l1.length c1] w fun e w' => e = .returned (.bool r) ∧ Below w.heap.size w w' := by
  unfold cognateref03_SameWords.f at h
  split at h
  · rename_i hc
    refine (RRf.cognateref03_SameWords.calls (l0.length + 1) A0 c0 l0 A1 c1 l1 r w h0 hc0 h1 hc1 ((SameWords_eq l0 l1 hc _ (by omega)).trans h)).mono ?_
    rintro e w' ⟨he, n, rfl⟩
    exact ⟨he, pw_below_drewN (Below.refl _ _) n⟩
  · cases h
end Ext
end Go.Proofs.YtdeichibnnbjdaaDoor
end
section
-- printed by a program of this session (wip/tools/prx.sh: a turned copy of the kit's print, with functions given from outside)
namespace Go.Proofs.YtdeichibnnbjdaaDoor.RRa
open Go.RowKit Go.Proofs.YtdeichibnnbjdaaDoor Go.Proofs.YtdeichibnnbjdaaDoor.Ext Go.Proofs.YtdeichibnnbjdaaDoorW.PrintWords Go.Proofs.YtdeichibnnbjdaaDoorW.PrintLast Go.Proofs.YtdeichibnnbjdaaDoorW.PrintMore
attribute [local go_sem] max2_int min2_int max_two min_two max_three min_three max_four min_four   -- for this text's walks alone
set_option linter.unusedVariables false
set_option linter.unusedSimpArgs false



end Go.Proofs.YtdeichibnnbjdaaDoor.RRa
end
