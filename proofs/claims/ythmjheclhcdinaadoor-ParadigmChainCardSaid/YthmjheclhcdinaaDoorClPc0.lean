/-
  ParadigmChain: of any alphabet, vowels, paradigm, cell and word: a cell's form is its affixes put one behind the other, as long as what comes of it may be handed in; its stems, put, make the word; a form of a cell without shapes has the stem again; no condition but that the tables of utf8 stand as their text lays them.
-/
import Derived.Test.YthmjheclhcdinaaDoorClP4
import Derived.Test.YthmjheclhcdinaaDoorProg
import Derived.Below
import Derived.Deep.Draws
import Derived.Deep.AppendLies
import Derived.Maps.AppendAt
import Derived.OwnWalk
import Derived.Laws.BytesArg
import Derived.Laws.MakeOwn
import Derived.Laws.OwnMore
import Derived.Deep.OwnRows
import Derived.Tactics
import Derived.Lib.ConvBytes
import Derived.Laws.Slices
import Derived.WalkKit
import Derived.KernelRfl
import Derived.RowKit3
import Derived.Deep.LoopGhost
import Derived.Deep.QuietTactic
import Derived.BigQuiet
import Derived.WideLaws
import Derived.Deep.DeepCutAuto
import Derived.Deep.CutBlock
import Derived.Deep.RegionHeld3
import Derived.Laws.Rows
import Derived.Lib.AppendStr
import Derived.ArgAppend
import Derived.Laws.IdiomCopy
import Derived.OrdersHeld
import Derived.Laws.BitsLemmas
import Derived.RowKit
section
-- printed by a program of this session (wip/tools/prx.sh: a turned copy of the kit's print, with functions given from outside)
namespace Go.Proofs.YthmjheclhcdinaaDoor.RPChain
open Go.RowKit Go.Proofs.YthmjheclhcdinaaDoor Go.Proofs.YthmjheclhcdinaaDoor.Ext Go.Proofs.YthmjheclhcdinaaDoorW.PrintWords Go.Proofs.YthmjheclhcdinaaDoorW.PrintLast Go.Proofs.YthmjheclhcdinaaDoorW.PrintMore
attribute [local go_sem] max2_int min2_int max_two min_two max_three min_three max_four min_four   -- for this text's walks alone
set_option linter.unusedVariables false
set_option linter.unusedSimpArgs false



end Go.Proofs.YthmjheclhcdinaaDoor.RPChain
end
section
-- printed by a program of this session (wip/tools/prx.sh: a turned copy of the kit's print, with functions given from outside)
namespace Go.Proofs.YthmjheclhcdinaaDoor.RPChain
open Go.RowKit Go.Proofs.YthmjheclhcdinaaDoor Go.Proofs.YthmjheclhcdinaaDoor.Ext Go.Proofs.YthmjheclhcdinaaDoorW.PrintWords Go.Proofs.YthmjheclhcdinaaDoorW.PrintLast Go.Proofs.YthmjheclhcdinaaDoorW.PrintMore
attribute [local go_sem] max2_int min2_int max_two min_two max_three min_three max_four min_four   -- for this text's walks alone
set_option linter.unusedVariables false
set_option linter.unusedSimpArgs false

/-! ### cognatelaw17_much: function 26 -/
mutual
def cognatelaw17_much.j0 : Nat → Bool → ByteArray → List (S56) → Option (Bool)
  | 0, _, _, _ => none
  | k + 1, x14, x102000, x102001 => if x14 = true then (some true) else (cognatelaw17_much.l0 k 0 x102000 x102001)
def cognatelaw17_much.l0 : Nat → Int → ByteArray → List (S56) → Option (Bool)
  | 0, _, _, _ => none
  | k + 1, x5, x102000, x102001 => if x5 < (x102001.length : Int) then (if 0 ≤ x5 then (if (((rd_T56 x102001 x5).f1).length : Int) > 60 then (some true) else (cognatelaw17_much.l0 k (wrap64 (x5 + 1)) x102000 x102001)) else (none)) else (some false)
end
def cognatelaw17_much.f (k : Nat) (a0_0 : ByteArray) (l0_1 : List (S56)) (a1 : ByteArray) : Option (Bool) := if (a1.size : Int) > 2000 then (cognatelaw17_much.j0 k true a0_0 l0_1) else (cognatelaw17_much.j0 k (decide ((l0_1.length : Int) > 600)) a0_0 l0_1)
set_option maxHeartbeats 8000000 in
set_option maxRecDepth 100000 in
theorem cognatelaw17_much.calls (k : Nat) (a0_0 : ByteArray) (A0_1 : Option Addr) (c0_1 : Nat) (l0_1 : List (S56)) (a1 : ByteArray) (r : Bool) (w : World) (hr0_1 : Kd.C k56 w A0_1 l0_1.length l0_1) (hc0_1 : l0_1.length ≤ c0_1) (h : cognatelaw17_much.f k a0_0 l0_1 a1 = some r) :
    Calls Tryd.prog 26 #[.agg #[.string a0_0, .slice A0_1 l0_1.length c0_1], .string a1] w fun e w' => e = .returned (.bool r) ∧ Below w.heap.size w w' := by
  have hu45 := Tryd.underlying45
  have HR0_1 := Aside0.mk hr0_1
  have HC0_1 := Aside0.mk hc0_1
  clear hr0_1 hc0_1
  have HB := Aside0.mk (Below.refl w.heap.size w)
  have H : (if (a1.size : Int) > 2000 then (cognatelaw17_much.j0 k true a0_0 l0_1) else (cognatelaw17_much.j0 k (decide ((l0_1.length : Int) > 600)) a0_0 l0_1)) = some r := h
  clear h
  have HC3 := Aside0.mk H
  clear H
  go_enter Tryd.func26, Tryd.ntmps26
  go_upto_region 1 with (first | ((with_reducible refine gate_dst (N := 2) rfl ?_); (try (refine gate_guard (by rfl) ?_; dsimp only)); refine box_event ?hg (N := 2) ?hd (cs := #[.string a0_0, .slice A0_1 l0_1.length c0_1]) (t := 45) ?hr ?_; (case hd => rfl); (case hg => rfl); (case hr => first | (go_simp; done) | (go_simp; rfl)); intro gb101 hg w4 hbox hb; have n0_ := Aside0.mk (below_step (by repeat (first | (with_reducible first | exact HB.out | apply below_alloc | apply pw_below_drewN | apply below_drew1) | exact HB.out)) hb); have n1_ := Aside0.mk (hbox); have n2_ := Aside0.mk ((by rw [hg]; exact (below_size (by repeat (first | (with_reducible first | exact HB.out | apply below_alloc | apply pw_below_drewN | apply below_drew1) | exact HB.out))) : w.heap.size ≤ gb101)); have n3_ := Aside0.mk ((by rw [hg]; exact (below_size (by repeat (first | (with_reducible first | exact HB.out | apply below_alloc | apply pw_below_drewN | apply below_drew1) | exact HB.out))) : w.heap.size ≤ gb101)); clear HB; have HB := n0_; have BK101 := n1_; have GW101 := n2_; have GE101 := n3_; clear n0_ n1_ n2_ n3_; clear hb hbox hg))
  (try simp only [Act.put, List.setIfInBounds_toArray, List.set_cons_zero, List.set_cons_succ])
  go_cut [14] (fun v14 wc => ∃ (kq : Nat) (x14_2 : Bool), v14 = .bool x14_2 ∧ Aside0 (cognatelaw17_much.j0 kq x14_2 a0_0 l0_1 = some r) ∧ Aside0 (kq ≤ k) ∧ Aside0 (wc.heap[gb101]? = some (.cells #[.string a0_0, (.slice A0_1 l0_1.length c0_1)] 45 (0, 0))) ∧ Aside0 (Below w.heap.size w wc))
  case first =>
    have H := HC3.out
    clear HC3
    by_cases c5 : (a1.size : Int) > 2000
    · rw [if_pos c5] at H
      have c5b0 : decide (2000 < (a1.size : Int)) = true := decide_eq_true c5
      have c5b1 : decide (2000 < a1.size) = true := decide_eq_true (by omega)
      clear c5
      (first | rw [c5b0] | (simp only [i64_w, i32_w]; rw [c5b0]) | skip)
      have H' := Aside0.mk H
      clear H
      go_wp2
      go_meet
      case rel => exact ⟨_, (true), (by first | rfl | (simp; done) | (simp [*]; done)), H', ⟨by first | omega | exact Nat.le_refl _⟩, ⟨by (with_reducible repeat (first | refine blk_drewN ?_ _ | refine blk_drew ?_ | refine blk_alloc ?_ _)); exact BK101.out⟩, ⟨by repeat (first | (with_reducible first | exact HB.out | apply below_alloc | apply pw_below_drewN | apply below_drew1 | refine below_set ?_ GE101.out) | exact HB.out)⟩⟩
    · rw [if_neg c5] at H
      have c5b0 : decide (2000 < (a1.size : Int)) = false := decide_eq_false c5
      have c5b1 : decide (2000 < a1.size) = false := decide_eq_false (by omega)
      clear c5
      (first | rw [c5b0] | (simp only [i64_w, i32_w]; rw [c5b0]) | skip)
      have H' := Aside0.mk H
      clear H
      have hcz6_0 : w4.cell? ⟨gb101, 0, none⟩ = some (.string a0_0) := (blk_cell BK101.out 0).trans rfl
      have hcz6_1 : w4.cell? ⟨gb101, 1, none⟩ = some (.slice A0_1 l0_1.length c0_1) := (blk_cell BK101.out 1).trans rfl
      have hfz6_0 := blk_frozen BK101.out 0
      have hfz6_1 := blk_frozen BK101.out 1
      go_wp2
      go_meet
      case rel => exact ⟨_, (decide ((l0_1.length : Int) > 600)), (by first | rfl | (simp; done) | (simp [*]; done)), H', ⟨by first | omega | exact Nat.le_refl _⟩, ⟨by (with_reducible repeat (first | refine blk_drewN ?_ _ | refine blk_drew ?_ | refine blk_alloc ?_ _)); exact BK101.out⟩, ⟨by repeat (first | (with_reducible first | exact HB.out | apply below_alloc | apply pw_below_drewN | apply below_drew1 | refine below_set ?_ GE101.out) | exact HB.out)⟩⟩
  case rest =>
    clear HC3
    try clear c2
    try clear p2
    try clear c5
    try clear c5b0
    try clear c5b1
    try clear hcz6_0
    try clear hcz6_1
    try clear hfz6_0
    try clear hfz6_1
    obtain ⟨kq, x14_2, rfl, HA, HJ2, BK101, HB⟩ := hcut
    cases kq with
    | zero => exact absurd HA.out (by simp [cognatelaw17_much.j0])
    | succ kj2 =>
      have H := HA.out
      clear HA
      simp only [cognatelaw17_much.j0] at H
      by_cases c7 : x14_2 = true
      · subst c7
        have H1 : (some true) = some r := by rw [if_pos rfl] at H; exact H
        clear H
        have H := H1
        clear H1
        obtain rfl := Option.some.inj H
        go_wp2
        go_ret
        exact ⟨by first | rfl | (simp [errW_none, errW_some] <;> rfl) | (simp [*, errW_none, errW_some] <;> rfl), by repeat (first | (with_reducible first | exact HB.out | apply below_alloc | apply pw_below_drewN | apply below_drew1 | refine below_set ?_ GE101.out) | exact HB.out)⟩
      · replace c7 := Bool.eq_false_iff.mpr c7
        subst c7
        have H1 : (cognatelaw17_much.l0 kj2 0 a0_0 l0_1) = some r := by rw [if_neg (show ¬ (false = true) by decide)] at H; exact H
        clear H
        have H := H1
        clear H1
        have H' := Aside0.mk H
        clear H
        go_wp2
        go_loopg [5] kj2 (fun kq v5 w' => ∃ (x5_2 : Int), v5 = .int .i64 x5_2 ∧ Aside0 (cognatelaw17_much.l0 kq x5_2 a0_0 l0_1 = some r) ∧ Aside0 (kq ≤ kj2) ∧ Aside0 (w'.heap[gb101]? = some (.cells #[.string a0_0, (.slice A0_1 l0_1.length c0_1)] 45 (0, 0))) ∧ Aside0 (Below w.heap.size w w'))
        case atStart => exact ⟨(0), (by first | rfl | (simp; done) | (simp [*]; done)), H', ⟨Nat.le_refl _⟩, ⟨by (with_reducible repeat (first | refine blk_drewN ?_ _ | refine blk_drew ?_ | refine blk_alloc ?_ _)); exact BK101.out⟩, ⟨by repeat (first | (with_reducible first | exact HB.out | apply below_alloc | apply pw_below_drewN | apply below_drew1 | refine below_set ?_ GE101.out) | exact HB.out)⟩⟩
        case round =>
          clear H'
          try clear c2
          try clear p2
          try clear c5
          try clear c5b0
          try clear c5b1
          try clear c7
          try clear hcz6_0
          try clear hcz6_1
          try clear hfz6_0
          try clear hfz6_1
          try clear p2
          obtain ⟨x5_2, rfl, HA, HK2, BK101, HB⟩ := hrel
          cases gk with
          | zero => exact absurd HA.out (by simp [cognatelaw17_much.l0])
          | succ k2 =>
            have H := HA.out
            clear HA
            simp only [cognatelaw17_much.l0] at H
            by_cases c8 : x5_2 < (l0_1.length : Int)
            · rw [if_pos c8] at H
              have c8b0 : decide (x5_2 < (l0_1.length : Int)) = true := decide_eq_true c8
              clear c8
              by_cases c9 : 0 ≤ x5_2
              · rw [if_pos c9] at H
                have c9b0 : decide (0 ≤ x5_2) = true := decide_eq_true c9
                clear c9
                by_cases c10 : (((rd_T56 l0_1 x5_2).f1).length : Int) > 60
                · rw [if_pos c10] at H
                  have c10b0 : decide (60 < (((rd_T56 l0_1 x5_2).f1).length : Int)) = true := decide_eq_true c10
                  have c10b1 : decide (60 < ((rd_T56 l0_1 x5_2).f1).length) = true := decide_eq_true (by omega)
                  clear c10
                  obtain rfl := Option.some.inj H
                  have hcz11_0 : wr.cell? ⟨gb101, 0, none⟩ = some (.string a0_0) := (blk_cell BK101.out 0).trans rfl
                  have hcz11_1 : wr.cell? ⟨gb101, 1, none⟩ = some (.slice A0_1 l0_1.length c0_1) := (blk_cell BK101.out 1).trans rfl
                  have hfz11_0 := blk_frozen BK101.out 0
                  have hfz11_1 := blk_frozen BK101.out 1
                  have p102 : 0 ≤ (x5_2 : Int) := of_decide_eq_true (by first | (with_reducible assumption) | assumption)
                  have q102 : x5_2 < (l0_1.length : Int) := of_decide_eq_true (by first | (with_reducible assumption) | assumption)
                  obtain ⟨ad102, A102_1, c102_1, e102, hx102_0, hx102_1, hl102_1, hi102_1⟩ := at_T56 HR0_1.out x5_2 p102 q102
                  cases e102
                  replace hx102_0 := (HB.out.cell (World.block_lt_of_cell? w _ hx102_0)).trans hx102_0
                  replace hx102_1 := (HB.out.cell (World.block_lt_of_cell? w _ hx102_1)).trans hx102_1
                  have HR102_1 := Aside0.mk hi102_1
                  have HC102_1 := Aside0.mk hl102_1
                  clear hi102_1 hl102_1
                  replace p102 := eq_true p102
                  replace q102 := eq_true q102
                  go_wp2
                  go_ret
                  exact ⟨by first | rfl | (simp [errW_none, errW_some] <;> rfl) | (simp [*, errW_none, errW_some] <;> rfl), by repeat (first | (with_reducible first | exact HB.out | apply below_alloc | apply pw_below_drewN | apply below_drew1 | refine below_set ?_ GE101.out) | exact HB.out)⟩
                · rw [if_neg c10] at H
                  have c10b0 : decide (60 < (((rd_T56 l0_1 x5_2).f1).length : Int)) = false := decide_eq_false c10
                  have c10b1 : decide (60 < ((rd_T56 l0_1 x5_2).f1).length) = false := decide_eq_false (by omega)
                  clear c10
                  have H' := Aside0.mk H
                  clear H
                  have hcz12_0 : wr.cell? ⟨gb101, 0, none⟩ = some (.string a0_0) := (blk_cell BK101.out 0).trans rfl
                  have hcz12_1 : wr.cell? ⟨gb101, 1, none⟩ = some (.slice A0_1 l0_1.length c0_1) := (blk_cell BK101.out 1).trans rfl
                  have hfz12_0 := blk_frozen BK101.out 0
                  have hfz12_1 := blk_frozen BK101.out 1
                  have p102 : 0 ≤ (x5_2 : Int) := of_decide_eq_true (by first | (with_reducible assumption) | assumption)
                  have q102 : x5_2 < (l0_1.length : Int) := of_decide_eq_true (by first | (with_reducible assumption) | assumption)
                  obtain ⟨ad102, A102_1, c102_1, e102, hx102_0, hx102_1, hl102_1, hi102_1⟩ := at_T56 HR0_1.out x5_2 p102 q102
                  cases e102
                  replace hx102_0 := (HB.out.cell (World.block_lt_of_cell? w _ hx102_0)).trans hx102_0
                  replace hx102_1 := (HB.out.cell (World.block_lt_of_cell? w _ hx102_1)).trans hx102_1
                  have HR102_1 := Aside0.mk hi102_1
                  have HC102_1 := Aside0.mk hl102_1
                  clear hi102_1 hl102_1
                  replace p102 := eq_true p102
                  replace q102 := eq_true q102
                  go_wp2
                  go_roundg k2
                  case measure => have := HJ2.out; have := HK2.out; omega
                  case rel => exact ⟨(wrap64 (x5_2 + 1)), (by first | rfl | (simp; done) | (simp [*]; done)), H', ⟨by have := HJ2.out; have := HK2.out; omega⟩, ⟨by (with_reducible repeat (first | refine blk_drewN ?_ _ | refine blk_drew ?_ | refine blk_alloc ?_ _)); exact BK101.out⟩, ⟨by repeat (first | (with_reducible first | exact HB.out | apply below_alloc | apply pw_below_drewN | apply below_drew1 | refine below_set ?_ GE101.out) | exact HB.out)⟩⟩
              · rw [if_neg c9] at H
                exact absurd H (by simp)
            · rw [if_neg c8] at H
              have c8b0 : decide (x5_2 < (l0_1.length : Int)) = false := decide_eq_false c8
              clear c8
              obtain rfl := Option.some.inj H
              have hcz13_0 : wr.cell? ⟨gb101, 0, none⟩ = some (.string a0_0) := (blk_cell BK101.out 0).trans rfl
              have hcz13_1 : wr.cell? ⟨gb101, 1, none⟩ = some (.slice A0_1 l0_1.length c0_1) := (blk_cell BK101.out 1).trans rfl
              have hfz13_0 := blk_frozen BK101.out 0
              have hfz13_1 := blk_frozen BK101.out 1
              go_wp2
              go_ret
              exact ⟨by first | rfl | (simp [errW_none, errW_some] <;> rfl) | (simp [*, errW_none, errW_some] <;> rfl), by repeat (first | (with_reducible first | exact HB.out | apply below_alloc | apply pw_below_drewN | apply below_drew1 | refine below_set ?_ GE101.out) | exact HB.out)⟩

/-! ### word_Check: function 28 -/
def word_Check.f (l0_0 : List ByteArray) (l0_1 : List (S84)) (a1 : ByteArray) : Option (Int) := (word_Letters.f l0_0 l0_1 a1).bind fun bt104 => (some bt104.2)
set_option maxHeartbeats 8000000 in
set_option maxRecDepth 100000 in
theorem word_Check.calls (A0_0 : Option Addr) (c0_0 : Nat) (l0_0 : List ByteArray) (A0_1 : Option Addr) (c0_1 : Nat) (l0_1 : List (S84)) (a1 : ByteArray) (r : Int) (w : World) (hr0_0 : Kd.C Kd.string w A0_0 l0_0.length l0_0) (hc0_0 : l0_0.length ≤ c0_0) (hr0_1 : Kd.C k84 w A0_1 l0_1.length l0_1) (hc0_1 : l0_1.length ≤ c0_1) (hT : Tabs w) (h : word_Check.f l0_0 l0_1 a1 = some r) :
    Calls Tryd.prog 28 #[.agg #[.slice A0_0 l0_0.length c0_0, .slice A0_1 l0_1.length c0_1], .string a1] w fun e w' => e = .returned (.int .i64 r) ∧ Below w.heap.size w w' := by
  have hu25 := Tryd.underlying25
  have HR0_0 := Aside0.mk hr0_0
  have HC0_0 := Aside0.mk hc0_0
  clear hr0_0 hc0_0
  have HR0_1 := Aside0.mk hr0_1
  have HC0_1 := Aside0.mk hc0_1
  clear hr0_1 hc0_1
  have HB := Aside0.mk (Below.refl w.heap.size w)
  have HT := Aside0.mk hT
  clear hT
  have H : ((word_Letters.f l0_0 l0_1 a1).bind fun bt104 => (some bt104.2)) = some r := h
  clear h
  replace H := Option.bind_eq_some_iff.mp H
  obtain ⟨⟨t104, t107⟩, A30, H⟩ := H
  replace H : (some t107) = some r := H
  have A3 := Aside0.mk A30
  clear A30
  obtain rfl := Option.some.inj H
  go_enter Tryd.func28, Tryd.ntmps28
  go_wp2_with (first | ((with_reducible refine gate_dst (N := 2) rfl ?_); refine box_event ?hg (N := 2) ?hd (cs := #[.slice A0_0 l0_0.length c0_0, .slice A0_1 l0_1.length c0_1]) (t := 25) ?hr ?_; (case hd => rfl); (case hg => rfl); (case hr => first | (go_simp; done) | (go_simp; rfl)); intro gb103 hg w4 hbox hb; have n0_ := Aside0.mk (below_step (by repeat (first | (with_reducible first | exact HB.out | apply below_alloc | apply pw_below_drewN | apply below_drew1) | exact HB.out)) hb); have n1_ := Aside0.mk (hbox); have n2_ := Aside0.mk ((by rw [hg]; exact (below_size (by repeat (first | (with_reducible first | exact HB.out | apply below_alloc | apply pw_below_drewN | apply below_drew1) | exact HB.out))) : w.heap.size ≤ gb103)); have n3_ := Aside0.mk ((by rw [hg]; exact (below_size (by repeat (first | (with_reducible first | exact HB.out | apply below_alloc | apply pw_below_drewN | apply below_drew1) | exact HB.out))) : w.heap.size ≤ gb103)); clear HB; have HB := n0_; have BK103 := n1_; have GW103 := n2_; have GE103 := n3_; clear n0_ n1_ n2_ n3_; clear hb hbox hg; have hcz5_0 : w4.cell? ⟨gb103, 0, none⟩ = some (.slice A0_0 l0_0.length c0_0) := (blk_cell BK103.out 0).trans rfl; have hcz5_1 : w4.cell? ⟨gb103, 1, none⟩ = some (.slice A0_1 l0_1.length c0_1) := (blk_cell BK103.out 1).trans rfl; have hfz5_0 := blk_frozen BK103.out 0; have hfz5_1 := blk_frozen BK103.out 1) | ((with_reducible refine gate_callee (f := 37) rfl ?_); refine goesL_ (some 10) rfl rfl Tryd.func37 (by kernel_rfl) rfl #[.agg #[.slice A0_0 l0_0.length c0_0, .slice A0_1 l0_1.length c0_1], .string a1] rfl (by (try simp only [List.map_toArray, List.map_cons, List.map_nil]); first | done | rfl | (simp only [List.length_drop, List.length_take]; rfl)) ?_; (with_reducible refine (word_Letters.calls _ _ l0_0 _ _ l0_1 a1 t104 t107 _ ?side1 ?side2 ?side3 ?side4 ?side5 A3.out).mono ?_); (case side1 => repeat (first | exact (Kd.C_below HR0_0.out HB.out) | (with_reducible refine Kd.C_alloc ?_ _) | (with_reducible refine Kd.C_drewN ?_ _) | (with_reducible refine Kd.C_drew ?_))); (case side2 => exact HC0_0.out); (case side3 => repeat (first | exact (Kd.C_below HR0_1.out HB.out) | (with_reducible refine Kd.C_alloc ?_ _) | (with_reducible refine Kd.C_drewN ?_ _) | (with_reducible refine Kd.C_drew ?_))); (case side4 => exact HC0_1.out); (case side5 => exact Tabs.below HT.out (by repeat (first | (with_reducible first | exact HB.out | apply below_alloc | apply pw_below_drewN | apply below_drew1 | refine below_set ?_ GE103.out) | exact HB.out))); rintro e w6 ⟨v105, rfl, ho0, hb⟩; refine ⟨_, rfl, ?_⟩; have n0_ := Aside0.mk (Kd.R_lower ho0 (below_size (by repeat (first | (with_reducible first | exact HB.out | apply below_alloc | apply pw_below_drewN | apply below_drew1 | refine below_set ?_ GE103.out) | exact HB.out)))); have n1_ := Aside0.mk (blk_below (g := gb103) (o := .cells #[.slice A0_0 l0_0.length c0_0, .slice A0_1 l0_1.length c0_1] 25 (0, 0)) (by (with_reducible repeat (first | refine blk_drewN ?_ _ | refine blk_drew ?_ | refine blk_alloc ?_ _)); exact BK103.out) hb); have n2_ := Aside0.mk (below_step (by repeat (first | (with_reducible first | exact HB.out | apply below_alloc | apply pw_below_drewN | apply below_drew1 | refine below_set ?_ GE103.out) | exact HB.out)) hb); clear BK103; clear HB; have HO106 := n0_; have BK103 := n1_; have HB := n2_; clear n0_ n1_ n2_; (try clear hb); (try clear hb2); (try clear hk); (try clear hi); (try clear ho0)))
  go_ret
  exact ⟨by first | rfl | (simp [errW_none, errW_some] <;> rfl) | (simp [*, errW_none, errW_some] <;> rfl), by repeat (first | (with_reducible first | exact HB.out | apply below_alloc | apply pw_below_drewN | apply below_drew1 | refine below_set ?_ GE103.out) | exact HB.out)⟩

end Go.Proofs.YthmjheclhcdinaaDoor.RPChain
end
section
-- printed by a program of this session (wip/tools/prx.sh: a turned copy of the kit's print, with functions given from outside)
namespace Go.Proofs.YthmjheclhcdinaaDoor.RPChain
open Go.RowKit Go.Proofs.YthmjheclhcdinaaDoor Go.Proofs.YthmjheclhcdinaaDoor.Ext Go.Proofs.YthmjheclhcdinaaDoorW.PrintWords Go.Proofs.YthmjheclhcdinaaDoorW.PrintLast Go.Proofs.YthmjheclhcdinaaDoorW.PrintMore
attribute [local go_sem] max2_int min2_int max_two min_two max_three min_three max_four min_four   -- for this text's walks alone
set_option linter.unusedVariables false
set_option linter.unusedSimpArgs false

/-! ### cognatelaw17_ParadigmChain: function 5 -/
mutual
def cognatelaw17_ParadigmChain.l0 : Nat → Int → Int → ByteArray → ByteArray → Int → List ByteArray → Int → List ByteArray → List (S84) → ByteArray → List (S56) → Option (Bool)
  | 0, _, _, _, _, _, _, _, _, _, _, _ => none
  | k + 1, x1, x3, x4, x12, x13, x14, x16, x109000, x109001, x110000, x110001 => if x16 < (x14.length : Int) then (if 0 ≤ x16 then ((paradigm_Form.f x109000 x109001 x1 x110000 x110001 x3 (rdOf ByteArray.empty x14 x16)).bind fun bt119 => (if bt119.2 = 0 then (if bt119.1.toList = x4.toList then (cognatelaw17_ParadigmChain.l0 k x1 x3 x4 x12 x13 x14 (wrap64 (x16 + 1)) x109000 x109001 x110000 x110001) else (some false)) else (some false))) else (none)) else (cognatelaw17_ParadigmChain.l1 k x1 x3 x4 x12 x13 x4 false 0 x109000 x109001 x110000 x110001)
def cognatelaw17_ParadigmChain.l1 : Nat → Int → Int → ByteArray → ByteArray → Int → ByteArray → Bool → Int → List ByteArray → List (S84) → ByteArray → List (S56) → Option (Bool)
  | 0, _, _, _, _, _, _, _, _, _, _, _, _ => none
  | k + 1, x1, x3, x4, x12, x13, x19, x20, x21, x109000, x109001, x110000, x110001 => if 0 ≤ x3 then (if x3 < (x110001.length : Int) then (if x21 < (((rd_T56 x110001 x3).f1).length : Int) then (if 0 ≤ x21 then (if x20 = true then (cognatelaw17_ParadigmChain.j2 k x1 x3 x4 x12 x13 x19 true x21 x109000 x109001 x110000 x110001 ((rd_T49 ((rd_T56 x110001 x3).f1) x21).f0) ((rd_T49 ((rd_T56 x110001 x3).f1) x21).f1) ((rd_T49 ((rd_T56 x110001 x3).f1) x21).f2) ((rd_T49 ((rd_T56 x110001 x3).f1) x21).f3)) else (cognatelaw17_ParadigmChain.j2 k x1 x3 x4 x12 x13 x19 (((rd_T49 ((rd_T56 x110001 x3).f1) x21).f0) == 5) x21 x109000 x109001 x110000 x110001 ((rd_T49 ((rd_T56 x110001 x3).f1) x21).f0) ((rd_T49 ((rd_T56 x110001 x3).f1) x21).f1) ((rd_T49 ((rd_T56 x110001 x3).f1) x21).f2) ((rd_T49 ((rd_T56 x110001 x3).f1) x21).f3))) else (none)) else (if x13 = 0 then (cognatelaw17_ParadigmChain.j3 k x1 x3 x4 x12 x20 (x19.toList != x12.toList) x109000 x109001 x110000 x110001) else (cognatelaw17_ParadigmChain.j3 k x1 x3 x4 x12 x20 true x109000 x109001 x110000 x110001))) else (none)) else (none)
def cognatelaw17_ParadigmChain.j2 : Nat → Int → Int → ByteArray → ByteArray → Int → ByteArray → Bool → Int → List ByteArray → List (S84) → ByteArray → List (S56) → Int → ByteArray → ByteArray → Int → Option (Bool)
  | 0, _, _, _, _, _, _, _, _, _, _, _, _, _, _, _, _ => none
  | k + 1, x1, x3, x4, x12, x13, x19, x20, x21, x109000, x109001, x110000, x110001, x125000, x125001, x125002, x125003 => (paradigm_Put.f x109000 x109001 x1 x19 x125000 x125001 x125002 x125003).bind fun bt125 => (if bt125.2 = 0 then (cognatelaw17_ParadigmChain.l1 k x1 x3 x4 x12 x13 bt125.1 x20 (wrap64 (x21 + 1)) x109000 x109001 x110000 x110001) else (if x13 = 0 then ((cognatelaw17_long.f x19).bind fun t127 => (some (decide (t127 > 64)))) else (some true)))
def cognatelaw17_ParadigmChain.j3 : Nat → Int → Int → ByteArray → ByteArray → Bool → Bool → List ByteArray → List (S84) → ByteArray → List (S56) → Option (Bool)
  | 0, _, _, _, _, _, _, _, _, _, _ => none
  | k + 1, x1, x3, x4, x12, x20, x136, x109000, x109001, x110000, x110001 => if x136 = true then (some false) else (if x20 = true then (some true) else ((word_Check.f x109000 x109001 x12).bind fun t128 => (if t128 = 0 then ((paradigm_Stems.f x109000 x109001 x1 x110000 x110001 x3 x12).bind fun bt129 => (if bt129.2 = 0 then (if (bt129.1.length : Int) = 1 then (if 0 < (bt129.1.length : Int) then (some ((rdOf ByteArray.empty bt129.1 0).toList == x4.toList)) else (none)) else (some false)) else (some false))) else (some true))))
end
def cognatelaw17_ParadigmChain.f (k : Nat) (l0_0 : List ByteArray) (l0_1 : List (S84)) (a1 : Int) (a2_0 : ByteArray) (l2_1 : List (S56)) (a3 : Int) (a4 : ByteArray) : Option (Bool) := (cognatelaw17_alive.f).bind fun t110 => (if t110 = true then ((cognatelaw17_much.f k a2_0 l2_1 a4).bind fun t111 => (if t111 = true then (some true) else ((paradigm_Form.f l0_0 l0_1 a1 a2_0 l2_1 a3 a4).bind fun bt112 => ((paradigm_Stems.f l0_0 l0_1 a1 a2_0 l2_1 a3 a4).bind fun bt114 => (if bt114.2 = 0 then (cognatelaw17_ParadigmChain.l0 k a1 a3 a4 bt112.1 bt112.2 bt114.1 0 l0_0 l0_1 a2_0 l2_1) else (if (bt114.1.length : Int) = 0 then (some (bt112.2 != 0)) else (some false))))))) else (some false))
def cognatelaw17_ParadigmChain.T13 : Bool × List (List Nat × List Nat) := (true, [([], []), ([], []), ([], []), ([], []), ([], []), ([], []), ([4, 5], [4, 5]), ([6], [6]), ([0, 1, 2, 3, 7], [0, 1, 2, 3, 7]), ([8], [8]), ([9], [9]), ([9], [9]), ([10, 8, 0, 1, 2, 3, 4, 5, 6, 7, 8, 9, 10], [10]), ([11, 12, 0, 1, 2, 3, 4, 5, 6, 7, 8, 9, 10, 11, 12], [11])])
def cognatelaw17_ParadigmChain.B13 : List Nat := [0, 0, 0, 0, 0, 0, 48, 112, 255, 511, 1023, 1023, 2047, 8191]
theorem cognatelaw17_ParadigmChain.tab13 : rtab .any (opsOf Tryd.f5 13) = cognatelaw17_ParadigmChain.T13 := by kernel_rfl
theorem cognatelaw17_ParadigmChain.bits13 : waitsOk cognatelaw17_ParadigmChain.T13.2 cognatelaw17_ParadigmChain.B13 = true := by kernel_rfl
set_option maxHeartbeats 8000000 in
set_option maxRecDepth 100000 in
theorem cognatelaw17_ParadigmChain.calls (k : Nat) (A0_0 : Option Addr) (c0_0 : Nat) (l0_0 : List ByteArray) (A0_1 : Option Addr) (c0_1 : Nat) (l0_1 : List (S84)) (a1 : Int) (a2_0 : ByteArray) (A2_1 : Option Addr) (c2_1 : Nat) (l2_1 : List (S56)) (a3 : Int) (a4 : ByteArray) (r : Bool) (w : World) (hr0_0 : Kd.C Kd.string w A0_0 l0_0.length l0_0) (hc0_0 : l0_0.length ≤ c0_0) (hr0_1 : Kd.C k84 w A0_1 l0_1.length l0_1) (hc0_1 : l0_1.length ≤ c0_1) (hr2_1 : Kd.C k56 w A2_1 l2_1.length l2_1) (hc2_1 : l2_1.length ≤ c2_1) (hT : Tabs w) (hTrue : r = true) (h : cognatelaw17_ParadigmChain.f k l0_0 l0_1 a1 a2_0 l2_1 a3 a4 = some r) :
    Calls Tryd.prog 5 #[.agg #[.slice A0_0 l0_0.length c0_0, .slice A0_1 l0_1.length c0_1], .int .u32 a1, .agg #[.string a2_0, .slice A2_1 l2_1.length c2_1], .int .i64 a3, .string a4] w fun e w' => e = .returned (.bool r) ∧ Below w.heap.size w w' := by
  have hu25 := Tryd.underlying25
  have hu45 := Tryd.underlying45
  have hu49 := Tryd.underlying49
  have HR0_0 := Aside0.mk hr0_0
  have HC0_0 := Aside0.mk hc0_0
  clear hr0_0 hc0_0
  have HR0_1 := Aside0.mk hr0_1
  have HC0_1 := Aside0.mk hc0_1
  clear hr0_1 hc0_1
  have HR2_1 := Aside0.mk hr2_1
  have HC2_1 := Aside0.mk hc2_1
  clear hr2_1 hc2_1
  have HB := Aside0.mk (Below.refl w.heap.size w)
  have HT := Aside0.mk hT
  clear hT
  have H : ((cognatelaw17_alive.f).bind fun t110 => (if t110 = true then ((cognatelaw17_much.f k a2_0 l2_1 a4).bind fun t111 => (if t111 = true then (some true) else ((paradigm_Form.f l0_0 l0_1 a1 a2_0 l2_1 a3 a4).bind fun bt112 => ((paradigm_Stems.f l0_0 l0_1 a1 a2_0 l2_1 a3 a4).bind fun bt114 => (if bt114.2 = 0 then (cognatelaw17_ParadigmChain.l0 k a1 a3 a4 bt112.1 bt112.2 bt114.1 0 l0_0 l0_1 a2_0 l2_1) else (if (bt114.1.length : Int) = 0 then (some (bt112.2 != 0)) else (some false))))))) else (some false))) = some r := h
  clear h
  replace H := Option.bind_eq_some_iff.mp H
  obtain ⟨t110, A60, H⟩ := H
  replace H : (if t110 = true then ((cognatelaw17_much.f k a2_0 l2_1 a4).bind fun t111 => (if t111 = true then (some true) else ((paradigm_Form.f l0_0 l0_1 a1 a2_0 l2_1 a3 a4).bind fun bt112 => ((paradigm_Stems.f l0_0 l0_1 a1 a2_0 l2_1 a3 a4).bind fun bt114 => (if bt114.2 = 0 then (cognatelaw17_ParadigmChain.l0 k a1 a3 a4 bt112.1 bt112.2 bt114.1 0 l0_0 l0_1 a2_0 l2_1) else (if (bt114.1.length : Int) = 0 then (some (bt112.2 != 0)) else (some false))))))) else (some false)) = some r := H
  have A6 := Aside0.mk A60
  clear A60
  by_cases c7 : t110 = true
  · subst c7
    have H1 : ((cognatelaw17_much.f k a2_0 l2_1 a4).bind fun t111 => (if t111 = true then (some true) else ((paradigm_Form.f l0_0 l0_1 a1 a2_0 l2_1 a3 a4).bind fun bt112 => ((paradigm_Stems.f l0_0 l0_1 a1 a2_0 l2_1 a3 a4).bind fun bt114 => (if bt114.2 = 0 then (cognatelaw17_ParadigmChain.l0 k a1 a3 a4 bt112.1 bt112.2 bt114.1 0 l0_0 l0_1 a2_0 l2_1) else (if (bt114.1.length : Int) = 0 then (some (bt112.2 != 0)) else (some false))))))) = some r := by rw [if_pos rfl] at H; exact H
    clear H
    have H := H1
    clear H1
    replace H := Option.bind_eq_some_iff.mp H
    obtain ⟨t111, A80, H⟩ := H
    replace H : (if t111 = true then (some true) else ((paradigm_Form.f l0_0 l0_1 a1 a2_0 l2_1 a3 a4).bind fun bt112 => ((paradigm_Stems.f l0_0 l0_1 a1 a2_0 l2_1 a3 a4).bind fun bt114 => (if bt114.2 = 0 then (cognatelaw17_ParadigmChain.l0 k a1 a3 a4 bt112.1 bt112.2 bt114.1 0 l0_0 l0_1 a2_0 l2_1) else (if (bt114.1.length : Int) = 0 then (some (bt112.2 != 0)) else (some false)))))) = some r := H
    have A8 := Aside0.mk A80
    clear A80
    by_cases c9 : t111 = true
    · subst c9
      have H1 : (some true) = some r := by rw [if_pos rfl] at H; exact H
      clear H
      have H := H1
      clear H1
      obtain rfl := Option.some.inj H
      go_enter Tryd.func5, Tryd.ntmps5
      go_wp2_with (first | ((with_reducible refine gate_dst (N := 5) rfl ?_); (try (refine gate_guard (by rfl) ?_; dsimp only)); refine box_event ?hg (N := 5) ?hd (cs := #[.slice A0_0 l0_0.length c0_0, .slice A0_1 l0_1.length c0_1]) (t := 25) ?hr ?_; (case hd => rfl); (case hg => rfl); (case hr => first | (go_simp; done) | (go_simp; rfl)); intro gb108 hg w10 hbox hb; have n0_ := Aside0.mk (below_step (by repeat (first | (with_reducible first | exact HB.out | apply below_alloc | apply pw_below_drewN | apply below_drew1) | exact HB.out)) hb); have n1_ := Aside0.mk (hbox); have n2_ := Aside0.mk ((by rw [hg]; exact (below_size (by repeat (first | (with_reducible first | exact HB.out | apply below_alloc | apply pw_below_drewN | apply below_drew1) | exact HB.out))) : w.heap.size ≤ gb108)); have n3_ := Aside0.mk ((by rw [hg]; exact (below_size (by repeat (first | (with_reducible first | exact HB.out | apply below_alloc | apply pw_below_drewN | apply below_drew1) | exact HB.out))) : w.heap.size ≤ gb108)); clear HB; have HB := n0_; have BK108 := n1_; have GW108 := n2_; have GE108 := n3_; clear n0_ n1_ n2_ n3_; clear hb hbox hg) | ((with_reducible refine gate_dst (N := 7) rfl ?_); (try (refine gate_guard (by rfl) ?_; dsimp only)); refine box_event ?hg (N := 7) ?hd (cs := #[.string a2_0, .slice A2_1 l2_1.length c2_1]) (t := 45) ?hr ?_; (case hd => rfl); (case hg => rfl); (case hr => first | (go_simp; done) | (go_simp; rfl)); intro gb109 hg w11 hbox hb; have n0_ := Aside0.mk (blk_below (g := gb108) (o := .cells #[.slice A0_0 l0_0.length c0_0, .slice A0_1 l0_1.length c0_1] 25 (0, 0)) (by (with_reducible repeat (first | refine blk_drewN ?_ _ | refine blk_drew ?_ | refine blk_alloc ?_ _)); exact BK108.out) hb); have n1_ := Aside0.mk (below_step (by repeat (first | (with_reducible first | exact HB.out | apply below_alloc | apply pw_below_drewN | apply below_drew1 | refine below_set ?_ GE108.out) | exact HB.out)) hb); have n2_ := Aside0.mk (hbox); have n3_ := Aside0.mk ((by rw [hg]; exact (below_size (by repeat (first | (with_reducible first | exact HB.out | apply below_alloc | apply pw_below_drewN | apply below_drew1 | refine below_set ?_ GE108.out) | exact HB.out))) : w.heap.size ≤ gb109)); have n4_ := Aside0.mk ((by rw [hg]; exact (below_size (by repeat (first | (with_reducible first | exact HB.out | apply below_alloc | apply pw_below_drewN | apply below_drew1 | refine below_set ?_ GE108.out) | exact HB.out))) : w.heap.size ≤ gb109)); have n5_ := Aside0.mk ((by rw [hg]; exact Nat.ne_of_lt (blk_lt (g := gb108) (o := .cells #[.slice A0_0 l0_0.length c0_0, .slice A0_1 l0_1.length c0_1] 25 (0, 0)) (by (with_reducible repeat (first | refine blk_drewN ?_ _ | refine blk_drew ?_ | refine blk_alloc ?_ _)); exact BK108.out)) : gb108 ≠ gb109)); have n6_ := Aside0.mk ((by rw [hg]; exact Nat.ne_of_gt (blk_lt (g := gb108) (o := .cells #[.slice A0_0 l0_0.length c0_0, .slice A0_1 l0_1.length c0_1] 25 (0, 0)) (by (with_reducible repeat (first | refine blk_drewN ?_ _ | refine blk_drew ?_ | refine blk_alloc ?_ _)); exact BK108.out)) : gb109 ≠ gb108)); clear BK108; clear HB; have BK108 := n0_; have HB := n1_; have BK109 := n2_; have GW109 := n3_; have GE109 := n4_; have NB108_109 := n5_; have NB109_108 := n6_; clear n0_ n1_ n2_ n3_ n4_ n5_ n6_; clear hb hbox hg) | ((with_reducible refine gate_callee (f := 17) rfl ?_); refine goesL_ (some 27) rfl rfl Tryd.func17 (by kernel_rfl) rfl #[] rfl (by (try simp only [List.map_toArray, List.map_cons, List.map_nil]); first | done | rfl | (simp only [List.length_drop, List.length_take]; rfl)) ?_; (with_reducible refine (cognatelaw17_alive.calls  true _ ?side1 A6.out).mono ?_); (case side1 => exact Tabs.below HT.out (by repeat (first | (with_reducible first | exact HB.out | apply below_alloc | apply pw_below_drewN | apply below_drew1 | refine below_set ?_ GE108.out | refine below_set ?_ GE109.out) | exact HB.out))); rintro e w12 ⟨rfl, hb⟩; refine ⟨_, rfl, ?_⟩; have n0_ := Aside0.mk (blk_below (g := gb108) (o := .cells #[.slice A0_0 l0_0.length c0_0, .slice A0_1 l0_1.length c0_1] 25 (0, 0)) (by (with_reducible repeat (first | refine blk_drewN ?_ _ | refine blk_drew ?_ | refine blk_alloc ?_ _)); exact BK108.out) hb); have n1_ := Aside0.mk (blk_below (g := gb109) (o := .cells #[.string a2_0, .slice A2_1 l2_1.length c2_1] 45 (0, 0)) (by (with_reducible repeat (first | refine blk_drewN ?_ _ | refine blk_drew ?_ | refine blk_alloc ?_ _)); exact BK109.out) hb); have n2_ := Aside0.mk (below_step (by repeat (first | (with_reducible first | exact HB.out | apply below_alloc | apply pw_below_drewN | apply below_drew1 | refine below_set ?_ GE108.out | refine below_set ?_ GE109.out) | exact HB.out)) hb); clear BK108; clear BK109; clear HB; have BK108 := n0_; have BK109 := n1_; have HB := n2_; clear n0_ n1_ n2_; (try clear hb); (try clear hb2); (try clear hk); (try clear hi); have hnb13 := NB109_108.out; have hnc13 := NB108_109.out; have hcz14_0 : w12.cell? ⟨gb109, 0, none⟩ = some (.string a2_0) := (blk_cell BK109.out 0).trans rfl; have hcz14_1 : w12.cell? ⟨gb109, 1, none⟩ = some (.slice A2_1 l2_1.length c2_1) := (blk_cell BK109.out 1).trans rfl; have hfz14_0 := blk_frozen BK109.out 0; have hfz14_1 := blk_frozen BK109.out 1) | ((with_reducible refine gate_callee (f := 26) rfl ?_); refine goesL_ (some 32) rfl rfl Tryd.func26 (by kernel_rfl) rfl #[.agg #[.string a2_0, .slice A2_1 l2_1.length c2_1], .string a4] rfl (by (try simp only [List.map_toArray, List.map_cons, List.map_nil]); first | done | rfl | (simp only [List.length_drop, List.length_take]; rfl)) ?_; (with_reducible refine (cognatelaw17_much.calls k a2_0 _ _ l2_1 a4 true _ ?side1 ?side2 A8.out).mono ?_); (case side1 => repeat (first | exact (Kd.C_below HR2_1.out HB.out) | (with_reducible refine Kd.C_alloc ?_ _) | (with_reducible refine Kd.C_drewN ?_ _) | (with_reducible refine Kd.C_drew ?_))); (case side2 => exact HC2_1.out); rintro e w15 ⟨rfl, hb⟩; refine ⟨_, rfl, ?_⟩; have n0_ := Aside0.mk (blk_below (g := gb108) (o := .cells #[.slice A0_0 l0_0.length c0_0, .slice A0_1 l0_1.length c0_1] 25 (0, 0)) (by (with_reducible repeat (first | refine blk_drewN ?_ _ | refine blk_drew ?_ | refine blk_alloc ?_ _)); exact BK108.out) hb); have n1_ := Aside0.mk (blk_below (g := gb109) (o := .cells #[.string a2_0, .slice A2_1 l2_1.length c2_1] 45 (0, 0)) (by (with_reducible repeat (first | refine blk_drewN ?_ _ | refine blk_drew ?_ | refine blk_alloc ?_ _)); exact BK109.out) hb); have n2_ := Aside0.mk (below_step (by repeat (first | (with_reducible first | exact HB.out | apply below_alloc | apply pw_below_drewN | apply below_drew1 | refine below_set ?_ GE108.out | refine below_set ?_ GE109.out) | exact HB.out)) hb); clear BK108; clear BK109; clear HB; have BK108 := n0_; have BK109 := n1_; have HB := n2_; clear n0_ n1_ n2_; (try clear hb); (try clear hb2); (try clear hk); (try clear hi)))
      go_ret
      exact ⟨by first | rfl | (simp [errW_none, errW_some] <;> rfl) | (simp [*, errW_none, errW_some] <;> rfl), by repeat (first | (with_reducible first | exact HB.out | apply below_alloc | apply pw_below_drewN | apply below_drew1 | refine below_set ?_ GE108.out | refine below_set ?_ GE109.out) | exact HB.out)⟩
    · replace c9 := Bool.eq_false_iff.mpr c9
      subst c9
      have H1 : ((paradigm_Form.f l0_0 l0_1 a1 a2_0 l2_1 a3 a4).bind fun bt112 => ((paradigm_Stems.f l0_0 l0_1 a1 a2_0 l2_1 a3 a4).bind fun bt114 => (if bt114.2 = 0 then (cognatelaw17_ParadigmChain.l0 k a1 a3 a4 bt112.1 bt112.2 bt114.1 0 l0_0 l0_1 a2_0 l2_1) else (if (bt114.1.length : Int) = 0 then (some (bt112.2 != 0)) else (some false))))) = some r := by rw [if_neg (show ¬ (false = true) by decide)] at H; exact H
      clear H
      have H := H1
      clear H1
      replace H := Option.bind_eq_some_iff.mp H
      obtain ⟨⟨t112, t113⟩, A160, H⟩ := H
      replace H : ((paradigm_Stems.f l0_0 l0_1 a1 a2_0 l2_1 a3 a4).bind fun bt114 => (if bt114.2 = 0 then (cognatelaw17_ParadigmChain.l0 k a1 a3 a4 t112 t113 bt114.1 0 l0_0 l0_1 a2_0 l2_1) else (if (bt114.1.length : Int) = 0 then (some (t113 != 0)) else (some false)))) = some r := H
      have A16 := Aside0.mk A160
      clear A160
      replace H := Option.bind_eq_some_iff.mp H
      obtain ⟨⟨t114, t117⟩, A170, H⟩ := H
      replace H : (if t117 = 0 then (cognatelaw17_ParadigmChain.l0 k a1 a3 a4 t112 t113 t114 0 l0_0 l0_1 a2_0 l2_1) else (if (t114.length : Int) = 0 then (some (t113 != 0)) else (some false))) = some r := H
      have A17 := Aside0.mk A170
      clear A170
      by_cases c18 : t117 = 0
      · rw [if_pos c18] at H
        have c18b0 : (t117 == 0) = true := beq_iff_eq.mpr c18
        have c18b1 : (t117 != 0) = false := bne_eq_false_iff_eq.mpr c18
        clear c18
        have H' := Aside0.mk H
        clear H
        go_enter Tryd.func5, Tryd.ntmps5
        go_wp2_with (first | ((with_reducible refine gate_dst (N := 5) rfl ?_); (try (refine gate_guard (by rfl) ?_; dsimp only)); refine box_event ?hg (N := 5) ?hd (cs := #[.slice A0_0 l0_0.length c0_0, .slice A0_1 l0_1.length c0_1]) (t := 25) ?hr ?_; (case hd => rfl); (case hg => rfl); (case hr => first | (go_simp; done) | (go_simp; rfl)); intro gb108 hg w19 hbox hb; have n0_ := Aside0.mk (below_step (by repeat (first | (with_reducible first | exact HB.out | apply below_alloc | apply pw_below_drewN | apply below_drew1) | exact HB.out)) hb); have n1_ := Aside0.mk (hbox); have n2_ := Aside0.mk ((by rw [hg]; exact (below_size (by repeat (first | (with_reducible first | exact HB.out | apply below_alloc | apply pw_below_drewN | apply below_drew1) | exact HB.out))) : w.heap.size ≤ gb108)); have n3_ := Aside0.mk ((by rw [hg]; exact (below_size (by repeat (first | (with_reducible first | exact HB.out | apply below_alloc | apply pw_below_drewN | apply below_drew1) | exact HB.out))) : w.heap.size ≤ gb108)); clear HB; have HB := n0_; have BK108 := n1_; have GW108 := n2_; have GE108 := n3_; clear n0_ n1_ n2_ n3_; clear hb hbox hg) | ((with_reducible refine gate_dst (N := 7) rfl ?_); (try (refine gate_guard (by rfl) ?_; dsimp only)); refine box_event ?hg (N := 7) ?hd (cs := #[.string a2_0, .slice A2_1 l2_1.length c2_1]) (t := 45) ?hr ?_; (case hd => rfl); (case hg => rfl); (case hr => first | (go_simp; done) | (go_simp; rfl)); intro gb109 hg w20 hbox hb; have n0_ := Aside0.mk (blk_below (g := gb108) (o := .cells #[.slice A0_0 l0_0.length c0_0, .slice A0_1 l0_1.length c0_1] 25 (0, 0)) (by (with_reducible repeat (first | refine blk_drewN ?_ _ | refine blk_drew ?_ | refine blk_alloc ?_ _)); exact BK108.out) hb); have n1_ := Aside0.mk (below_step (by repeat (first | (with_reducible first | exact HB.out | apply below_alloc | apply pw_below_drewN | apply below_drew1 | refine below_set ?_ GE108.out) | exact HB.out)) hb); have n2_ := Aside0.mk (hbox); have n3_ := Aside0.mk ((by rw [hg]; exact (below_size (by repeat (first | (with_reducible first | exact HB.out | apply below_alloc | apply pw_below_drewN | apply below_drew1 | refine below_set ?_ GE108.out) | exact HB.out))) : w.heap.size ≤ gb109)); have n4_ := Aside0.mk ((by rw [hg]; exact (below_size (by repeat (first | (with_reducible first | exact HB.out | apply below_alloc | apply pw_below_drewN | apply below_drew1 | refine below_set ?_ GE108.out) | exact HB.out))) : w.heap.size ≤ gb109)); have n5_ := Aside0.mk ((by rw [hg]; exact Nat.ne_of_lt (blk_lt (g := gb108) (o := .cells #[.slice A0_0 l0_0.length c0_0, .slice A0_1 l0_1.length c0_1] 25 (0, 0)) (by (with_reducible repeat (first | refine blk_drewN ?_ _ | refine blk_drew ?_ | refine blk_alloc ?_ _)); exact BK108.out)) : gb108 ≠ gb109)); have n6_ := Aside0.mk ((by rw [hg]; exact Nat.ne_of_gt (blk_lt (g := gb108) (o := .cells #[.slice A0_0 l0_0.length c0_0, .slice A0_1 l0_1.length c0_1] 25 (0, 0)) (by (with_reducible repeat (first | refine blk_drewN ?_ _ | refine blk_drew ?_ | refine blk_alloc ?_ _)); exact BK108.out)) : gb109 ≠ gb108)); clear BK108; clear HB; have BK108 := n0_; have HB := n1_; have BK109 := n2_; have GW109 := n3_; have GE109 := n4_; have NB108_109 := n5_; have NB109_108 := n6_; clear n0_ n1_ n2_ n3_ n4_ n5_ n6_; clear hb hbox hg) | ((with_reducible refine gate_callee (f := 17) rfl ?_); refine goesL_ (some 27) rfl rfl Tryd.func17 (by kernel_rfl) rfl #[] rfl (by (try simp only [List.map_toArray, List.map_cons, List.map_nil]); first | done | rfl | (simp only [List.length_drop, List.length_take]; rfl)) ?_; (with_reducible refine (cognatelaw17_alive.calls  true _ ?side1 A6.out).mono ?_); (case side1 => exact Tabs.below HT.out (by repeat (first | (with_reducible first | exact HB.out | apply below_alloc | apply pw_below_drewN | apply below_drew1 | refine below_set ?_ GE108.out | refine below_set ?_ GE109.out) | exact HB.out))); rintro e w21 ⟨rfl, hb⟩; refine ⟨_, rfl, ?_⟩; have n0_ := Aside0.mk (blk_below (g := gb108) (o := .cells #[.slice A0_0 l0_0.length c0_0, .slice A0_1 l0_1.length c0_1] 25 (0, 0)) (by (with_reducible repeat (first | refine blk_drewN ?_ _ | refine blk_drew ?_ | refine blk_alloc ?_ _)); exact BK108.out) hb); have n1_ := Aside0.mk (blk_below (g := gb109) (o := .cells #[.string a2_0, .slice A2_1 l2_1.length c2_1] 45 (0, 0)) (by (with_reducible repeat (first | refine blk_drewN ?_ _ | refine blk_drew ?_ | refine blk_alloc ?_ _)); exact BK109.out) hb); have n2_ := Aside0.mk (below_step (by repeat (first | (with_reducible first | exact HB.out | apply below_alloc | apply pw_below_drewN | apply below_drew1 | refine below_set ?_ GE108.out | refine below_set ?_ GE109.out) | exact HB.out)) hb); clear BK108; clear BK109; clear HB; have BK108 := n0_; have BK109 := n1_; have HB := n2_; clear n0_ n1_ n2_; (try clear hb); (try clear hb2); (try clear hk); (try clear hi); have hnb22 := NB109_108.out; have hnc22 := NB108_109.out; have hcz23_0 : w21.cell? ⟨gb109, 0, none⟩ = some (.string a2_0) := (blk_cell BK109.out 0).trans rfl; have hcz23_1 : w21.cell? ⟨gb109, 1, none⟩ = some (.slice A2_1 l2_1.length c2_1) := (blk_cell BK109.out 1).trans rfl; have hfz23_0 := blk_frozen BK109.out 0; have hfz23_1 := blk_frozen BK109.out 1) | ((with_reducible refine gate_callee (f := 26) rfl ?_); refine goesL_ (some 32) rfl rfl Tryd.func26 (by kernel_rfl) rfl #[.agg #[.string a2_0, .slice A2_1 l2_1.length c2_1], .string a4] rfl (by (try simp only [List.map_toArray, List.map_cons, List.map_nil]); first | done | rfl | (simp only [List.length_drop, List.length_take]; rfl)) ?_; (with_reducible refine (cognatelaw17_much.calls k a2_0 _ _ l2_1 a4 false _ ?side1 ?side2 A8.out).mono ?_); (case side1 => repeat (first | exact (Kd.C_below HR2_1.out HB.out) | (with_reducible refine Kd.C_alloc ?_ _) | (with_reducible refine Kd.C_drewN ?_ _) | (with_reducible refine Kd.C_drew ?_))); (case side2 => exact HC2_1.out); rintro e w24 ⟨rfl, hb⟩; refine ⟨_, rfl, ?_⟩; have n0_ := Aside0.mk (blk_below (g := gb108) (o := .cells #[.slice A0_0 l0_0.length c0_0, .slice A0_1 l0_1.length c0_1] 25 (0, 0)) (by (with_reducible repeat (first | refine blk_drewN ?_ _ | refine blk_drew ?_ | refine blk_alloc ?_ _)); exact BK108.out) hb); have n1_ := Aside0.mk (blk_below (g := gb109) (o := .cells #[.string a2_0, .slice A2_1 l2_1.length c2_1] 45 (0, 0)) (by (with_reducible repeat (first | refine blk_drewN ?_ _ | refine blk_drew ?_ | refine blk_alloc ?_ _)); exact BK109.out) hb); have n2_ := Aside0.mk (below_step (by repeat (first | (with_reducible first | exact HB.out | apply below_alloc | apply pw_below_drewN | apply below_drew1 | refine below_set ?_ GE108.out | refine below_set ?_ GE109.out) | exact HB.out)) hb); clear BK108; clear BK109; clear HB; have BK108 := n0_; have BK109 := n1_; have HB := n2_; clear n0_ n1_ n2_; (try clear hb); (try clear hb2); (try clear hk); (try clear hi); have hcz25_0 : w24.cell? ⟨gb108, 0, none⟩ = some (.slice A0_0 l0_0.length c0_0) := (blk_cell BK108.out 0).trans rfl; have hcz25_1 : w24.cell? ⟨gb108, 1, none⟩ = some (.slice A0_1 l0_1.length c0_1) := (blk_cell BK108.out 1).trans rfl; have hfz25_0 := blk_frozen BK108.out 0; have hfz25_1 := blk_frozen BK108.out 1; have hcz26_0 : w24.cell? ⟨gb109, 0, none⟩ = some (.string a2_0) := (blk_cell BK109.out 0).trans rfl; have hcz26_1 : w24.cell? ⟨gb109, 1, none⟩ = some (.slice A2_1 l2_1.length c2_1) := (blk_cell BK109.out 1).trans rfl; have hfz26_0 := blk_frozen BK109.out 0; have hfz26_1 := blk_frozen BK109.out 1) | ((with_reducible refine gate_callee (f := 24) rfl ?_); refine goesL_ (some 39) rfl rfl Tryd.func24 (by kernel_rfl) rfl #[.agg #[.slice A0_0 l0_0.length c0_0, .slice A0_1 l0_1.length c0_1], .int .u32 a1, .agg #[.string a2_0, .slice A2_1 l2_1.length c2_1], .int .i64 a3, .string a4] rfl (by (try simp only [List.map_toArray, List.map_cons, List.map_nil]); first | done | rfl | (simp only [List.length_drop, List.length_take]; rfl)) ?_; (with_reducible refine (paradigm_Form.calls _ _ l0_0 _ _ l0_1 a1 a2_0 _ _ l2_1 a3 a4 t112 t113 _ ?side1 ?side2 ?side3 ?side4 ?side5 ?side6 ?side7 A16.out).mono ?_); (case side1 => repeat (first | exact (Kd.C_below HR0_0.out HB.out) | (with_reducible refine Kd.C_alloc ?_ _) | (with_reducible refine Kd.C_drewN ?_ _) | (with_reducible refine Kd.C_drew ?_))); (case side2 => exact HC0_0.out); (case side3 => repeat (first | exact (Kd.C_below HR0_1.out HB.out) | (with_reducible refine Kd.C_alloc ?_ _) | (with_reducible refine Kd.C_drewN ?_ _) | (with_reducible refine Kd.C_drew ?_))); (case side4 => exact HC0_1.out); (case side5 => repeat (first | exact (Kd.C_below HR2_1.out HB.out) | (with_reducible refine Kd.C_alloc ?_ _) | (with_reducible refine Kd.C_drewN ?_ _) | (with_reducible refine Kd.C_drew ?_))); (case side6 => exact HC2_1.out); (case side7 => exact Tabs.below HT.out (by repeat (first | (with_reducible first | exact HB.out | apply below_alloc | apply pw_below_drewN | apply below_drew1 | refine below_set ?_ GE108.out | refine below_set ?_ GE109.out) | exact HB.out))); rintro e w27 ⟨rfl, hb⟩; refine ⟨_, rfl, ?_⟩; have n0_ := Aside0.mk (blk_below (g := gb108) (o := .cells #[.slice A0_0 l0_0.length c0_0, .slice A0_1 l0_1.length c0_1] 25 (0, 0)) (by (with_reducible repeat (first | refine blk_drewN ?_ _ | refine blk_drew ?_ | refine blk_alloc ?_ _)); exact BK108.out) hb); have n1_ := Aside0.mk (blk_below (g := gb109) (o := .cells #[.string a2_0, .slice A2_1 l2_1.length c2_1] 45 (0, 0)) (by (with_reducible repeat (first | refine blk_drewN ?_ _ | refine blk_drew ?_ | refine blk_alloc ?_ _)); exact BK109.out) hb); have n2_ := Aside0.mk (below_step (by repeat (first | (with_reducible first | exact HB.out | apply below_alloc | apply pw_below_drewN | apply below_drew1 | refine below_set ?_ GE108.out | refine below_set ?_ GE109.out) | exact HB.out)) hb); clear BK108; clear BK109; clear HB; have BK108 := n0_; have BK109 := n1_; have HB := n2_; clear n0_ n1_ n2_; (try clear hb); (try clear hb2); (try clear hk); (try clear hi); have hcz28_0 : w27.cell? ⟨gb108, 0, none⟩ = some (.slice A0_0 l0_0.length c0_0) := (blk_cell BK108.out 0).trans rfl; have hcz28_1 : w27.cell? ⟨gb108, 1, none⟩ = some (.slice A0_1 l0_1.length c0_1) := (blk_cell BK108.out 1).trans rfl; have hfz28_0 := blk_frozen BK108.out 0; have hfz28_1 := blk_frozen BK108.out 1; have hcz29_0 : w27.cell? ⟨gb109, 0, none⟩ = some (.string a2_0) := (blk_cell BK109.out 0).trans rfl; have hcz29_1 : w27.cell? ⟨gb109, 1, none⟩ = some (.slice A2_1 l2_1.length c2_1) := (blk_cell BK109.out 1).trans rfl; have hfz29_0 := blk_frozen BK109.out 0; have hfz29_1 := blk_frozen BK109.out 1) | ((with_reducible refine gate_callee (f := 25) rfl ?_); refine goesL_ (some 48) rfl rfl Tryd.func25 (by kernel_rfl) rfl #[.agg #[.slice A0_0 l0_0.length c0_0, .slice A0_1 l0_1.length c0_1], .int .u32 a1, .agg #[.string a2_0, .slice A2_1 l2_1.length c2_1], .int .i64 a3, .string a4] rfl (by (try simp only [List.map_toArray, List.map_cons, List.map_nil]); first | done | rfl | (simp only [List.length_drop, List.length_take]; rfl)) ?_; (with_reducible refine (paradigm_Stems.calls _ _ l0_0 _ _ l0_1 a1 a2_0 _ _ l2_1 a3 a4 t114 t117 _ ?side1 ?side2 ?side3 ?side4 ?side5 ?side6 ?side7 A17.out).mono ?_); (case side1 => repeat (first | exact (Kd.C_below HR0_0.out HB.out) | (with_reducible refine Kd.C_alloc ?_ _) | (with_reducible refine Kd.C_drewN ?_ _) | (with_reducible refine Kd.C_drew ?_))); (case side2 => exact HC0_0.out); (case side3 => repeat (first | exact (Kd.C_below HR0_1.out HB.out) | (with_reducible refine Kd.C_alloc ?_ _) | (with_reducible refine Kd.C_drewN ?_ _) | (with_reducible refine Kd.C_drew ?_))); (case side4 => exact HC0_1.out); (case side5 => repeat (first | exact (Kd.C_below HR2_1.out HB.out) | (with_reducible refine Kd.C_alloc ?_ _) | (with_reducible refine Kd.C_drewN ?_ _) | (with_reducible refine Kd.C_drew ?_))); (case side6 => exact HC2_1.out); (case side7 => exact Tabs.below HT.out (by repeat (first | (with_reducible first | exact HB.out | apply below_alloc | apply pw_below_drewN | apply below_drew1 | refine below_set ?_ GE108.out | refine below_set ?_ GE109.out) | exact HB.out))); rintro e w30 ⟨v115, rfl, ho0, hb⟩; refine ⟨_, rfl, ?_⟩; have n0_ := Aside0.mk (Kd.R_lower ho0 (below_size (by repeat (first | (with_reducible first | exact HB.out | apply below_alloc | apply pw_below_drewN | apply below_drew1 | refine below_set ?_ GE108.out | refine below_set ?_ GE109.out) | exact HB.out)))); have n1_ := Aside0.mk (blk_below (g := gb108) (o := .cells #[.slice A0_0 l0_0.length c0_0, .slice A0_1 l0_1.length c0_1] 25 (0, 0)) (by (with_reducible repeat (first | refine blk_drewN ?_ _ | refine blk_drew ?_ | refine blk_alloc ?_ _)); exact BK108.out) hb); have n2_ := Aside0.mk (blk_below (g := gb109) (o := .cells #[.string a2_0, .slice A2_1 l2_1.length c2_1] 45 (0, 0)) (by (with_reducible repeat (first | refine blk_drewN ?_ _ | refine blk_drew ?_ | refine blk_alloc ?_ _)); exact BK109.out) hb); have n3_ := Aside0.mk (below_step (by repeat (first | (with_reducible first | exact HB.out | apply below_alloc | apply pw_below_drewN | apply below_drew1 | refine below_set ?_ GE108.out | refine below_set ?_ GE109.out) | exact HB.out)) hb); clear BK108; clear BK109; clear HB; have HO116 := n0_; have BK108 := n1_; have BK109 := n2_; have HB := n3_; clear n0_ n1_ n2_ n3_; (try clear hb); (try clear hb2); (try clear hk); (try clear hi); (try clear ho0)))
        go_loopg [16] k (fun kq v16 w' => ∃ (x16_1 : Int), v16 = .int .i64 x16_1 ∧ Aside0 (cognatelaw17_ParadigmChain.l0 kq a1 a3 a4 t112 t113 t114 x16_1 l0_0 l0_1 a2_0 l2_1 = some r) ∧ Aside0 (kq ≤ k) ∧ Aside0 (Kd.R Kd.string 9 w' w.heap.size (fun _ => True) v115 t114) ∧ Aside0 (w'.heap[gb108]? = some (.cells #[(.slice A0_0 l0_0.length c0_0), (.slice A0_1 l0_1.length c0_1)] 25 (0, 0))) ∧ Aside0 (w'.heap[gb109]? = some (.cells #[.string a2_0, (.slice A2_1 l2_1.length c2_1)] 45 (0, 0))) ∧ Aside0 (Below w.heap.size w w'))
        case atStart => exact ⟨(0), (by first | rfl | (simp; done) | (simp [*]; done)), H', ⟨Nat.le_refl _⟩, ⟨by (with_reducible repeat (first | apply Kd.R_alloc | apply Kd.R_drewN | apply Kd.R_drew)); exact HO116.out⟩, ⟨by (with_reducible repeat (first | refine blk_drewN ?_ _ | refine blk_drew ?_ | refine blk_alloc ?_ _)); exact BK108.out⟩, ⟨by (with_reducible repeat (first | refine blk_drewN ?_ _ | refine blk_drew ?_ | refine blk_alloc ?_ _)); exact BK109.out⟩, ⟨by repeat (first | (with_reducible first | exact HB.out | apply below_alloc | apply pw_below_drewN | apply below_drew1 | refine below_set ?_ GE108.out | refine below_set ?_ GE109.out) | exact HB.out)⟩⟩
        case round =>
          clear H'
          try clear c1
          try clear c2
          try clear p2
          try clear c5
          try clear c7
          try clear c9
          try clear c13
          try clear c17
          try clear c18
          try clear c18b0
          try clear c18b1
          try clear c22
          try clear c24
          try clear c25
          try clear c26
          try clear hcz14_0
          try clear hcz14_1
          try clear hcz23_0
          try clear hcz23_1
          try clear hcz25_0
          try clear hcz25_1
          try clear hcz26_0
          try clear hcz26_1
          try clear hcz28_0
          try clear hcz28_1
          try clear hcz29_0
          try clear hcz29_1
          try clear hfz14_0
          try clear hfz14_1
          try clear hfz23_0
          try clear hfz23_1
          try clear hfz25_0
          try clear hfz25_1
          try clear hfz26_0
          try clear hfz26_1
          try clear hfz28_0
          try clear hfz28_1
          try clear hfz29_0
          try clear hfz29_1
          obtain ⟨x16_1, rfl, HA, HK1, HO_14, BK108, BK109, HB⟩ := hrel
          cases gk with
          | zero => exact absurd HA.out (by simp [cognatelaw17_ParadigmChain.l0])
          | succ k1 =>
            have H := HA.out
            clear HA
            simp only [cognatelaw17_ParadigmChain.l0] at H
            by_cases c31 : x16_1 < (t114.length : Int)
            · rw [if_pos c31] at H
              have c31b0 : decide (x16_1 < (t114.length : Int)) = true := decide_eq_true c31
              clear c31
              by_cases c32 : 0 ≤ x16_1
              · rw [if_pos c32] at H
                have c32b0 : decide (0 ≤ x16_1) = true := decide_eq_true c32
                clear c32
                replace H := Option.bind_eq_some_iff.mp H
                obtain ⟨⟨t119, t120⟩, A330, H⟩ := H
                replace H : (if t120 = 0 then (if t119.toList = a4.toList then (cognatelaw17_ParadigmChain.l0 k1 a1 a3 a4 t112 t113 t114 (wrap64 (x16_1 + 1)) l0_0 l0_1 a2_0 l2_1) else (some false)) else (some false)) = some r := H
                have A33 := Aside0.mk A330
                clear A330
                by_cases c34 : t120 = 0
                · rw [if_pos c34] at H
                  have c34b0 : (t120 == 0) = true := beq_iff_eq.mpr c34
                  have c34b1 : (t120 != 0) = false := bne_eq_false_iff_eq.mpr c34
                  clear c34
                  by_cases c35 : t119.toList = a4.toList
                  · rw [if_pos c35] at H
                    have c35b0 : (t119.toList == a4.toList) = true := beq_iff_eq.mpr c35
                    have c35b1 : (t119.toList != a4.toList) = false := bne_eq_false_iff_eq.mpr c35
                    clear c35
                    have H' := Aside0.mk H
                    clear H
                    obtain ⟨Ao36, co36, eo36⟩ := Kd.R_slice HO_14.out
                    subst eo36
                    try go_wp2
                    have n0_ := Aside0.mk (Kd.R_drew HO_14.out)
                    have n1_ := Aside0.mk (blk_drew BK108.out)
                    have n2_ := Aside0.mk (blk_drew BK109.out)
                    have n3_ := Aside0.mk (below_drew1 HB.out)
                    clear HO_14
                    clear BK108
                    clear BK109
                    clear HB
                    have HO_14 := n0_
                    have BK108 := n1_
                    have BK109 := n2_
                    have HB := n3_
                    clear n0_ n1_ n2_ n3_
                    have p118 : 0 ≤ (x16_1 : Int) := of_decide_eq_true (by first | (with_reducible assumption) | assumption)
                    have q118 : x16_1 < (t114.length : Int) := of_decide_eq_true (by first | (with_reducible assumption) | assumption)
                    obtain ⟨ad118, e118, hx118_0⟩ := Kd.at_string (Kd.R_reads' HO_14.out).2.2 x16_1 p118 q118
                    cases e118
                    replace p118 := eq_true p118
                    replace q118 := eq_true q118
                    refine start_ (n := 14) (S := fun w' => w'.cell? ⟨gb108, 0, none⟩ = some (.slice A0_0 l0_0.length c0_0) ∧ w'.cell? ⟨gb108, 1, none⟩ = some (.slice A0_1 l0_1.length c0_1) ∧ w'.cell? ⟨gb109, 0, none⟩ = some (.string a2_0) ∧ w'.cell? ⟨gb109, 1, none⟩ = some (.slice A2_1 l2_1.length c2_1) ∧ w'.cell? (ad118.add (x16_1).toNat) = some (.string (rdOf ByteArray.empty t114 x16_1))) (ds := []) #[false, false, false, false, false, false, false, false, false, false, false, false, false, false] (by kernel_rfl) rfl rfl ⟨(blk_cell BK108.out 0).trans rfl, (blk_cell BK108.out 1).trans rfl, (blk_cell BK109.out 0).trans rfl, (blk_cell BK109.out 1).trans rfl, hx118_0⟩ (fun hHeld => ?_); refine with_tabW cognatelaw17_ParadigmChain.tab13 cognatelaw17_ParadigmChain.bits13 (fun HT_ HW_ => ?_)
                    generalize wr.drew = w37 at HO_14 BK108 BK109 HB hx118_0 hHeld ⊢
                    refine pure_ (i := 1) (N := some 68) (v := ?_) (a' := ?_) #[false, true, false, false, false, false, false, false, false, false, false, false, false, false] rfl rfl (any_of HT_.out (by kernel_rfl)) (fun _ _ _ h => h) (Or.inl ⟨by rfl, ?_⟩) ?_ ?_
                    rotate_left
                    · intro w'
                      go_simp
                      with_reducible rfl
                    rotate_left
                    · simp only [Act.put, List.setIfInBounds_toArray, List.set_cons_zero, List.set_cons_succ, i64_w, i32_w]
                      rfl
                    refine pure_ (i := 3) (N := some 70) (v := ?_) (a' := ?_) #[false, true, false, true, false, false, false, false, false, false, false, false, false, false] rfl rfl (any_of HT_.out (by kernel_rfl)) (fun _ _ _ h => h) (Or.inl ⟨by rfl, ?_⟩) ?_ ?_
                    rotate_left
                    · intro w'
                      go_simp
                      with_reducible rfl
                    rotate_left
                    · simp only [Act.put, List.setIfInBounds_toArray, List.set_cons_zero, List.set_cons_succ, i64_w, i32_w]
                      rfl
                    refine pure_ (i := 4) (N := some 71) (v := ?_) (a' := ?_) #[false, true, false, true, true, false, false, false, false, false, false, false, false, false] rfl rfl (any_of HT_.out (by kernel_rfl)) (fun _ _ _ h => h) (Or.inl ⟨by rfl, ?_⟩) ?_ ?_
                    rotate_left
                    · intro w'
                      go_simp
                      with_reducible rfl
                    rotate_left
                    · simp only [Act.put, List.setIfInBounds_toArray, List.set_cons_zero, List.set_cons_succ, i64_w, i32_w]
                      rfl
                    refine pure_ (i := 5) (N := some 72) (v := ?_) (a' := ?_) #[false, true, false, true, true, true, false, false, false, false, false, false, false, false] rfl rfl (any_of HT_.out (by kernel_rfl)) (fun _ _ _ h => h) (Or.inl ⟨by rfl, ?_⟩) ?_ ?_
                    rotate_left
                    · intro w'
                      go_simp
                      with_reducible rfl
                    rotate_left
                    · simp only [Act.put, List.setIfInBounds_toArray, List.set_cons_zero, List.set_cons_succ, i64_w, i32_w]
                      rfl
                    refine pure_ (i := 6) (N := some 73) (v := ?_) (a' := ?_) #[false, true, false, true, true, true, true, false, false, false, false, false, false, false] rfl rfl (any_of HT_.out (by kernel_rfl)) (fun _ _ _ h => h) (Or.inl ⟨by rfl, ?_⟩) ?_ ?_
                    rotate_left
                    · intro w'
                      go_simp
                      with_reducible rfl
                    rotate_left
                    · simp only [Act.put, List.setIfInBounds_toArray, List.set_cons_zero, List.set_cons_succ, i64_w, i32_w]
                      rfl
                    refine take_ (i := 0) (N := some 67) (v := ?_) (a' := ?_) #[true, true, false, true, true, true, true, false, false, false, false, false, false, false] rfl rfl (take_ofW HT_.out HW_.out (by kernel_rfl)) (fun _ _ _ h => h) (Or.inl ⟨by rfl, ?_⟩) hHeld ?_ ?_
                    rotate_left
                    · rintro w' ⟨s0, s1, s2, s3, s4⟩
                      go_simp
                      with_reducible rfl
                    rotate_left
                    · simp only [Act.put, List.setIfInBounds_toArray, List.set_cons_zero, List.set_cons_succ, i64_w, i32_w]
                      rfl
                    refine take_ (i := 2) (N := some 69) (v := ?_) (a' := ?_) #[true, true, true, true, true, true, true, false, false, false, false, false, false, false] rfl rfl (take_ofW HT_.out HW_.out (by kernel_rfl)) (fun _ _ _ h => h) (Or.inl ⟨by rfl, ?_⟩) hHeld ?_ ?_
                    rotate_left
                    · rintro w' ⟨s0, s1, s2, s3, s4⟩
                      go_simp
                      with_reducible rfl
                    rotate_left
                    · simp only [Act.put, List.setIfInBounds_toArray, List.set_cons_zero, List.set_cons_succ, i64_w, i32_w]
                      rfl
                    refine take_ (i := 7) (N := some 74) (v := ?_) (a' := ?_) #[true, true, true, true, true, true, true, true, false, false, false, false, false, false] rfl rfl (take_ofW HT_.out HW_.out (by kernel_rfl)) (fun _ _ _ h => h) (Or.inl ⟨by rfl, ?_⟩) hHeld ?_ ?_
                    rotate_left
                    · rintro w' ⟨s0, s1, s2, s3, s4⟩
                      go_simp
                      with_reducible rfl
                    rotate_left
                    · simp only [Act.put, List.setIfInBounds_toArray, List.set_cons_zero, List.set_cons_succ, i64_w, i32_w]
                      rfl
                    refine one_ (i := 8) (N := some 75) #[true, true, true, true, true, true, true, true, true, false, false, false, false, false] rfl rfl (one_of HT_.out (by kernel_rfl)) (by decide) (fun K hK => ?_)
                    refine goes_ Tryd.func24 (by kernel_rfl) rfl #[.agg #[.slice A0_0 l0_0.length c0_0, .slice A0_1 l0_1.length c0_1], .int .u32 a1, .agg #[.string a2_0, .slice A2_1 l2_1.length c2_1], .int .i64 a3, .string (rdOf ByteArray.empty t114 x16_1)] (by rfl) rfl rfl (by (try simp only [List.map_toArray, List.map_cons, List.map_nil]); first | done | rfl | (simp only [List.length_drop, List.length_take]; rfl)) ?_
                    with_reducible refine (paradigm_Form.calls _ _ l0_0 _ _ l0_1 a1 a2_0 _ _ l2_1 a3 (rdOf ByteArray.empty t114 x16_1) t119 t120 _ ?side1 ?side2 ?side3 ?side4 ?side5 ?side6 ?side7 A33.out).mono ?_
                    (case side1 => repeat (first | exact (Kd.C_below HR0_0.out HB.out) | (with_reducible refine Kd.C_alloc ?_ _) | (with_reducible refine Kd.C_drewN ?_ _) | (with_reducible refine Kd.C_drew ?_)))
                    (case side2 => exact HC0_0.out)
                    (case side3 => repeat (first | exact (Kd.C_below HR0_1.out HB.out) | (with_reducible refine Kd.C_alloc ?_ _) | (with_reducible refine Kd.C_drewN ?_ _) | (with_reducible refine Kd.C_drew ?_)))
                    (case side4 => exact HC0_1.out)
                    (case side5 => repeat (first | exact (Kd.C_below HR2_1.out HB.out) | (with_reducible refine Kd.C_alloc ?_ _) | (with_reducible refine Kd.C_drewN ?_ _) | (with_reducible refine Kd.C_drew ?_)))
                    (case side6 => exact HC2_1.out)
                    (case side7 => exact Tabs.below HT.out (by repeat (first | (with_reducible first | exact HB.out | apply below_alloc | apply pw_below_drewN | apply below_drew1 | refine below_set ?_ GE108.out | refine below_set ?_ GE109.out) | exact HB.out)))
                    rintro e w38 ⟨rfl, hb⟩
                    have HS4_ := (hb.cell (World.block_lt_of_cell? _ _ (hHeld.2.2.2.2))).trans (hHeld.2.2.2.2)
                    refine ⟨_, rfl, ?_⟩
                    have n0_ := Aside0.mk (Kd.R_below (by (with_reducible repeat (first | apply Kd.R_alloc | apply Kd.R_drewN | apply Kd.R_drew)); exact HO_14.out) hb)
                    have n1_ := Aside0.mk (blk_below (g := gb108) (o := .cells #[.slice A0_0 l0_0.length c0_0, .slice A0_1 l0_1.length c0_1] 25 (0, 0)) (by (with_reducible repeat (first | refine blk_drewN ?_ _ | refine blk_drew ?_ | refine blk_alloc ?_ _)); exact BK108.out) hb)
                    have n2_ := Aside0.mk (blk_below (g := gb109) (o := .cells #[.string a2_0, .slice A2_1 l2_1.length c2_1] 45 (0, 0)) (by (with_reducible repeat (first | refine blk_drewN ?_ _ | refine blk_drew ?_ | refine blk_alloc ?_ _)); exact BK109.out) hb)
                    have n3_ := Aside0.mk (below_step (by repeat (first | (with_reducible first | exact HB.out | apply below_alloc | apply pw_below_drewN | apply below_drew1 | refine below_set ?_ GE108.out | refine below_set ?_ GE109.out) | exact HB.out)) hb)
                    clear HO_14
                    clear BK108
                    clear BK109
                    clear HB
                    have HO_14 := n0_
                    have BK108 := n1_
                    have BK109 := n2_
                    have HB := n3_
                    clear n0_ n1_ n2_ n3_
                    (try clear hb)
                    (try clear hb2)
                    (try clear hk)
                    (try clear hi)
                    refine hK.out _ _ ⟨(blk_cell BK108.out 0).trans rfl, (blk_cell BK108.out 1).trans rfl, (blk_cell BK109.out 0).trans rfl, (blk_cell BK109.out 1).trans rfl, HS4_⟩ (fun hHeld => ?_)
                    clear hK K
                    refine norm_ (a' := ?_) ?_ ?_
                    rotate_left
                    · show Act.put _ (some 75) _ = _
                      simp only [Act.put, List.setIfInBounds_toArray, List.set_cons_zero, List.set_cons_succ, i64_w, i32_w]
                      rfl
                    refine pure_ (i := 9) (N := some 66) (v := ?_) (a' := ?_) #[true, true, true, true, true, true, true, true, true, true, false, false, false, false] rfl rfl (any_of HT_.out (by kernel_rfl)) (fun _ _ _ h => h) (Or.inl ⟨by rfl, ?_⟩) ?_ ?_
                    rotate_left
                    · intro w'
                      go_simp
                      with_reducible rfl
                    rotate_left
                    · simp only [Act.put, List.setIfInBounds_toArray, List.set_cons_zero, List.set_cons_succ, i64_w, i32_w]
                      rfl
                    refine pure_ (i := 10) (N := some 76) (v := ?_) (a' := ?_) #[true, true, true, true, true, true, true, true, true, true, true, false, false, false] rfl rfl (any_of HT_.out (by kernel_rfl)) (fun _ _ _ h => h) (Or.inl ⟨by rfl, ?_⟩) ?_ ?_
                    rotate_left
                    · intro w'
                      go_simp
                      with_reducible rfl
                    rotate_left
                    · simp only [Act.put, List.setIfInBounds_toArray, List.set_cons_zero, List.set_cons_succ, i64_w, i32_w]
                      rfl
                    refine pure_ (i := 11) (N := some 77) (v := ?_) (a' := ?_) #[true, true, true, true, true, true, true, true, true, true, true, true, false, false] rfl rfl (any_of HT_.out (by kernel_rfl)) (fun _ _ _ h => h) (Or.inl ⟨by rfl, ?_⟩) ?_ ?_
                    rotate_left
                    · intro w'
                      go_simp
                      with_reducible rfl
                    rotate_left
                    · simp only [Act.put, List.setIfInBounds_toArray, List.set_cons_zero, List.set_cons_succ, i64_w, i32_w]
                      rfl
                    refine pure_ (i := 12) (N := some 17) (v := ?_) (a' := ?_) #[true, true, true, true, true, true, true, true, true, true, true, true, true, false] rfl rfl (any_of HT_.out (by kernel_rfl)) (fun _ _ _ h => h) (Or.inl ⟨by rfl, ?_⟩) ?_ ?_
                    rotate_left
                    · intro w'
                      go_simp
                      with_reducible rfl
                    rotate_left
                    · simp only [Act.put, List.setIfInBounds_toArray, List.set_cons_zero, List.set_cons_succ, i64_w, i32_w]
                      rfl
                    refine pure_ (i := 13) (N := some 18) (v := ?_) (a' := ?_) #[true, true, true, true, true, true, true, true, true, true, true, true, true, true] rfl rfl (any_of HT_.out (by kernel_rfl)) (fun _ _ _ h => h) (Or.inl ⟨by rfl, ?_⟩) ?_ ?_
                    rotate_left
                    · intro w'
                      go_simp
                      with_reducible rfl
                    rotate_left
                    · simp only [Act.put, List.setIfInBounds_toArray, List.set_cons_zero, List.set_cons_succ, i64_w, i32_w]
                      rfl
                    refine done_ (done_of HT_.out (by kernel_rfl)) ?_
                    try go_wp2
                    go_roundg k1
                    case measure => have := HK1.out; omega
                    case rel => exact ⟨(wrap64 (x16_1 + 1)), (by first | rfl | (simp; done) | (simp [*]; done)), H', ⟨by have := HK1.out; omega⟩, ⟨by (with_reducible repeat (first | apply Kd.R_alloc | apply Kd.R_drewN | apply Kd.R_drew)); exact HO_14.out⟩, ⟨by (with_reducible repeat (first | refine blk_drewN ?_ _ | refine blk_drew ?_ | refine blk_alloc ?_ _)); exact BK108.out⟩, ⟨by (with_reducible repeat (first | refine blk_drewN ?_ _ | refine blk_drew ?_ | refine blk_alloc ?_ _)); exact BK109.out⟩, ⟨by repeat (first | (with_reducible first | exact HB.out | apply below_alloc | apply pw_below_drewN | apply below_drew1 | refine below_set ?_ GE108.out | refine below_set ?_ GE109.out) | exact HB.out)⟩⟩
                  · rw [if_neg c35] at H
                    have c35b0 : (t119.toList == a4.toList) = false := beq_eq_false_iff_ne.mpr c35
                    have c35b1 : (t119.toList != a4.toList) = true := bne_iff_ne.mpr c35
                    exact absurd H (by rw [hTrue]; simp)
                · rw [if_neg c34] at H
                  have c34b0 : (t120 == 0) = false := beq_eq_false_iff_ne.mpr c34
                  have c34b1 : (t120 != 0) = true := bne_iff_ne.mpr c34
                  exact absurd H (by rw [hTrue]; simp)
              · rw [if_neg c32] at H
                exact absurd H (by simp)
            · rw [if_neg c31] at H
              have c31b0 : decide (x16_1 < (t114.length : Int)) = false := decide_eq_false c31
              clear c31
              have H' := Aside0.mk H
              clear H
              obtain ⟨Ao39, co39, eo39⟩ := Kd.R_slice HO_14.out
              subst eo39
              go_wp2
              go_loopg [19, 20, 21] k1 (fun kq v19 v20 v21 w' => ∃ (x19_2 : ByteArray) (x20_2 : Bool) (x21_2 : Int), v19 = .string x19_2 ∧ v20 = .bool x20_2 ∧ v21 = .int .i64 x21_2 ∧ Aside0 (cognatelaw17_ParadigmChain.l1 kq a1 a3 a4 t112 t113 x19_2 x20_2 x21_2 l0_0 l0_1 a2_0 l2_1 = some r) ∧ Aside0 (kq ≤ k1) ∧ Aside0 (w'.heap[gb108]? = some (.cells #[(.slice A0_0 l0_0.length c0_0), (.slice A0_1 l0_1.length c0_1)] 25 (0, 0))) ∧ Aside0 (w'.heap[gb109]? = some (.cells #[.string a2_0, (.slice A2_1 l2_1.length c2_1)] 45 (0, 0))) ∧ Aside0 (Below w.heap.size w w'))
              case atStart => exact ⟨(a4), (false), (0), (by first | rfl | (simp; done) | (simp [*]; done)), (by first | rfl | (simp; done) | (simp [*]; done)), (by first | rfl | (simp; done) | (simp [*]; done)), H', ⟨Nat.le_refl _⟩, ⟨by (with_reducible repeat (first | refine blk_drewN ?_ _ | refine blk_drew ?_ | refine blk_alloc ?_ _)); exact BK108.out⟩, ⟨by (with_reducible repeat (first | refine blk_drewN ?_ _ | refine blk_drew ?_ | refine blk_alloc ?_ _)); exact BK109.out⟩, ⟨by repeat (first | (with_reducible first | exact HB.out | apply below_alloc | apply pw_below_drewN | apply below_drew1 | refine below_set ?_ GE108.out | refine below_set ?_ GE109.out) | exact HB.out)⟩⟩
              case round =>
                clear H'
                try clear c1
                try clear p1
                try clear q1
                try clear hx1
                try clear c2
                try clear p2
                try clear c3
                try clear c5
                try clear p6
                try clear c7
                try clear c9
                try clear p11
                try clear q11
                try clear hx11
                try clear c13
                try clear c17
                try clear c18
                try clear c18b0
                try clear c18b1
                try clear c22
                try clear c24
                try clear c25
                try clear c26
                try clear c31
                try clear c31b0
                try clear c32
                try clear c32b0
                try clear c34
                try clear c34b0
                try clear c34b1
                try clear c35
                try clear c35b0
                try clear c35b1
                try clear hcz14_0
                try clear hcz14_1
                try clear hcz23_0
                try clear hcz23_1
                try clear hcz25_0
                try clear hcz25_1
                try clear hcz26_0
                try clear hcz26_1
                try clear hcz28_0
                try clear hcz28_1
                try clear hcz29_0
                try clear hcz29_1
                try clear hfz14_0
                try clear hfz14_1
                try clear hfz23_0
                try clear hfz23_1
                try clear hfz25_0
                try clear hfz25_1
                try clear hfz26_0
                try clear hfz26_1
                try clear hfz28_0
                try clear hfz28_1
                try clear hfz29_0
                try clear hfz29_1
                try clear hx118_0
                try clear p118
                try clear p2
                try clear q118
                obtain ⟨x19_2, x20_2, x21_2, rfl, rfl, rfl, HA, HK2, BK108, BK109, HB⟩ := hrel
                cases gk with
                | zero => exact absurd HA.out (by simp [cognatelaw17_ParadigmChain.l1])
                | succ k2 =>
                  have H := HA.out
                  clear HA
                  simp only [cognatelaw17_ParadigmChain.l1] at H
                  by_cases c40 : 0 ≤ a3
                  · rw [if_pos c40] at H
                    have c40b0 : decide (0 ≤ a3) = true := decide_eq_true c40
                    clear c40
                    by_cases c41 : a3 < (l2_1.length : Int)
                    · rw [if_pos c41] at H
                      have c41b0 : decide (a3 < (l2_1.length : Int)) = true := decide_eq_true c41
                      clear c41
                      by_cases c42 : x21_2 < (((rd_T56 l2_1 a3).f1).length : Int)
                      · rw [if_pos c42] at H
                        have c42b0 : decide (x21_2 < (((rd_T56 l2_1 a3).f1).length : Int)) = true := decide_eq_true c42
                        clear c42
                        by_cases c43 : 0 ≤ x21_2
                        · rw [if_pos c43] at H
                          have c43b0 : decide (0 ≤ x21_2) = true := decide_eq_true c43
                          clear c43
                          have HC44 := Aside0.mk H
                          clear H
                          have hnb45 := NB109_108.out
                          have hnc45 := NB108_109.out
                          have hcz46_0 : wr.cell? ⟨gb109, 0, none⟩ = some (.string a2_0) := (blk_cell BK109.out 0).trans rfl
                          have hcz46_1 : wr.cell? ⟨gb109, 1, none⟩ = some (.slice A2_1 l2_1.length c2_1) := (blk_cell BK109.out 1).trans rfl
                          have hfz46_0 := blk_frozen BK109.out 0
                          have hfz46_1 := blk_frozen BK109.out 1
                          have p121 : 0 ≤ (a3 : Int) := of_decide_eq_true (by first | (with_reducible assumption) | assumption)
                          have q121 : a3 < (l2_1.length : Int) := of_decide_eq_true (by first | (with_reducible assumption) | assumption)
                          obtain ⟨ad121, A121_1, c121_1, e121, hx121_0, hx121_1, hl121_1, hi121_1⟩ := at_T56 HR2_1.out a3 p121 q121
                          cases e121
                          replace hx121_0 := (HB.out.cell (World.block_lt_of_cell? w _ hx121_0)).trans hx121_0
                          replace hx121_1 := (HB.out.cell (World.block_lt_of_cell? w _ hx121_1)).trans hx121_1
                          have HR121_1 := Aside0.mk hi121_1
                          have HC121_1 := Aside0.mk hl121_1
                          clear hi121_1 hl121_1
                          replace p121 := eq_true p121
                          replace q121 := eq_true q121
                          have p122 : 0 ≤ (a3 : Int) := of_decide_eq_true (by first | (with_reducible assumption) | assumption)
                          have q122 : a3 < (l2_1.length : Int) := of_decide_eq_true (by first | (with_reducible assumption) | assumption)
                          obtain ⟨ad122, A122_1, c122_1, e122, hx122_0, hx122_1, hl122_1, hi122_1⟩ := at_T56 HR2_1.out a3 p122 q122
                          obtain rfl : ad121 = ad122 := (by injection e122)
                          replace hx122_0 := (HB.out.cell (World.block_lt_of_cell? w _ hx122_0)).trans hx122_0
                          replace hx122_1 := (HB.out.cell (World.block_lt_of_cell? w _ hx122_1)).trans hx122_1
                          have HR122_1 := Aside0.mk hi122_1
                          have HC122_1 := Aside0.mk hl122_1
                          clear hi122_1 hl122_1
                          replace p122 := eq_true p122
                          replace q122 := eq_true q122
                          have ea_ := Option.some.inj (hx121_1.symm.trans hx122_1)
                          injection ea_ with ea_ en_ ec_
                          subst ea_
                          subst ec_
                          clear en_
                          have p123 : 0 ≤ (x21_2 : Int) := of_decide_eq_true (by first | (with_reducible assumption) | assumption)
                          have q123 : x21_2 < (((rd_T56 l2_1 a3).f1).length : Int) := of_decide_eq_true (by first | (with_reducible assumption) | assumption)
                          obtain ⟨ad123, e123, hx123_0, hx123_1, hx123_2, hx123_3⟩ := at_T49 HR122_1.out x21_2 p123 q123
                          cases e123
                          replace hx123_0 := (HB.out.cell (World.block_lt_of_cell? w _ hx123_0)).trans hx123_0
                          replace hx123_1 := (HB.out.cell (World.block_lt_of_cell? w _ hx123_1)).trans hx123_1
                          replace hx123_2 := (HB.out.cell (World.block_lt_of_cell? w _ hx123_2)).trans hx123_2
                          replace hx123_3 := (HB.out.cell (World.block_lt_of_cell? w _ hx123_3)).trans hx123_3
                          replace p123 := eq_true p123
                          replace q123 := eq_true q123
                          go_upto_region 22 with (first | ((with_reducible refine gate_dst (N := 22) rfl ?_); (try (refine gate_guard (by rfl) ?_; dsimp only)); refine box_event ?hg (N := 22) ?hd (cs := #[.int .u8 0, .string (⟨#[]⟩ : ByteArray), .string (⟨#[]⟩ : ByteArray), .int .i64 0]) (t := 49) ?hr ?_; (case hd => rfl); (case hg => rfl); (case hr => first | (go_simp; done) | (go_simp; rfl)); intro gb124 hg w47 hbox hb; have n0_ := Aside0.mk (blk_below (g := gb108) (o := .cells #[.slice A0_0 l0_0.length c0_0, .slice A0_1 l0_1.length c0_1] 25 (0, 0)) (by (with_reducible repeat (first | refine blk_drewN ?_ _ | refine blk_drew ?_ | refine blk_alloc ?_ _)); exact BK108.out) hb); have n1_ := Aside0.mk (blk_below (g := gb109) (o := .cells #[.string a2_0, .slice (some ad121) l2_1.length c2_1] 45 (0, 0)) (by (with_reducible repeat (first | refine blk_drewN ?_ _ | refine blk_drew ?_ | refine blk_alloc ?_ _)); exact BK109.out) hb); have n2_ := Aside0.mk (below_step (by repeat (first | (with_reducible first | exact HB.out | apply below_alloc | apply pw_below_drewN | apply below_drew1 | refine below_set ?_ GE108.out | refine below_set ?_ GE109.out) | exact HB.out)) hb); have n3_ := Aside0.mk (hbox); have n4_ := Aside0.mk ((by rw [hg]; exact (below_size (by repeat (first | (with_reducible first | exact HB.out | apply below_alloc | apply pw_below_drewN | apply below_drew1 | refine below_set ?_ GE108.out | refine below_set ?_ GE109.out) | exact HB.out))) : w.heap.size ≤ gb124)); have n5_ := Aside0.mk ((by rw [hg]; exact (below_size (by repeat (first | (with_reducible first | exact HB.out | apply below_alloc | apply pw_below_drewN | apply below_drew1 | refine below_set ?_ GE108.out | refine below_set ?_ GE109.out) | exact HB.out))) : w.heap.size ≤ gb124)); have n6_ := Aside0.mk ((by rw [hg]; exact Nat.ne_of_lt (blk_lt (g := gb108) (o := .cells #[.slice A0_0 l0_0.length c0_0, .slice A0_1 l0_1.length c0_1] 25 (0, 0)) (by (with_reducible repeat (first | refine blk_drewN ?_ _ | refine blk_drew ?_ | refine blk_alloc ?_ _)); exact BK108.out)) : gb108 ≠ gb124)); have n7_ := Aside0.mk ((by rw [hg]; exact Nat.ne_of_gt (blk_lt (g := gb108) (o := .cells #[.slice A0_0 l0_0.length c0_0, .slice A0_1 l0_1.length c0_1] 25 (0, 0)) (by (with_reducible repeat (first | refine blk_drewN ?_ _ | refine blk_drew ?_ | refine blk_alloc ?_ _)); exact BK108.out)) : gb124 ≠ gb108)); have n8_ := Aside0.mk ((by rw [hg]; exact Nat.ne_of_lt (blk_lt (g := gb109) (o := .cells #[.string a2_0, .slice (some ad121) l2_1.length c2_1] 45 (0, 0)) (by (with_reducible repeat (first | refine blk_drewN ?_ _ | refine blk_drew ?_ | refine blk_alloc ?_ _)); exact BK109.out)) : gb109 ≠ gb124)); have n9_ := Aside0.mk ((by rw [hg]; exact Nat.ne_of_gt (blk_lt (g := gb109) (o := .cells #[.string a2_0, .slice (some ad121) l2_1.length c2_1] 45 (0, 0)) (by (with_reducible repeat (first | refine blk_drewN ?_ _ | refine blk_drew ?_ | refine blk_alloc ?_ _)); exact BK109.out)) : gb124 ≠ gb109)); clear BK108; clear BK109; clear HB; have BK108 := n0_; have BK109 := n1_; have HB := n2_; have BK124 := n3_; have GW124 := n4_; have GE124 := n5_; have NB108_124 := n6_; have NB124_108 := n7_; have NB109_124 := n8_; have NB124_109 := n9_; clear n0_ n1_ n2_ n3_ n4_ n5_ n6_ n7_ n8_ n9_; clear hb hbox hg; have hnb48 := NB124_108.out; have hnc48 := NB108_124.out; have hnb49 := NB124_109.out; have hnc49 := NB109_124.out; have hcz50_0 : w47.cell? ⟨gb124, 0, none⟩ = some (.int .u8 0) := (blk_cell BK124.out 0).trans rfl; have hcz50_1 : w47.cell? ⟨gb124, 1, none⟩ = some (.string (⟨#[]⟩ : ByteArray)) := (blk_cell BK124.out 1).trans rfl; have hcz50_2 : w47.cell? ⟨gb124, 2, none⟩ = some (.string (⟨#[]⟩ : ByteArray)) := (blk_cell BK124.out 2).trans rfl; have hcz50_3 : w47.cell? ⟨gb124, 3, none⟩ = some (.int .i64 0) := (blk_cell BK124.out 3).trans rfl; have hfz50_0 := blk_frozen BK124.out 0; have hfz50_1 := blk_frozen BK124.out 1; have hfz50_2 := blk_frozen BK124.out 2; have hfz50_3 := blk_frozen BK124.out 3))
                          (try simp only [Act.put, List.setIfInBounds_toArray, List.set_cons_zero, List.set_cons_succ])
                          go_cut [20] (fun v20 wc => ∃ (kq : Nat) (x20_43 : Bool), v20 = .bool x20_43 ∧ Aside0 (cognatelaw17_ParadigmChain.j2 kq a1 a3 a4 t112 t113 x19_2 x20_43 x21_2 l0_0 l0_1 a2_0 l2_1 ((rd_T49 ((rd_T56 l2_1 a3).f1) x21_2).f0) ((rd_T49 ((rd_T56 l2_1 a3).f1) x21_2).f1) ((rd_T49 ((rd_T56 l2_1 a3).f1) x21_2).f2) ((rd_T49 ((rd_T56 l2_1 a3).f1) x21_2).f3) = some r) ∧ Aside0 (kq ≤ k2) ∧ Aside0 (wc.heap[gb108]? = some (.cells #[(.slice A0_0 l0_0.length c0_0), (.slice A0_1 l0_1.length c0_1)] 25 (0, 0))) ∧ Aside0 (wc.heap[gb109]? = some (.cells #[.string a2_0, (.slice (some ad121) l2_1.length c2_1)] 45 (0, 0))) ∧ Aside0 (wc.heap[gb124]? = some (.cells #[.int .u8 ((rd_T49 ((rd_T56 l2_1 a3).f1) x21_2).f0), .string ((rd_T49 ((rd_T56 l2_1 a3).f1) x21_2).f1), .string ((rd_T49 ((rd_T56 l2_1 a3).f1) x21_2).f2), .int .i64 ((rd_T49 ((rd_T56 l2_1 a3).f1) x21_2).f3)] 49 (0, 0))) ∧ Aside0 (Below w.heap.size w wc))
                          case first => as_aux_lemma =>
                            have H := HC44.out
                            clear HC44
                            by_cases c51 : x20_2 = true
                            · subst c51
                              have H1 : (cognatelaw17_ParadigmChain.j2 k2 a1 a3 a4 t112 t113 x19_2 true x21_2 l0_0 l0_1 a2_0 l2_1 ((rd_T49 ((rd_T56 l2_1 a3).f1) x21_2).f0) ((rd_T49 ((rd_T56 l2_1 a3).f1) x21_2).f1) ((rd_T49 ((rd_T56 l2_1 a3).f1) x21_2).f2) ((rd_T49 ((rd_T56 l2_1 a3).f1) x21_2).f3)) = some r := by rw [if_pos rfl] at H; exact H
                              clear H
                              have H := H1
                              clear H1
                              have H' := Aside0.mk H
                              clear H
                              go_wp2
                              go_meet
                              case rel => exact ⟨_, (true), (by first | rfl | (simp; done) | (simp [*]; done)), H', ⟨by have := HK1.out; have := HK2.out; first | omega | exact Nat.le_refl _⟩, ⟨by (with_reducible repeat (first | refine blk_drewN ?_ _ | refine blk_drew ?_ | refine blk_alloc ?_ _)); refine blk_far ?_ NB108_124.out _; (with_reducible repeat (first | refine blk_drewN ?_ _ | refine blk_drew ?_ | refine blk_alloc ?_ _)); refine blk_far ?_ NB108_124.out _; (with_reducible repeat (first | refine blk_drewN ?_ _ | refine blk_drew ?_ | refine blk_alloc ?_ _)); refine blk_far ?_ NB108_124.out _; (with_reducible repeat (first | refine blk_drewN ?_ _ | refine blk_drew ?_ | refine blk_alloc ?_ _)); refine blk_far ?_ NB108_124.out _; (with_reducible repeat (first | refine blk_drewN ?_ _ | refine blk_drew ?_ | refine blk_alloc ?_ _)); exact BK108.out⟩, ⟨by (with_reducible repeat (first | refine blk_drewN ?_ _ | refine blk_drew ?_ | refine blk_alloc ?_ _)); refine blk_far ?_ NB109_124.out _; (with_reducible repeat (first | refine blk_drewN ?_ _ | refine blk_drew ?_ | refine blk_alloc ?_ _)); refine blk_far ?_ NB109_124.out _; (with_reducible repeat (first | refine blk_drewN ?_ _ | refine blk_drew ?_ | refine blk_alloc ?_ _)); refine blk_far ?_ NB109_124.out _; (with_reducible repeat (first | refine blk_drewN ?_ _ | refine blk_drew ?_ | refine blk_alloc ?_ _)); refine blk_far ?_ NB109_124.out _; (with_reducible repeat (first | refine blk_drewN ?_ _ | refine blk_drew ?_ | refine blk_alloc ?_ _)); exact BK109.out⟩, ⟨by (with_reducible repeat (first | refine blk_drewN ?_ _ | refine blk_drew ?_ | refine blk_alloc ?_ _)); refine blk_put (cs := #[.int .u8 ((rd_T49 ((rd_T56 l2_1 a3).f1) x21_2).f0), .string ((rd_T49 ((rd_T56 l2_1 a3).f1) x21_2).f1), .string ((rd_T49 ((rd_T56 l2_1 a3).f1) x21_2).f2), .int .i64 0]) ?_ 3 _ rfl; (with_reducible repeat (first | refine blk_drewN ?_ _ | refine blk_drew ?_ | refine blk_alloc ?_ _)); refine blk_put (cs := #[.int .u8 ((rd_T49 ((rd_T56 l2_1 a3).f1) x21_2).f0), .string ((rd_T49 ((rd_T56 l2_1 a3).f1) x21_2).f1), .string (⟨#[]⟩ : ByteArray), .int .i64 0]) ?_ 2 _ rfl; (with_reducible repeat (first | refine blk_drewN ?_ _ | refine blk_drew ?_ | refine blk_alloc ?_ _)); refine blk_put (cs := #[.int .u8 ((rd_T49 ((rd_T56 l2_1 a3).f1) x21_2).f0), .string (⟨#[]⟩ : ByteArray), .string (⟨#[]⟩ : ByteArray), .int .i64 0]) ?_ 1 _ rfl; (with_reducible repeat (first | refine blk_drewN ?_ _ | refine blk_drew ?_ | refine blk_alloc ?_ _)); refine blk_put (cs := #[.int .u8 0, .string (⟨#[]⟩ : ByteArray), .string (⟨#[]⟩ : ByteArray), .int .i64 0]) ?_ 0 _ rfl; (with_reducible repeat (first | refine blk_drewN ?_ _ | refine blk_drew ?_ | refine blk_alloc ?_ _)); exact BK124.out⟩, ⟨by repeat (first | (with_reducible first | exact HB.out | apply below_alloc | apply pw_below_drewN | apply below_drew1 | refine below_set ?_ GE108.out | refine below_set ?_ GE109.out | refine below_set ?_ GE124.out) | exact HB.out)⟩⟩
                            · replace c51 := Bool.eq_false_iff.mpr c51
                              subst c51
                              have H1 : (cognatelaw17_ParadigmChain.j2 k2 a1 a3 a4 t112 t113 x19_2 (((rd_T49 ((rd_T56 l2_1 a3).f1) x21_2).f0) == 5) x21_2 l0_0 l0_1 a2_0 l2_1 ((rd_T49 ((rd_T56 l2_1 a3).f1) x21_2).f0) ((rd_T49 ((rd_T56 l2_1 a3).f1) x21_2).f1) ((rd_T49 ((rd_T56 l2_1 a3).f1) x21_2).f2) ((rd_T49 ((rd_T56 l2_1 a3).f1) x21_2).f3)) = some r := by rw [if_neg (show ¬ (false = true) by decide)] at H; exact H
                              clear H
                              have H := H1
                              clear H1
                              have H' := Aside0.mk H
                              clear H
                              have hnb52 := NB124_108.out
                              have hnc52 := NB108_124.out
                              have hnb53 := NB124_109.out
                              have hnc53 := NB109_124.out
                              have hcz54_0 : w47.cell? ⟨gb124, 0, none⟩ = some (.int .u8 0) := (blk_cell BK124.out 0).trans rfl
                              have hcz54_1 : w47.cell? ⟨gb124, 1, none⟩ = some (.string (⟨#[]⟩ : ByteArray)) := (blk_cell BK124.out 1).trans rfl
                              have hcz54_2 : w47.cell? ⟨gb124, 2, none⟩ = some (.string (⟨#[]⟩ : ByteArray)) := (blk_cell BK124.out 2).trans rfl
                              have hcz54_3 : w47.cell? ⟨gb124, 3, none⟩ = some (.int .i64 0) := (blk_cell BK124.out 3).trans rfl
                              have hfz54_0 := blk_frozen BK124.out 0
                              have hfz54_1 := blk_frozen BK124.out 1
                              have hfz54_2 := blk_frozen BK124.out 2
                              have hfz54_3 := blk_frozen BK124.out 3
                              go_wp2
                              go_meet
                              case rel => exact ⟨_, ((((rd_T49 ((rd_T56 l2_1 a3).f1) x21_2).f0) == 5)), (by first | rfl | (simp; done) | (simp [*]; done)), H', ⟨by have := HK1.out; have := HK2.out; first | omega | exact Nat.le_refl _⟩, ⟨by (with_reducible repeat (first | refine blk_drewN ?_ _ | refine blk_drew ?_ | refine blk_alloc ?_ _)); refine blk_far ?_ NB108_124.out _; (with_reducible repeat (first | refine blk_drewN ?_ _ | refine blk_drew ?_ | refine blk_alloc ?_ _)); refine blk_far ?_ NB108_124.out _; (with_reducible repeat (first | refine blk_drewN ?_ _ | refine blk_drew ?_ | refine blk_alloc ?_ _)); refine blk_far ?_ NB108_124.out _; (with_reducible repeat (first | refine blk_drewN ?_ _ | refine blk_drew ?_ | refine blk_alloc ?_ _)); refine blk_far ?_ NB108_124.out _; (with_reducible repeat (first | refine blk_drewN ?_ _ | refine blk_drew ?_ | refine blk_alloc ?_ _)); exact BK108.out⟩, ⟨by (with_reducible repeat (first | refine blk_drewN ?_ _ | refine blk_drew ?_ | refine blk_alloc ?_ _)); refine blk_far ?_ NB109_124.out _; (with_reducible repeat (first | refine blk_drewN ?_ _ | refine blk_drew ?_ | refine blk_alloc ?_ _)); refine blk_far ?_ NB109_124.out _; (with_reducible repeat (first | refine blk_drewN ?_ _ | refine blk_drew ?_ | refine blk_alloc ?_ _)); refine blk_far ?_ NB109_124.out _; (with_reducible repeat (first | refine blk_drewN ?_ _ | refine blk_drew ?_ | refine blk_alloc ?_ _)); refine blk_far ?_ NB109_124.out _; (with_reducible repeat (first | refine blk_drewN ?_ _ | refine blk_drew ?_ | refine blk_alloc ?_ _)); exact BK109.out⟩, ⟨by (with_reducible repeat (first | refine blk_drewN ?_ _ | refine blk_drew ?_ | refine blk_alloc ?_ _)); refine blk_put (cs := #[.int .u8 ((rd_T49 ((rd_T56 l2_1 a3).f1) x21_2).f0), .string ((rd_T49 ((rd_T56 l2_1 a3).f1) x21_2).f1), .string ((rd_T49 ((rd_T56 l2_1 a3).f1) x21_2).f2), .int .i64 0]) ?_ 3 _ rfl; (with_reducible repeat (first | refine blk_drewN ?_ _ | refine blk_drew ?_ | refine blk_alloc ?_ _)); refine blk_put (cs := #[.int .u8 ((rd_T49 ((rd_T56 l2_1 a3).f1) x21_2).f0), .string ((rd_T49 ((rd_T56 l2_1 a3).f1) x21_2).f1), .string (⟨#[]⟩ : ByteArray), .int .i64 0]) ?_ 2 _ rfl; (with_reducible repeat (first | refine blk_drewN ?_ _ | refine blk_drew ?_ | refine blk_alloc ?_ _)); refine blk_put (cs := #[.int .u8 ((rd_T49 ((rd_T56 l2_1 a3).f1) x21_2).f0), .string (⟨#[]⟩ : ByteArray), .string (⟨#[]⟩ : ByteArray), .int .i64 0]) ?_ 1 _ rfl; (with_reducible repeat (first | refine blk_drewN ?_ _ | refine blk_drew ?_ | refine blk_alloc ?_ _)); refine blk_put (cs := #[.int .u8 0, .string (⟨#[]⟩ : ByteArray), .string (⟨#[]⟩ : ByteArray), .int .i64 0]) ?_ 0 _ rfl; (with_reducible repeat (first | refine blk_drewN ?_ _ | refine blk_drew ?_ | refine blk_alloc ?_ _)); exact BK124.out⟩, ⟨by repeat (first | (with_reducible first | exact HB.out | apply below_alloc | apply pw_below_drewN | apply below_drew1 | refine below_set ?_ GE108.out | refine below_set ?_ GE109.out | refine below_set ?_ GE124.out) | exact HB.out)⟩⟩
                          case rest => as_aux_lemma =>
                            clear HC44
                            try clear c1
                            try clear p1
                            try clear q1
                            try clear hx1
                            try clear c2
                            try clear p2
                            try clear c3
                            try clear c4
                            try clear c5
                            try clear p6
                            try clear c7
                            try clear c9
                            try clear p11
                            try clear q11
                            try clear hx11
                            try clear c12
                            try clear p12
                            try clear q12
                            try clear hx12
                            try clear c13
                            try clear c17
                            try clear c18
                            try clear c18b0
                            try clear c18b1
                            try clear c22
                            try clear c24
                            try clear c25
                            try clear c26
                            try clear c31
                            try clear c31b0
                            try clear c32
                            try clear c32b0
                            try clear c34
                            try clear c34b0
                            try clear c34b1
                            try clear c35
                            try clear c35b0
                            try clear c35b1
                            try clear c40
                            try clear c40b0
                            try clear c41
                            try clear c41b0
                            try clear c42
                            try clear c42b0
                            try clear c43
                            try clear c43b0
                            try clear c45
                            try clear c48
                            try clear c49
                            try clear c51
                            try clear c52
                            try clear c53
                            try clear hcz14_0
                            try clear hcz14_1
                            try clear hcz23_0
                            try clear hcz23_1
                            try clear hcz25_0
                            try clear hcz25_1
                            try clear hcz26_0
                            try clear hcz26_1
                            try clear hcz28_0
                            try clear hcz28_1
                            try clear hcz29_0
                            try clear hcz29_1
                            try clear hcz46_0
                            try clear hcz46_1
                            try clear hcz50_0
                            try clear hcz50_1
                            try clear hcz50_2
                            try clear hcz50_3
                            try clear hcz54_0
                            try clear hcz54_1
                            try clear hcz54_2
                            try clear hcz54_3
                            try clear hfz14_0
                            try clear hfz14_1
                            try clear hfz23_0
                            try clear hfz23_1
                            try clear hfz25_0
                            try clear hfz25_1
                            try clear hfz26_0
                            try clear hfz26_1
                            try clear hfz28_0
                            try clear hfz28_1
                            try clear hfz29_0
                            try clear hfz29_1
                            try clear hfz46_0
                            try clear hfz46_1
                            try clear hfz50_0
                            try clear hfz50_1
                            try clear hfz50_2
                            try clear hfz50_3
                            try clear hfz54_0
                            try clear hfz54_1
                            try clear hfz54_2
                            try clear hfz54_3
                            try clear hx118_0
                            try clear hx121_0
                            try clear hx121_1
                            try clear hx122_0
                            try clear hx122_1
                            try clear hx123_0
                            try clear hx123_1
                            try clear hx123_2
                            try clear hx123_3
                            try clear p1
                            try clear p11
                            try clear p118
                            try clear p121
                            try clear p122
                            try clear p123
                            try clear p2
                            try clear p6
                            try clear q1
                            try clear q11
                            try clear q118
                            try clear q121
                            try clear q122
                            try clear q123
                            obtain ⟨kq, x20_43, rfl, HA, HJ43, BK108, BK109, BK124, HB⟩ := hcut
                            cases kq with
                            | zero => exact absurd HA.out (by simp [cognatelaw17_ParadigmChain.j2])
                            | succ kj43 =>
                              have H := HA.out
                              clear HA
                              simp only [cognatelaw17_ParadigmChain.j2] at H
                              replace H := Option.bind_eq_some_iff.mp H
                              obtain ⟨⟨t125, t126⟩, A550, H⟩ := H
                              replace H : (if t126 = 0 then (cognatelaw17_ParadigmChain.l1 kj43 a1 a3 a4 t112 t113 t125 x20_43 (wrap64 (x21_2 + 1)) l0_0 l0_1 a2_0 l2_1) else (if t113 = 0 then ((cognatelaw17_long.f x19_2).bind fun t127 => (some (decide (t127 > 64)))) else (some true))) = some r := H
                              have A55 := Aside0.mk A550
                              clear A550
                              by_cases c56 : t126 = 0
                              · rw [if_pos c56] at H
                                have c56b0 : (t126 == 0) = true := beq_iff_eq.mpr c56
                                have c56b1 : (t126 != 0) = false := bne_eq_false_iff_eq.mpr c56
                                clear c56
                                have H' := Aside0.mk H
                                clear H
                                have hnb57 := NB108_109.out
                                have hnc57 := NB109_108.out
                                have hnb58 := NB108_124.out
                                have hnc58 := NB124_108.out
                                have hcz59_0 : wc.cell? ⟨gb108, 0, none⟩ = some (.slice A0_0 l0_0.length c0_0) := (blk_cell BK108.out 0).trans rfl
                                have hcz59_1 : wc.cell? ⟨gb108, 1, none⟩ = some (.slice A0_1 l0_1.length c0_1) := (blk_cell BK108.out 1).trans rfl
                                have hfz59_0 := blk_frozen BK108.out 0
                                have hfz59_1 := blk_frozen BK108.out 1
                                have hnb60 := NB124_109.out
                                have hnc60 := NB109_124.out
                                have hcz61_0 : wc.cell? ⟨gb124, 0, none⟩ = some (.int .u8 ((rd_T49 ((rd_T56 l2_1 a3).f1) x21_2).f0)) := (blk_cell BK124.out 0).trans rfl
                                have hcz61_1 : wc.cell? ⟨gb124, 1, none⟩ = some (.string ((rd_T49 ((rd_T56 l2_1 a3).f1) x21_2).f1)) := (blk_cell BK124.out 1).trans rfl
                                have hcz61_2 : wc.cell? ⟨gb124, 2, none⟩ = some (.string ((rd_T49 ((rd_T56 l2_1 a3).f1) x21_2).f2)) := (blk_cell BK124.out 2).trans rfl
                                have hcz61_3 : wc.cell? ⟨gb124, 3, none⟩ = some (.int .i64 ((rd_T49 ((rd_T56 l2_1 a3).f1) x21_2).f3)) := (blk_cell BK124.out 3).trans rfl
                                have hfz61_0 := blk_frozen BK124.out 0
                                have hfz61_1 := blk_frozen BK124.out 1
                                have hfz61_2 := blk_frozen BK124.out 2
                                have hfz61_3 := blk_frozen BK124.out 3
                                go_wp2_with (first | ((with_reducible refine gate_callee (f := 22) rfl ?_); refine goesL_ (some 117) rfl rfl Tryd.func22 (by kernel_rfl) rfl #[.agg #[.slice A0_0 l0_0.length c0_0, .slice A0_1 l0_1.length c0_1], .int .u32 a1, .string x19_2, .agg #[.int .u8 ((rd_T49 ((rd_T56 l2_1 a3).f1) x21_2).f0), .string ((rd_T49 ((rd_T56 l2_1 a3).f1) x21_2).f1), .string ((rd_T49 ((rd_T56 l2_1 a3).f1) x21_2).f2), .int .i64 ((rd_T49 ((rd_T56 l2_1 a3).f1) x21_2).f3)]] rfl (by (try simp only [List.map_toArray, List.map_cons, List.map_nil]); first | done | rfl | (simp only [List.length_drop, List.length_take]; rfl)) ?_; (with_reducible refine (paradigm_Put.calls _ _ l0_0 _ _ l0_1 a1 x19_2 ((rd_T49 ((rd_T56 l2_1 a3).f1) x21_2).f0) ((rd_T49 ((rd_T56 l2_1 a3).f1) x21_2).f1) ((rd_T49 ((rd_T56 l2_1 a3).f1) x21_2).f2) ((rd_T49 ((rd_T56 l2_1 a3).f1) x21_2).f3) t125 t126 _ ?side1 ?side2 ?side3 ?side4 ?side5 A55.out).mono ?_); (case side1 => repeat (first | exact (Kd.C_below HR0_0.out HB.out) | (with_reducible refine Kd.C_alloc ?_ _) | (with_reducible refine Kd.C_drewN ?_ _) | (with_reducible refine Kd.C_drew ?_))); (case side2 => exact HC0_0.out); (case side3 => repeat (first | exact (Kd.C_below HR0_1.out HB.out) | (with_reducible refine Kd.C_alloc ?_ _) | (with_reducible refine Kd.C_drewN ?_ _) | (with_reducible refine Kd.C_drew ?_))); (case side4 => exact HC0_1.out); (case side5 => exact Tabs.below HT.out (by repeat (first | (with_reducible first | exact HB.out | apply below_alloc | apply pw_below_drewN | apply below_drew1 | refine below_set ?_ GE108.out | refine below_set ?_ GE109.out | refine below_set ?_ GE124.out) | exact HB.out))); rintro e w62 ⟨rfl, hb⟩; refine ⟨_, rfl, ?_⟩; have n0_ := Aside0.mk (blk_below (g := gb108) (o := .cells #[.slice A0_0 l0_0.length c0_0, .slice A0_1 l0_1.length c0_1] 25 (0, 0)) (by (with_reducible repeat (first | refine blk_drewN ?_ _ | refine blk_drew ?_ | refine blk_alloc ?_ _)); exact BK108.out) hb); have n1_ := Aside0.mk (blk_below (g := gb109) (o := .cells #[.string a2_0, .slice (some ad121) l2_1.length c2_1] 45 (0, 0)) (by (with_reducible repeat (first | refine blk_drewN ?_ _ | refine blk_drew ?_ | refine blk_alloc ?_ _)); exact BK109.out) hb); have n2_ := Aside0.mk (blk_below (g := gb124) (o := .cells #[.int .u8 ((rd_T49 ((rd_T56 l2_1 a3).f1) x21_2).f0), .string ((rd_T49 ((rd_T56 l2_1 a3).f1) x21_2).f1), .string ((rd_T49 ((rd_T56 l2_1 a3).f1) x21_2).f2), .int .i64 ((rd_T49 ((rd_T56 l2_1 a3).f1) x21_2).f3)] 49 (0, 0)) (by (with_reducible repeat (first | refine blk_drewN ?_ _ | refine blk_drew ?_ | refine blk_alloc ?_ _)); exact BK124.out) hb); have n3_ := Aside0.mk (below_step (by repeat (first | (with_reducible first | exact HB.out | apply below_alloc | apply pw_below_drewN | apply below_drew1 | refine below_set ?_ GE108.out | refine below_set ?_ GE109.out | refine below_set ?_ GE124.out) | exact HB.out)) hb); clear BK108; clear BK109; clear BK124; clear HB; have BK108 := n0_; have BK109 := n1_; have BK124 := n2_; have HB := n3_; clear n0_ n1_ n2_ n3_; (try clear hb); (try clear hb2); (try clear hk); (try clear hi)))
                                go_roundg kj43
                                case measure => have := HK1.out; have := HK2.out; have := HJ43.out; omega
                                case rel => exact ⟨(t125), (x20_43), (wrap64 (x21_2 + 1)), (by first | rfl | (simp; done) | (simp [*]; done)), (by first | rfl | (simp; done) | (simp [*]; done)), (by first | rfl | (simp; done) | (simp [*]; done)), H', ⟨by have := HK1.out; have := HK2.out; have := HJ43.out; omega⟩, ⟨by (with_reducible repeat (first | refine blk_drewN ?_ _ | refine blk_drew ?_ | refine blk_alloc ?_ _)); exact BK108.out⟩, ⟨by (with_reducible repeat (first | refine blk_drewN ?_ _ | refine blk_drew ?_ | refine blk_alloc ?_ _)); exact BK109.out⟩, ⟨by repeat (first | (with_reducible first | exact HB.out | apply below_alloc | apply pw_below_drewN | apply below_drew1 | refine below_set ?_ GE108.out | refine below_set ?_ GE109.out | refine below_set ?_ GE124.out) | exact HB.out)⟩⟩
                              · rw [if_neg c56] at H
                                have c56b0 : (t126 == 0) = false := beq_eq_false_iff_ne.mpr c56
                                have c56b1 : (t126 != 0) = true := bne_iff_ne.mpr c56
                                by_cases c63 : t113 = 0
                                · rw [if_pos c63] at H
                                  have c63b0 : (t113 == 0) = true := beq_iff_eq.mpr c63
                                  have c63b1 : (t113 != 0) = false := bne_eq_false_iff_eq.mpr c63
                                  clear c63
                                  replace H := Option.bind_eq_some_iff.mp H
                                  obtain ⟨t127, A640, H⟩ := H
                                  replace H : (some (decide (t127 > 64))) = some r := H
                                  have A64 := Aside0.mk A640
                                  clear A640
                                  obtain rfl := Option.some.inj H
                                  have hnb65 := NB108_109.out
                                  have hnc65 := NB109_108.out
                                  have hnb66 := NB108_124.out
                                  have hnc66 := NB124_108.out
                                  have hcz67_0 : wc.cell? ⟨gb108, 0, none⟩ = some (.slice A0_0 l0_0.length c0_0) := (blk_cell BK108.out 0).trans rfl
                                  have hcz67_1 : wc.cell? ⟨gb108, 1, none⟩ = some (.slice A0_1 l0_1.length c0_1) := (blk_cell BK108.out 1).trans rfl
                                  have hfz67_0 := blk_frozen BK108.out 0
                                  have hfz67_1 := blk_frozen BK108.out 1
                                  have hnb68 := NB124_109.out
                                  have hnc68 := NB109_124.out
                                  have hcz69_0 : wc.cell? ⟨gb124, 0, none⟩ = some (.int .u8 ((rd_T49 ((rd_T56 l2_1 a3).f1) x21_2).f0)) := (blk_cell BK124.out 0).trans rfl
                                  have hcz69_1 : wc.cell? ⟨gb124, 1, none⟩ = some (.string ((rd_T49 ((rd_T56 l2_1 a3).f1) x21_2).f1)) := (blk_cell BK124.out 1).trans rfl
                                  have hcz69_2 : wc.cell? ⟨gb124, 2, none⟩ = some (.string ((rd_T49 ((rd_T56 l2_1 a3).f1) x21_2).f2)) := (blk_cell BK124.out 2).trans rfl
                                  have hcz69_3 : wc.cell? ⟨gb124, 3, none⟩ = some (.int .i64 ((rd_T49 ((rd_T56 l2_1 a3).f1) x21_2).f3)) := (blk_cell BK124.out 3).trans rfl
                                  have hfz69_0 := blk_frozen BK124.out 0
                                  have hfz69_1 := blk_frozen BK124.out 1
                                  have hfz69_2 := blk_frozen BK124.out 2
                                  have hfz69_3 := blk_frozen BK124.out 3
                                  go_wp2_with (first | ((with_reducible refine gate_callee (f := 22) rfl ?_); refine goesL_ (some 117) rfl rfl Tryd.func22 (by kernel_rfl) rfl #[.agg #[.slice A0_0 l0_0.length c0_0, .slice A0_1 l0_1.length c0_1], .int .u32 a1, .string x19_2, .agg #[.int .u8 ((rd_T49 ((rd_T56 l2_1 a3).f1) x21_2).f0), .string ((rd_T49 ((rd_T56 l2_1 a3).f1) x21_2).f1), .string ((rd_T49 ((rd_T56 l2_1 a3).f1) x21_2).f2), .int .i64 ((rd_T49 ((rd_T56 l2_1 a3).f1) x21_2).f3)]] rfl (by (try simp only [List.map_toArray, List.map_cons, List.map_nil]); first | done | rfl | (simp only [List.length_drop, List.length_take]; rfl)) ?_; (with_reducible refine (paradigm_Put.calls _ _ l0_0 _ _ l0_1 a1 x19_2 ((rd_T49 ((rd_T56 l2_1 a3).f1) x21_2).f0) ((rd_T49 ((rd_T56 l2_1 a3).f1) x21_2).f1) ((rd_T49 ((rd_T56 l2_1 a3).f1) x21_2).f2) ((rd_T49 ((rd_T56 l2_1 a3).f1) x21_2).f3) t125 t126 _ ?side1 ?side2 ?side3 ?side4 ?side5 A55.out).mono ?_); (case side1 => repeat (first | exact (Kd.C_below HR0_0.out HB.out) | (with_reducible refine Kd.C_alloc ?_ _) | (with_reducible refine Kd.C_drewN ?_ _) | (with_reducible refine Kd.C_drew ?_))); (case side2 => exact HC0_0.out); (case side3 => repeat (first | exact (Kd.C_below HR0_1.out HB.out) | (with_reducible refine Kd.C_alloc ?_ _) | (with_reducible refine Kd.C_drewN ?_ _) | (with_reducible refine Kd.C_drew ?_))); (case side4 => exact HC0_1.out); (case side5 => exact Tabs.below HT.out (by repeat (first | (with_reducible first | exact HB.out | apply below_alloc | apply pw_below_drewN | apply below_drew1 | refine below_set ?_ GE108.out | refine below_set ?_ GE109.out | refine below_set ?_ GE124.out) | exact HB.out))); rintro e w70 ⟨rfl, hb⟩; refine ⟨_, rfl, ?_⟩; have n0_ := Aside0.mk (blk_below (g := gb108) (o := .cells #[.slice A0_0 l0_0.length c0_0, .slice A0_1 l0_1.length c0_1] 25 (0, 0)) (by (with_reducible repeat (first | refine blk_drewN ?_ _ | refine blk_drew ?_ | refine blk_alloc ?_ _)); exact BK108.out) hb); have n1_ := Aside0.mk (blk_below (g := gb109) (o := .cells #[.string a2_0, .slice (some ad121) l2_1.length c2_1] 45 (0, 0)) (by (with_reducible repeat (first | refine blk_drewN ?_ _ | refine blk_drew ?_ | refine blk_alloc ?_ _)); exact BK109.out) hb); have n2_ := Aside0.mk (blk_below (g := gb124) (o := .cells #[.int .u8 ((rd_T49 ((rd_T56 l2_1 a3).f1) x21_2).f0), .string ((rd_T49 ((rd_T56 l2_1 a3).f1) x21_2).f1), .string ((rd_T49 ((rd_T56 l2_1 a3).f1) x21_2).f2), .int .i64 ((rd_T49 ((rd_T56 l2_1 a3).f1) x21_2).f3)] 49 (0, 0)) (by (with_reducible repeat (first | refine blk_drewN ?_ _ | refine blk_drew ?_ | refine blk_alloc ?_ _)); exact BK124.out) hb); have n3_ := Aside0.mk (below_step (by repeat (first | (with_reducible first | exact HB.out | apply below_alloc | apply pw_below_drewN | apply below_drew1 | refine below_set ?_ GE108.out | refine below_set ?_ GE109.out | refine below_set ?_ GE124.out) | exact HB.out)) hb); clear BK108; clear BK109; clear BK124; clear HB; have BK108 := n0_; have BK109 := n1_; have BK124 := n2_; have HB := n3_; clear n0_ n1_ n2_ n3_; (try clear hb); (try clear hb2); (try clear hk); (try clear hi)) | (go_at_call 27; (with_reducible refine (cognatelaw17_long.calls x19_2 t127 _ A64.out).mono ?_); rintro e w71 ⟨rfl, hb⟩; have n0_ := Aside0.mk (blk_below (g := gb108) (o := .cells #[.slice A0_0 l0_0.length c0_0, .slice A0_1 l0_1.length c0_1] 25 (0, 0)) (by (with_reducible repeat (first | refine blk_drewN ?_ _ | refine blk_drew ?_ | refine blk_alloc ?_ _)); exact BK108.out) hb); have n1_ := Aside0.mk (blk_below (g := gb109) (o := .cells #[.string a2_0, .slice (some ad121) l2_1.length c2_1] 45 (0, 0)) (by (with_reducible repeat (first | refine blk_drewN ?_ _ | refine blk_drew ?_ | refine blk_alloc ?_ _)); exact BK109.out) hb); have n2_ := Aside0.mk (blk_below (g := gb124) (o := .cells #[.int .u8 ((rd_T49 ((rd_T56 l2_1 a3).f1) x21_2).f0), .string ((rd_T49 ((rd_T56 l2_1 a3).f1) x21_2).f1), .string ((rd_T49 ((rd_T56 l2_1 a3).f1) x21_2).f2), .int .i64 ((rd_T49 ((rd_T56 l2_1 a3).f1) x21_2).f3)] 49 (0, 0)) (by (with_reducible repeat (first | refine blk_drewN ?_ _ | refine blk_drew ?_ | refine blk_alloc ?_ _)); exact BK124.out) hb); have n3_ := Aside0.mk (below_step (by repeat (first | (with_reducible first | exact HB.out | apply below_alloc | apply pw_below_drewN | apply below_drew1 | refine below_set ?_ GE108.out | refine below_set ?_ GE109.out | refine below_set ?_ GE124.out) | exact HB.out)) hb); clear BK108; clear BK109; clear BK124; clear HB; have BK108 := n0_; have BK109 := n1_; have BK124 := n2_; have HB := n3_; clear n0_ n1_ n2_ n3_; (try clear hb); (try clear hb2); (try clear hk); (try clear hi)))
                                  go_ret
                                  exact ⟨by first | rfl | (simp [errW_none, errW_some] <;> rfl) | (simp [*, errW_none, errW_some] <;> rfl), by repeat (first | (with_reducible first | exact HB.out | apply below_alloc | apply pw_below_drewN | apply below_drew1 | refine below_set ?_ GE108.out | refine below_set ?_ GE109.out | refine below_set ?_ GE124.out) | exact HB.out)⟩
                                · rw [if_neg c63] at H
                                  have c63b0 : (t113 == 0) = false := beq_eq_false_iff_ne.mpr c63
                                  have c63b1 : (t113 != 0) = true := bne_iff_ne.mpr c63
                                  obtain rfl := Option.some.inj H
                                  have hnb72 := NB108_109.out
                                  have hnc72 := NB109_108.out
                                  have hnb73 := NB108_124.out
                                  have hnc73 := NB124_108.out
                                  have hcz74_0 : wc.cell? ⟨gb108, 0, none⟩ = some (.slice A0_0 l0_0.length c0_0) := (blk_cell BK108.out 0).trans rfl
                                  have hcz74_1 : wc.cell? ⟨gb108, 1, none⟩ = some (.slice A0_1 l0_1.length c0_1) := (blk_cell BK108.out 1).trans rfl
                                  have hfz74_0 := blk_frozen BK108.out 0
                                  have hfz74_1 := blk_frozen BK108.out 1
                                  have hnb75 := NB124_109.out
                                  have hnc75 := NB109_124.out
                                  have hcz76_0 : wc.cell? ⟨gb124, 0, none⟩ = some (.int .u8 ((rd_T49 ((rd_T56 l2_1 a3).f1) x21_2).f0)) := (blk_cell BK124.out 0).trans rfl
                                  have hcz76_1 : wc.cell? ⟨gb124, 1, none⟩ = some (.string ((rd_T49 ((rd_T56 l2_1 a3).f1) x21_2).f1)) := (blk_cell BK124.out 1).trans rfl
                                  have hcz76_2 : wc.cell? ⟨gb124, 2, none⟩ = some (.string ((rd_T49 ((rd_T56 l2_1 a3).f1) x21_2).f2)) := (blk_cell BK124.out 2).trans rfl
                                  have hcz76_3 : wc.cell? ⟨gb124, 3, none⟩ = some (.int .i64 ((rd_T49 ((rd_T56 l2_1 a3).f1) x21_2).f3)) := (blk_cell BK124.out 3).trans rfl
                                  have hfz76_0 := blk_frozen BK124.out 0
                                  have hfz76_1 := blk_frozen BK124.out 1
                                  have hfz76_2 := blk_frozen BK124.out 2
                                  have hfz76_3 := blk_frozen BK124.out 3
                                  go_wp2_with (first | ((with_reducible refine gate_callee (f := 22) rfl ?_); refine goesL_ (some 117) rfl rfl Tryd.func22 (by kernel_rfl) rfl #[.agg #[.slice A0_0 l0_0.length c0_0, .slice A0_1 l0_1.length c0_1], .int .u32 a1, .string x19_2, .agg #[.int .u8 ((rd_T49 ((rd_T56 l2_1 a3).f1) x21_2).f0), .string ((rd_T49 ((rd_T56 l2_1 a3).f1) x21_2).f1), .string ((rd_T49 ((rd_T56 l2_1 a3).f1) x21_2).f2), .int .i64 ((rd_T49 ((rd_T56 l2_1 a3).f1) x21_2).f3)]] rfl (by (try simp only [List.map_toArray, List.map_cons, List.map_nil]); first | done | rfl | (simp only [List.length_drop, List.length_take]; rfl)) ?_; (with_reducible refine (paradigm_Put.calls _ _ l0_0 _ _ l0_1 a1 x19_2 ((rd_T49 ((rd_T56 l2_1 a3).f1) x21_2).f0) ((rd_T49 ((rd_T56 l2_1 a3).f1) x21_2).f1) ((rd_T49 ((rd_T56 l2_1 a3).f1) x21_2).f2) ((rd_T49 ((rd_T56 l2_1 a3).f1) x21_2).f3) t125 t126 _ ?side1 ?side2 ?side3 ?side4 ?side5 A55.out).mono ?_); (case side1 => repeat (first | exact (Kd.C_below HR0_0.out HB.out) | (with_reducible refine Kd.C_alloc ?_ _) | (with_reducible refine Kd.C_drewN ?_ _) | (with_reducible refine Kd.C_drew ?_))); (case side2 => exact HC0_0.out); (case side3 => repeat (first | exact (Kd.C_below HR0_1.out HB.out) | (with_reducible refine Kd.C_alloc ?_ _) | (with_reducible refine Kd.C_drewN ?_ _) | (with_reducible refine Kd.C_drew ?_))); (case side4 => exact HC0_1.out); (case side5 => exact Tabs.below HT.out (by repeat (first | (with_reducible first | exact HB.out | apply below_alloc | apply pw_below_drewN | apply below_drew1 | refine below_set ?_ GE108.out | refine below_set ?_ GE109.out | refine below_set ?_ GE124.out) | exact HB.out))); rintro e w77 ⟨rfl, hb⟩; refine ⟨_, rfl, ?_⟩; have n0_ := Aside0.mk (blk_below (g := gb108) (o := .cells #[.slice A0_0 l0_0.length c0_0, .slice A0_1 l0_1.length c0_1] 25 (0, 0)) (by (with_reducible repeat (first | refine blk_drewN ?_ _ | refine blk_drew ?_ | refine blk_alloc ?_ _)); exact BK108.out) hb); have n1_ := Aside0.mk (blk_below (g := gb109) (o := .cells #[.string a2_0, .slice (some ad121) l2_1.length c2_1] 45 (0, 0)) (by (with_reducible repeat (first | refine blk_drewN ?_ _ | refine blk_drew ?_ | refine blk_alloc ?_ _)); exact BK109.out) hb); have n2_ := Aside0.mk (blk_below (g := gb124) (o := .cells #[.int .u8 ((rd_T49 ((rd_T56 l2_1 a3).f1) x21_2).f0), .string ((rd_T49 ((rd_T56 l2_1 a3).f1) x21_2).f1), .string ((rd_T49 ((rd_T56 l2_1 a3).f1) x21_2).f2), .int .i64 ((rd_T49 ((rd_T56 l2_1 a3).f1) x21_2).f3)] 49 (0, 0)) (by (with_reducible repeat (first | refine blk_drewN ?_ _ | refine blk_drew ?_ | refine blk_alloc ?_ _)); exact BK124.out) hb); have n3_ := Aside0.mk (below_step (by repeat (first | (with_reducible first | exact HB.out | apply below_alloc | apply pw_below_drewN | apply below_drew1 | refine below_set ?_ GE108.out | refine below_set ?_ GE109.out | refine below_set ?_ GE124.out) | exact HB.out)) hb); clear BK108; clear BK109; clear BK124; clear HB; have BK108 := n0_; have BK109 := n1_; have BK124 := n2_; have HB := n3_; clear n0_ n1_ n2_ n3_; (try clear hb); (try clear hb2); (try clear hk); (try clear hi)))
                                  go_ret
                                  exact ⟨by first | rfl | (simp [errW_none, errW_some] <;> rfl) | (simp [*, errW_none, errW_some] <;> rfl), by repeat (first | (with_reducible first | exact HB.out | apply below_alloc | apply pw_below_drewN | apply below_drew1 | refine below_set ?_ GE108.out | refine below_set ?_ GE109.out | refine below_set ?_ GE124.out) | exact HB.out)⟩
                        · rw [if_neg c43] at H
                          exact absurd H (by simp)
                      · rw [if_neg c42] at H
                        have c42b0 : decide (x21_2 < (((rd_T56 l2_1 a3).f1).length : Int)) = false := decide_eq_false c42
                        clear c42
                        have HC78 := Aside0.mk H
                        clear H
                        have hnb79 := NB109_108.out
                        have hnc79 := NB108_109.out
                        have hcz80_0 : wr.cell? ⟨gb109, 0, none⟩ = some (.string a2_0) := (blk_cell BK109.out 0).trans rfl
                        have hcz80_1 : wr.cell? ⟨gb109, 1, none⟩ = some (.slice A2_1 l2_1.length c2_1) := (blk_cell BK109.out 1).trans rfl
                        have hfz80_0 := blk_frozen BK109.out 0
                        have hfz80_1 := blk_frozen BK109.out 1
                        have p121 : 0 ≤ (a3 : Int) := of_decide_eq_true (by first | (with_reducible assumption) | assumption)
                        have q121 : a3 < (l2_1.length : Int) := of_decide_eq_true (by first | (with_reducible assumption) | assumption)
                        obtain ⟨ad121, A121_1, c121_1, e121, hx121_0, hx121_1, hl121_1, hi121_1⟩ := at_T56 HR2_1.out a3 p121 q121
                        cases e121
                        replace hx121_0 := (HB.out.cell (World.block_lt_of_cell? w _ hx121_0)).trans hx121_0
                        replace hx121_1 := (HB.out.cell (World.block_lt_of_cell? w _ hx121_1)).trans hx121_1
                        have HR121_1 := Aside0.mk hi121_1
                        have HC121_1 := Aside0.mk hl121_1
                        clear hi121_1 hl121_1
                        replace p121 := eq_true p121
                        replace q121 := eq_true q121
                        go_upto_region 27 with (fail)
                        go_cut [136] (fun v136 wc => ∃ (kq : Nat) (x136_77 : Bool), v136 = .bool x136_77 ∧ Aside0 (cognatelaw17_ParadigmChain.j3 kq a1 a3 a4 t112 x20_2 x136_77 l0_0 l0_1 a2_0 l2_1 = some r) ∧ Aside0 (kq ≤ k2) ∧ Aside0 (wc.heap[gb108]? = some (.cells #[(.slice A0_0 l0_0.length c0_0), (.slice A0_1 l0_1.length c0_1)] 25 (0, 0))) ∧ Aside0 (wc.heap[gb109]? = some (.cells #[.string a2_0, (.slice (some ad121) l2_1.length c2_1)] 45 (0, 0))) ∧ Aside0 (Below w.heap.size w wc))
                        case first => as_aux_lemma =>
                          have H := HC78.out
                          clear HC78
                          by_cases c81 : t113 = 0
                          · rw [if_pos c81] at H
                            have c81b0 : (t113 == 0) = true := beq_iff_eq.mpr c81
                            have c81b1 : (t113 != 0) = false := bne_eq_false_iff_eq.mpr c81
                            clear c81
                            (first | rw [c81b0] | (simp only [i64_w, i32_w]; rw [c81b0]) | skip)
                            have H' := Aside0.mk H
                            clear H
                            go_wp2
                            go_meet
                            case rel => exact ⟨_, ((x19_2.toList != t112.toList)), (by first | rfl | (simp; done) | (simp [*]; done)), H', ⟨by have := HK1.out; have := HK2.out; first | omega | exact Nat.le_refl _⟩, ⟨by (with_reducible repeat (first | refine blk_drewN ?_ _ | refine blk_drew ?_ | refine blk_alloc ?_ _)); exact BK108.out⟩, ⟨by (with_reducible repeat (first | refine blk_drewN ?_ _ | refine blk_drew ?_ | refine blk_alloc ?_ _)); exact BK109.out⟩, ⟨by repeat (first | (with_reducible first | exact HB.out | apply below_alloc | apply pw_below_drewN | apply below_drew1 | refine below_set ?_ GE108.out | refine below_set ?_ GE109.out) | exact HB.out)⟩⟩
                          · rw [if_neg c81] at H
                            have c81b0 : (t113 == 0) = false := beq_eq_false_iff_ne.mpr c81
                            have c81b1 : (t113 != 0) = true := bne_iff_ne.mpr c81
                            (first | rw [c81b0] | (simp only [i64_w, i32_w]; rw [c81b0]) | skip)
                            have H' := Aside0.mk H
                            clear H
                            go_wp2
                            go_meet
                            case rel => exact ⟨_, (true), (by first | rfl | (simp; done) | (simp [*]; done)), H', ⟨by have := HK1.out; have := HK2.out; first | omega | exact Nat.le_refl _⟩, ⟨by (with_reducible repeat (first | refine blk_drewN ?_ _ | refine blk_drew ?_ | refine blk_alloc ?_ _)); exact BK108.out⟩, ⟨by (with_reducible repeat (first | refine blk_drewN ?_ _ | refine blk_drew ?_ | refine blk_alloc ?_ _)); exact BK109.out⟩, ⟨by repeat (first | (with_reducible first | exact HB.out | apply below_alloc | apply pw_below_drewN | apply below_drew1 | refine below_set ?_ GE108.out | refine below_set ?_ GE109.out) | exact HB.out)⟩⟩
                        case rest => as_aux_lemma =>
                          clear HC78
                          try clear c1
                          try clear p1
                          try clear q1
                          try clear hx1
                          try clear c2
                          try clear p2
                          try clear c3
                          try clear c4
                          try clear c5
                          try clear c6
                          try clear p6
                          try clear c7
                          try clear c8
                          try clear c9
                          try clear p11
                          try clear q11
                          try clear hx11
                          try clear c12
                          try clear p12
                          try clear q12
                          try clear hx12
                          try clear c13
                          try clear c17
                          try clear c18
                          try clear c18b0
                          try clear c18b1
                          try clear c22
                          try clear c24
                          try clear c25
                          try clear c26
                          try clear c31
                          try clear c31b0
                          try clear c32
                          try clear c32b0
                          try clear c34
                          try clear c34b0
                          try clear c34b1
                          try clear c35
                          try clear c35b0
                          try clear c35b1
                          try clear c40
                          try clear c40b0
                          try clear c41
                          try clear c41b0
                          try clear c42
                          try clear c42b0
                          try clear c43
                          try clear c43b0
                          try clear c45
                          try clear c48
                          try clear c49
                          try clear c51
                          try clear c52
                          try clear c53
                          try clear c56
                          try clear c56b0
                          try clear c56b1
                          try clear c57
                          try clear c58
                          try clear c60
                          try clear c63
                          try clear c63b0
                          try clear c63b1
                          try clear p64
                          try clear c65
                          try clear c66
                          try clear c68
                          try clear c72
                          try clear c73
                          try clear c75
                          try clear c79
                          try clear c81
                          try clear c81b0
                          try clear c81b1
                          try clear hcz14_0
                          try clear hcz14_1
                          try clear hcz23_0
                          try clear hcz23_1
                          try clear hcz25_0
                          try clear hcz25_1
                          try clear hcz26_0
                          try clear hcz26_1
                          try clear hcz28_0
                          try clear hcz28_1
                          try clear hcz29_0
                          try clear hcz29_1
                          try clear hcz46_0
                          try clear hcz46_1
                          try clear hcz50_0
                          try clear hcz50_1
                          try clear hcz50_2
                          try clear hcz50_3
                          try clear hcz54_0
                          try clear hcz54_1
                          try clear hcz54_2
                          try clear hcz54_3
                          try clear hcz59_0
                          try clear hcz59_1
                          try clear hcz61_0
                          try clear hcz61_1
                          try clear hcz61_2
                          try clear hcz61_3
                          try clear hcz67_0
                          try clear hcz67_1
                          try clear hcz69_0
                          try clear hcz69_1
                          try clear hcz69_2
                          try clear hcz69_3
                          try clear hcz74_0
                          try clear hcz74_1
                          try clear hcz76_0
                          try clear hcz76_1
                          try clear hcz76_2
                          try clear hcz76_3
                          try clear hcz80_0
                          try clear hcz80_1
                          try clear hfz14_0
                          try clear hfz14_1
                          try clear hfz23_0
                          try clear hfz23_1
                          try clear hfz25_0
                          try clear hfz25_1
                          try clear hfz26_0
                          try clear hfz26_1
                          try clear hfz28_0
                          try clear hfz28_1
                          try clear hfz29_0
                          try clear hfz29_1
                          try clear hfz46_0
                          try clear hfz46_1
                          try clear hfz50_0
                          try clear hfz50_1
                          try clear hfz50_2
                          try clear hfz50_3
                          try clear hfz54_0
                          try clear hfz54_1
                          try clear hfz54_2
                          try clear hfz54_3
                          try clear hfz59_0
                          try clear hfz59_1
                          try clear hfz61_0
                          try clear hfz61_1
                          try clear hfz61_2
                          try clear hfz61_3
                          try clear hfz67_0
                          try clear hfz67_1
                          try clear hfz69_0
                          try clear hfz69_1
                          try clear hfz69_2
                          try clear hfz69_3
                          try clear hfz74_0
                          try clear hfz74_1
                          try clear hfz76_0
                          try clear hfz76_1
                          try clear hfz76_2
                          try clear hfz76_3
                          try clear hfz80_0
                          try clear hfz80_1
                          try clear hx118_0
                          try clear hx121_0
                          try clear hx121_1
                          try clear hx122_0
                          try clear hx122_1
                          try clear hx123_0
                          try clear hx123_1
                          try clear hx123_2
                          try clear hx123_3
                          try clear p1
                          try clear p11
                          try clear p118
                          try clear p12
                          try clear p121
                          try clear p122
                          try clear p123
                          try clear p2
                          try clear p6
                          try clear q1
                          try clear q11
                          try clear q118
                          try clear q12
                          try clear q121
                          try clear q122
                          try clear q123
                          obtain ⟨kq, x136_77, rfl, HA, HJ77, BK108, BK109, HB⟩ := hcut
                          cases kq with
                          | zero => exact absurd HA.out (by simp [cognatelaw17_ParadigmChain.j3])
                          | succ kj77 =>
                            have H := HA.out
                            clear HA
                            simp only [cognatelaw17_ParadigmChain.j3] at H
                            by_cases c82 : x136_77 = true
                            · subst c82
                              have H1 : (some false) = some r := by rw [if_pos rfl] at H; exact H
                              clear H
                              have H := H1
                              clear H1
                              exact absurd H (by rw [hTrue]; simp)
                            · replace c82 := Bool.eq_false_iff.mpr c82
                              subst c82
                              have H1 : (if x20_2 = true then (some true) else ((word_Check.f l0_0 l0_1 t112).bind fun t128 => (if t128 = 0 then ((paradigm_Stems.f l0_0 l0_1 a1 a2_0 l2_1 a3 t112).bind fun bt129 => (if bt129.2 = 0 then (if (bt129.1.length : Int) = 1 then (if 0 < (bt129.1.length : Int) then (some ((rdOf ByteArray.empty bt129.1 0).toList == a4.toList)) else (none)) else (some false)) else (some false))) else (some true)))) = some r := by rw [if_neg (show ¬ (false = true) by decide)] at H; exact H
                              clear H
                              have H := H1
                              clear H1
                              by_cases c83 : x20_2 = true
                              · subst c83
                                have H1 : (some true) = some r := by rw [if_pos rfl] at H; exact H
                                clear H
                                have H := H1
                                clear H1
                                obtain rfl := Option.some.inj H
                                go_wp2
                                go_ret
                                exact ⟨by first | rfl | (simp [errW_none, errW_some] <;> rfl) | (simp [*, errW_none, errW_some] <;> rfl), by repeat (first | (with_reducible first | exact HB.out | apply below_alloc | apply pw_below_drewN | apply below_drew1 | refine below_set ?_ GE108.out | refine below_set ?_ GE109.out) | exact HB.out)⟩
                              · replace c83 := Bool.eq_false_iff.mpr c83
                                subst c83
                                have H1 : ((word_Check.f l0_0 l0_1 t112).bind fun t128 => (if t128 = 0 then ((paradigm_Stems.f l0_0 l0_1 a1 a2_0 l2_1 a3 t112).bind fun bt129 => (if bt129.2 = 0 then (if (bt129.1.length : Int) = 1 then (if 0 < (bt129.1.length : Int) then (some ((rdOf ByteArray.empty bt129.1 0).toList == a4.toList)) else (none)) else (some false)) else (some false))) else (some true))) = some r := by rw [if_neg (show ¬ (false = true) by decide)] at H; exact H
                                clear H
                                have H := H1
                                clear H1
                                replace H := Option.bind_eq_some_iff.mp H
                                obtain ⟨t128, A840, H⟩ := H
                                replace H : (if t128 = 0 then ((paradigm_Stems.f l0_0 l0_1 a1 a2_0 l2_1 a3 t112).bind fun bt129 => (if bt129.2 = 0 then (if (bt129.1.length : Int) = 1 then (if 0 < (bt129.1.length : Int) then (some ((rdOf ByteArray.empty bt129.1 0).toList == a4.toList)) else (none)) else (some false)) else (some false))) else (some true)) = some r := H
                                have A84 := Aside0.mk A840
                                clear A840
                                by_cases c85 : t128 = 0
                                · rw [if_pos c85] at H
                                  have c85b0 : (t128 == 0) = true := beq_iff_eq.mpr c85
                                  have c85b1 : (t128 != 0) = false := bne_eq_false_iff_eq.mpr c85
                                  clear c85
                                  replace H := Option.bind_eq_some_iff.mp H
                                  obtain ⟨⟨t129, t132⟩, A860, H⟩ := H
                                  replace H : (if t132 = 0 then (if (t129.length : Int) = 1 then (if 0 < (t129.length : Int) then (some ((rdOf ByteArray.empty t129 0).toList == a4.toList)) else (none)) else (some false)) else (some false)) = some r := H
                                  have A86 := Aside0.mk A860
                                  clear A860
                                  by_cases c87 : t132 = 0
                                  · rw [if_pos c87] at H
                                    have c87b0 : (t132 == 0) = true := beq_iff_eq.mpr c87
                                    have c87b1 : (t132 != 0) = false := bne_eq_false_iff_eq.mpr c87
                                    clear c87
                                    by_cases c88 : (t129.length : Int) = 1
                                    · rw [if_pos c88] at H
                                      have c88b0 : ((t129.length : Int) == 1) = true := beq_iff_eq.mpr c88
                                      have c88b1 : ((t129.length : Int) != 1) = false := bne_eq_false_iff_eq.mpr c88
                                      clear c88
                                      by_cases c89 : 0 < (t129.length : Int)
                                      · rw [if_pos c89] at H
                                        have c89b0 : decide (0 < (t129.length : Int)) = true := decide_eq_true c89
                                        have c89b1 : decide (0 < t129.length) = true := decide_eq_true (by omega)
                                        clear c89
                                        obtain rfl := Option.some.inj H
                                        have hnb90 := NB108_109.out
                                        have hnc90 := NB109_108.out
                                        have hcz91_0 : wc.cell? ⟨gb108, 0, none⟩ = some (.slice A0_0 l0_0.length c0_0) := (blk_cell BK108.out 0).trans rfl
                                        have hcz91_1 : wc.cell? ⟨gb108, 1, none⟩ = some (.slice A0_1 l0_1.length c0_1) := (blk_cell BK108.out 1).trans rfl
                                        have hfz91_0 := blk_frozen BK108.out 0
                                        have hfz91_1 := blk_frozen BK108.out 1
                                        go_wp2_with (first | (go_at_call 28; (with_reducible refine (word_Check.calls _ _ l0_0 _ _ l0_1 t112 t128 _ ?side1 ?side2 ?side3 ?side4 ?side5 A84.out).mono ?_); (case side1 => repeat (first | exact (Kd.C_below HR0_0.out HB.out) | (with_reducible refine Kd.C_alloc ?_ _) | (with_reducible refine Kd.C_drewN ?_ _) | (with_reducible refine Kd.C_drew ?_))); (case side2 => exact HC0_0.out); (case side3 => repeat (first | exact (Kd.C_below HR0_1.out HB.out) | (with_reducible refine Kd.C_alloc ?_ _) | (with_reducible refine Kd.C_drewN ?_ _) | (with_reducible refine Kd.C_drew ?_))); (case side4 => exact HC0_1.out); (case side5 => exact Tabs.below HT.out (by repeat (first | (with_reducible first | exact HB.out | apply below_alloc | apply pw_below_drewN | apply below_drew1 | refine below_set ?_ GE108.out | refine below_set ?_ GE109.out) | exact HB.out))); rintro e w92 ⟨rfl, hb⟩; have n0_ := Aside0.mk (blk_below (g := gb108) (o := .cells #[.slice A0_0 l0_0.length c0_0, .slice A0_1 l0_1.length c0_1] 25 (0, 0)) (by (with_reducible repeat (first | refine blk_drewN ?_ _ | refine blk_drew ?_ | refine blk_alloc ?_ _)); exact BK108.out) hb); have n1_ := Aside0.mk (blk_below (g := gb109) (o := .cells #[.string a2_0, .slice (some ad121) l2_1.length c2_1] 45 (0, 0)) (by (with_reducible repeat (first | refine blk_drewN ?_ _ | refine blk_drew ?_ | refine blk_alloc ?_ _)); exact BK109.out) hb); have n2_ := Aside0.mk (below_step (by repeat (first | (with_reducible first | exact HB.out | apply below_alloc | apply pw_below_drewN | apply below_drew1 | refine below_set ?_ GE108.out | refine below_set ?_ GE109.out) | exact HB.out)) hb); clear BK108; clear BK109; clear HB; have BK108 := n0_; have BK109 := n1_; have HB := n2_; clear n0_ n1_ n2_; (try clear hb); (try clear hb2); (try clear hk); (try clear hi); have hcz93_0 : w92.cell? ⟨gb108, 0, none⟩ = some (.slice A0_0 l0_0.length c0_0) := (blk_cell BK108.out 0).trans rfl; have hcz93_1 : w92.cell? ⟨gb108, 1, none⟩ = some (.slice A0_1 l0_1.length c0_1) := (blk_cell BK108.out 1).trans rfl; have hfz93_0 := blk_frozen BK108.out 0; have hfz93_1 := blk_frozen BK108.out 1; have hcz94_0 : w92.cell? ⟨gb109, 0, none⟩ = some (.string a2_0) := (blk_cell BK109.out 0).trans rfl; have hcz94_1 : w92.cell? ⟨gb109, 1, none⟩ = some (.slice (some ad121) l2_1.length c2_1) := (blk_cell BK109.out 1).trans rfl; have hfz94_0 := blk_frozen BK109.out 0; have hfz94_1 := blk_frozen BK109.out 1) | ((with_reducible refine gate_callee (f := 25) rfl ?_); refine goesL_ (some 150) rfl rfl Tryd.func25 (by kernel_rfl) rfl #[.agg #[.slice A0_0 l0_0.length c0_0, .slice A0_1 l0_1.length c0_1], .int .u32 a1, .agg #[.string a2_0, .slice (some ad121) l2_1.length c2_1], .int .i64 a3, .string t112] rfl (by (try simp only [List.map_toArray, List.map_cons, List.map_nil]); first | done | rfl | (simp only [List.length_drop, List.length_take]; rfl)) ?_; (with_reducible refine (paradigm_Stems.calls _ _ l0_0 _ _ l0_1 a1 a2_0 _ _ l2_1 a3 t112 t129 t132 _ ?side1 ?side2 ?side3 ?side4 ?side5 ?side6 ?side7 A86.out).mono ?_); (case side1 => repeat (first | exact (Kd.C_below HR0_0.out HB.out) | (with_reducible refine Kd.C_alloc ?_ _) | (with_reducible refine Kd.C_drewN ?_ _) | (with_reducible refine Kd.C_drew ?_))); (case side2 => exact HC0_0.out); (case side3 => repeat (first | exact (Kd.C_below HR0_1.out HB.out) | (with_reducible refine Kd.C_alloc ?_ _) | (with_reducible refine Kd.C_drewN ?_ _) | (with_reducible refine Kd.C_drew ?_))); (case side4 => exact HC0_1.out); (case side5 => repeat (first | exact (Kd.C_below HR2_1.out HB.out) | (with_reducible refine Kd.C_alloc ?_ _) | (with_reducible refine Kd.C_drewN ?_ _) | (with_reducible refine Kd.C_drew ?_))); (case side6 => exact HC2_1.out); (case side7 => exact Tabs.below HT.out (by repeat (first | (with_reducible first | exact HB.out | apply below_alloc | apply pw_below_drewN | apply below_drew1 | refine below_set ?_ GE108.out | refine below_set ?_ GE109.out) | exact HB.out))); rintro e w95 ⟨v130, rfl, ho0, hb⟩; refine ⟨_, rfl, ?_⟩; have n0_ := Aside0.mk (Kd.R_lower ho0 (below_size (by repeat (first | (with_reducible first | exact HB.out | apply below_alloc | apply pw_below_drewN | apply below_drew1 | refine below_set ?_ GE108.out | refine below_set ?_ GE109.out) | exact HB.out)))); have n1_ := Aside0.mk (blk_below (g := gb108) (o := .cells #[.slice A0_0 l0_0.length c0_0, .slice A0_1 l0_1.length c0_1] 25 (0, 0)) (by (with_reducible repeat (first | refine blk_drewN ?_ _ | refine blk_drew ?_ | refine blk_alloc ?_ _)); exact BK108.out) hb); have n2_ := Aside0.mk (blk_below (g := gb109) (o := .cells #[.string a2_0, .slice (some ad121) l2_1.length c2_1] 45 (0, 0)) (by (with_reducible repeat (first | refine blk_drewN ?_ _ | refine blk_drew ?_ | refine blk_alloc ?_ _)); exact BK109.out) hb); have n3_ := Aside0.mk (below_step (by repeat (first | (with_reducible first | exact HB.out | apply below_alloc | apply pw_below_drewN | apply below_drew1 | refine below_set ?_ GE108.out | refine below_set ?_ GE109.out) | exact HB.out)) hb); clear BK108; clear BK109; clear HB; have HO131 := n0_; have BK108 := n1_; have BK109 := n2_; have HB := n3_; clear n0_ n1_ n2_ n3_; (try clear hb); (try clear hb2); (try clear hk); (try clear hi); (try clear ho0); obtain ⟨Ao96, co96, eo96⟩ := Kd.R_slice HO131.out; subst eo96; have p133 : 0 ≤ (0 : Int) := (by omega); have q133 : 0 < (t129.length : Int) := of_decide_eq_true (by first | (with_reducible assumption) | assumption); obtain ⟨ad133, e133, hx133_0⟩ := Kd.at_string (Kd.R_reads' HO131.out).2.2 0 p133 q133; cases e133; have qi133 : (0 < t129.length) = True := eq_true (by omega); (try rw [show ((0 : Int)).toNat = 0 from rfl] at hx133_0); (try rw [Addr.add_zero'] at hx133_0); replace p133 := eq_true p133; replace q133 := eq_true q133))
                                        go_ret
                                        exact ⟨by first | rfl | (simp [errW_none, errW_some] <;> rfl) | (simp [*, errW_none, errW_some] <;> rfl), by repeat (first | (with_reducible first | exact HB.out | apply below_alloc | apply pw_below_drewN | apply below_drew1 | refine below_set ?_ GE108.out | refine below_set ?_ GE109.out) | exact HB.out)⟩
                                      · rw [if_neg c89] at H
                                        exact absurd H (by simp)
                                    · rw [if_neg c88] at H
                                      have c88b0 : ((t129.length : Int) == 1) = false := beq_eq_false_iff_ne.mpr c88
                                      have c88b1 : ((t129.length : Int) != 1) = true := bne_iff_ne.mpr c88
                                      exact absurd H (by rw [hTrue]; simp)
                                  · rw [if_neg c87] at H
                                    have c87b0 : (t132 == 0) = false := beq_eq_false_iff_ne.mpr c87
                                    have c87b1 : (t132 != 0) = true := bne_iff_ne.mpr c87
                                    exact absurd H (by rw [hTrue]; simp)
                                · rw [if_neg c85] at H
                                  have c85b0 : (t128 == 0) = false := beq_eq_false_iff_ne.mpr c85
                                  have c85b1 : (t128 != 0) = true := bne_iff_ne.mpr c85
                                  obtain rfl := Option.some.inj H
                                  have hnb97 := NB108_109.out
                                  have hnc97 := NB109_108.out
                                  have hcz98_0 : wc.cell? ⟨gb108, 0, none⟩ = some (.slice A0_0 l0_0.length c0_0) := (blk_cell BK108.out 0).trans rfl
                                  have hcz98_1 : wc.cell? ⟨gb108, 1, none⟩ = some (.slice A0_1 l0_1.length c0_1) := (blk_cell BK108.out 1).trans rfl
                                  have hfz98_0 := blk_frozen BK108.out 0
                                  have hfz98_1 := blk_frozen BK108.out 1
                                  go_wp2_with (first | (go_at_call 28; (with_reducible refine (word_Check.calls _ _ l0_0 _ _ l0_1 t112 t128 _ ?side1 ?side2 ?side3 ?side4 ?side5 A84.out).mono ?_); (case side1 => repeat (first | exact (Kd.C_below HR0_0.out HB.out) | (with_reducible refine Kd.C_alloc ?_ _) | (with_reducible refine Kd.C_drewN ?_ _) | (with_reducible refine Kd.C_drew ?_))); (case side2 => exact HC0_0.out); (case side3 => repeat (first | exact (Kd.C_below HR0_1.out HB.out) | (with_reducible refine Kd.C_alloc ?_ _) | (with_reducible refine Kd.C_drewN ?_ _) | (with_reducible refine Kd.C_drew ?_))); (case side4 => exact HC0_1.out); (case side5 => exact Tabs.below HT.out (by repeat (first | (with_reducible first | exact HB.out | apply below_alloc | apply pw_below_drewN | apply below_drew1 | refine below_set ?_ GE108.out | refine below_set ?_ GE109.out) | exact HB.out))); rintro e w99 ⟨rfl, hb⟩; have n0_ := Aside0.mk (blk_below (g := gb108) (o := .cells #[.slice A0_0 l0_0.length c0_0, .slice A0_1 l0_1.length c0_1] 25 (0, 0)) (by (with_reducible repeat (first | refine blk_drewN ?_ _ | refine blk_drew ?_ | refine blk_alloc ?_ _)); exact BK108.out) hb); have n1_ := Aside0.mk (blk_below (g := gb109) (o := .cells #[.string a2_0, .slice (some ad121) l2_1.length c2_1] 45 (0, 0)) (by (with_reducible repeat (first | refine blk_drewN ?_ _ | refine blk_drew ?_ | refine blk_alloc ?_ _)); exact BK109.out) hb); have n2_ := Aside0.mk (below_step (by repeat (first | (with_reducible first | exact HB.out | apply below_alloc | apply pw_below_drewN | apply below_drew1 | refine below_set ?_ GE108.out | refine below_set ?_ GE109.out) | exact HB.out)) hb); clear BK108; clear BK109; clear HB; have BK108 := n0_; have BK109 := n1_; have HB := n2_; clear n0_ n1_ n2_; (try clear hb); (try clear hb2); (try clear hk); (try clear hi)))
                                  go_ret
                                  exact ⟨by first | rfl | (simp [errW_none, errW_some] <;> rfl) | (simp [*, errW_none, errW_some] <;> rfl), by repeat (first | (with_reducible first | exact HB.out | apply below_alloc | apply pw_below_drewN | apply below_drew1 | refine below_set ?_ GE108.out | refine below_set ?_ GE109.out) | exact HB.out)⟩
                    · rw [if_neg c41] at H
                      exact absurd H (by simp)
                  · rw [if_neg c40] at H
                    exact absurd H (by simp)
      · rw [if_neg c18] at H
        have c18b0 : (t117 == 0) = false := beq_eq_false_iff_ne.mpr c18
        have c18b1 : (t117 != 0) = true := bne_iff_ne.mpr c18
        by_cases c100 : (t114.length : Int) = 0
        · rw [if_pos c100] at H
          have c100b0 : ((t114.length : Int) == 0) = true := beq_iff_eq.mpr c100
          have c100b1 : ((t114.length : Int) != 0) = false := bne_eq_false_iff_eq.mpr c100
          clear c100
          obtain rfl := Option.some.inj H
          go_enter Tryd.func5, Tryd.ntmps5
          go_wp2_with (first | ((with_reducible refine gate_dst (N := 5) rfl ?_); (try (refine gate_guard (by rfl) ?_; dsimp only)); refine box_event ?hg (N := 5) ?hd (cs := #[.slice A0_0 l0_0.length c0_0, .slice A0_1 l0_1.length c0_1]) (t := 25) ?hr ?_; (case hd => rfl); (case hg => rfl); (case hr => first | (go_simp; done) | (go_simp; rfl)); intro gb108 hg w101 hbox hb; have n0_ := Aside0.mk (below_step (by repeat (first | (with_reducible first | exact HB.out | apply below_alloc | apply pw_below_drewN | apply below_drew1) | exact HB.out)) hb); have n1_ := Aside0.mk (hbox); have n2_ := Aside0.mk ((by rw [hg]; exact (below_size (by repeat (first | (with_reducible first | exact HB.out | apply below_alloc | apply pw_below_drewN | apply below_drew1) | exact HB.out))) : w.heap.size ≤ gb108)); have n3_ := Aside0.mk ((by rw [hg]; exact (below_size (by repeat (first | (with_reducible first | exact HB.out | apply below_alloc | apply pw_below_drewN | apply below_drew1) | exact HB.out))) : w.heap.size ≤ gb108)); clear HB; have HB := n0_; have BK108 := n1_; have GW108 := n2_; have GE108 := n3_; clear n0_ n1_ n2_ n3_; clear hb hbox hg) | ((with_reducible refine gate_dst (N := 7) rfl ?_); (try (refine gate_guard (by rfl) ?_; dsimp only)); refine box_event ?hg (N := 7) ?hd (cs := #[.string a2_0, .slice A2_1 l2_1.length c2_1]) (t := 45) ?hr ?_; (case hd => rfl); (case hg => rfl); (case hr => first | (go_simp; done) | (go_simp; rfl)); intro gb109 hg w102 hbox hb; have n0_ := Aside0.mk (blk_below (g := gb108) (o := .cells #[.slice A0_0 l0_0.length c0_0, .slice A0_1 l0_1.length c0_1] 25 (0, 0)) (by (with_reducible repeat (first | refine blk_drewN ?_ _ | refine blk_drew ?_ | refine blk_alloc ?_ _)); exact BK108.out) hb); have n1_ := Aside0.mk (below_step (by repeat (first | (with_reducible first | exact HB.out | apply below_alloc | apply pw_below_drewN | apply below_drew1 | refine below_set ?_ GE108.out) | exact HB.out)) hb); have n2_ := Aside0.mk (hbox); have n3_ := Aside0.mk ((by rw [hg]; exact (below_size (by repeat (first | (with_reducible first | exact HB.out | apply below_alloc | apply pw_below_drewN | apply below_drew1 | refine below_set ?_ GE108.out) | exact HB.out))) : w.heap.size ≤ gb109)); have n4_ := Aside0.mk ((by rw [hg]; exact (below_size (by repeat (first | (with_reducible first | exact HB.out | apply below_alloc | apply pw_below_drewN | apply below_drew1 | refine below_set ?_ GE108.out) | exact HB.out))) : w.heap.size ≤ gb109)); have n5_ := Aside0.mk ((by rw [hg]; exact Nat.ne_of_lt (blk_lt (g := gb108) (o := .cells #[.slice A0_0 l0_0.length c0_0, .slice A0_1 l0_1.length c0_1] 25 (0, 0)) (by (with_reducible repeat (first | refine blk_drewN ?_ _ | refine blk_drew ?_ | refine blk_alloc ?_ _)); exact BK108.out)) : gb108 ≠ gb109)); have n6_ := Aside0.mk ((by rw [hg]; exact Nat.ne_of_gt (blk_lt (g := gb108) (o := .cells #[.slice A0_0 l0_0.length c0_0, .slice A0_1 l0_1.length c0_1] 25 (0, 0)) (by (with_reducible repeat (first | refine blk_drewN ?_ _ | refine blk_drew ?_ | refine blk_alloc ?_ _)); exact BK108.out)) : gb109 ≠ gb108)); clear BK108; clear HB; have BK108 := n0_; have HB := n1_; have BK109 := n2_; have GW109 := n3_; have GE109 := n4_; have NB108_109 := n5_; have NB109_108 := n6_; clear n0_ n1_ n2_ n3_ n4_ n5_ n6_; clear hb hbox hg) | ((with_reducible refine gate_callee (f := 17) rfl ?_); refine goesL_ (some 27) rfl rfl Tryd.func17 (by kernel_rfl) rfl #[] rfl (by (try simp only [List.map_toArray, List.map_cons, List.map_nil]); first | done | rfl | (simp only [List.length_drop, List.length_take]; rfl)) ?_; (with_reducible refine (cognatelaw17_alive.calls  true _ ?side1 A6.out).mono ?_); (case side1 => exact Tabs.below HT.out (by repeat (first | (with_reducible first | exact HB.out | apply below_alloc | apply pw_below_drewN | apply below_drew1 | refine below_set ?_ GE108.out | refine below_set ?_ GE109.out) | exact HB.out))); rintro e w103 ⟨rfl, hb⟩; refine ⟨_, rfl, ?_⟩; have n0_ := Aside0.mk (blk_below (g := gb108) (o := .cells #[.slice A0_0 l0_0.length c0_0, .slice A0_1 l0_1.length c0_1] 25 (0, 0)) (by (with_reducible repeat (first | refine blk_drewN ?_ _ | refine blk_drew ?_ | refine blk_alloc ?_ _)); exact BK108.out) hb); have n1_ := Aside0.mk (blk_below (g := gb109) (o := .cells #[.string a2_0, .slice A2_1 l2_1.length c2_1] 45 (0, 0)) (by (with_reducible repeat (first | refine blk_drewN ?_ _ | refine blk_drew ?_ | refine blk_alloc ?_ _)); exact BK109.out) hb); have n2_ := Aside0.mk (below_step (by repeat (first | (with_reducible first | exact HB.out | apply below_alloc | apply pw_below_drewN | apply below_drew1 | refine below_set ?_ GE108.out | refine below_set ?_ GE109.out) | exact HB.out)) hb); clear BK108; clear BK109; clear HB; have BK108 := n0_; have BK109 := n1_; have HB := n2_; clear n0_ n1_ n2_; (try clear hb); (try clear hb2); (try clear hk); (try clear hi); have hnb104 := NB109_108.out; have hnc104 := NB108_109.out; have hcz105_0 : w103.cell? ⟨gb109, 0, none⟩ = some (.string a2_0) := (blk_cell BK109.out 0).trans rfl; have hcz105_1 : w103.cell? ⟨gb109, 1, none⟩ = some (.slice A2_1 l2_1.length c2_1) := (blk_cell BK109.out 1).trans rfl; have hfz105_0 := blk_frozen BK109.out 0; have hfz105_1 := blk_frozen BK109.out 1) | ((with_reducible refine gate_callee (f := 26) rfl ?_); refine goesL_ (some 32) rfl rfl Tryd.func26 (by kernel_rfl) rfl #[.agg #[.string a2_0, .slice A2_1 l2_1.length c2_1], .string a4] rfl (by (try simp only [List.map_toArray, List.map_cons, List.map_nil]); first | done | rfl | (simp only [List.length_drop, List.length_take]; rfl)) ?_; (with_reducible refine (cognatelaw17_much.calls k a2_0 _ _ l2_1 a4 false _ ?side1 ?side2 A8.out).mono ?_); (case side1 => repeat (first | exact (Kd.C_below HR2_1.out HB.out) | (with_reducible refine Kd.C_alloc ?_ _) | (with_reducible refine Kd.C_drewN ?_ _) | (with_reducible refine Kd.C_drew ?_))); (case side2 => exact HC2_1.out); rintro e w106 ⟨rfl, hb⟩; refine ⟨_, rfl, ?_⟩; have n0_ := Aside0.mk (blk_below (g := gb108) (o := .cells #[.slice A0_0 l0_0.length c0_0, .slice A0_1 l0_1.length c0_1] 25 (0, 0)) (by (with_reducible repeat (first | refine blk_drewN ?_ _ | refine blk_drew ?_ | refine blk_alloc ?_ _)); exact BK108.out) hb); have n1_ := Aside0.mk (blk_below (g := gb109) (o := .cells #[.string a2_0, .slice A2_1 l2_1.length c2_1] 45 (0, 0)) (by (with_reducible repeat (first | refine blk_drewN ?_ _ | refine blk_drew ?_ | refine blk_alloc ?_ _)); exact BK109.out) hb); have n2_ := Aside0.mk (below_step (by repeat (first | (with_reducible first | exact HB.out | apply below_alloc | apply pw_below_drewN | apply below_drew1 | refine below_set ?_ GE108.out | refine below_set ?_ GE109.out) | exact HB.out)) hb); clear BK108; clear BK109; clear HB; have BK108 := n0_; have BK109 := n1_; have HB := n2_; clear n0_ n1_ n2_; (try clear hb); (try clear hb2); (try clear hk); (try clear hi); have hcz107_0 : w106.cell? ⟨gb108, 0, none⟩ = some (.slice A0_0 l0_0.length c0_0) := (blk_cell BK108.out 0).trans rfl; have hcz107_1 : w106.cell? ⟨gb108, 1, none⟩ = some (.slice A0_1 l0_1.length c0_1) := (blk_cell BK108.out 1).trans rfl; have hfz107_0 := blk_frozen BK108.out 0; have hfz107_1 := blk_frozen BK108.out 1; have hcz108_0 : w106.cell? ⟨gb109, 0, none⟩ = some (.string a2_0) := (blk_cell BK109.out 0).trans rfl; have hcz108_1 : w106.cell? ⟨gb109, 1, none⟩ = some (.slice A2_1 l2_1.length c2_1) := (blk_cell BK109.out 1).trans rfl; have hfz108_0 := blk_frozen BK109.out 0; have hfz108_1 := blk_frozen BK109.out 1) | ((with_reducible refine gate_callee (f := 24) rfl ?_); refine goesL_ (some 39) rfl rfl Tryd.func24 (by kernel_rfl) rfl #[.agg #[.slice A0_0 l0_0.length c0_0, .slice A0_1 l0_1.length c0_1], .int .u32 a1, .agg #[.string a2_0, .slice A2_1 l2_1.length c2_1], .int .i64 a3, .string a4] rfl (by (try simp only [List.map_toArray, List.map_cons, List.map_nil]); first | done | rfl | (simp only [List.length_drop, List.length_take]; rfl)) ?_; (with_reducible refine (paradigm_Form.calls _ _ l0_0 _ _ l0_1 a1 a2_0 _ _ l2_1 a3 a4 t112 t113 _ ?side1 ?side2 ?side3 ?side4 ?side5 ?side6 ?side7 A16.out).mono ?_); (case side1 => repeat (first | exact (Kd.C_below HR0_0.out HB.out) | (with_reducible refine Kd.C_alloc ?_ _) | (with_reducible refine Kd.C_drewN ?_ _) | (with_reducible refine Kd.C_drew ?_))); (case side2 => exact HC0_0.out); (case side3 => repeat (first | exact (Kd.C_below HR0_1.out HB.out) | (with_reducible refine Kd.C_alloc ?_ _) | (with_reducible refine Kd.C_drewN ?_ _) | (with_reducible refine Kd.C_drew ?_))); (case side4 => exact HC0_1.out); (case side5 => repeat (first | exact (Kd.C_below HR2_1.out HB.out) | (with_reducible refine Kd.C_alloc ?_ _) | (with_reducible refine Kd.C_drewN ?_ _) | (with_reducible refine Kd.C_drew ?_))); (case side6 => exact HC2_1.out); (case side7 => exact Tabs.below HT.out (by repeat (first | (with_reducible first | exact HB.out | apply below_alloc | apply pw_below_drewN | apply below_drew1 | refine below_set ?_ GE108.out | refine below_set ?_ GE109.out) | exact HB.out))); rintro e w109 ⟨rfl, hb⟩; refine ⟨_, rfl, ?_⟩; have n0_ := Aside0.mk (blk_below (g := gb108) (o := .cells #[.slice A0_0 l0_0.length c0_0, .slice A0_1 l0_1.length c0_1] 25 (0, 0)) (by (with_reducible repeat (first | refine blk_drewN ?_ _ | refine blk_drew ?_ | refine blk_alloc ?_ _)); exact BK108.out) hb); have n1_ := Aside0.mk (blk_below (g := gb109) (o := .cells #[.string a2_0, .slice A2_1 l2_1.length c2_1] 45 (0, 0)) (by (with_reducible repeat (first | refine blk_drewN ?_ _ | refine blk_drew ?_ | refine blk_alloc ?_ _)); exact BK109.out) hb); have n2_ := Aside0.mk (below_step (by repeat (first | (with_reducible first | exact HB.out | apply below_alloc | apply pw_below_drewN | apply below_drew1 | refine below_set ?_ GE108.out | refine below_set ?_ GE109.out) | exact HB.out)) hb); clear BK108; clear BK109; clear HB; have BK108 := n0_; have BK109 := n1_; have HB := n2_; clear n0_ n1_ n2_; (try clear hb); (try clear hb2); (try clear hk); (try clear hi); have hcz110_0 : w109.cell? ⟨gb108, 0, none⟩ = some (.slice A0_0 l0_0.length c0_0) := (blk_cell BK108.out 0).trans rfl; have hcz110_1 : w109.cell? ⟨gb108, 1, none⟩ = some (.slice A0_1 l0_1.length c0_1) := (blk_cell BK108.out 1).trans rfl; have hfz110_0 := blk_frozen BK108.out 0; have hfz110_1 := blk_frozen BK108.out 1; have hcz111_0 : w109.cell? ⟨gb109, 0, none⟩ = some (.string a2_0) := (blk_cell BK109.out 0).trans rfl; have hcz111_1 : w109.cell? ⟨gb109, 1, none⟩ = some (.slice A2_1 l2_1.length c2_1) := (blk_cell BK109.out 1).trans rfl; have hfz111_0 := blk_frozen BK109.out 0; have hfz111_1 := blk_frozen BK109.out 1) | ((with_reducible refine gate_callee (f := 25) rfl ?_); refine goesL_ (some 48) rfl rfl Tryd.func25 (by kernel_rfl) rfl #[.agg #[.slice A0_0 l0_0.length c0_0, .slice A0_1 l0_1.length c0_1], .int .u32 a1, .agg #[.string a2_0, .slice A2_1 l2_1.length c2_1], .int .i64 a3, .string a4] rfl (by (try simp only [List.map_toArray, List.map_cons, List.map_nil]); first | done | rfl | (simp only [List.length_drop, List.length_take]; rfl)) ?_; (with_reducible refine (paradigm_Stems.calls _ _ l0_0 _ _ l0_1 a1 a2_0 _ _ l2_1 a3 a4 t114 t117 _ ?side1 ?side2 ?side3 ?side4 ?side5 ?side6 ?side7 A17.out).mono ?_); (case side1 => repeat (first | exact (Kd.C_below HR0_0.out HB.out) | (with_reducible refine Kd.C_alloc ?_ _) | (with_reducible refine Kd.C_drewN ?_ _) | (with_reducible refine Kd.C_drew ?_))); (case side2 => exact HC0_0.out); (case side3 => repeat (first | exact (Kd.C_below HR0_1.out HB.out) | (with_reducible refine Kd.C_alloc ?_ _) | (with_reducible refine Kd.C_drewN ?_ _) | (with_reducible refine Kd.C_drew ?_))); (case side4 => exact HC0_1.out); (case side5 => repeat (first | exact (Kd.C_below HR2_1.out HB.out) | (with_reducible refine Kd.C_alloc ?_ _) | (with_reducible refine Kd.C_drewN ?_ _) | (with_reducible refine Kd.C_drew ?_))); (case side6 => exact HC2_1.out); (case side7 => exact Tabs.below HT.out (by repeat (first | (with_reducible first | exact HB.out | apply below_alloc | apply pw_below_drewN | apply below_drew1 | refine below_set ?_ GE108.out | refine below_set ?_ GE109.out) | exact HB.out))); rintro e w112 ⟨v115, rfl, ho0, hb⟩; refine ⟨_, rfl, ?_⟩; have n0_ := Aside0.mk (Kd.R_lower ho0 (below_size (by repeat (first | (with_reducible first | exact HB.out | apply below_alloc | apply pw_below_drewN | apply below_drew1 | refine below_set ?_ GE108.out | refine below_set ?_ GE109.out) | exact HB.out)))); have n1_ := Aside0.mk (blk_below (g := gb108) (o := .cells #[.slice A0_0 l0_0.length c0_0, .slice A0_1 l0_1.length c0_1] 25 (0, 0)) (by (with_reducible repeat (first | refine blk_drewN ?_ _ | refine blk_drew ?_ | refine blk_alloc ?_ _)); exact BK108.out) hb); have n2_ := Aside0.mk (blk_below (g := gb109) (o := .cells #[.string a2_0, .slice A2_1 l2_1.length c2_1] 45 (0, 0)) (by (with_reducible repeat (first | refine blk_drewN ?_ _ | refine blk_drew ?_ | refine blk_alloc ?_ _)); exact BK109.out) hb); have n3_ := Aside0.mk (below_step (by repeat (first | (with_reducible first | exact HB.out | apply below_alloc | apply pw_below_drewN | apply below_drew1 | refine below_set ?_ GE108.out | refine below_set ?_ GE109.out) | exact HB.out)) hb); clear BK108; clear BK109; clear HB; have HO116 := n0_; have BK108 := n1_; have BK109 := n2_; have HB := n3_; clear n0_ n1_ n2_ n3_; (try clear hb); (try clear hb2); (try clear hk); (try clear hi); (try clear ho0); obtain ⟨Ao113, co113, eo113⟩ := Kd.R_slice HO116.out; subst eo113))
          go_ret
          exact ⟨by first | rfl | (simp [errW_none, errW_some] <;> rfl) | (simp [*, errW_none, errW_some] <;> rfl), by repeat (first | (with_reducible first | exact HB.out | apply below_alloc | apply pw_below_drewN | apply below_drew1 | refine below_set ?_ GE108.out | refine below_set ?_ GE109.out) | exact HB.out)⟩
        · rw [if_neg c100] at H
          have c100b0 : ((t114.length : Int) == 0) = false := beq_eq_false_iff_ne.mpr c100
          have c100b1 : ((t114.length : Int) != 0) = true := bne_iff_ne.mpr c100
          have c100b2 : ¬ (t114 = []) := fun h_ => c100 (by rw [h_]; rfl)
          exact absurd H (by rw [hTrue]; simp)
  · replace c7 := Bool.eq_false_iff.mpr c7
    subst c7
    have H1 : (some false) = some r := by rw [if_neg (show ¬ (false = true) by decide)] at H; exact H
    clear H
    have H := H1
    clear H1
    exact absurd H (by rw [hTrue]; simp)

end Go.Proofs.YthmjheclhcdinaaDoor.RPChain
end
section
/-
  The plain law of ParadigmChain: what the printed statement computes is true.
-/
set_option linter.unusedSimpArgs false
set_option linter.unusedVariables false
namespace Go.Proofs.YthmjheclhcdinaaDoor
open Go.RowKit Go.Proofs.YthmjheclhcdinaaDoorW.PrintWords Go.Proofs.YthmjheclhcdinaaDoorW.PrintLast Go.Proofs.YthmjheclhcdinaaDoorW.PrintMore Go.Proofs.YthmjheclhcdinaaDoor.Ext
theorem wrapM (i : Nat) (h : i < 4611686018427387903) : wrap64 ((i : Int) + 1) = ((i + 1 : Nat) : Int) := by unfold wrap64; omega
theorem form_f {l0 : List ByteArray} {l1 : List Letter} {v i : Int} {s n : ByteArray} {C : List Cell} (h : sizedP n C) : paradigm_Form.f l0 l1 v n C i s = some (formP l0 l1 v n C i s) := if_pos h
theorem stems_f {l0 : List ByteArray} {l1 : List Letter} {v i : Int} {s n : ByteArray} {C : List Cell} (h : sizedP n C) : paradigm_Stems.f l0 l1 v n C i s = some (stemsP l0 l1 v n C i s) := if_pos h
theorem much_loop (n : ByteArray) (C : List Cell) (hC : C.length ≤ 600) : ∀ (m i k : Nat), i + m = C.length → m + 1 ≤ k → ∃ b, RPChain.cognatelaw17_much.l0 k (i : Int) n C = some b
  | 0, i, k, hi, hk => by
    obtain ⟨k, rfl⟩ : ∃ q, k = q + 1 := ⟨k - 1, by omega⟩
    rw [RPChain.cognatelaw17_much.l0, if_neg (by omega)]
    exact ⟨_, rfl⟩
  | m + 1, i, k, hi, hk => by
    obtain ⟨k, rfl⟩ : ∃ q, k = q + 1 := ⟨k - 1, by omega⟩
    rw [RPChain.cognatelaw17_much.l0, if_pos (by omega), if_pos (by omega), wrapM i (by omega)]
    split
    · exact ⟨_, rfl⟩
    · exact much_loop n C hC m (i + 1) k (by omega) (by omega)
theorem much_f (n : ByteArray) (C : List Cell) (s : ByteArray) : ∃ b, RPChain.cognatelaw17_much.f 1000 n C s = some b := by
  unfold RPChain.cognatelaw17_much.f
  split
  · exact ⟨_, by rw [RPChain.cognatelaw17_much.j0, if_pos rfl]⟩
  · rw [RPChain.cognatelaw17_much.j0]
    by_cases h : (C.length : Int) > 600
    · rw [decide_eq_true h, if_pos rfl]
      exact ⟨_, rfl⟩
    · rw [decide_eq_false h, if_neg (by simp)]
      exact much_loop n C (by omega) C.length 0 999 (by omega) (by omega)
section
variable {l0 : List ByteArray} {l1 : List Letter} {v : Int} {n : ByteArray} {C : List Cell} {i : Nat} {cls l : List Int} {w : ByteArray}
theorem cellE_mk (hc : classOf l0 l1 v 0 = (cls, 0)) (hp : chkP l0 l1 n C = 0) (hi : i < C.length) {s : ByteArray} {m : List Int} (hs : lettersOf l0 l1 s = (m, 0)) : cellE l0 l1 v n C (i : Int) s = 0 := by
  unfold cellE
  rw [hc, if_pos rfl, if_pos hp, if_pos ⟨by omega, by omega⟩, hs]
theorem rdC_at (hi : i < C.length) : C.getD (i : Int).toNat ⟨0, []⟩ = C[i] := by
  rw [Int.toNat_natCast, List.getD_eq_getElem?_getD, List.getElem?_eq_getElem hi, Option.getD_some]
theorem formP_mk (hc : classOf l0 l1 v 0 = (cls, 0)) (hp : chkP l0 l1 n C = 0) (hi : i < C.length) {s : ByteArray} {m : List Int} (hs : lettersOf l0 l1 s = (m, 0)) : formP l0 l1 v n C (i : Int) s = toText (putC (kindsOf l1) cls (C[i].f1.map affOf) m) := by
  unfold formP cellAffs
  rw [if_pos (cellE_mk hc hp hi hs), hc, hs, rdC_at hi]
theorem stemsP_mk (hc : classOf l0 l1 v 0 = (cls, 0)) (hp : chkP l0 l1 n C = 0) (hi : i < C.length) {s : ByteArray} {m : List Int} (hs : lettersOf l0 l1 s = (m, 0)) : stemsP l0 l1 v n C (i : Int) s = (oneText (offC (kindsOf l1) cls (C[i].f1.map affOf).reverse m), 0) := by
  unfold stemsP cellAffs
  rw [if_pos (cellE_mk hc hp hi hs), hc, hs, rdC_at hi]
theorem putC_last (ks cls : List Int) : ∀ (xs : List Aff) (x : Aff) (l m : List Int), putC ks cls xs l = (m, 0) → putC ks cls (xs ++ [x]) l = (if (capped (putL ks cls x m)).2 = 0 then (capped (putL ks cls x m)).1 else [], (capped (putL ks cls x m)).2) := by
  intro xs x l m h
  rw [putC_append ks cls xs [x] l m h]
  simp only [putC]
  split
  · rename_i h2
    rw [h2]
  · rfl
/-- Of a chain whose end is reached each step is. -/
theorem putC_step (ks cls : List Int) {xs : List Aff} {x : Aff} {ys : List Aff} {l m q : List Int} {e : Int} (h : putC ks cls xs l = (m, 0)) (hf : putC ks cls (xs ++ x :: ys) l = (q, e)) (he : e = 0) : (capped (putL ks cls x m)).2 = 0 := by
  rw [putC_append ks cls xs _ l m h] at hf
  simp only [putC] at hf
  by_cases h2 : (capped (putL ks cls x m)).2 = 0
  · exact h2
  · rw [if_neg h2] at hf
    exact absurd ((Prod.mk.inj hf).2.trans he) h2
theorem ch_j3 (hsP : sizedP n C) (hk : chk l0 l1 = 0) (hc : classOf l0 l1 v 0 = (cls, 0)) (hp : chkP l0 l1 n C = 0) (hi : i < C.length) (hw : lettersOf l0 l1 w = (l, 0)) (hA : ∀ x ∈ C[i].f1, affOk l0 l1 x = true)
    {m : List Int} (hm : putC (kindsOf l1) cls (C[i].f1.map affOf) l = (m, 0)) (hmk : ∀ y ∈ m, (kindsOf l1).contains y = true) (b : Bool) (hb : b = false → ∀ x ∈ C[i].f1, x.f0 ≠ 5) (k : Nat) :
    RPChain.cognatelaw17_ParadigmChain.j3 (k + 1) v (i : Int) w (runesBytes m) b false l0 l1 n C = some true := by
  rw [RPChain.cognatelaw17_ParadigmChain.j3, if_neg (by simp)]
  by_cases hbt : b = true
  · rw [if_pos hbt]
  · rw [if_neg hbt]
    have hv : ∀ y ∈ m, Utf8.valid y = true := fun y hy => rune_valid (kinds_valid hk (hmk y hy))
    unfold RPChain.word_Check.f word_Letters.f
    rw [Option.bind_some, Option.bind_some]
    by_cases hl : (lettersOf l0 l1 (runesBytes m)).2 = 0
    · rw [if_pos hl, stems_f hsP, Option.bind_some]
      have hsz := letters_size hl
      have hlm : lettersOf l0 l1 (runesBytes m) = ((lettersOf l0 l1 (runesBytes m)).1, 0) := by rw [← hl]
      have hlo := letters_ok (by omega) hlm
      have hm2 : (lettersOf l0 l1 (runesBytes m)).1 = m := by rw [hlo.2.1, (runes_forth m hv).1]
      rw [hm2] at hlm
      have hoff := putC_off (kindsOf l1) cls (C[i].f1.map affOf) l m (fun x hx => by
        obtain ⟨y, hy, rfl⟩ := List.mem_map.1 hx
        exact ⟨(affOk_kinds (hA y hy)).1, hb (by simpa using hbt) y hy⟩) hm
      rw [stemsP_mk hc hp hi hlm, hoff]
      unfold oneText
      dsimp only
      rw [if_pos rfl, if_pos (by simp), if_pos (by simp), rdOf_one, letters_back (by have := letters_size (l0 := l0) (l1 := l1) (s := w) (by rw [hw]); omega) hw]
      simp
    · rw [if_neg hl]
theorem ch_l1 (hsP : sizedP n C) (hk : chk l0 l1 = 0) (hc : classOf l0 l1 v 0 = (cls, 0)) (hp : chkP l0 l1 n C = 0) (hi : i < C.length) (hw : lettersOf l0 l1 w = (l, 0)) (hA : ∀ x ∈ C[i].f1, affOk l0 l1 x = true) (h8 : C[i].f1.length ≤ 8)
    {F : ByteArray} {E : Int} (hF : toText (putC (kindsOf l1) cls (C[i].f1.map affOf) l) = (F, E)) : ∀ (rest pre : List Affix) (m : List Int) (k : Nat) (b : Bool), C[i].f1 = pre ++ rest → putC (kindsOf l1) cls (pre.map affOf) l = (m, 0) → m.length ≤ 256 → (∀ y ∈ m, (kindsOf l1).contains y = true) → (b = false → ∀ x ∈ pre, x.f0 ≠ 5) → 2 * rest.length + 5 ≤ k →
    RPChain.cognatelaw17_ParadigmChain.l1 k v (i : Int) w F E (runesBytes m) b (pre.length : Int) l0 l1 n C = some true
  | [], pre, m, k, b, hpre, hm, hml, hmk, hb, hk5 => by
    obtain ⟨k, rfl⟩ : ∃ q, k = q + 2 := ⟨k - 2, by omega⟩
    have hrd : (rd_T56 C (i : Int)) = C[i] := rdC C i hi
    rw [List.append_nil] at hpre
    rw [hpre, hm] at hF
    unfold toText at hF
    rw [if_pos rfl] at hF
    obtain ⟨rfl, rfl⟩ := Prod.mk.inj hF
    rw [RPChain.cognatelaw17_ParadigmChain.l1, if_pos (by omega), if_pos (by omega), hrd, if_neg (by rw [hpre]; omega), if_pos rfl]
    have hne : ((runesBytes m).toList != (runesBytes m).toList) = false := by simp
    rw [hne]
    exact ch_j3 hsP hk hc hp hi hw hA (by rw [hpre]; exact hm) hmk b (by rw [hpre]; exact hb) k
  | x :: rest, pre, m, k, b, hpre, hm, hml, hmk, hb, hk5 => by
    obtain ⟨k, rfl⟩ : ∃ q, k = q + 2 := ⟨k - 2, by omega⟩
    have hrd : (rd_T56 C (i : Int)) = C[i] := rdC C i hi
    have hxA : x ∈ C[i].f1 := by rw [hpre]; simp
    have hrx : (rd_T49 C[i].f1 (pre.length : Int)) = x := by
      rw [hpre]
      simp [rd_T49]
    have hlen : C[i].f1.length = pre.length + 1 + rest.length := by rw [hpre]; simp; omega
    have hpl : pre.length ≤ 8 := by omega
    simp only [List.length_cons] at hk5
    have hsx := hsP.2 C[i] (List.getElem_mem hi) x hxA
    have hv : ∀ y ∈ m, Utf8.valid y = true := fun y hy => rune_valid (kinds_valid hk (hmk y hy))
    have hj2 : ∀ b', (b' = false → ∀ y ∈ pre ++ [x], y.f0 ≠ 5) → RPChain.cognatelaw17_ParadigmChain.j2 (k + 1) v (i : Int) w F E (runesBytes m) b' (pre.length : Int) l0 l1 n C x.f0 x.f1 x.f2 x.f3 = some true := by
      intro b' hb'
      rw [RPChain.cognatelaw17_ParadigmChain.j2, put_f hsx, Option.bind_some]
      obtain ⟨s, e, hs⟩ : ∃ s e, putS l0 l1 v (runesBytes m) ⟨x.f0, x.f1, x.f2, x.f3⟩ = (s, e) := ⟨_, _, rfl⟩
      rw [hs]
      dsimp only
      by_cases he : e = 0
      · subst he
        obtain ⟨cls2, lm, m2, hc2, hl2, ha2, hp2, hm2, rfl, hks2⟩ := put_ok hs
        obtain ⟨rfl, -⟩ := Prod.mk.inj (hc.symm.trans hc2)
        have hlo := letters_ok (by have := letters_size (l0 := l0) (l1 := l1) (s := runesBytes m) (by rw [hl2]); omega) hl2
        obtain rfl : lm = m := by rw [hlo.2.1, (runes_forth m hv).1]
        rw [if_pos rfl, wrapM _ (by omega)]
        have hlast := putC_last (kindsOf l1) cls (pre.map affOf) (affOf x) l lm hm
        have hcap : capped (putL (kindsOf l1) cls (affOf x) lm) = (m2, 0) := by
          have : putL (kindsOf l1) cls (affOf x) lm = (m2, 0) := hp2
          rw [this, capped_mk hm2]
        rw [hcap] at hlast
        dsimp only at hlast
        rw [if_pos rfl] at hlast
        have e1 : pre.length + 1 = (pre ++ [x]).length := by simp
        rw [e1]
        exact ch_l1 hsP hk hc hp hi hw hA h8 hF rest (pre ++ [x]) m2 k b' (by rw [hpre, List.append_assoc, List.singleton_append]) (by rw [List.map_append]; exact hlast) hm2 hks2 hb' (by omega)
      · rw [if_neg he]
        by_cases hE : E = 0
        · have hsz := (runesBytes_size m hv).2
          have hlong : cognatelaw17_long.f (runesBytes m) = some ((runesOf (runesBytes m)).length : Int) := if_pos (by omega)
          rw [if_pos hE, hlong, Option.bind_some, (runes_forth m hv).1]
          by_cases h64 : m.length ≤ 64
          · exfalso
            obtain ⟨q, e2, hq⟩ : ∃ q e2, putC (kindsOf l1) cls (C[i].f1.map affOf) l = (q, e2) := ⟨_, _, rfl⟩
            rw [hq] at hF
            have he2 : e2 = 0 := by
              unfold toText at hF
              dsimp only at hF
              by_cases h : e2 = 0
              · exact h
              · rw [if_neg h] at hF
                exact absurd ((Prod.mk.inj hF).2.trans hE) h
            rw [hpre, List.map_append, List.map_cons] at hq
            have hst := putC_step (kindsOf l1) cls hm hq he2
            unfold putS at hs
            rw [hc, if_pos rfl, letters_forth hk hmk h64, if_pos rfl, if_pos (hA x hxA)] at hs
            dsimp only at hs
            have hx2 : affOf ⟨x.f0, x.f1, x.f2, x.f3⟩ = affOf x := rfl
            rw [hx2] at hs
            unfold toText at hs
            rw [if_pos hst] at hs
            exact he (Prod.mk.inj hs).2.symm
          · have : (decide ((m.length : Int) > 64)) = true := decide_eq_true (by omega)
            rw [this]
        · rw [if_neg hE]
    rw [RPChain.cognatelaw17_ParadigmChain.l1, if_pos (by omega), if_pos (by omega), hrd, if_pos (by omega), if_pos (by omega), hrx]
    by_cases hbt : b = true
    · rw [if_pos hbt]
      exact hj2 true (by simp)
    · rw [if_neg hbt]
      refine hj2 _ (fun h5 y hy => ?_)
      rcases List.mem_append.1 hy with hy | hy
      · exact hb (by simpa using hbt) y hy
      · obtain rfl : y = x := by simpa using hy
        simpa using h5
end
theorem chain_true (l0 : List ByteArray) (l1 : List Letter) (v : Int) (n : ByteArray) (C : List Cell) (ix : Int) (w : ByteArray) (hsP : sizedP n C) : RPChain.cognatelaw17_ParadigmChain.f 1000 l0 l1 v n C ix w = some true := by
  unfold RPChain.cognatelaw17_ParadigmChain.f cognatelaw17_alive.f
  rw [Option.bind_some, if_pos rfl]
  obtain ⟨b, hb⟩ := much_f n C w
  rw [hb, Option.bind_some]
  by_cases hbt : b = true
  · rw [if_pos hbt]
  · rw [if_neg hbt, form_f hsP, Option.bind_some, stems_f hsP, Option.bind_some]
    by_cases he : cellE l0 l1 v n C ix w = 0
    · obtain ⟨h1, h2, h3, h4, h5⟩ := cellE_zero he
      obtain ⟨i, rfl⟩ : ∃ i : Nat, ix = (i : Int) := ⟨ix.toNat, by omega⟩
      have hi : i < C.length := by omega
      obtain ⟨cls, hc⟩ : ∃ cls, classOf l0 l1 v 0 = (cls, 0) := ⟨(classOf l0 l1 v 0).1, Prod.ext rfl h1⟩
      obtain ⟨l, hl⟩ : ∃ l, lettersOf l0 l1 w = (l, 0) := ⟨(lettersOf l0 l1 w).1, Prod.ext rfl h5⟩
      have hsz := letters_size h5
      have hlo := letters_ok (by omega) hl
      obtain ⟨h8, hA⟩ := chkP_cell hlo.1 h2 hi
      obtain ⟨F, E, hF⟩ : ∃ F E, toText (putC (kindsOf l1) cls (C[i].f1.map affOf) l) = (F, E) := ⟨_, _, rfl⟩
      have hback : runesBytes l = w := letters_back (by omega) hl
      have h1' : ∀ k, 25 ≤ k → RPChain.cognatelaw17_ParadigmChain.l1 k v (i : Int) w F E w false 0 l0 l1 n C = some true := by
        intro k hk
        have := ch_l1 hsP hlo.1 hc h2 hi hl hA h8 hF C[i].f1 [] l k false rfl rfl (by omega) hlo.2.2.2.1 (by simp) (by omega)
        rw [hback] at this
        exact this
      rw [formP_mk hc h2 hi hl, stemsP_mk hc h2 hi hl, hF]
      dsimp only
      rw [if_pos rfl]
      cases ho : offC (kindsOf l1) cls (C[i].f1.map affOf).reverse l with
      | none =>
        unfold oneText
        dsimp only
        rw [RPChain.cognatelaw17_ParadigmChain.l0, if_neg (by simp)]
        exact h1' 999 (by omega)
      | some m =>
        unfold oneText
        dsimp only
        obtain ⟨hp1, hp2, hp3⟩ := offC_put (kindsOf l1) cls _ l m (by omega) ho
        rw [List.reverse_reverse] at hp1
        have hlm := letters_forth (l0 := l0) hlo.1 (fun y hy => hlo.2.2.2.1 y (hp2 y hy)) (by omega : m.length ≤ 64)
        rw [RPChain.cognatelaw17_ParadigmChain.l0, if_pos (by simp), if_pos (by omega), rdOf_one, form_f hsP, Option.bind_some, formP_mk hc h2 hi hlm, hp1]
        unfold toText
        rw [if_pos rfl]
        dsimp only
        rw [if_pos rfl, hback, if_pos rfl, RPChain.cognatelaw17_ParadigmChain.l0, if_neg (by simp [wrap64])]
        exact h1' 998 (by omega)
    · unfold formP stemsP
      rw [if_neg he, if_neg he]
      dsimp only
      rw [if_neg he, if_pos (by simp)]
      have : (cellE l0 l1 v n C ix w != 0) = true := by simpa using he
      exact congrArg some this
end Go.Proofs.YthmjheclhcdinaaDoor
end
section
/-
  ParadigmChain: of any alphabet, vowels, paradigm, cell and word: a cell's form is its affixes put one behind the other, as long as what comes of it may be handed in; its stems, put, make the word; a form of a cell without shapes has the stem again; no condition but that the tables of utf8 stand as their text lays them.
-/
set_option linter.unusedSimpArgs false
set_option linter.unusedVariables false
namespace Go.Proofs.YthmjheclhcdinaaDoor.paradigmChain
open Go.ChangeShapes Go.WideShapes Go.ChangeAt Go.RowKit Go.Proofs.YthmjheclhcdinaaDoorW.PrintWords Go.Proofs.YthmjheclhcdinaaDoorW.PrintLast Go.Proofs.YthmjheclhcdinaaDoorW.PrintMore Go.Proofs.YthmjheclhcdinaaDoor.Ext
open Go.ChangeMaps (open_string shut_string)

theorem u32_of {x : Int} (h : (Lit.int .u32 x).wf = true) : u32 x := by
  simp [Lit.wf, IntKind.min, IntKind.max, IntKind.signed, IntKind.bits] at h
  exact ⟨by omega, by omega⟩
set_option maxRecDepth 100000 in
theorem contract (H : Type) (enc : TypeId × Value → H) (W : World) (base : Nat) (args : Array Value) (ds gs : List (DataW H)) (before : List MemPlace)
    (hval : ∀ (j : Nat) t v, Tryd.f5.params[j]? = some t → args[j]? = some v → Value.okWide Tryd.prog W .any base t v)
    (hW : DataW.Whole enc Tryd.prog Tryd.f5.params.toList Rows.paradigmChainSpec.vars false W args.toList ds gs before)
    (hsz : (DataW.weightsEach Tryd.prog (Tryd.f5.params.toList ++ (OpenSpec.ofChange Rows.paradigmChainSpec).bare.plain.varTypes Tryd.prog) (ds ++ gs)).all (· ≤ reachBytes) = true) (hL : laidMetH Tryd.prog theLaid W) :
    Calls Tryd.prog 5 args W fun e W' => ∃ v, e = .returned v ∧ Rows.paradigmChainSpec.post enc Tryd.prog Tryd.f5 false true false false W args v W' := by
  have hW' := hW
  obtain ⟨p, q, hA0, hV, rfl, hfz, hnd⟩ := hW
  have hA : DataW.TrodAll enc Tryd.prog W 0 (fun _ => true) true Tryd.f5.params.toList args.toList ds p := hA0
  rw [Tryd.params5] at hA hval hsz
  obtain ⟨v0, vs0, d0, ds0, p0, q0, hargs, rfl, rfl, h0, r0⟩ := trodAll_cons hA
  obtain ⟨v1, vs1, d1, ds1, p1, q1, rfl, rfl, rfl, h1, r1⟩ := trodAll_cons r0
  obtain ⟨v2, vs2, d2, ds2, p2, q2, rfl, rfl, rfl, h2, r2⟩ := trodAll_cons r1
  obtain ⟨v3, vs3, d3, ds3, p3, q3, rfl, rfl, rfl, h3, r3⟩ := trodAll_cons r2
  obtain ⟨v4, vs4, d4, ds4, p4, q4, rfl, rfl, rfl, h4, r4⟩ := trodAll_cons r3
  obtain ⟨rfl, rfl, rfl⟩ := trodAll_nil r4
  obtain rfl : args = #[v0, v1, v2, v3, v4] := by cases args; simp_all
  obtain ⟨rfl, rfl⟩ := trodVars_none hV
  have k0 := h0
  have lt0 : ∀ x ∈ p0, x.block < W.heap.size := by obtain ⟨m, hm⟩ := k0; exact DataW.trod_lt m _ _ _ hm
  have wt0 : ∀ m ∈ d0.weights Tryd.prog 25, m ≤ reachBytes := fun m hm => by have := List.all_eq_true.1 hsz m (DataW.weights_mem_each (j := 0) rfl rfl m hm); simpa using this
  have k1 := h1
  have lt1 : ∀ x ∈ p1, x.block < W.heap.size := by obtain ⟨m, hm⟩ := k1; exact DataW.trod_lt m _ _ _ hm
  have wt1 : ∀ m ∈ d1.weights Tryd.prog 26, m ≤ reachBytes := fun m hm => by have := List.all_eq_true.1 hsz m (DataW.weights_mem_each (j := 1) rfl rfl m hm); simpa using this
  have k2 := h2
  have lt2 : ∀ x ∈ p2, x.block < W.heap.size := by obtain ⟨m, hm⟩ := k2; exact DataW.trod_lt m _ _ _ hm
  have wt2 : ∀ m ∈ d2.weights Tryd.prog 45, m ≤ reachBytes := fun m hm => by have := List.all_eq_true.1 hsz m (DataW.weights_mem_each (j := 2) rfl rfl m hm); simpa using this
  have k3 := h3
  have lt3 : ∀ x ∈ p3, x.block < W.heap.size := by obtain ⟨m, hm⟩ := k3; exact DataW.trod_lt m _ _ _ hm
  have wt3 : ∀ m ∈ d3.weights Tryd.prog 3, m ≤ reachBytes := fun m hm => by have := List.all_eq_true.1 hsz m (DataW.weights_mem_each (j := 3) rfl rfl m hm); simpa using this
  have k4 := h4
  have lt4 : ∀ x ∈ p4, x.block < W.heap.size := by obtain ⟨m, hm⟩ := k4; exact DataW.trod_lt m _ _ _ hm
  have wt4 : ∀ m ∈ d4.weights Tryd.prog 9, m ≤ reachBytes := fun m hm => by have := List.all_eq_true.1 hsz m (DataW.weights_mem_each (j := 4) rfl rfl m hm); simpa using this
  obtain ⟨A0, c0, l0, A0', c0', l0', rfl, g0, h0, g0', h0', w0⟩ := alphabet_arg (hval 0 25 v0 rfl rfl) h0
  have hwf0 : wfA l0' := fun y hy => ⟨u32_of (w0.2.2 y hy).2.1, u32_of (w0.2.2 y hy).2.2⟩
  obtain ⟨x1, rfl, rfl, rfl, w1⟩ := open_int Tryd.underlying26 (hval 1 26 v1 rfl rfl) h1
  obtain ⟨x3, rfl, rfl, rfl, w3⟩ := open_int Tryd.underlying3 (hval 3 3 v3 rfl rfl) h3
  obtain ⟨a4, rfl, rfl, rfl, w4⟩ := open_string Tryd.underlying9 (hval 4 9 v4 rfl rfl) h4
  obtain ⟨cs2, ⟨n2, L2⟩, rfl, hk2, w2, z2⟩ := structS_arg Tryd.underlying45 (hval 2 45 v2 rfl rfl) (opensS_paradigm W) h2
  replace z2 := z2 wt2
  obtain ⟨A2, c2, he2, g2, K2⟩ := k45_open hk2
  obtain rfl : cs2 = #[.string n2, .slice A2 L2.length c2] := Array.toList_inj.1 he2
  clear hA0 hval
  refine Calls.mono (RPChain.cognatelaw17_ParadigmChain.calls 1000 A0 c0 l0 A0' c0' l0' x1 n2 A2 c2 L2 x3 a4 true W h0 g0 h0' g0' K2 g2 (tabs_of_laid hL) rfl (chain_true l0 l0' x1 n2 L2 x3 a4 ⟨Nat.le_trans z2.1 (by decide), fun c hc x hx => ⟨Int.ofNat_le.2 (Nat.le_trans ((z2.2.2 c hc).2 x hx).1 (by decide)), Int.ofNat_le.2 (Nat.le_trans ((z2.2.2 c hc).2 x hx).2 (by decide))⟩⟩)) fun e W' ⟨he, bel⟩ => ?_
  subst he
  exact ⟨_, rfl, _, _, _, [], _, [], hW', trodAll_mk1 (shut_bool Tryd.underlying4 _), (trodAll_cons_mk (Below.trod laidOut (by kernel_rfl) (of_decide_eq_true (by kernel_rfl)) k0 bel lt0) (trodAll_cons_mk (Below.trod laidOut (by kernel_rfl) (of_decide_eq_true (by kernel_rfl)) k1 bel lt1) (trodAll_cons_mk (Below.trod laidOut (by kernel_rfl) (of_decide_eq_true (by kernel_rfl)) k2 bel lt2) (trodAll_cons_mk (Below.trod laidOut (by kernel_rfl) (of_decide_eq_true (by kernel_rfl)) k3 bel lt3) (trodAll_cons_mk (Below.trod laidOut (by kernel_rfl) (of_decide_eq_true (by kernel_rfl)) k4 bel lt4) trodAll_mk0))))), rfl, bel.frame _, fun h => by cases h⟩
abbrev wargs : Array Value := #[.agg #[.slice none 0 0, .slice none 0 0], .int .u32 0, .agg #[.string ⟨#[]⟩, .slice none 0 0], .int .i64 0, .string ⟨#[]⟩]
theorem reads (os : Os) {H : Type} (enc : TypeId × Value → H) : ∃ ds places, DataW.whole enc Tryd.prog ((laidWorld os).forCall (fun _ _ => 0) ⟨#[], wargs, []⟩).memory Tryd.f5.params.toList Rows.paradigmChainSpec.vars false wargs.toList 8 = some (ds, [], places) :=
  ⟨[.agg [.nil, .nil], .lit (.int .u32 0), .agg [.lit (.string []), .nil], .lit (.int .i64 0), .lit (.string [])], [], by kernel_rfl⟩
theorem w_ok (os : Os) : Input.okWideB Tryd.prog ((laidWorld os).forCall (fun _ _ => 0) ⟨#[], wargs, []⟩) 5 ⟨#[], wargs, []⟩ = true := by kernel_rfl
theorem w_sized (os : Os) {H : Type} (enc : TypeId × Value → H) : (OpenSpec.ofChange Rows.paradigmChainSpec).bare.sizedB enc Tryd.prog Tryd.f5 false ((laidWorld os).forCall (fun _ _ => 0) ⟨#[], wargs, []⟩).memory wargs 8 = true := by kernel_rfl
theorem noInit : Tryd.prog.inits.idxOf? 5 = Option.none := by kernel_rfl
theorem w_row (os : Os) {H : Type} (enc : TypeId × Value → H) : (OpenSpec.ofChange Rows.paradigmChainSpec).preRow enc Tryd.prog Tryd.f5 Rows.paradigmChainRow.domain false Rows.paradigmChainRow.laid ((laidWorld os).forCall (fun _ _ => 0) ⟨#[], wargs, []⟩).memory wargs := by
  obtain ⟨ds, places, hx⟩ := reads os enc
  exact OpenSpec.preRow_of_cond 8 hx rfl (fun k hk => by cases hk) (w_sized os enc) (laid_met os wargs)
set_option maxRecDepth 100000 in
theorem lifted (os : Os) (started : os.Started) (H : Type) (enc : TypeId × Value → H) (F : Stop.Interp) :
    ReturnsInHanded {} Tryd.checked os 5 .any ((OpenSpec.ofChange Rows.paradigmChainSpec).preRow enc Tryd.prog Tryd.f5 Rows.paradigmChainRow.domain false Rows.paradigmChainRow.laid) (((OpenSpec.ofChange Rows.paradigmChainSpec).at F).post enc Tryd.prog Tryd.f5 false true false false) := by
  refine returnsInHanded_of_row (C := Tryd.checked) (s := OpenSpec.ofChange Rows.paradigmChainSpec) own started noInit Tryd.func5
    (witness_row_at (enc := enc) (C := Tryd.checked) false (laidWorld os) wargs (w_os os) (w_vars os wargs) (w_rest os wargs) (w_ok os) (w_row os enc)) ?_
  intro W base args ds gs before hval hW _ _ hsz hL _ _
  exact contract H enc W base args ds gs before hval hW hsz hL
theorem named : Tryd.pinned.checked.prog.funcNamed Rows.paradigmChainRow.func = some 5 := by kernel_rfl
set_option maxHeartbeats 100000000 in
theorem facts : joinedFacts Tryd.pinned.checked.prog 5 Tryd.f5 (OpenSpec.ofChange Rows.paradigmChainSpec).bare Rows.paradigmChainRow = true := by
  unfold joinedFacts
  repeat' (with_reducible refine and_both ?_ ?_)
  all_goals (as_aux_lemma => kernel_rfl)
theorem inst : Tryd.f5.isInstance Tryd.pinned.checked.prog Rows.paradigmChainRow.origin Rows.paradigmChainRow.targs := of_decide_eq_true (by kernel_rfl)
theorem wrap : Tryd.f5.isWrapper Tryd.pinned.checked.prog Rows.paradigmChainRow.wrapper Rows.paradigmChainRow.mainSum := by unfold Func.isWrapper; first | (rw [if_pos (by decide +kernel)]; kernel_rfl) | (rw [if_neg (by decide +kernel)]; exact ⟨rfl, rfl⟩)
theorem said : Rows.ParadigmChainSaid :=
  OpenClaim.holds_of_cond 5 Tryd.f5 rfl rfl rfl rfl rfl rfl rfl ⟨rfl, rfl, rfl, rfl, rfl⟩ rfl rfl rfl rfl rfl named Tryd.func5 facts
    inst wrap
    (fun os started H enc _ F => by rw [OpenClaim.pre_eq_preRow]; exact lifted os started H enc F)
theorem plain (f : FuncId) (fn : Func) (hf : Tryd.pinned.checked.prog.funcNamed "cognate/cognatelaw17.ParadigmChain" = some f) (hfn : Tryd.pinned.checked.prog.funcs[f]? = some fn) :
    true = Tryd.pinned.checked.prog.looks [] ∧ ∀ (j : Nat) t, fn.params[j]? = some t → Tryd.pinned.checked.prog.wantsStandIn t = false := by
  obtain rfl : f = 5 := Option.some.inj ((show Tryd.prog.funcNamed "cognate/cognatelaw17.ParadigmChain" = some 5 by kernel_rfl).symm.trans hf) |>.symm
  obtain rfl : fn = Tryd.f5 := (Option.some.inj (Tryd.func5.symm.trans hfn)).symm
  refine ⟨looks_on, fun j t ht => ?_⟩
  rw [Tryd.params5] at ht
  have hm : t ∈ [25, 26, 45, 3, 9] := by simpa using Array.mem_of_getElem? ht
  have hall : ([25, 26, 45, 3, 9].all fun u => !Tryd.prog.wantsStandIn u) = true := by kernel_rfl
  exact (show Tryd.prog.wantsStandIn t = false by simpa using List.all_eq_true.1 hall t hm)
theorem wf : Rows.paradigmChainRow.wfByText (OpenSpec.ofChange Rows.paradigmChainSpec) = true := by kernel_rfl
theorem goes : false = Rows.paradigmChainRow.goesBy Tryd.pinned.checked.prog := by kernel_rfl
theorem card : Rows.ParadigmChainCardSaid :=
  Claim7.holds_tied_plain_at .later [] _ _ (true, "c79581bdf228af4a406eb950c3edf7d61f6ca33bfe0f7aa492cf7aa6fa8bd25e") _ said (fun _ h => by cases h) wf (fun _ h => by cases h) paradigmChain_row_tie rfl ⟨rfl, rfl⟩ main_is rfl plain goes
#print axioms card
end Go.Proofs.YthmjheclhcdinaaDoor.paradigmChain
namespace Go.Proofs.YthmjheclhcdinaaDoor
theorem paradigmChain_holds : Rows.ParadigmChainCardSaid := paradigmChain.card
end Go.Proofs.YthmjheclhcdinaaDoor
end
