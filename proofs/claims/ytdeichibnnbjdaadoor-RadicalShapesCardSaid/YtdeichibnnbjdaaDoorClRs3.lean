/-
  RadicalShapes: of any alphabet, words, shape and list of shapes: what is merged, split, found by the program is the document's, and what comes in stays; no condition but that the tables of utf8 stand as their text lays them.
-/
import Derived.Test.YtdeichibnnbjdaaDoorClRs2
import Derived.Lib.QuoteLoop
import Derived.Lib.MapLaws
import Derived.Test.YtdeichibnnbjdaaDoorProg
import Derived.Below
import Derived.Deep.Draws
import Derived.Deep.AppendLies
import Derived.Maps.AppendAt
import Derived.OwnWalk
import Derived.Laws.BytesArg
import Derived.Laws.MakeOwn
import Derived.Laws.OwnMore
import Derived.Deep.OwnRows
import Derived.Tactics
import Derived.Lib.ConvBytes
import Derived.Laws.Slices
import Derived.WalkKit
import Derived.KernelRfl
import Derived.RowKit3
import Derived.Deep.LoopGhost
import Derived.Deep.QuietTactic
import Derived.BigQuiet
import Derived.WideLaws
import Derived.Deep.DeepCutAuto
import Derived.Deep.CutBlock
import Derived.Deep.RegionHeld3
import Derived.Laws.Rows
import Derived.Lib.AppendStr
import Derived.ArgAppend
import Derived.Laws.IdiomCopy
import Derived.OrdersHeld
import Derived.Laws.BitsLemmas
import Derived.RowKit
import Derived.Laws.Cover4
section
-- printed by a program of this session (wip/tools/prx.sh: a turned copy of the kit's print, with functions given from outside)
namespace Go.Proofs.YtdeichibnnbjdaaDoor.RRa
open Go.RowKit Go.Proofs.YtdeichibnnbjdaaDoor Go.Proofs.YtdeichibnnbjdaaDoor.Ext Go.Proofs.YtdeichibnnbjdaaDoorW.PrintWords Go.Proofs.YtdeichibnnbjdaaDoorW.PrintLast Go.Proofs.YtdeichibnnbjdaaDoorW.PrintMore
attribute [local go_sem] max2_int min2_int max_two min_two max_three min_three max_four min_four   -- for this text's walks alone
set_option linter.unusedVariables false
set_option linter.unusedSimpArgs false

/-! ### cognateref01_Rune: function 76 -/
def cognateref01_Rune.f (a0 : Int) : Option (Bool) := if a0 ≥ 0 then (if a0 ≤ 1114111 then (if a0 < 55296 then (some true) else (some (decide (a0 > 57343)))) else (some false)) else (some false)
set_option maxHeartbeats 8000000 in
set_option maxRecDepth 100000 in
theorem cognateref01_Rune.calls (a0 : Int) (r : Bool) (w : World) (h : cognateref01_Rune.f a0 = some r) :
    Calls Tryd.prog 76 #[.int .i32 a0] w fun e w' => e = .returned (.bool r) ∧ Drawn0 w w' := by
  have H : (if a0 ≥ 0 then (if a0 ≤ 1114111 then (if a0 < 55296 then (some true) else (some (decide (a0 > 57343)))) else (some false)) else (some false)) = some r := h
  clear h
  by_cases c2 : a0 ≥ 0
  · rw [if_pos c2] at H
    have c2b0 : decide (0 ≤ a0) = true := decide_eq_true c2
    clear c2
    by_cases c3 : a0 ≤ 1114111
    · rw [if_pos c3] at H
      have c3b0 : decide (a0 ≤ 1114111) = true := decide_eq_true c3
      clear c3
      by_cases c4 : a0 < 55296
      · rw [if_pos c4] at H
        have c4b0 : decide (a0 < 55296) = true := decide_eq_true c4
        clear c4
        obtain rfl := Option.some.inj H
        go_enter Tryd.func76, Tryd.ntmps76
        go_wp2
        go_ret
        exact ⟨by first | rfl | (simp; done) | (simp [*]; done), by repeat (first | exact Drawn0.refl _ | apply Drawn0.step)⟩
      · rw [if_neg c4] at H
        have c4b0 : decide (a0 < 55296) = false := decide_eq_false c4
        clear c4
        obtain rfl := Option.some.inj H
        go_enter Tryd.func76, Tryd.ntmps76
        go_wp2
        go_ret
        exact ⟨by first | rfl | (simp; done) | (simp [*]; done), by repeat (first | exact Drawn0.refl _ | apply Drawn0.step)⟩
    · rw [if_neg c3] at H
      have c3b0 : decide (a0 ≤ 1114111) = false := decide_eq_false c3
      clear c3
      obtain rfl := Option.some.inj H
      go_enter Tryd.func76, Tryd.ntmps76
      go_wp2
      go_ret
      exact ⟨by first | rfl | (simp; done) | (simp [*]; done), by repeat (first | exact Drawn0.refl _ | apply Drawn0.step)⟩
  · rw [if_neg c2] at H
    have c2b0 : decide (0 ≤ a0) = false := decide_eq_false c2
    clear c2
    obtain rfl := Option.some.inj H
    go_enter Tryd.func76, Tryd.ntmps76
    go_wp2
    go_ret
    exact ⟨by first | rfl | (simp; done) | (simp [*]; done), by repeat (first | exact Drawn0.refl _ | apply Drawn0.step)⟩

/-! ### cognateref01_tail: function 78 -/
def cognateref01_tail.f (a0 : Int) : Option (Bool) := if a0 ≥ 128 then (some (decide (a0 < 192))) else (some false)
set_option maxHeartbeats 8000000 in
set_option maxRecDepth 100000 in
theorem cognateref01_tail.calls (a0 : Int) (r : Bool) (w : World) (h : cognateref01_tail.f a0 = some r) :
    Calls Tryd.prog 78 #[.int .u8 a0] w fun e w' => e = .returned (.bool r) ∧ Drawn0 w w' := by
  have H : (if a0 ≥ 128 then (some (decide (a0 < 192))) else (some false)) = some r := h
  clear h
  by_cases c2 : a0 ≥ 128
  · rw [if_pos c2] at H
    have c2b0 : decide (128 ≤ a0) = true := decide_eq_true c2
    clear c2
    obtain rfl := Option.some.inj H
    go_enter Tryd.func78, Tryd.ntmps78
    go_wp2
    go_ret
    exact ⟨by first | rfl | (simp; done) | (simp [*]; done), by repeat (first | exact Drawn0.refl _ | apply Drawn0.step)⟩
  · rw [if_neg c2] at H
    have c2b0 : decide (128 ≤ a0) = false := decide_eq_false c2
    clear c2
    obtain rfl := Option.some.inj H
    go_enter Tryd.func78, Tryd.ntmps78
    go_wp2
    go_ret
    exact ⟨by first | rfl | (simp; done) | (simp [*]; done), by repeat (first | exact Drawn0.refl _ | apply Drawn0.step)⟩

/-! ### cognateref01_At: function 52 -/
mutual
def cognateref01_At.j2 : Nat → ByteArray → Int → Int → Int → Option (Int × Int × Int × Bool)
  | 0, _, _, _, _ => none
  | k + 1, x0, x1, x6, x7 => if x6 = 0 then (cognateref01_At.j3 k x0 x1 x6 x7 true 65533 x1 1 true) else (cognateref01_At.j3 k x0 x1 x6 x7 (decide ((wrap64 (x1 + x6)) > (x0.size : Int))) 65533 x1 1 true)
def cognateref01_At.j3 : Nat → ByteArray → Int → Int → Int → Bool → Int → Int → Int → Bool → Option (Int × Int × Int × Bool)
  | 0, _, _, _, _, _, _, _, _, _ => none
  | k + 1, x0, x1, x6, x7, x61, x103000, x103001, x103002, x103003 => if x61 = true then (some (x103000, x103001, x103002, x103003)) else (cognateref01_At.l0 k x0 x1 x6 x7 1 x103000 x103001 x103002 x103003)
def cognateref01_At.l0 : Nat → ByteArray → Int → Int → Int → Int → Int → Int → Int → Bool → Option (Int × Int × Int × Bool)
  | 0, _, _, _, _, _, _, _, _, _ => none
  | k + 1, x0, x1, x6, x7, x9, x103000, x103001, x103002, x103003 => if x9 < x6 then (if 0 ≤ (wrap64 (x1 + x9)) then (if (wrap64 (x1 + x9)) < (x0.size : Int) then ((cognateref01_tail.f (bt x0 (wrap64 (x1 + x9)))).bind fun t103 => (if t103 = true then (cognateref01_At.l0 k x0 x1 x6 (wrap32 ((wrap32 (64 * x7)) + (((bt x0 (wrap64 (x1 + x9))) - 128) % 256))) (wrap64 (x9 + 1)) x103000 x103001 x103002 x103003) else (some (x103000, x103001, x103002, x103003)))) else (none)) else (none)) else ((some (([0, 0, 128, 2048, 65536] : List Int) : List Int)).bind fun y104 => (if 0 ≤ x6 then (if x6 < (y104.length : Int) then (if x7 < (rd y104 x6) then (some (x103000, x103001, x103002, x103003)) else ((cognateref01_Rune.f x7).bind fun t108 => (if t108 = true then (some (x7, x1, x6, false)) else (some (x103000, x103001, x103002, x103003))))) else (none)) else (none)))
def cognateref01_At.j0 : Nat → ByteArray → Int → Int → Int → Int → Bool → Option (Int × Int × Int × Bool)
  | 0, _, _, _, _, _, _ => none
  | k + 1, x0, x1, x5, x6, x7, x20 => if x20 = true then (cognateref01_At.j2 k x0 x1 2 ((x5 - 192) % 256)) else (if x5 ≥ 224 then (cognateref01_At.j1 k x0 x1 x5 x6 x7 (decide (x5 < 240))) else (cognateref01_At.j1 k x0 x1 x5 x6 x7 false))
def cognateref01_At.j1 : Nat → ByteArray → Int → Int → Int → Int → Bool → Option (Int × Int × Int × Bool)
  | 0, _, _, _, _, _, _ => none
  | k + 1, x0, x1, x5, x6, x7, x30 => if x30 = true then (cognateref01_At.j2 k x0 x1 3 ((x5 - 224) % 256)) else (if x5 ≥ 240 then (if x5 < 248 then (cognateref01_At.j2 k x0 x1 4 ((x5 - 240) % 256)) else (cognateref01_At.j2 k x0 x1 x6 x7)) else (cognateref01_At.j2 k x0 x1 x6 x7))
end
def cognateref01_At.f (k : Nat) (a0 : ByteArray) (a1 : Int) : Option (Int × Int × Int × Bool) := if 0 ≤ a1 then (if a1 < (a0.size : Int) then (if (bt a0 a1) < 128 then (some (wrap32 (bt a0 a1), a1, 1, false)) else (if (bt a0 a1) ≥ 192 then (cognateref01_At.j0 k a0 a1 (bt a0 a1) 0 0 (decide ((bt a0 a1) < 224))) else (cognateref01_At.j0 k a0 a1 (bt a0 a1) 0 0 false))) else (none)) else (none)
set_option maxHeartbeats 8000000 in
set_option maxRecDepth 100000 in
theorem cognateref01_At.calls (k : Nat) (a0 : ByteArray) (a1 : Int) (r1 : Int) (r2 : Int) (r3 : Int) (r4 : Bool) (w : World) (h : cognateref01_At.f k a0 a1 = some (r1, r2, r3, r4)) :
    Calls Tryd.prog 52 #[.string a0, .int .i64 a1] w fun e w' => e = .returned (.agg #[.int .i32 r1, .int .i64 r2, .int .i64 r3, .bool r4]) ∧ Below w.heap.size w w' := by
  have hu90 := Tryd.underlying90
  have HB := Aside0.mk (Below.refl w.heap.size w)
  have H : (if 0 ≤ a1 then (if a1 < (a0.size : Int) then (if (bt a0 a1) < 128 then (some (wrap32 (bt a0 a1), a1, 1, false)) else (if (bt a0 a1) ≥ 192 then (cognateref01_At.j0 k a0 a1 (bt a0 a1) 0 0 (decide ((bt a0 a1) < 224))) else (cognateref01_At.j0 k a0 a1 (bt a0 a1) 0 0 false))) else (none)) else (none)) = some (r1, r2, r3, r4) := h
  clear h
  by_cases c3 : 0 ≤ a1
  · rw [if_pos c3] at H
    have c3b0 : decide (0 ≤ a1) = true := decide_eq_true c3
    clear c3
    by_cases c4 : a1 < (a0.size : Int)
    · rw [if_pos c4] at H
      have c4b0 : decide (a1 < (a0.size : Int)) = true := decide_eq_true c4
      clear c4
      by_cases c6 : (bt a0 a1) < 128
      · rw [if_pos c6] at H
        have c6b0 : decide ((bt a0 a1) < 128) = true := decide_eq_true c6
        clear c6
        simp only [Option.some.injEq, Prod.mk.injEq] at H
        obtain ⟨rfl, rfl, rfl, rfl⟩ := H
        go_enter Tryd.func52, Tryd.ntmps52
        go_wp2_with (first | ((with_reducible refine gate_dst (N := 4) rfl ?_); (try (refine gate_guard (by rfl) ?_; dsimp only)); refine box_event ?hg (N := 4) ?hd (cs := #[.int .i32 0, .int .i64 0, .int .i64 0, .bool false]) (t := 90) ?hr ?_; (case hd => rfl); (case hg => rfl); (case hr => first | (go_simp; done) | (go_simp; rfl)); intro gb101 hg w7 hbox hb; have n0_ := Aside0.mk (below_step (by repeat (first | (with_reducible first | exact HB.out | apply below_alloc | apply pw_below_drewN | apply below_drew1) | exact HB.out)) hb); have n1_ := Aside0.mk (hbox); have n2_ := Aside0.mk ((by rw [hg]; exact (below_size (by repeat (first | (with_reducible first | exact HB.out | apply below_alloc | apply pw_below_drewN | apply below_drew1) | exact HB.out))) : w.heap.size ≤ gb101)); have n3_ := Aside0.mk ((by rw [hg]; exact (below_size (by repeat (first | (with_reducible first | exact HB.out | apply below_alloc | apply pw_below_drewN | apply below_drew1) | exact HB.out))) : w.heap.size ≤ gb101)); clear HB; have HB := n0_; have BK101 := n1_; have GW101 := n2_; have GE101 := n3_; clear n0_ n1_ n2_ n3_; clear hb hbox hg; have p5 : 0 ≤ (a1 : Int) := of_decide_eq_true (by first | (with_reducible assumption) | assumption); have q5 : a1 < (a0.size : Int) := of_decide_eq_true (by first | (with_reducible assumption) | assumption); have hx5 := bt_at a0 a1; replace p5 := eq_true p5; replace q5 := eq_true q5; have hcz8_0 : w7.cell? ⟨gb101, 0, none⟩ = some (.int .i32 0) := (blk_cell BK101.out 0).trans rfl; have hcz8_1 : w7.cell? ⟨gb101, 1, none⟩ = some (.int .i64 0) := (blk_cell BK101.out 1).trans rfl; have hcz8_2 : w7.cell? ⟨gb101, 2, none⟩ = some (.int .i64 0) := (blk_cell BK101.out 2).trans rfl; have hcz8_3 : w7.cell? ⟨gb101, 3, none⟩ = some (.bool false) := (blk_cell BK101.out 3).trans rfl; have hfz8_0 := blk_frozen BK101.out 0; have hfz8_1 := blk_frozen BK101.out 1; have hfz8_2 := blk_frozen BK101.out 2; have hfz8_3 := blk_frozen BK101.out 3))
        refine bodyPost_ret (results_cell_row rfl _ _ gb101 90 #[.int .i32 (wrap32 (bt a0 a1)), .int .i64 a1, .int .i64 1, .bool false] (0, 0) _ rfl (by (with_reducible repeat (first | refine blk_drewN ?_ _ | refine blk_drew ?_ | refine blk_alloc ?_ _)); refine blk_put (cs := #[.int .i32 (wrap32 (bt a0 a1)), .int .i64 a1, .int .i64 1, .bool false]) ?_ 3 _ rfl; (with_reducible repeat (first | refine blk_drewN ?_ _ | refine blk_drew ?_ | refine blk_alloc ?_ _)); refine blk_put (cs := #[.int .i32 (wrap32 (bt a0 a1)), .int .i64 a1, .int .i64 0, .bool false]) ?_ 2 _ rfl; (with_reducible repeat (first | refine blk_drewN ?_ _ | refine blk_drew ?_ | refine blk_alloc ?_ _)); refine blk_put (cs := #[.int .i32 (wrap32 (bt a0 a1)), .int .i64 0, .int .i64 0, .bool false]) ?_ 1 _ rfl; (with_reducible repeat (first | refine blk_drewN ?_ _ | refine blk_drew ?_ | refine blk_alloc ?_ _)); refine blk_put (cs := #[.int .i32 0, .int .i64 0, .int .i64 0, .bool false]) ?_ 0 _ rfl; (with_reducible repeat (first | refine blk_drewN ?_ _ | refine blk_drew ?_ | refine blk_alloc ?_ _)); exact BK101.out) Tryd.underlying90 rfl (by kernel_rfl)) rfl ?_
        exact ⟨by first | rfl | (simp [errW_none, errW_some] <;> rfl) | (simp [*, errW_none, errW_some] <;> rfl), by repeat (first | (with_reducible first | exact HB.out | apply below_alloc | apply pw_below_drewN | apply below_drew1 | refine below_set ?_ GE101.out) | exact HB.out)⟩
      · rw [if_neg c6] at H
        have c6b0 : decide ((bt a0 a1) < 128) = false := decide_eq_false c6
        clear c6
        have HC9 := Aside0.mk H
        clear H
        go_enter Tryd.func52, Tryd.ntmps52
        go_upto_block 0 with (first | ((with_reducible refine gate_dst (N := 4) rfl ?_); (try (refine gate_guard (by rfl) ?_; dsimp only)); refine box_event ?hg (N := 4) ?hd (cs := #[.int .i32 0, .int .i64 0, .int .i64 0, .bool false]) (t := 90) ?hr ?_; (case hd => rfl); (case hg => rfl); (case hr => first | (go_simp; done) | (go_simp; rfl)); intro gb101 hg w10 hbox hb; have n0_ := Aside0.mk (below_step (by repeat (first | (with_reducible first | exact HB.out | apply below_alloc | apply pw_below_drewN | apply below_drew1) | exact HB.out)) hb); have n1_ := Aside0.mk (hbox); have n2_ := Aside0.mk ((by rw [hg]; exact (below_size (by repeat (first | (with_reducible first | exact HB.out | apply below_alloc | apply pw_below_drewN | apply below_drew1) | exact HB.out))) : w.heap.size ≤ gb101)); have n3_ := Aside0.mk ((by rw [hg]; exact (below_size (by repeat (first | (with_reducible first | exact HB.out | apply below_alloc | apply pw_below_drewN | apply below_drew1) | exact HB.out))) : w.heap.size ≤ gb101)); clear HB; have HB := n0_; have BK101 := n1_; have GW101 := n2_; have GE101 := n3_; clear n0_ n1_ n2_ n3_; clear hb hbox hg; have p5 : 0 ≤ (a1 : Int) := of_decide_eq_true (by first | (with_reducible assumption) | assumption); have q5 : a1 < (a0.size : Int) := of_decide_eq_true (by first | (with_reducible assumption) | assumption); have hx5 := bt_at a0 a1; replace p5 := eq_true p5; replace q5 := eq_true q5))
        (try simp only [Act.put, List.setIfInBounds_toArray, List.set_cons_zero, List.set_cons_succ])
        go_cut [6, 7] (fun v6 v7 wc => ∃ (kq : Nat) (x6_8 : Int) (x7_8 : Int), v6 = .int .i64 x6_8 ∧ v7 = .int .i32 x7_8 ∧ Aside0 (cognateref01_At.j2 kq a0 a1 x6_8 x7_8 = some (r1, r2, r3, r4)) ∧ Aside0 (kq ≤ k) ∧ Aside0 (wc.heap[gb101]? = some (.cells #[.int .i32 0, .int .i64 0, .int .i64 0, .bool false] 90 (0, 0))) ∧ Aside0 (Below w.heap.size w wc))
        case first =>
          have H := HC9.out
          clear HC9
          have HC11 := Aside0.mk H
          clear H
          go_upto_region 6 with (fail)
          go_cut [20] (fun v20 wc => ∃ (kq : Nat) (x20_10 : Bool), v20 = .bool x20_10 ∧ Aside0 (cognateref01_At.j0 kq a0 a1 (bt a0 a1) 0 0 x20_10 = some (r1, r2, r3, r4)) ∧ Aside0 (kq ≤ k) ∧ Aside0 (wc.heap[gb101]? = some (.cells #[.int .i32 0, .int .i64 0, .int .i64 0, .bool false] 90 (0, 0))) ∧ Aside0 (Below w.heap.size w wc))
          case first =>
            have H := HC11.out
            clear HC11
            by_cases c12 : (bt a0 a1) ≥ 192
            · rw [if_pos c12] at H
              have c12b0 : decide (192 ≤ (bt a0 a1)) = true := decide_eq_true c12
              clear c12
              (first | rw [c12b0] | (simp only [i64_w, i32_w]; rw [c12b0]) | skip)
              have H' := Aside0.mk H
              clear H
              go_wp2
              go_meet
              case rel => exact ⟨_, (decide ((bt a0 a1) < 224)), (by first | rfl | (simp; done) | (simp [*]; done)), H', ⟨by first | omega | exact Nat.le_refl _⟩, ⟨by (with_reducible repeat (first | refine blk_drewN ?_ _ | refine blk_drew ?_ | refine blk_alloc ?_ _)); exact BK101.out⟩, ⟨by repeat (first | (with_reducible first | exact HB.out | apply below_alloc | apply pw_below_drewN | apply below_drew1 | refine below_set ?_ GE101.out) | exact HB.out)⟩⟩
            · rw [if_neg c12] at H
              have c12b0 : decide (192 ≤ (bt a0 a1)) = false := decide_eq_false c12
              clear c12
              (first | rw [c12b0] | (simp only [i64_w, i32_w]; rw [c12b0]) | skip)
              have H' := Aside0.mk H
              clear H
              go_wp2
              go_meet
              case rel => exact ⟨_, (false), (by first | rfl | (simp; done) | (simp [*]; done)), H', ⟨by first | omega | exact Nat.le_refl _⟩, ⟨by (with_reducible repeat (first | refine blk_drewN ?_ _ | refine blk_drew ?_ | refine blk_alloc ?_ _)); exact BK101.out⟩, ⟨by repeat (first | (with_reducible first | exact HB.out | apply below_alloc | apply pw_below_drewN | apply below_drew1 | refine below_set ?_ GE101.out) | exact HB.out)⟩⟩
          case rest =>
            clear HC11
            try clear c1
            try clear p2
            try clear c3
            try clear c3b0
            try clear p3
            try clear c4
            try clear c4b0
            try clear c5
            try clear p5
            try clear q5
            try clear hx5
            try clear c6
            try clear c6b0
            try clear c12
            try clear c12b0
            try clear hcz8_0
            try clear hcz8_1
            try clear hcz8_2
            try clear hcz8_3
            try clear hfz8_0
            try clear hfz8_1
            try clear hfz8_2
            try clear hfz8_3
            try clear p5
            try clear q5
            obtain ⟨kq, x20_10, rfl, HA, HJ10, BK101, HB⟩ := hcut
            cases kq with
            | zero => exact absurd HA.out (by simp [cognateref01_At.j0])
            | succ kj10 =>
              have H := HA.out
              clear HA
              simp only [cognateref01_At.j0] at H
              by_cases c13 : x20_10 = true
              · subst c13
                have H1 : (cognateref01_At.j2 kj10 a0 a1 2 (((bt a0 a1) - 192) % 256)) = some (r1, r2, r3, r4) := by rw [if_pos rfl] at H; exact H
                clear H
                have H := H1
                clear H1
                have H' := Aside0.mk H
                clear H
                go_wp2
                go_meet
                case rel => exact ⟨_, (2), (((bt a0 a1) - 192) % 256), (by first | rfl | (simp; done) | (simp [*]; done)), (by first | rfl | (simp; done) | (simp [*]; done)), H', ⟨by have := HJ10.out; first | omega | exact Nat.le_refl _⟩, ⟨by (with_reducible repeat (first | refine blk_drewN ?_ _ | refine blk_drew ?_ | refine blk_alloc ?_ _)); exact BK101.out⟩, ⟨by repeat (first | (with_reducible first | exact HB.out | apply below_alloc | apply pw_below_drewN | apply below_drew1 | refine below_set ?_ GE101.out) | exact HB.out)⟩⟩
              · replace c13 := Bool.eq_false_iff.mpr c13
                subst c13
                have H1 : (if (bt a0 a1) ≥ 224 then (cognateref01_At.j1 kj10 a0 a1 (bt a0 a1) 0 0 (decide ((bt a0 a1) < 240))) else (cognateref01_At.j1 kj10 a0 a1 (bt a0 a1) 0 0 false)) = some (r1, r2, r3, r4) := by rw [if_neg (show ¬ (false = true) by decide)] at H; exact H
                clear H
                have H := H1
                clear H1
                have HC14 := Aside0.mk H
                clear H
                go_upto_region 9 with (fail)
                go_cut [30] (fun v30 wc => ∃ (kq : Nat) (x30_13 : Bool), v30 = .bool x30_13 ∧ Aside0 (cognateref01_At.j1 kq a0 a1 (bt a0 a1) 0 0 x30_13 = some (r1, r2, r3, r4)) ∧ Aside0 (kq ≤ kj10) ∧ Aside0 (wc.heap[gb101]? = some (.cells #[.int .i32 0, .int .i64 0, .int .i64 0, .bool false] 90 (0, 0))) ∧ Aside0 (Below w.heap.size w wc))
                case first =>
                  have H := HC14.out
                  clear HC14
                  by_cases c15 : (bt a0 a1) ≥ 224
                  · rw [if_pos c15] at H
                    have c15b0 : decide (224 ≤ (bt a0 a1)) = true := decide_eq_true c15
                    clear c15
                    (first | rw [c15b0] | (simp only [i64_w, i32_w]; rw [c15b0]) | skip)
                    have H' := Aside0.mk H
                    clear H
                    go_wp2
                    go_meet
                    case rel => exact ⟨_, (decide ((bt a0 a1) < 240)), (by first | rfl | (simp; done) | (simp [*]; done)), H', ⟨by have := HJ10.out; first | omega | exact Nat.le_refl _⟩, ⟨by (with_reducible repeat (first | refine blk_drewN ?_ _ | refine blk_drew ?_ | refine blk_alloc ?_ _)); exact BK101.out⟩, ⟨by repeat (first | (with_reducible first | exact HB.out | apply below_alloc | apply pw_below_drewN | apply below_drew1 | refine below_set ?_ GE101.out) | exact HB.out)⟩⟩
                  · rw [if_neg c15] at H
                    have c15b0 : decide (224 ≤ (bt a0 a1)) = false := decide_eq_false c15
                    clear c15
                    (first | rw [c15b0] | (simp only [i64_w, i32_w]; rw [c15b0]) | skip)
                    have H' := Aside0.mk H
                    clear H
                    go_wp2
                    go_meet
                    case rel => exact ⟨_, (false), (by first | rfl | (simp; done) | (simp [*]; done)), H', ⟨by have := HJ10.out; first | omega | exact Nat.le_refl _⟩, ⟨by (with_reducible repeat (first | refine blk_drewN ?_ _ | refine blk_drew ?_ | refine blk_alloc ?_ _)); exact BK101.out⟩, ⟨by repeat (first | (with_reducible first | exact HB.out | apply below_alloc | apply pw_below_drewN | apply below_drew1 | refine below_set ?_ GE101.out) | exact HB.out)⟩⟩
                case rest =>
                  clear HC14
                  try clear c1
                  try clear p2
                  try clear c3
                  try clear c3b0
                  try clear p3
                  try clear c4
                  try clear c4b0
                  try clear c5
                  try clear p5
                  try clear q5
                  try clear hx5
                  try clear c6
                  try clear c6b0
                  try clear c12
                  try clear c12b0
                  try clear c13
                  try clear c15
                  try clear c15b0
                  try clear hcz8_0
                  try clear hcz8_1
                  try clear hcz8_2
                  try clear hcz8_3
                  try clear hfz8_0
                  try clear hfz8_1
                  try clear hfz8_2
                  try clear hfz8_3
                  try clear p2
                  try clear p3
                  try clear p5
                  try clear q5
                  obtain ⟨kq, x30_13, rfl, HA, HJ13, BK101, HB⟩ := hcut
                  cases kq with
                  | zero => exact absurd HA.out (by simp [cognateref01_At.j1])
                  | succ kj13 =>
                    have H := HA.out
                    clear HA
                    simp only [cognateref01_At.j1] at H
                    by_cases c16 : x30_13 = true
                    · subst c16
                      have H1 : (cognateref01_At.j2 kj13 a0 a1 3 (((bt a0 a1) - 224) % 256)) = some (r1, r2, r3, r4) := by rw [if_pos rfl] at H; exact H
                      clear H
                      have H := H1
                      clear H1
                      have H' := Aside0.mk H
                      clear H
                      go_wp2
                      go_meet
                      case rel => exact ⟨_, (3), (((bt a0 a1) - 224) % 256), (by first | rfl | (simp; done) | (simp [*]; done)), (by first | rfl | (simp; done) | (simp [*]; done)), H', ⟨by have := HJ10.out; have := HJ13.out; first | omega | exact Nat.le_refl _⟩, ⟨by (with_reducible repeat (first | refine blk_drewN ?_ _ | refine blk_drew ?_ | refine blk_alloc ?_ _)); exact BK101.out⟩, ⟨by repeat (first | (with_reducible first | exact HB.out | apply below_alloc | apply pw_below_drewN | apply below_drew1 | refine below_set ?_ GE101.out) | exact HB.out)⟩⟩
                    · replace c16 := Bool.eq_false_iff.mpr c16
                      subst c16
                      have H1 : (if (bt a0 a1) ≥ 240 then (if (bt a0 a1) < 248 then (cognateref01_At.j2 kj13 a0 a1 4 (((bt a0 a1) - 240) % 256)) else (cognateref01_At.j2 kj13 a0 a1 0 0)) else (cognateref01_At.j2 kj13 a0 a1 0 0)) = some (r1, r2, r3, r4) := by rw [if_neg (show ¬ (false = true) by decide)] at H; exact H
                      clear H
                      have H := H1
                      clear H1
                      by_cases c17 : (bt a0 a1) ≥ 240
                      · rw [if_pos c17] at H
                        have c17b0 : decide (240 ≤ (bt a0 a1)) = true := decide_eq_true c17
                        clear c17
                        by_cases c18 : (bt a0 a1) < 248
                        · rw [if_pos c18] at H
                          have c18b0 : decide ((bt a0 a1) < 248) = true := decide_eq_true c18
                          clear c18
                          have H' := Aside0.mk H
                          clear H
                          go_wp2
                          go_meet
                          case rel => exact ⟨_, (4), (((bt a0 a1) - 240) % 256), (by first | rfl | (simp; done) | (simp [*]; done)), (by first | rfl | (simp; done) | (simp [*]; done)), H', ⟨by have := HJ10.out; have := HJ13.out; first | omega | exact Nat.le_refl _⟩, ⟨by (with_reducible repeat (first | refine blk_drewN ?_ _ | refine blk_drew ?_ | refine blk_alloc ?_ _)); exact BK101.out⟩, ⟨by repeat (first | (with_reducible first | exact HB.out | apply below_alloc | apply pw_below_drewN | apply below_drew1 | refine below_set ?_ GE101.out) | exact HB.out)⟩⟩
                        · rw [if_neg c18] at H
                          have c18b0 : decide ((bt a0 a1) < 248) = false := decide_eq_false c18
                          clear c18
                          have H' := Aside0.mk H
                          clear H
                          go_wp2
                          go_meet
                          case rel => exact ⟨_, (0), (0), (by first | rfl | (simp; done) | (simp [*]; done)), (by first | rfl | (simp; done) | (simp [*]; done)), H', ⟨by have := HJ10.out; have := HJ13.out; first | omega | exact Nat.le_refl _⟩, ⟨by (with_reducible repeat (first | refine blk_drewN ?_ _ | refine blk_drew ?_ | refine blk_alloc ?_ _)); exact BK101.out⟩, ⟨by repeat (first | (with_reducible first | exact HB.out | apply below_alloc | apply pw_below_drewN | apply below_drew1 | refine below_set ?_ GE101.out) | exact HB.out)⟩⟩
                      · rw [if_neg c17] at H
                        have c17b0 : decide (240 ≤ (bt a0 a1)) = false := decide_eq_false c17
                        clear c17
                        have H' := Aside0.mk H
                        clear H
                        go_wp2
                        go_meet
                        case rel => exact ⟨_, (0), (0), (by first | rfl | (simp; done) | (simp [*]; done)), (by first | rfl | (simp; done) | (simp [*]; done)), H', ⟨by have := HJ10.out; have := HJ13.out; first | omega | exact Nat.le_refl _⟩, ⟨by (with_reducible repeat (first | refine blk_drewN ?_ _ | refine blk_drew ?_ | refine blk_alloc ?_ _)); exact BK101.out⟩, ⟨by repeat (first | (with_reducible first | exact HB.out | apply below_alloc | apply pw_below_drewN | apply below_drew1 | refine below_set ?_ GE101.out) | exact HB.out)⟩⟩
        case rest =>
          clear HC9
          try clear c1
          try clear p2
          try clear c3
          try clear c3b0
          try clear p3
          try clear c4
          try clear c4b0
          try clear c5
          try clear p5
          try clear q5
          try clear hx5
          try clear c6
          try clear c6b0
          try clear c12
          try clear c12b0
          try clear c13
          try clear c15
          try clear c15b0
          try clear c16
          try clear c17
          try clear c17b0
          try clear c18
          try clear c18b0
          try clear hcz8_0
          try clear hcz8_1
          try clear hcz8_2
          try clear hcz8_3
          try clear hfz8_0
          try clear hfz8_1
          try clear hfz8_2
          try clear hfz8_3
          try clear p2
          try clear p3
          try clear p5
          try clear q5
          obtain ⟨kq, x6_8, x7_8, rfl, rfl, HA, HJ8, BK101, HB⟩ := hcut
          cases kq with
          | zero => exact absurd HA.out (by simp [cognateref01_At.j2])
          | succ kj8 =>
            have H := HA.out
            clear HA
            simp only [cognateref01_At.j2] at H
            have HC19 := Aside0.mk H
            clear H
            go_upto_region 16 with (first | ((with_reducible refine gate_dst (N := 8) rfl ?_); (try (refine gate_guard (by rfl) ?_; dsimp only)); refine box_event ?hg (N := 8) ?hd (cs := #[.int .i32 0, .int .i64 0, .int .i64 0, .bool false]) (t := 90) ?hr ?_; (case hd => rfl); (case hg => rfl); (case hr => first | (go_simp; done) | (go_simp; rfl)); intro gb102 hg w20 hbox hb; have n0_ := Aside0.mk (blk_below (g := gb101) (o := .cells #[.int .i32 0, .int .i64 0, .int .i64 0, .bool false] 90 (0, 0)) (by (with_reducible repeat (first | refine blk_drewN ?_ _ | refine blk_drew ?_ | refine blk_alloc ?_ _)); exact BK101.out) hb); have n1_ := Aside0.mk (below_step (by repeat (first | (with_reducible first | exact HB.out | apply below_alloc | apply pw_below_drewN | apply below_drew1 | refine below_set ?_ GE101.out) | exact HB.out)) hb); have n2_ := Aside0.mk (hbox); have n3_ := Aside0.mk ((by rw [hg]; exact (below_size (by repeat (first | (with_reducible first | exact HB.out | apply below_alloc | apply pw_below_drewN | apply below_drew1 | refine below_set ?_ GE101.out) | exact HB.out))) : w.heap.size ≤ gb102)); have n4_ := Aside0.mk ((by rw [hg]; exact (below_size (by repeat (first | (with_reducible first | exact HB.out | apply below_alloc | apply pw_below_drewN | apply below_drew1 | refine below_set ?_ GE101.out) | exact HB.out))) : w.heap.size ≤ gb102)); have n5_ := Aside0.mk ((by rw [hg]; exact Nat.ne_of_lt (blk_lt (g := gb101) (o := .cells #[.int .i32 0, .int .i64 0, .int .i64 0, .bool false] 90 (0, 0)) (by (with_reducible repeat (first | refine blk_drewN ?_ _ | refine blk_drew ?_ | refine blk_alloc ?_ _)); exact BK101.out)) : gb101 ≠ gb102)); have n6_ := Aside0.mk ((by rw [hg]; exact Nat.ne_of_gt (blk_lt (g := gb101) (o := .cells #[.int .i32 0, .int .i64 0, .int .i64 0, .bool false] 90 (0, 0)) (by (with_reducible repeat (first | refine blk_drewN ?_ _ | refine blk_drew ?_ | refine blk_alloc ?_ _)); exact BK101.out)) : gb102 ≠ gb101)); clear BK101; clear HB; have BK101 := n0_; have HB := n1_; have BK102 := n2_; have GW102 := n3_; have GE102 := n4_; have NB101_102 := n5_; have NB102_101 := n6_; clear n0_ n1_ n2_ n3_ n4_ n5_ n6_; clear hb hbox hg; have hnb21 := NB102_101.out; have hnc21 := NB101_102.out; have hcz22_0 : w20.cell? ⟨gb102, 0, none⟩ = some (.int .i32 0) := (blk_cell BK102.out 0).trans rfl; have hcz22_1 : w20.cell? ⟨gb102, 1, none⟩ = some (.int .i64 0) := (blk_cell BK102.out 1).trans rfl; have hcz22_2 : w20.cell? ⟨gb102, 2, none⟩ = some (.int .i64 0) := (blk_cell BK102.out 2).trans rfl; have hcz22_3 : w20.cell? ⟨gb102, 3, none⟩ = some (.bool false) := (blk_cell BK102.out 3).trans rfl; have hfz22_0 := blk_frozen BK102.out 0; have hfz22_1 := blk_frozen BK102.out 1; have hfz22_2 := blk_frozen BK102.out 2; have hfz22_3 := blk_frozen BK102.out 3))
            (try simp only [Act.put, List.setIfInBounds_toArray, List.set_cons_zero, List.set_cons_succ])
            go_cut [61] (fun v61 wc => ∃ (kq : Nat) (x61_18 : Bool), v61 = .bool x61_18 ∧ Aside0 (cognateref01_At.j3 kq a0 a1 x6_8 x7_8 x61_18 65533 a1 1 true = some (r1, r2, r3, r4)) ∧ Aside0 (kq ≤ kj8) ∧ Aside0 (wc.heap[gb101]? = some (.cells #[.int .i32 0, .int .i64 0, .int .i64 0, .bool false] 90 (0, 0))) ∧ Aside0 (wc.heap[gb102]? = some (.cells #[.int .i32 65533, .int .i64 a1, .int .i64 1, .bool true] 90 (0, 0))) ∧ Aside0 (Below w.heap.size w wc))
            case first =>
              have H := HC19.out
              clear HC19
              by_cases c23 : x6_8 = 0
              · rw [if_pos c23] at H
                have c23b0 : (x6_8 == 0) = true := beq_iff_eq.mpr c23
                have c23b1 : (x6_8 != 0) = false := bne_eq_false_iff_eq.mpr c23
                clear c23
                (first | rw [c23b0] | (simp only [i64_w, i32_w]; rw [c23b0]) | skip)
                have H' := Aside0.mk H
                clear H
                go_wp2
                go_meet
                case rel => exact ⟨_, (true), (by first | rfl | (simp; done) | (simp [*]; done)), H', ⟨by have := HJ8.out; first | omega | exact Nat.le_refl _⟩, ⟨by (with_reducible repeat (first | refine blk_drewN ?_ _ | refine blk_drew ?_ | refine blk_alloc ?_ _)); refine blk_far ?_ NB101_102.out _; (with_reducible repeat (first | refine blk_drewN ?_ _ | refine blk_drew ?_ | refine blk_alloc ?_ _)); refine blk_far ?_ NB101_102.out _; (with_reducible repeat (first | refine blk_drewN ?_ _ | refine blk_drew ?_ | refine blk_alloc ?_ _)); refine blk_far ?_ NB101_102.out _; (with_reducible repeat (first | refine blk_drewN ?_ _ | refine blk_drew ?_ | refine blk_alloc ?_ _)); refine blk_far ?_ NB101_102.out _; (with_reducible repeat (first | refine blk_drewN ?_ _ | refine blk_drew ?_ | refine blk_alloc ?_ _)); exact BK101.out⟩, ⟨by (with_reducible repeat (first | refine blk_drewN ?_ _ | refine blk_drew ?_ | refine blk_alloc ?_ _)); refine blk_put (cs := #[.int .i32 65533, .int .i64 a1, .int .i64 1, .bool false]) ?_ 3 _ rfl; (with_reducible repeat (first | refine blk_drewN ?_ _ | refine blk_drew ?_ | refine blk_alloc ?_ _)); refine blk_put (cs := #[.int .i32 65533, .int .i64 a1, .int .i64 0, .bool false]) ?_ 2 _ rfl; (with_reducible repeat (first | refine blk_drewN ?_ _ | refine blk_drew ?_ | refine blk_alloc ?_ _)); refine blk_put (cs := #[.int .i32 65533, .int .i64 0, .int .i64 0, .bool false]) ?_ 1 _ rfl; (with_reducible repeat (first | refine blk_drewN ?_ _ | refine blk_drew ?_ | refine blk_alloc ?_ _)); refine blk_put (cs := #[.int .i32 0, .int .i64 0, .int .i64 0, .bool false]) ?_ 0 _ rfl; (with_reducible repeat (first | refine blk_drewN ?_ _ | refine blk_drew ?_ | refine blk_alloc ?_ _)); exact BK102.out⟩, ⟨by repeat (first | (with_reducible first | exact HB.out | apply below_alloc | apply pw_below_drewN | apply below_drew1 | refine below_set ?_ GE101.out | refine below_set ?_ GE102.out) | exact HB.out)⟩⟩
              · rw [if_neg c23] at H
                have c23b0 : (x6_8 == 0) = false := beq_eq_false_iff_ne.mpr c23
                have c23b1 : (x6_8 != 0) = true := bne_iff_ne.mpr c23
                (first | rw [c23b0] | (simp only [i64_w, i32_w]; rw [c23b0]) | skip)
                have H' := Aside0.mk H
                clear H
                go_wp2
                go_meet
                case rel => exact ⟨_, (decide ((wrap64 (a1 + x6_8)) > (a0.size : Int))), (by first | rfl | (simp; done) | (simp [*]; done)), H', ⟨by have := HJ8.out; first | omega | exact Nat.le_refl _⟩, ⟨by (with_reducible repeat (first | refine blk_drewN ?_ _ | refine blk_drew ?_ | refine blk_alloc ?_ _)); refine blk_far ?_ NB101_102.out _; (with_reducible repeat (first | refine blk_drewN ?_ _ | refine blk_drew ?_ | refine blk_alloc ?_ _)); refine blk_far ?_ NB101_102.out _; (with_reducible repeat (first | refine blk_drewN ?_ _ | refine blk_drew ?_ | refine blk_alloc ?_ _)); refine blk_far ?_ NB101_102.out _; (with_reducible repeat (first | refine blk_drewN ?_ _ | refine blk_drew ?_ | refine blk_alloc ?_ _)); refine blk_far ?_ NB101_102.out _; (with_reducible repeat (first | refine blk_drewN ?_ _ | refine blk_drew ?_ | refine blk_alloc ?_ _)); exact BK101.out⟩, ⟨by (with_reducible repeat (first | refine blk_drewN ?_ _ | refine blk_drew ?_ | refine blk_alloc ?_ _)); refine blk_put (cs := #[.int .i32 65533, .int .i64 a1, .int .i64 1, .bool false]) ?_ 3 _ rfl; (with_reducible repeat (first | refine blk_drewN ?_ _ | refine blk_drew ?_ | refine blk_alloc ?_ _)); refine blk_put (cs := #[.int .i32 65533, .int .i64 a1, .int .i64 0, .bool false]) ?_ 2 _ rfl; (with_reducible repeat (first | refine blk_drewN ?_ _ | refine blk_drew ?_ | refine blk_alloc ?_ _)); refine blk_put (cs := #[.int .i32 65533, .int .i64 0, .int .i64 0, .bool false]) ?_ 1 _ rfl; (with_reducible repeat (first | refine blk_drewN ?_ _ | refine blk_drew ?_ | refine blk_alloc ?_ _)); refine blk_put (cs := #[.int .i32 0, .int .i64 0, .int .i64 0, .bool false]) ?_ 0 _ rfl; (with_reducible repeat (first | refine blk_drewN ?_ _ | refine blk_drew ?_ | refine blk_alloc ?_ _)); exact BK102.out⟩, ⟨by repeat (first | (with_reducible first | exact HB.out | apply below_alloc | apply pw_below_drewN | apply below_drew1 | refine below_set ?_ GE101.out | refine below_set ?_ GE102.out) | exact HB.out)⟩⟩
            case rest =>
              clear HC19
              try clear c1
              try clear c2
              try clear p2
              try clear c3
              try clear c3b0
              try clear p3
              try clear c4
              try clear c4b0
              try clear c5
              try clear p5
              try clear q5
              try clear hx5
              try clear c6
              try clear c6b0
              try clear p6
              try clear c12
              try clear c12b0
              try clear c13
              try clear c15
              try clear c15b0
              try clear c16
              try clear c17
              try clear c17b0
              try clear c18
              try clear c18b0
              try clear c21
              try clear c23
              try clear c23b0
              try clear c23b1
              try clear hcz22_0
              try clear hcz22_1
              try clear hcz22_2
              try clear hcz22_3
              try clear hcz8_0
              try clear hcz8_1
              try clear hcz8_2
              try clear hcz8_3
              try clear hfz22_0
              try clear hfz22_1
              try clear hfz22_2
              try clear hfz22_3
              try clear hfz8_0
              try clear hfz8_1
              try clear hfz8_2
              try clear hfz8_3
              try clear p2
              try clear p3
              try clear p5
              try clear q5
              obtain ⟨kq, x61_18, rfl, HA, HJ18, BK101, BK102, HB⟩ := hcut
              cases kq with
              | zero => exact absurd HA.out (by simp [cognateref01_At.j3])
              | succ kj18 =>
                have H := HA.out
                clear HA
                simp only [cognateref01_At.j3] at H
                by_cases c24 : x61_18 = true
                · subst c24
                  have H1 : (some (65533, a1, 1, true)) = some (r1, r2, r3, r4) := by rw [if_pos rfl] at H; exact H
                  clear H
                  have H := H1
                  clear H1
                  simp only [Option.some.injEq, Prod.mk.injEq] at H
                  obtain ⟨rfl, rfl, rfl, rfl⟩ := H
                  have hnb25 := NB102_101.out
                  have hnc25 := NB101_102.out
                  have hcz26_0 : wc.cell? ⟨gb102, 0, none⟩ = some (.int .i32 65533) := (blk_cell BK102.out 0).trans rfl
                  have hcz26_1 : wc.cell? ⟨gb102, 1, none⟩ = some (.int .i64 a1) := (blk_cell BK102.out 1).trans rfl
                  have hcz26_2 : wc.cell? ⟨gb102, 2, none⟩ = some (.int .i64 1) := (blk_cell BK102.out 2).trans rfl
                  have hcz26_3 : wc.cell? ⟨gb102, 3, none⟩ = some (.bool true) := (blk_cell BK102.out 3).trans rfl
                  have hfz26_0 := blk_frozen BK102.out 0
                  have hfz26_1 := blk_frozen BK102.out 1
                  have hfz26_2 := blk_frozen BK102.out 2
                  have hfz26_3 := blk_frozen BK102.out 3
                  have hcz27_0 : wc.cell? ⟨gb101, 0, none⟩ = some (.int .i32 0) := (blk_cell BK101.out 0).trans rfl
                  have hcz27_1 : wc.cell? ⟨gb101, 1, none⟩ = some (.int .i64 0) := (blk_cell BK101.out 1).trans rfl
                  have hcz27_2 : wc.cell? ⟨gb101, 2, none⟩ = some (.int .i64 0) := (blk_cell BK101.out 2).trans rfl
                  have hcz27_3 : wc.cell? ⟨gb101, 3, none⟩ = some (.bool false) := (blk_cell BK101.out 3).trans rfl
                  have hfz27_0 := blk_frozen BK101.out 0
                  have hfz27_1 := blk_frozen BK101.out 1
                  have hfz27_2 := blk_frozen BK101.out 2
                  have hfz27_3 := blk_frozen BK101.out 3
                  go_wp2
                  refine bodyPost_ret (results_cell_row rfl _ _ gb101 90 #[.int .i32 65533, .int .i64 a1, .int .i64 1, .bool true] (0, 0) _ rfl (by (with_reducible repeat (first | refine blk_drewN ?_ _ | refine blk_drew ?_ | refine blk_alloc ?_ _)); refine blk_put (cs := #[.int .i32 65533, .int .i64 a1, .int .i64 1, .bool false]) ?_ 3 _ rfl; (with_reducible repeat (first | refine blk_drewN ?_ _ | refine blk_drew ?_ | refine blk_alloc ?_ _)); refine blk_put (cs := #[.int .i32 65533, .int .i64 a1, .int .i64 0, .bool false]) ?_ 2 _ rfl; (with_reducible repeat (first | refine blk_drewN ?_ _ | refine blk_drew ?_ | refine blk_alloc ?_ _)); refine blk_put (cs := #[.int .i32 65533, .int .i64 0, .int .i64 0, .bool false]) ?_ 1 _ rfl; (with_reducible repeat (first | refine blk_drewN ?_ _ | refine blk_drew ?_ | refine blk_alloc ?_ _)); refine blk_put (cs := #[.int .i32 0, .int .i64 0, .int .i64 0, .bool false]) ?_ 0 _ rfl; (with_reducible repeat (first | refine blk_drewN ?_ _ | refine blk_drew ?_ | refine blk_alloc ?_ _)); exact BK101.out) Tryd.underlying90 rfl (by kernel_rfl)) rfl ?_
                  exact ⟨by first | rfl | (simp [errW_none, errW_some] <;> rfl) | (simp [*, errW_none, errW_some] <;> rfl), by repeat (first | (with_reducible first | exact HB.out | apply below_alloc | apply pw_below_drewN | apply below_drew1 | refine below_set ?_ GE101.out | refine below_set ?_ GE102.out) | exact HB.out)⟩
                · replace c24 := Bool.eq_false_iff.mpr c24
                  subst c24
                  have H1 : (cognateref01_At.l0 kj18 a0 a1 x6_8 x7_8 1 65533 a1 1 true) = some (r1, r2, r3, r4) := by rw [if_neg (show ¬ (false = true) by decide)] at H; exact H
                  clear H
                  have H := H1
                  clear H1
                  have H' := Aside0.mk H
                  clear H
                  go_wp2
                  go_loopg [7, 9] kj18 (fun kq v7 v9 w' => ∃ (x7_3 : Int) (x9_3 : Int) (x102000_3 : Int) (x102001_3 : Int) (x102002_3 : Int) (x102003_3 : Bool), v7 = .int .i32 x7_3 ∧ v9 = .int .i64 x9_3 ∧ Aside0 (cognateref01_At.l0 kq a0 a1 x6_8 x7_3 x9_3 65533 a1 1 true = some (r1, r2, r3, r4)) ∧ Aside0 (kq ≤ kj18) ∧ Aside0 (w'.heap[gb101]? = some (.cells #[.int .i32 x102000_3, .int .i64 x102001_3, .int .i64 x102002_3, .bool x102003_3] 90 (0, 0))) ∧ Aside0 (w'.heap[gb102]? = some (.cells #[.int .i32 65533, .int .i64 a1, .int .i64 1, .bool true] 90 (0, 0))) ∧ Aside0 (Below w.heap.size w w'))
                  case atStart => exact ⟨(x7_8), (1), (0), (0), (0), (false), (by first | rfl | (simp; done) | (simp [*]; done)), (by first | rfl | (simp; done) | (simp [*]; done)), H', ⟨Nat.le_refl _⟩, ⟨by (with_reducible repeat (first | refine blk_drewN ?_ _ | refine blk_drew ?_ | refine blk_alloc ?_ _)); exact BK101.out⟩, ⟨by (with_reducible repeat (first | refine blk_drewN ?_ _ | refine blk_drew ?_ | refine blk_alloc ?_ _)); exact BK102.out⟩, ⟨by repeat (first | (with_reducible first | exact HB.out | apply below_alloc | apply pw_below_drewN | apply below_drew1 | refine below_set ?_ GE101.out | refine below_set ?_ GE102.out) | exact HB.out)⟩⟩
                  case round =>
                    clear H'
                    try clear c1
                    try clear c2
                    try clear p2
                    try clear c3
                    try clear c3b0
                    try clear p3
                    try clear c4
                    try clear c4b0
                    try clear c5
                    try clear p5
                    try clear q5
                    try clear hx5
                    try clear c6
                    try clear c6b0
                    try clear p6
                    try clear c12
                    try clear c12b0
                    try clear c13
                    try clear c15
                    try clear c15b0
                    try clear c16
                    try clear c17
                    try clear c17b0
                    try clear c18
                    try clear c18b0
                    try clear c21
                    try clear c23
                    try clear c23b0
                    try clear c23b1
                    try clear c24
                    try clear c25
                    try clear hcz22_0
                    try clear hcz22_1
                    try clear hcz22_2
                    try clear hcz22_3
                    try clear hcz26_0
                    try clear hcz26_1
                    try clear hcz26_2
                    try clear hcz26_3
                    try clear hcz27_0
                    try clear hcz27_1
                    try clear hcz27_2
                    try clear hcz27_3
                    try clear hcz8_0
                    try clear hcz8_1
                    try clear hcz8_2
                    try clear hcz8_3
                    try clear hfz22_0
                    try clear hfz22_1
                    try clear hfz22_2
                    try clear hfz22_3
                    try clear hfz26_0
                    try clear hfz26_1
                    try clear hfz26_2
                    try clear hfz26_3
                    try clear hfz27_0
                    try clear hfz27_1
                    try clear hfz27_2
                    try clear hfz27_3
                    try clear hfz8_0
                    try clear hfz8_1
                    try clear hfz8_2
                    try clear hfz8_3
                    try clear p2
                    try clear p3
                    try clear p5
                    try clear p6
                    try clear q5
                    obtain ⟨x7_3, x9_3, x102000_3, x102001_3, x102002_3, x102003_3, rfl, rfl, HA, HK3, BK101, BK102, HB⟩ := hrel
                    cases gk with
                    | zero => exact absurd HA.out (by simp [cognateref01_At.l0])
                    | succ k3 =>
                      have H := HA.out
                      clear HA
                      simp only [cognateref01_At.l0] at H
                      by_cases c28 : x9_3 < x6_8
                      · rw [if_pos c28] at H
                        have c28b0 : decide (x9_3 < x6_8) = true := decide_eq_true c28
                        clear c28
                        obtain ⟨ji29, hji29⟩ : ∃ j_ : Int, (wrap64 (a1 + x9_3)) = j_ := ⟨_, rfl⟩
                        replace H : (if 0 ≤ (ji29) then (if (ji29) < (a0.size : Int) then ((cognateref01_tail.f (bt a0 (ji29))).bind fun t103 => (if t103 = true then (cognateref01_At.l0 k3 a0 a1 x6_8 (wrap32 ((wrap32 (64 * x7_3)) + (((bt a0 (ji29)) - 128) % 256))) (wrap64 (x9_3 + 1)) 65533 a1 1 true) else (some (65533, a1, 1, true)))) else (none)) else (none)) = some (r1, r2, r3, r4) := by first | (rw [hji29] at H; exact H) | (simp only [hji29] at H ⊢; exact H)
                        have hji29w : (IntKind.i64.wrap (a1 + x9_3)) = ji29 := (i64_w _).trans hji29
                        by_cases c30 : 0 ≤ (ji29)
                        · rw [if_pos c30] at H
                          have c30b0 : decide (0 ≤ (ji29)) = true := decide_eq_true c30
                          clear c30
                          by_cases c31 : (ji29) < (a0.size : Int)
                          · rw [if_pos c31] at H
                            have c31b0 : decide ((ji29) < (a0.size : Int)) = true := decide_eq_true c31
                            clear c31
                            replace H := Option.bind_eq_some_iff.mp H
                            obtain ⟨t103, A330, H⟩ := H
                            replace H : (if t103 = true then (cognateref01_At.l0 k3 a0 a1 x6_8 (wrap32 ((wrap32 (64 * x7_3)) + (((bt a0 (ji29)) - 128) % 256))) (wrap64 (x9_3 + 1)) 65533 a1 1 true) else (some (65533, a1, 1, true))) = some (r1, r2, r3, r4) := H
                            have A33 := Aside0.mk A330
                            clear A330
                            by_cases c34 : t103 = true
                            · subst c34
                              have H1 : (cognateref01_At.l0 k3 a0 a1 x6_8 (wrap32 ((wrap32 (64 * x7_3)) + (((bt a0 (ji29)) - 128) % 256))) (wrap64 (x9_3 + 1)) 65533 a1 1 true) = some (r1, r2, r3, r4) := by rw [if_pos rfl] at H; exact H
                              clear H
                              have H := H1
                              clear H1
                              have H' := Aside0.mk H
                              clear H
                              have p32 : 0 ≤ ((ji29) : Int) := of_decide_eq_true (by first | (with_reducible assumption) | assumption)
                              have q32 : (ji29) < (a0.size : Int) := of_decide_eq_true (by first | (with_reducible assumption) | assumption)
                              have hx32 := bt_at a0 (ji29)
                              replace p32 := eq_true p32
                              replace q32 := eq_true q32
                              go_wp2_with (first | ((with_reducible refine gate_callee (f := 78) rfl ?_); refine goesL_ (some 73) rfl rfl Tryd.func78 (by kernel_rfl) rfl #[.int .u8 (bt a0 (ji29))] rfl (by (try simp only [List.map_toArray, List.map_cons, List.map_nil]); first | done | (simp only [hji29]; rfl) | rfl | (simp only [List.length_drop, List.length_take]; rfl)) ?_; (with_reducible refine (cognateref01_tail.calls (bt a0 (ji29)) true _ A33.out).mono ?_); rintro e w' ⟨rfl, ⟨nd, rfl⟩⟩; refine ⟨_, rfl, ?_⟩; have p35 : 0 ≤ ((ji29) : Int) := of_decide_eq_true (by first | (with_reducible assumption) | assumption); have q35 : (ji29) < (a0.size : Int) := of_decide_eq_true (by first | (with_reducible assumption) | assumption); have hx35 := bt_at a0 (ji29); replace p35 := eq_true p35; replace q35 := eq_true q35))
                              go_roundg k3
                              case measure => have := HJ8.out; have := HJ18.out; have := HK3.out; omega
                              case rel => exact ⟨(wrap32 ((wrap32 (64 * x7_3)) + (((bt a0 (ji29)) - 128) % 256))), (wrap64 (x9_3 + 1)), (x102000_3), (x102001_3), (x102002_3), (x102003_3), (by first | rfl | (simp; done) | (simp only [← hji29] <;> (first | rfl | simp)) | (simp [*]; done)), (by first | rfl | (simp; done) | (simp [*]; done)), H', ⟨by have := HJ8.out; have := HJ18.out; have := HK3.out; omega⟩, ⟨by (with_reducible repeat (first | refine blk_drewN ?_ _ | refine blk_drew ?_ | refine blk_alloc ?_ _)); exact BK101.out⟩, ⟨by (with_reducible repeat (first | refine blk_drewN ?_ _ | refine blk_drew ?_ | refine blk_alloc ?_ _)); exact BK102.out⟩, ⟨by repeat (first | (with_reducible first | exact HB.out | apply below_alloc | apply pw_below_drewN | apply below_drew1 | refine below_set ?_ GE101.out | refine below_set ?_ GE102.out) | exact HB.out)⟩⟩
                            · replace c34 := Bool.eq_false_iff.mpr c34
                              subst c34
                              have H1 : (some (65533, a1, 1, true)) = some (r1, r2, r3, r4) := by rw [if_neg (show ¬ (false = true) by decide)] at H; exact H
                              clear H
                              have H := H1
                              clear H1
                              simp only [Option.some.injEq, Prod.mk.injEq] at H
                              obtain ⟨rfl, rfl, rfl, rfl⟩ := H
                              have p32 : 0 ≤ ((ji29) : Int) := of_decide_eq_true (by first | (with_reducible assumption) | assumption)
                              have q32 : (ji29) < (a0.size : Int) := of_decide_eq_true (by first | (with_reducible assumption) | assumption)
                              have hx32 := bt_at a0 (ji29)
                              replace p32 := eq_true p32
                              replace q32 := eq_true q32
                              go_wp2_with (first | ((with_reducible refine gate_callee (f := 78) rfl ?_); refine goesL_ (some 73) rfl rfl Tryd.func78 (by kernel_rfl) rfl #[.int .u8 (bt a0 (ji29))] rfl (by (try simp only [List.map_toArray, List.map_cons, List.map_nil]); first | done | (simp only [hji29]; rfl) | rfl | (simp only [List.length_drop, List.length_take]; rfl)) ?_; (with_reducible refine (cognateref01_tail.calls (bt a0 (ji29)) false _ A33.out).mono ?_); rintro e w' ⟨rfl, ⟨nd, rfl⟩⟩; refine ⟨_, rfl, ?_⟩; (try (rw [drewN_self wr]; generalize hq_ : World.drewN wr _ = wr; have n0_ : Aside0 (wr.heap[gb101]? = some (.cells #[.int .i32 x102000_3, .int .i64 x102001_3, .int .i64 x102002_3, .bool x102003_3] 90 (0, 0))) := ⟨by rw [← hq_]; exact (by (with_reducible repeat (first | refine blk_drewN ?_ _ | refine blk_drew ?_ | refine blk_alloc ?_ _)); exact BK101.out)⟩; have n1_ : Aside0 (wr.heap[gb102]? = some (.cells #[.int .i32 65533, .int .i64 a1, .int .i64 1, .bool true] 90 (0, 0))) := ⟨by rw [← hq_]; exact (by (with_reducible repeat (first | refine blk_drewN ?_ _ | refine blk_drew ?_ | refine blk_alloc ?_ _)); exact BK102.out)⟩; have n2_ : Aside0 (Below w.heap.size w wr) := ⟨by rw [← hq_]; exact (by repeat (first | (with_reducible first | exact HB.out | apply below_alloc | apply pw_below_drewN | apply below_drew1 | refine below_set ?_ GE101.out | refine below_set ?_ GE102.out) | exact HB.out))⟩; clear BK101 BK102 HB hq_; have BK101 := n0_; have BK102 := n1_; have HB := n2_; clear n0_ n1_ n2_)); have hnb36 := NB102_101.out; have hnc36 := NB101_102.out; have hcz37_0 : wr.cell? ⟨gb102, 0, none⟩ = some (.int .i32 65533) := (blk_cell BK102.out 0).trans rfl; have hcz37_1 : wr.cell? ⟨gb102, 1, none⟩ = some (.int .i64 a1) := (blk_cell BK102.out 1).trans rfl; have hcz37_2 : wr.cell? ⟨gb102, 2, none⟩ = some (.int .i64 1) := (blk_cell BK102.out 2).trans rfl; have hcz37_3 : wr.cell? ⟨gb102, 3, none⟩ = some (.bool true) := (blk_cell BK102.out 3).trans rfl; have hfz37_0 := blk_frozen BK102.out 0; have hfz37_1 := blk_frozen BK102.out 1; have hfz37_2 := blk_frozen BK102.out 2; have hfz37_3 := blk_frozen BK102.out 3; have hcz38_0 : wr.cell? ⟨gb101, 0, none⟩ = some (.int .i32 x102000_3) := (blk_cell BK101.out 0).trans rfl; have hcz38_1 : wr.cell? ⟨gb101, 1, none⟩ = some (.int .i64 x102001_3) := (blk_cell BK101.out 1).trans rfl; have hcz38_2 : wr.cell? ⟨gb101, 2, none⟩ = some (.int .i64 x102002_3) := (blk_cell BK101.out 2).trans rfl; have hcz38_3 : wr.cell? ⟨gb101, 3, none⟩ = some (.bool x102003_3) := (blk_cell BK101.out 3).trans rfl; have hfz38_0 := blk_frozen BK101.out 0; have hfz38_1 := blk_frozen BK101.out 1; have hfz38_2 := blk_frozen BK101.out 2; have hfz38_3 := blk_frozen BK101.out 3))
                              refine bodyPost_ret (results_cell_row rfl _ _ gb101 90 #[.int .i32 65533, .int .i64 a1, .int .i64 1, .bool true] (0, 0) _ rfl (by (with_reducible repeat (first | refine blk_drewN ?_ _ | refine blk_drew ?_ | refine blk_alloc ?_ _)); refine blk_put (cs := #[.int .i32 65533, .int .i64 a1, .int .i64 1, .bool x102003_3]) ?_ 3 _ rfl; (with_reducible repeat (first | refine blk_drewN ?_ _ | refine blk_drew ?_ | refine blk_alloc ?_ _)); refine blk_put (cs := #[.int .i32 65533, .int .i64 a1, .int .i64 x102002_3, .bool x102003_3]) ?_ 2 _ rfl; (with_reducible repeat (first | refine blk_drewN ?_ _ | refine blk_drew ?_ | refine blk_alloc ?_ _)); refine blk_put (cs := #[.int .i32 65533, .int .i64 x102001_3, .int .i64 x102002_3, .bool x102003_3]) ?_ 1 _ rfl; (with_reducible repeat (first | refine blk_drewN ?_ _ | refine blk_drew ?_ | refine blk_alloc ?_ _)); refine blk_put (cs := #[.int .i32 x102000_3, .int .i64 x102001_3, .int .i64 x102002_3, .bool x102003_3]) ?_ 0 _ rfl; (with_reducible repeat (first | refine blk_drewN ?_ _ | refine blk_drew ?_ | refine blk_alloc ?_ _)); exact BK101.out) Tryd.underlying90 rfl (by kernel_rfl)) rfl ?_
                              exact ⟨by first | rfl | (simp [errW_none, errW_some] <;> rfl) | (simp only [← hji29]; first | rfl | (simp [errW_none, errW_some] <;> rfl)) | (simp [*, errW_none, errW_some] <;> rfl), by repeat (first | (with_reducible first | exact HB.out | apply below_alloc | apply pw_below_drewN | apply below_drew1 | refine below_set ?_ GE101.out | refine below_set ?_ GE102.out) | exact HB.out)⟩
                          · rw [if_neg c31] at H
                            exact absurd H (by simp)
                        · rw [if_neg c30] at H
                          exact absurd H (by simp)
                      · rw [if_neg c28] at H
                        have c28b0 : decide (x9_3 < x6_8) = false := decide_eq_false c28
                        clear c28
                        obtain ⟨y104, hy104⟩ : ∃ y_ : List Int, y_ = (([0, 0, 128, 2048, 65536] : List Int)) := ⟨_, rfl⟩
                        replace H : (if 0 ≤ x6_8 then (if x6_8 < (y104.length : Int) then (if x7_3 < (rd y104 x6_8) then (some (65533, a1, 1, true)) else ((cognateref01_Rune.f x7_3).bind fun t108 => (if t108 = true then (some (x7_3, a1, x6_8, false)) else (some (65533, a1, 1, true))))) else (none)) else (none)) = some (r1, r2, r3, r4) := by first | (rw [hy104]; with_reducible exact H) | (have H2_ := (Option.bind_some _ _).symm.trans H; rw [hy104]; with_reducible exact H2_) | (have H2_ := (Option.bind_some _ _).symm.trans H; with_reducible exact H2_) | with_reducible exact H | (rw [hy104]; exact H) | exact H
                        have Ny104 := Aside0.mk hy104
                        clear hy104
                        by_cases c39 : 0 ≤ x6_8
                        · rw [if_pos c39] at H
                          have c39b0 : decide (0 ≤ x6_8) = true := decide_eq_true c39
                          clear c39
                          by_cases c40 : x6_8 < (y104.length : Int)
                          · rw [if_pos c40] at H
                            have c40b0 : decide (x6_8 < (y104.length : Int)) = true := decide_eq_true c40
                            clear c40
                            by_cases c41 : x7_3 < (rd y104 x6_8)
                            · rw [if_pos c41] at H
                              have c41b0 : decide (x7_3 < (rd y104 x6_8)) = true := decide_eq_true c41
                              clear c41
                              simp only [Option.some.injEq, Prod.mk.injEq] at H
                              obtain ⟨rfl, rfl, rfl, rfl⟩ := H
                              go_wp2_with (first | ((with_reducible refine gate_dst (N := 86) rfl ?_); (try (refine gate_guard (by rfl) ?_; dsimp only)); refine Kd.R_lit (Kd.int .i32) _ 21 ?hg (N := 86) ?hd (xs := ([0, 0, 128, 2048, 65536] : List Int)) (inner := [.int .i32 0, .int .i32 0, .int .i32 128, .int .i32 2048, .int .i32 65536]) (ok := fun _ => True) (okp := fun _ => True) ?hr ?hp (fun _ hk => hk) trivial (Below.refl _ _) (Nat.le_refl _) (by simp) ?_; (case hd => rfl); (case hg => rfl); (case hr => first | (go_simp; done) | (go_simp; rfl)); (case hp => exact (Reps.one (show Kd.M (Kd.int .i32) _ _ _ 0 [.int .i32 0] from rfl) (Reps.one (show Kd.M (Kd.int .i32) _ _ _ 0 [.int .i32 0] from rfl) (Reps.one (show Kd.M (Kd.int .i32) _ _ _ 128 [.int .i32 128] from rfl) (Reps.one (show Kd.M (Kd.int .i32) _ _ _ 2048 [.int .i32 2048] from rfl) (Reps.one (show Kd.M (Kd.int .i32) _ _ _ 65536 [.int .i32 65536] from rfl) (Reps.none _ _))))))); intro v105 w42 ho43 hb hg_ hnew_; clear hg_ hnew_; (first | rw [← Ny104.out] at ho43 | (simp only [Int.reduceToNat] at ho43; rw [← Ny104.out] at ho43)); have n0_ := Aside0.mk (Kd.R_lower ho43 (below_size (by repeat (first | (with_reducible first | exact HB.out | apply below_alloc | apply pw_below_drewN | apply below_drew1 | refine below_set ?_ GE101.out | refine below_set ?_ GE102.out) | exact HB.out)))); have n1_ := Aside0.mk (blk_below (g := gb101) (o := .cells #[.int .i32 x102000_3, .int .i64 x102001_3, .int .i64 x102002_3, .bool x102003_3] 90 (0, 0)) (by (with_reducible repeat (first | refine blk_drewN ?_ _ | refine blk_drew ?_ | refine blk_alloc ?_ _)); exact BK101.out) hb); have n2_ := Aside0.mk (blk_below (g := gb102) (o := .cells #[.int .i32 65533, .int .i64 a1, .int .i64 1, .bool true] 90 (0, 0)) (by (with_reducible repeat (first | refine blk_drewN ?_ _ | refine blk_drew ?_ | refine blk_alloc ?_ _)); exact BK102.out) hb); have n3_ := Aside0.mk (below_step (by repeat (first | (with_reducible first | exact HB.out | apply below_alloc | apply pw_below_drewN | apply below_drew1 | refine below_set ?_ GE101.out | refine below_set ?_ GE102.out) | exact HB.out)) hb); clear BK101; clear BK102; clear HB; have HO106 := n0_; have BK101 := n1_; have BK102 := n2_; have HB := n3_; clear n0_ n1_ n2_ n3_; clear hb ho43; obtain ⟨Ao44, co44, eo44⟩ := Kd.R_slice HO106.out; subst eo44; have p107 : 0 ≤ (x6_8 : Int) := of_decide_eq_true (by first | (with_reducible assumption) | assumption); have q107 : x6_8 < (y104.length : Int) := of_decide_eq_true (by first | (with_reducible assumption) | assumption); obtain ⟨ad107, e107, hx107_0⟩ := Kd.at_int (Kd.R_reads' HO106.out).2.2 x6_8 p107 q107; cases e107; replace p107 := eq_true p107; replace q107 := eq_true q107; have hnb45 := NB102_101.out; have hnc45 := NB101_102.out; have hcz46_0 : w42.cell? ⟨gb102, 0, none⟩ = some (.int .i32 65533) := (blk_cell BK102.out 0).trans rfl; have hcz46_1 : w42.cell? ⟨gb102, 1, none⟩ = some (.int .i64 a1) := (blk_cell BK102.out 1).trans rfl; have hcz46_2 : w42.cell? ⟨gb102, 2, none⟩ = some (.int .i64 1) := (blk_cell BK102.out 2).trans rfl; have hcz46_3 : w42.cell? ⟨gb102, 3, none⟩ = some (.bool true) := (blk_cell BK102.out 3).trans rfl; have hfz46_0 := blk_frozen BK102.out 0; have hfz46_1 := blk_frozen BK102.out 1; have hfz46_2 := blk_frozen BK102.out 2; have hfz46_3 := blk_frozen BK102.out 3; have hcz47_0 : w42.cell? ⟨gb101, 0, none⟩ = some (.int .i32 x102000_3) := (blk_cell BK101.out 0).trans rfl; have hcz47_1 : w42.cell? ⟨gb101, 1, none⟩ = some (.int .i64 x102001_3) := (blk_cell BK101.out 1).trans rfl; have hcz47_2 : w42.cell? ⟨gb101, 2, none⟩ = some (.int .i64 x102002_3) := (blk_cell BK101.out 2).trans rfl; have hcz47_3 : w42.cell? ⟨gb101, 3, none⟩ = some (.bool x102003_3) := (blk_cell BK101.out 3).trans rfl; have hfz47_0 := blk_frozen BK101.out 0; have hfz47_1 := blk_frozen BK101.out 1; have hfz47_2 := blk_frozen BK101.out 2; have hfz47_3 := blk_frozen BK101.out 3))
                              refine bodyPost_ret (results_cell_row rfl _ _ gb101 90 #[.int .i32 65533, .int .i64 a1, .int .i64 1, .bool true] (0, 0) _ rfl (by (with_reducible repeat (first | refine blk_drewN ?_ _ | refine blk_drew ?_ | refine blk_alloc ?_ _)); refine blk_put (cs := #[.int .i32 65533, .int .i64 a1, .int .i64 1, .bool x102003_3]) ?_ 3 _ rfl; (with_reducible repeat (first | refine blk_drewN ?_ _ | refine blk_drew ?_ | refine blk_alloc ?_ _)); refine blk_put (cs := #[.int .i32 65533, .int .i64 a1, .int .i64 x102002_3, .bool x102003_3]) ?_ 2 _ rfl; (with_reducible repeat (first | refine blk_drewN ?_ _ | refine blk_drew ?_ | refine blk_alloc ?_ _)); refine blk_put (cs := #[.int .i32 65533, .int .i64 x102001_3, .int .i64 x102002_3, .bool x102003_3]) ?_ 1 _ rfl; (with_reducible repeat (first | refine blk_drewN ?_ _ | refine blk_drew ?_ | refine blk_alloc ?_ _)); refine blk_put (cs := #[.int .i32 x102000_3, .int .i64 x102001_3, .int .i64 x102002_3, .bool x102003_3]) ?_ 0 _ rfl; (with_reducible repeat (first | refine blk_drewN ?_ _ | refine blk_drew ?_ | refine blk_alloc ?_ _)); exact BK101.out) Tryd.underlying90 rfl (by kernel_rfl)) rfl ?_
                              exact ⟨by first | rfl | (simp [errW_none, errW_some] <;> rfl) | (simp [*, errW_none, errW_some] <;> rfl), by repeat (first | (with_reducible first | exact HB.out | apply below_alloc | apply pw_below_drewN | apply below_drew1 | refine below_set ?_ GE101.out | refine below_set ?_ GE102.out) | exact HB.out)⟩
                            · rw [if_neg c41] at H
                              have c41b0 : decide (x7_3 < (rd y104 x6_8)) = false := decide_eq_false c41
                              clear c41
                              replace H := Option.bind_eq_some_iff.mp H
                              obtain ⟨t108, A480, H⟩ := H
                              replace H : (if t108 = true then (some (x7_3, a1, x6_8, false)) else (some (65533, a1, 1, true))) = some (r1, r2, r3, r4) := H
                              have A48 := Aside0.mk A480
                              clear A480
                              by_cases c49 : t108 = true
                              · subst c49
                                have H1 : (some (x7_3, a1, x6_8, false)) = some (r1, r2, r3, r4) := by rw [if_pos rfl] at H; exact H
                                clear H
                                have H := H1
                                clear H1
                                simp only [Option.some.injEq, Prod.mk.injEq] at H
                                obtain ⟨rfl, rfl, rfl, rfl⟩ := H
                                go_wp2_with (first | ((with_reducible refine gate_dst (N := 86) rfl ?_); (try (refine gate_guard (by rfl) ?_; dsimp only)); refine Kd.R_lit (Kd.int .i32) _ 21 ?hg (N := 86) ?hd (xs := ([0, 0, 128, 2048, 65536] : List Int)) (inner := [.int .i32 0, .int .i32 0, .int .i32 128, .int .i32 2048, .int .i32 65536]) (ok := fun _ => True) (okp := fun _ => True) ?hr ?hp (fun _ hk => hk) trivial (Below.refl _ _) (Nat.le_refl _) (by simp) ?_; (case hd => rfl); (case hg => rfl); (case hr => first | (go_simp; done) | (go_simp; rfl)); (case hp => exact (Reps.one (show Kd.M (Kd.int .i32) _ _ _ 0 [.int .i32 0] from rfl) (Reps.one (show Kd.M (Kd.int .i32) _ _ _ 0 [.int .i32 0] from rfl) (Reps.one (show Kd.M (Kd.int .i32) _ _ _ 128 [.int .i32 128] from rfl) (Reps.one (show Kd.M (Kd.int .i32) _ _ _ 2048 [.int .i32 2048] from rfl) (Reps.one (show Kd.M (Kd.int .i32) _ _ _ 65536 [.int .i32 65536] from rfl) (Reps.none _ _))))))); intro v105 w50 ho51 hb hg_ hnew_; clear hg_ hnew_; (first | rw [← Ny104.out] at ho51 | (simp only [Int.reduceToNat] at ho51; rw [← Ny104.out] at ho51)); have n0_ := Aside0.mk (Kd.R_lower ho51 (below_size (by repeat (first | (with_reducible first | exact HB.out | apply below_alloc | apply pw_below_drewN | apply below_drew1 | refine below_set ?_ GE101.out | refine below_set ?_ GE102.out) | exact HB.out)))); have n1_ := Aside0.mk (blk_below (g := gb101) (o := .cells #[.int .i32 x102000_3, .int .i64 x102001_3, .int .i64 x102002_3, .bool x102003_3] 90 (0, 0)) (by (with_reducible repeat (first | refine blk_drewN ?_ _ | refine blk_drew ?_ | refine blk_alloc ?_ _)); exact BK101.out) hb); have n2_ := Aside0.mk (blk_below (g := gb102) (o := .cells #[.int .i32 65533, .int .i64 a1, .int .i64 1, .bool true] 90 (0, 0)) (by (with_reducible repeat (first | refine blk_drewN ?_ _ | refine blk_drew ?_ | refine blk_alloc ?_ _)); exact BK102.out) hb); have n3_ := Aside0.mk (below_step (by repeat (first | (with_reducible first | exact HB.out | apply below_alloc | apply pw_below_drewN | apply below_drew1 | refine below_set ?_ GE101.out | refine below_set ?_ GE102.out) | exact HB.out)) hb); clear BK101; clear BK102; clear HB; have HO106 := n0_; have BK101 := n1_; have BK102 := n2_; have HB := n3_; clear n0_ n1_ n2_ n3_; clear hb ho51; obtain ⟨Ao52, co52, eo52⟩ := Kd.R_slice HO106.out; subst eo52; have p107 : 0 ≤ (x6_8 : Int) := of_decide_eq_true (by first | (with_reducible assumption) | assumption); have q107 : x6_8 < (y104.length : Int) := of_decide_eq_true (by first | (with_reducible assumption) | assumption); obtain ⟨ad107, e107, hx107_0⟩ := Kd.at_int (Kd.R_reads' HO106.out).2.2 x6_8 p107 q107; cases e107; replace p107 := eq_true p107; replace q107 := eq_true q107) | (go_at_call 76; (with_reducible refine (cognateref01_Rune.calls x7_3 true _ A48.out).mono ?_); rintro e w' ⟨rfl, ⟨nd, rfl⟩⟩; (try (rw [drewN_self w50]; generalize hq_ : World.drewN w50 _ = w50; have n0_ : Aside0 (Kd.R (Kd.int .i32) 21 w50 w.heap.size (fun _ => True) (.slice (some ad107) y104.length co52) y104) := ⟨by rw [← hq_]; exact (by (with_reducible repeat (first | apply Kd.R_alloc | apply Kd.R_drewN | apply Kd.R_drew)); exact HO106.out)⟩; have n1_ : Aside0 (w50.heap[gb101]? = some (.cells #[.int .i32 x102000_3, .int .i64 x102001_3, .int .i64 x102002_3, .bool x102003_3] 90 (0, 0))) := ⟨by rw [← hq_]; exact (by (with_reducible repeat (first | refine blk_drewN ?_ _ | refine blk_drew ?_ | refine blk_alloc ?_ _)); exact BK101.out)⟩; have n2_ : Aside0 (w50.heap[gb102]? = some (.cells #[.int .i32 65533, .int .i64 a1, .int .i64 1, .bool true] 90 (0, 0))) := ⟨by rw [← hq_]; exact (by (with_reducible repeat (first | refine blk_drewN ?_ _ | refine blk_drew ?_ | refine blk_alloc ?_ _)); exact BK102.out)⟩; have n3_ : Aside0 (Below w.heap.size w w50) := ⟨by rw [← hq_]; exact (by repeat (first | (with_reducible first | exact HB.out | apply below_alloc | apply pw_below_drewN | apply below_drew1 | refine below_set ?_ GE101.out | refine below_set ?_ GE102.out) | exact HB.out))⟩; clear HO106 BK101 BK102 HB hq_; have HO106 := n0_; have BK101 := n1_; have BK102 := n2_; have HB := n3_; clear n0_ n1_ n2_ n3_)); have hnb53 := NB101_102.out; have hnc53 := NB102_101.out; have hcz54_0 : w50.cell? ⟨gb101, 0, none⟩ = some (.int .i32 x102000_3) := (blk_cell BK101.out 0).trans rfl; have hcz54_1 : w50.cell? ⟨gb101, 1, none⟩ = some (.int .i64 x102001_3) := (blk_cell BK101.out 1).trans rfl; have hcz54_2 : w50.cell? ⟨gb101, 2, none⟩ = some (.int .i64 x102002_3) := (blk_cell BK101.out 2).trans rfl; have hcz54_3 : w50.cell? ⟨gb101, 3, none⟩ = some (.bool x102003_3) := (blk_cell BK101.out 3).trans rfl; have hfz54_0 := blk_frozen BK101.out 0; have hfz54_1 := blk_frozen BK101.out 1; have hfz54_2 := blk_frozen BK101.out 2; have hfz54_3 := blk_frozen BK101.out 3))
                                refine bodyPost_ret (results_cell_row rfl _ _ gb101 90 #[.int .i32 x7_3, .int .i64 a1, .int .i64 x6_8, .bool false] (0, 0) _ rfl (by (with_reducible repeat (first | refine blk_drewN ?_ _ | refine blk_drew ?_ | refine blk_alloc ?_ _)); refine blk_put (cs := #[.int .i32 x7_3, .int .i64 a1, .int .i64 x6_8, .bool x102003_3]) ?_ 3 _ rfl; (with_reducible repeat (first | refine blk_drewN ?_ _ | refine blk_drew ?_ | refine blk_alloc ?_ _)); refine blk_put (cs := #[.int .i32 x7_3, .int .i64 a1, .int .i64 x102002_3, .bool x102003_3]) ?_ 2 _ rfl; (with_reducible repeat (first | refine blk_drewN ?_ _ | refine blk_drew ?_ | refine blk_alloc ?_ _)); refine blk_put (cs := #[.int .i32 x7_3, .int .i64 x102001_3, .int .i64 x102002_3, .bool x102003_3]) ?_ 1 _ rfl; (with_reducible repeat (first | refine blk_drewN ?_ _ | refine blk_drew ?_ | refine blk_alloc ?_ _)); refine blk_put (cs := #[.int .i32 x102000_3, .int .i64 x102001_3, .int .i64 x102002_3, .bool x102003_3]) ?_ 0 _ rfl; (with_reducible repeat (first | refine blk_drewN ?_ _ | refine blk_drew ?_ | refine blk_alloc ?_ _)); exact BK101.out) Tryd.underlying90 rfl (by kernel_rfl)) rfl ?_
                                exact ⟨by first | rfl | (simp [errW_none, errW_some] <;> rfl) | (simp [*, errW_none, errW_some] <;> rfl), by repeat (first | (with_reducible first | exact HB.out | apply below_alloc | apply pw_below_drewN | apply below_drew1 | refine below_set ?_ GE101.out | refine below_set ?_ GE102.out) | exact HB.out)⟩
                              · replace c49 := Bool.eq_false_iff.mpr c49
                                subst c49
                                have H1 : (some (65533, a1, 1, true)) = some (r1, r2, r3, r4) := by rw [if_neg (show ¬ (false = true) by decide)] at H; exact H
                                clear H
                                have H := H1
                                clear H1
                                simp only [Option.some.injEq, Prod.mk.injEq] at H
                                obtain ⟨rfl, rfl, rfl, rfl⟩ := H
                                go_wp2_with (first | ((with_reducible refine gate_dst (N := 86) rfl ?_); (try (refine gate_guard (by rfl) ?_; dsimp only)); refine Kd.R_lit (Kd.int .i32) _ 21 ?hg (N := 86) ?hd (xs := ([0, 0, 128, 2048, 65536] : List Int)) (inner := [.int .i32 0, .int .i32 0, .int .i32 128, .int .i32 2048, .int .i32 65536]) (ok := fun _ => True) (okp := fun _ => True) ?hr ?hp (fun _ hk => hk) trivial (Below.refl _ _) (Nat.le_refl _) (by simp) ?_; (case hd => rfl); (case hg => rfl); (case hr => first | (go_simp; done) | (go_simp; rfl)); (case hp => exact (Reps.one (show Kd.M (Kd.int .i32) _ _ _ 0 [.int .i32 0] from rfl) (Reps.one (show Kd.M (Kd.int .i32) _ _ _ 0 [.int .i32 0] from rfl) (Reps.one (show Kd.M (Kd.int .i32) _ _ _ 128 [.int .i32 128] from rfl) (Reps.one (show Kd.M (Kd.int .i32) _ _ _ 2048 [.int .i32 2048] from rfl) (Reps.one (show Kd.M (Kd.int .i32) _ _ _ 65536 [.int .i32 65536] from rfl) (Reps.none _ _))))))); intro v105 w55 ho56 hb hg_ hnew_; clear hg_ hnew_; (first | rw [← Ny104.out] at ho56 | (simp only [Int.reduceToNat] at ho56; rw [← Ny104.out] at ho56)); have n0_ := Aside0.mk (Kd.R_lower ho56 (below_size (by repeat (first | (with_reducible first | exact HB.out | apply below_alloc | apply pw_below_drewN | apply below_drew1 | refine below_set ?_ GE101.out | refine below_set ?_ GE102.out) | exact HB.out)))); have n1_ := Aside0.mk (blk_below (g := gb101) (o := .cells #[.int .i32 x102000_3, .int .i64 x102001_3, .int .i64 x102002_3, .bool x102003_3] 90 (0, 0)) (by (with_reducible repeat (first | refine blk_drewN ?_ _ | refine blk_drew ?_ | refine blk_alloc ?_ _)); exact BK101.out) hb); have n2_ := Aside0.mk (blk_below (g := gb102) (o := .cells #[.int .i32 65533, .int .i64 a1, .int .i64 1, .bool true] 90 (0, 0)) (by (with_reducible repeat (first | refine blk_drewN ?_ _ | refine blk_drew ?_ | refine blk_alloc ?_ _)); exact BK102.out) hb); have n3_ := Aside0.mk (below_step (by repeat (first | (with_reducible first | exact HB.out | apply below_alloc | apply pw_below_drewN | apply below_drew1 | refine below_set ?_ GE101.out | refine below_set ?_ GE102.out) | exact HB.out)) hb); clear BK101; clear BK102; clear HB; have HO106 := n0_; have BK101 := n1_; have BK102 := n2_; have HB := n3_; clear n0_ n1_ n2_ n3_; clear hb ho56; obtain ⟨Ao57, co57, eo57⟩ := Kd.R_slice HO106.out; subst eo57; have p107 : 0 ≤ (x6_8 : Int) := of_decide_eq_true (by first | (with_reducible assumption) | assumption); have q107 : x6_8 < (y104.length : Int) := of_decide_eq_true (by first | (with_reducible assumption) | assumption); obtain ⟨ad107, e107, hx107_0⟩ := Kd.at_int (Kd.R_reads' HO106.out).2.2 x6_8 p107 q107; cases e107; replace p107 := eq_true p107; replace q107 := eq_true q107) | (go_at_call 76; (with_reducible refine (cognateref01_Rune.calls x7_3 false _ A48.out).mono ?_); rintro e w' ⟨rfl, ⟨nd, rfl⟩⟩; (try (rw [drewN_self w55]; generalize hq_ : World.drewN w55 _ = w55; have n0_ : Aside0 (Kd.R (Kd.int .i32) 21 w55 w.heap.size (fun _ => True) (.slice (some ad107) y104.length co57) y104) := ⟨by rw [← hq_]; exact (by (with_reducible repeat (first | apply Kd.R_alloc | apply Kd.R_drewN | apply Kd.R_drew)); exact HO106.out)⟩; have n1_ : Aside0 (w55.heap[gb101]? = some (.cells #[.int .i32 x102000_3, .int .i64 x102001_3, .int .i64 x102002_3, .bool x102003_3] 90 (0, 0))) := ⟨by rw [← hq_]; exact (by (with_reducible repeat (first | refine blk_drewN ?_ _ | refine blk_drew ?_ | refine blk_alloc ?_ _)); exact BK101.out)⟩; have n2_ : Aside0 (w55.heap[gb102]? = some (.cells #[.int .i32 65533, .int .i64 a1, .int .i64 1, .bool true] 90 (0, 0))) := ⟨by rw [← hq_]; exact (by (with_reducible repeat (first | refine blk_drewN ?_ _ | refine blk_drew ?_ | refine blk_alloc ?_ _)); exact BK102.out)⟩; have n3_ : Aside0 (Below w.heap.size w w55) := ⟨by rw [← hq_]; exact (by repeat (first | (with_reducible first | exact HB.out | apply below_alloc | apply pw_below_drewN | apply below_drew1 | refine below_set ?_ GE101.out | refine below_set ?_ GE102.out) | exact HB.out))⟩; clear HO106 BK101 BK102 HB hq_; have HO106 := n0_; have BK101 := n1_; have BK102 := n2_; have HB := n3_; clear n0_ n1_ n2_ n3_)); have hnb58 := NB102_101.out; have hnc58 := NB101_102.out; have hcz59_0 : w55.cell? ⟨gb102, 0, none⟩ = some (.int .i32 65533) := (blk_cell BK102.out 0).trans rfl; have hcz59_1 : w55.cell? ⟨gb102, 1, none⟩ = some (.int .i64 a1) := (blk_cell BK102.out 1).trans rfl; have hcz59_2 : w55.cell? ⟨gb102, 2, none⟩ = some (.int .i64 1) := (blk_cell BK102.out 2).trans rfl; have hcz59_3 : w55.cell? ⟨gb102, 3, none⟩ = some (.bool true) := (blk_cell BK102.out 3).trans rfl; have hfz59_0 := blk_frozen BK102.out 0; have hfz59_1 := blk_frozen BK102.out 1; have hfz59_2 := blk_frozen BK102.out 2; have hfz59_3 := blk_frozen BK102.out 3; have hcz60_0 : w55.cell? ⟨gb101, 0, none⟩ = some (.int .i32 x102000_3) := (blk_cell BK101.out 0).trans rfl; have hcz60_1 : w55.cell? ⟨gb101, 1, none⟩ = some (.int .i64 x102001_3) := (blk_cell BK101.out 1).trans rfl; have hcz60_2 : w55.cell? ⟨gb101, 2, none⟩ = some (.int .i64 x102002_3) := (blk_cell BK101.out 2).trans rfl; have hcz60_3 : w55.cell? ⟨gb101, 3, none⟩ = some (.bool x102003_3) := (blk_cell BK101.out 3).trans rfl; have hfz60_0 := blk_frozen BK101.out 0; have hfz60_1 := blk_frozen BK101.out 1; have hfz60_2 := blk_frozen BK101.out 2; have hfz60_3 := blk_frozen BK101.out 3))
                                refine bodyPost_ret (results_cell_row rfl _ _ gb101 90 #[.int .i32 65533, .int .i64 a1, .int .i64 1, .bool true] (0, 0) _ rfl (by (with_reducible repeat (first | refine blk_drewN ?_ _ | refine blk_drew ?_ | refine blk_alloc ?_ _)); refine blk_put (cs := #[.int .i32 65533, .int .i64 a1, .int .i64 1, .bool x102003_3]) ?_ 3 _ rfl; (with_reducible repeat (first | refine blk_drewN ?_ _ | refine blk_drew ?_ | refine blk_alloc ?_ _)); refine blk_put (cs := #[.int .i32 65533, .int .i64 a1, .int .i64 x102002_3, .bool x102003_3]) ?_ 2 _ rfl; (with_reducible repeat (first | refine blk_drewN ?_ _ | refine blk_drew ?_ | refine blk_alloc ?_ _)); refine blk_put (cs := #[.int .i32 65533, .int .i64 x102001_3, .int .i64 x102002_3, .bool x102003_3]) ?_ 1 _ rfl; (with_reducible repeat (first | refine blk_drewN ?_ _ | refine blk_drew ?_ | refine blk_alloc ?_ _)); refine blk_put (cs := #[.int .i32 x102000_3, .int .i64 x102001_3, .int .i64 x102002_3, .bool x102003_3]) ?_ 0 _ rfl; (with_reducible repeat (first | refine blk_drewN ?_ _ | refine blk_drew ?_ | refine blk_alloc ?_ _)); exact BK101.out) Tryd.underlying90 rfl (by kernel_rfl)) rfl ?_
                                exact ⟨by first | rfl | (simp [errW_none, errW_some] <;> rfl) | (simp [*, errW_none, errW_some] <;> rfl), by repeat (first | (with_reducible first | exact HB.out | apply below_alloc | apply pw_below_drewN | apply below_drew1 | refine below_set ?_ GE101.out | refine below_set ?_ GE102.out) | exact HB.out)⟩
                          · rw [if_neg c40] at H
                            exact absurd H (by simp)
                        · rw [if_neg c39] at H
                          exact absurd H (by simp)
    · rw [if_neg c4] at H
      exact absurd H (by simp)
  · rw [if_neg c3] at H
    exact absurd H (by simp)

end Go.Proofs.YtdeichibnnbjdaaDoor.RRa
end
section
/-
  The reference's piece of a text at a place (cognateref01.At) is the decoded one; its contract.
-/
set_option linter.unusedSimpArgs false
set_option linter.unusedVariables false
namespace Go.Proofs.YtdeichibnnbjdaaDoor
open Go.RowKit Go.Proofs.YtdeichibnnbjdaaDoorW.PrintWords Go.Proofs.YtdeichibnnbjdaaDoorW.PrintLast Go.Proofs.YtdeichibnnbjdaaDoorW.PrintMore Go.Proofs.YtdeichibnnbjdaaDoor.Ext

theorem bt_get (s : ByteArray) (i : Nat) (h : i < s.size) : bt s (i : Int) = ((s.get! i).toNat : Int) := by
  unfold bt
  rw [dif_pos (by rw [Int.toNat_natCast]; exact h)]
  simp only [Int.toNat_natCast]
  congr 2
  obtain ⟨d⟩ := s
  show d[i] = d[i]!
  rw [getElem!_pos d i h]
theorem runeA_eq (r : Int) : RRa.cognateref01_Rune.f r = some (Utf8.valid r) := by
  unfold RRa.cognateref01_Rune.f Utf8.valid
  by_cases a : 0 ≤ r
  · by_cases b : r ≤ 1114111
    · by_cases c : r < 55296
      · simp [a, b, c]
      · simp [a, b, c]
        omega
    · simp [a, b]
      omega
  · simp [a]
    omega
section
variable (s : ByteArray) (hs : s.size ≤ 4611686018427387000) (pos L : Nat) (hL : L ≤ 4)
include hs hL
theorem at_step (i r b k : Nat) (h : i < L) (hi : pos + i < s.size) (hb : bt s ((pos + i : Nat) : Int) = (b : Int)) (h1 : 128 ≤ b) (h2 : b < 192) (hr : r < 1048576) (x1 x2 x3 : Int) (x4 : Bool) :
    RRa.cognateref01_At.l0 (k + 1) s pos L r i x1 x2 x3 x4 = RRa.cognateref01_At.l0 k s pos L ((64 * r + (b - 128) : Nat) : Int) ((i + 1 : Nat) : Int) x1 x2 x3 x4 := by
  have e1 : wrap64 ((pos : Int) + (i : Int)) = ((pos + i : Nat) : Int) := by unfold wrap64; omega
  have e2 : wrap64 ((i : Int) + 1) = ((i + 1 : Nat) : Int) := by unfold wrap64; omega
  have a1 : 64 * (r : Int) = ((64 * r : Nat) : Int) := by omega
  have a2 : ((b : Int) - 128) % 256 = ((b - 128 : Nat) : Int) := by omega
  have a3 : ((64 * r : Nat) : Int) + ((b - 128 : Nat) : Int) = ((64 * r + (b - 128) : Nat) : Int) := by omega
  have e3 : wrap32 (wrap32 (64 * (r : Int)) + ((b : Int) - 128) % 256) = ((64 * r + (b - 128) : Nat) : Int) := by rw [a1, wrap32N _ (by omega), a2, a3, wrap32N _ (by omega)]
  clear a1 a2 a3
  rw [RRa.cognateref01_At.l0, if_pos (by omega), e1, if_pos (by omega), if_pos (by omega), hb, e2, e3]
  unfold RRa.cognateref01_tail.f
  rw [if_pos (by omega), Option.bind_some, if_pos (decide_eq_true (by omega))]
theorem at_bad (i r b k : Nat) (h : i < L) (hi : pos + i < s.size) (hb : bt s ((pos + i : Nat) : Int) = (b : Int)) (h1 : b < 128 ∨ 192 ≤ b) (x1 x2 x3 : Int) (x4 : Bool) :
    RRa.cognateref01_At.l0 (k + 1) s pos L r i x1 x2 x3 x4 = some (x1, x2, x3, x4) := by
  have e1 : wrap64 ((pos : Int) + (i : Int)) = ((pos + i : Nat) : Int) := by unfold wrap64; omega
  rw [RRa.cognateref01_At.l0, if_pos (by omega), e1, if_pos (by omega), if_pos (by omega), hb]
  unfold RRa.cognateref01_tail.f
  by_cases h2 : b < 128
  · rw [if_neg (by omega), Option.bind_some, if_neg (by simp)]
  · rw [if_pos (by omega), Option.bind_some, if_neg (by simp; omega)]
end
theorem at_end (s : ByteArray) (pos L r k m : Nat) (hm : (L = 2 ∧ m = 128) ∨ (L = 3 ∧ m = 2048) ∨ (L = 4 ∧ m = 65536)) (x1 x2 x3 : Int) (x4 : Bool) :
    RRa.cognateref01_At.l0 (k + 1) s pos L r L x1 x2 x3 x4 = some (if r < m then (x1, x2, x3, x4) else if Utf8.valid r = true then ((r : Int), (pos : Int), (L : Int), false) else (x1, x2, x3, x4)) := by
  rw [RRa.cognateref01_At.l0, if_neg (by omega), Option.bind_some, if_pos (by omega)]
  have hrd : (L : Int) < (([0, 0, 128, 2048, 65536] : List Int).length : Int) ∧ YtdeichibnnbjdaaDoorW.PrintWords.rd ([0, 0, 128, 2048, 65536] : List Int) (L : Int) = (m : Int) := by
    rcases hm with ⟨rfl, rfl⟩ | ⟨rfl, rfl⟩ | ⟨rfl, rfl⟩ <;> exact ⟨by decide, by decide⟩
  rw [if_pos hrd.1, hrd.2, runeA_eq, Option.bind_some]
  by_cases h : r < m
  · rw [if_pos (by omega), if_pos h]
  · rw [if_neg (by omega), if_neg h]
    by_cases hv : Utf8.valid r = true
    · rw [if_pos hv, if_pos hv]
    · rw [if_neg hv, if_neg hv]
theorem valid_nat (r : Nat) : Utf8.valid (r : Int) = true ↔ r < 55296 ∨ (57344 ≤ r ∧ r ≤ 1114111) := by
  unfold Utf8.valid
  simp
  omega
/-- The sequence of a lead byte and its tails. -/
theorem at_seq (s : ByteArray) (hs : s.size ≤ 4611686018427387000) (pos : Nat) (hp : pos < s.size) (L r0 m k : Nat) (hm : (L = 2 ∧ m = 128 ∧ r0 < 32) ∨ (L = 3 ∧ m = 2048 ∧ r0 < 16) ∨ (L = 4 ∧ m = 65536 ∧ r0 < 8)) :
    RRa.cognateref01_At.j2 (k + 10) s pos L r0 = some (
      if pos + L ≤ s.size ∧ (s.get! (pos + 1)).toNat / 64 = 2 ∧ (3 ≤ L → (s.get! (pos + 2)).toNat / 64 = 2) ∧ (4 ≤ L → (s.get! (pos + 3)).toNat / 64 = 2) then
        (let r := if L = 2 then r0 * 64 + (s.get! (pos + 1)).toNat % 64 else if L = 3 then r0 * 4096 + (s.get! (pos + 1)).toNat % 64 * 64 + (s.get! (pos + 2)).toNat % 64 else r0 * 262144 + (s.get! (pos + 1)).toNat % 64 * 4096 + (s.get! (pos + 2)).toNat % 64 * 64 + (s.get! (pos + 3)).toNat % 64
         if r < m then (65533, (pos : Int), 1, true) else if Utf8.valid r = true then ((r : Int), (pos : Int), (L : Int), false) else (65533, (pos : Int), 1, true))
      else (65533, (pos : Int), 1, true)) := by
  have k1 := (s.get! (pos + 1)).toNat_lt
  have k2 := (s.get! (pos + 2)).toNat_lt
  have k3 := (s.get! (pos + 3)).toNat_lt
  have b1 := fun h => bt_get s (pos + 1) h
  have b2 := fun h => bt_get s (pos + 2) h
  have b3 := fun h => bt_get s (pos + 3) h
  generalize (s.get! (pos + 1)).toNat = c1 at *
  generalize (s.get! (pos + 2)).toNat = c2 at *
  generalize (s.get! (pos + 3)).toNat = c3 at *
  have hL : L ≤ 4 := by omega
  have e1 : wrap64 ((pos : Int) + (L : Int)) = ((pos + L : Nat) : Int) := by unfold wrap64; omega
  have ei : (1 : Int) = ((1 : Nat) : Int) := rfl
  rw [RRa.cognateref01_At.j2, if_neg (by omega), e1]
  show RRa.cognateref01_At.j3 (k + 8 + 1) _ _ _ _ _ _ _ _ _ = _
  rw [RRa.cognateref01_At.j3]
  by_cases hsz : pos + L ≤ s.size
  · rw [if_neg (by simp; omega)]
    show RRa.cognateref01_At.l0 (k + 7 + 1) _ _ _ _ ((1 : Nat) : Int) _ _ _ _ = _
    by_cases h1 : c1 / 64 = 2
    · rw [at_step s hs pos L hL 1 r0 c1 (k + 7) (by omega) (by omega) (b1 (by omega)) (by omega) (by omega) (by omega)]
      rcases hm with ⟨rfl, rfl, h0⟩ | ⟨rfl, rfl, h0⟩ | ⟨rfl, rfl, h0⟩
      · rw [if_pos ⟨hsz, h1, fun h => absurd h (by omega), fun h => absurd h (by omega)⟩]
        have e : 64 * r0 + (c1 - 128) = r0 * 64 + c1 % 64 := by omega
        rw [e]
        exact at_end s pos 2 _ (k + 6) 128 (.inl ⟨rfl, rfl⟩) _ _ _ _
      · show RRa.cognateref01_At.l0 (k + 6 + 1) _ _ _ _ ((2 : Nat) : Int) _ _ _ _ = _
        by_cases h2 : c2 / 64 = 2
        · rw [at_step s hs pos 3 hL 2 _ c2 (k + 6) (by omega) (by omega) (b2 (by omega)) (by omega) (by omega) (by omega)]
          rw [if_pos ⟨hsz, h1, fun _ => h2, fun h => absurd h (by omega)⟩]
          have e : 64 * (64 * r0 + (c1 - 128)) + (c2 - 128) = r0 * 4096 + c1 % 64 * 64 + c2 % 64 := by omega
          rw [e]
          exact at_end s pos 3 _ (k + 5) 2048 (.inr (.inl ⟨rfl, rfl⟩)) _ _ _ _
        · rw [at_bad s hs pos 3 hL 2 _ c2 (k + 6) (by omega) (by omega) (b2 (by omega)) (by omega), if_neg (fun h => h2 (h.2.2.1 (by omega)))]
      · show RRa.cognateref01_At.l0 (k + 6 + 1) _ _ _ _ ((2 : Nat) : Int) _ _ _ _ = _
        by_cases h2 : c2 / 64 = 2
        · rw [at_step s hs pos 4 hL 2 _ c2 (k + 6) (by omega) (by omega) (b2 (by omega)) (by omega) (by omega) (by omega)]
          show RRa.cognateref01_At.l0 (k + 5 + 1) _ _ _ _ ((3 : Nat) : Int) _ _ _ _ = _
          by_cases h3 : c3 / 64 = 2
          · rw [at_step s hs pos 4 hL 3 _ c3 (k + 5) (by omega) (by omega) (b3 (by omega)) (by omega) (by omega) (by omega)]
            rw [if_pos ⟨hsz, h1, fun _ => h2, fun _ => h3⟩]
            have e : 64 * (64 * (64 * r0 + (c1 - 128)) + (c2 - 128)) + (c3 - 128) = r0 * 262144 + c1 % 64 * 4096 + c2 % 64 * 64 + c3 % 64 := by omega
            rw [e]
            exact at_end s pos 4 _ (k + 4) 65536 (.inr (.inr ⟨rfl, rfl⟩)) _ _ _ _
          · rw [at_bad s hs pos 4 hL 3 _ c3 (k + 5) (by omega) (by omega) (b3 (by omega)) (by omega), if_neg (fun h => h3 (h.2.2.2 (by omega)))]
        · rw [at_bad s hs pos 4 hL 2 _ c2 (k + 6) (by omega) (by omega) (b2 (by omega)) (by omega), if_neg (fun h => h2 (h.2.2.1 (by omega)))]
    · rw [at_bad s hs pos L hL 1 _ c1 (k + 7) (by omega) (by omega) (b1 (by omega)) (by omega), if_neg (fun h => h1 h.2.1)]
  · rw [if_pos (decide_eq_true (by omega)), if_neg (fun h => hsz h.1)]
theorem dec2 (n b0 b1 b2 b3 : Nat) (h0 : 192 ≤ b0) (h1 : b0 < 224) : Lib.decodeN n b0 b1 b2 b3 = if 1 < n ∧ b1 / 64 = 2 then (if b0 % 32 * 64 + b1 % 64 < 128 then (65533, 1) else (b0 % 32 * 64 + b1 % 64, 2)) else (65533, 1) := by
  unfold Lib.decodeN
  rw [if_neg (by omega)]
  by_cases h : 1 < n ∧ b1 / 64 = 2
  · rw [if_pos (show b0 / 32 = 6 ∧ (1 < n ∧ b1 / 64 = 2) from ⟨by omega, h⟩), if_pos h]
    by_cases g : b0 % 32 * 64 + b1 % 64 < 128
    · rw [if_neg (by omega), if_pos g]
    · rw [if_pos (by omega), if_neg g]
  · rw [if_neg (show ¬ (b0 / 32 = 6 ∧ (1 < n ∧ b1 / 64 = 2)) from fun q => h q.2), if_neg h, if_neg (by omega), if_neg (by omega)]
theorem dec3 (n b0 b1 b2 b3 : Nat) (h0 : 224 ≤ b0) (h1 : b0 < 240) : Lib.decodeN n b0 b1 b2 b3 = if 2 < n ∧ b1 / 64 = 2 ∧ b2 / 64 = 2 then (if b0 % 16 * 4096 + b1 % 64 * 64 + b2 % 64 < 2048 then (65533, 1) else if b0 % 16 * 4096 + b1 % 64 * 64 + b2 % 64 < 55296 ∨ 57344 ≤ b0 % 16 * 4096 + b1 % 64 * 64 + b2 % 64 then (b0 % 16 * 4096 + b1 % 64 * 64 + b2 % 64, 3) else (65533, 1)) else (65533, 1) := by
  unfold Lib.decodeN
  rw [if_neg (by omega), if_neg (by omega)]
  by_cases h : 2 < n ∧ b1 / 64 = 2 ∧ b2 / 64 = 2
  · rw [if_pos (show b0 / 16 = 14 ∧ (1 < n ∧ b1 / 64 = 2) ∧ (2 < n ∧ b2 / 64 = 2) from ⟨by omega, ⟨by omega, h.2.1⟩, h.1, h.2.2⟩), if_pos h]
    have hb : b0 % 16 * 4096 + b1 % 64 * 64 + b2 % 64 < 65536 := by omega
    generalize b0 % 16 * 4096 + b1 % 64 * 64 + b2 % 64 = c at hb ⊢
    by_cases g : c < 2048
    · rw [if_neg (by omega), if_pos g]
    · rw [if_neg g]
      by_cases g2 : c < 55296 ∨ 57344 ≤ c
      · rw [if_pos (by omega), if_pos g2]
      · rw [if_neg (by omega), if_neg g2]
  · rw [if_neg (show ¬ (b0 / 16 = 14 ∧ (1 < n ∧ b1 / 64 = 2) ∧ (2 < n ∧ b2 / 64 = 2)) from fun q => h ⟨q.2.2.1, q.2.1.2, q.2.2.2⟩), if_neg h, if_neg (by omega)]
theorem dec4 (n b0 b1 b2 b3 : Nat) (h0 : 240 ≤ b0) (h1 : b0 < 248) : Lib.decodeN n b0 b1 b2 b3 = if 3 < n ∧ b1 / 64 = 2 ∧ b2 / 64 = 2 ∧ b3 / 64 = 2 then (if b0 % 8 * 262144 + b1 % 64 * 4096 + b2 % 64 * 64 + b3 % 64 < 65536 then (65533, 1) else if b0 % 8 * 262144 + b1 % 64 * 4096 + b2 % 64 * 64 + b3 % 64 ≤ 1114111 then (b0 % 8 * 262144 + b1 % 64 * 4096 + b2 % 64 * 64 + b3 % 64, 4) else (65533, 1)) else (65533, 1) := by
  unfold Lib.decodeN
  rw [if_neg (by omega), if_neg (by omega), if_neg (by omega)]
  by_cases h : 3 < n ∧ b1 / 64 = 2 ∧ b2 / 64 = 2 ∧ b3 / 64 = 2
  · rw [if_pos (show b0 / 8 = 30 ∧ (1 < n ∧ b1 / 64 = 2) ∧ (2 < n ∧ b2 / 64 = 2) ∧ (3 < n ∧ b3 / 64 = 2) from ⟨by omega, ⟨by omega, h.2.1⟩, ⟨by omega, h.2.2.1⟩, h.1, h.2.2.2⟩), if_pos h]
    generalize b0 % 8 * 262144 + b1 % 64 * 4096 + b2 % 64 * 64 + b3 % 64 = c
    by_cases g : c < 65536
    · rw [if_neg (by omega), if_pos g]
    · rw [if_neg g]
      by_cases g2 : c ≤ 1114111
      · rw [if_pos (by omega), if_pos g2]
      · rw [if_neg (by omega), if_neg g2]
  · rw [if_neg (show ¬ (b0 / 8 = 30 ∧ (1 < n ∧ b1 / 64 = 2) ∧ (2 < n ∧ b2 / 64 = 2) ∧ (3 < n ∧ b3 / 64 = 2)) from fun q => h ⟨q.2.2.2.1, q.2.1.2, q.2.2.1.2, q.2.2.2.2⟩), if_neg h]
def pieceT (s : ByteArray) (pos : Nat) : Int × Int × Int × Bool := ((pieceAt s pos).f0, (pieceAt s pos).f1, (pieceAt s pos).f2, (pieceAt s pos).f3)
theorem At_eq (s : ByteArray) (hs : s.size ≤ 4611686018427387000) (pos : Nat) (hp : pos < s.size) (k : Nat) : RRa.cognateref01_At.f (k + 12) s (pos : Int) = some (pieceT s pos) := by
  have k0 := (s.get! pos).toNat_lt
  have b0 := bt_get s pos hp
  have hseq := fun L r0 m kk hm => at_seq s hs pos hp L r0 m kk hm
  unfold pieceT pieceAt RRa.cognateref01_At.f
  rw [Lib.decode_at, if_pos (by omega), if_pos (by omega), b0]
  have c2 : ∀ j, (pos + j < s.size) = (j < s.size - pos) := fun j => propext ⟨fun h => by omega, fun h => by omega⟩
  generalize (s.get! pos).toNat = a0 at *
  generalize (s.get! (pos + 1)).toNat = a1 at *
  generalize (s.get! (pos + 2)).toNat = a2 at *
  generalize (s.get! (pos + 3)).toNat = a3 at *
  by_cases h1 : a0 < 128
  · have e : wrap32 (a0 : Int) = (a0 : Int) := wrap32N a0 (by omega)
    rw [if_pos (by omega), e, Lib.decodeN_ascii _ _ _ _ _ h1, decide_eq_false (by omega)]
    rfl
  · rw [if_neg (by omega)]
    by_cases h2 : 192 ≤ a0 ∧ a0 < 224
    · have e : (((a0 : Int) - 192) % 256) = ((a0 - 192 : Nat) : Int) := by omega
      rw [if_pos (by omega), decide_eq_true (by omega)]
      show RRa.cognateref01_At.j0 (k + 11 + 1) _ _ _ _ _ _ = _
      rw [RRa.cognateref01_At.j0, if_pos rfl, e]
      have := hseq 2 (a0 - 192) 128 (k + 1) (.inl ⟨rfl, rfl, by omega⟩)
      refine this.trans ?_
      rw [dec2 _ _ _ _ _ h2.1 h2.2]
      by_cases hc : pos + 2 ≤ s.size ∧ a1 / 64 = 2
      · rw [if_pos (show pos + 2 ≤ s.size ∧ a1 / 64 = 2 ∧ (3 ≤ 2 → a2 / 64 = 2) ∧ (4 ≤ 2 → a3 / 64 = 2) from ⟨hc.1, hc.2, fun h => absurd h (by omega), fun h => absurd h (by omega)⟩), if_pos (show 1 < s.size - pos ∧ a1 / 64 = 2 from ⟨by omega, hc.2⟩)]
        have e3 : (a0 - 192) * 64 + a1 % 64 = a0 % 32 * 64 + a1 % 64 := by omega
        have hb : a0 % 32 * 64 + a1 % 64 < 2048 := by omega
        simp only [if_true, e3]
        generalize a0 % 32 * 64 + a1 % 64 = c at hb ⊢
        by_cases h4 : c < 128
        · rw [if_pos h4, if_pos h4]
          rfl
        · rw [if_neg h4, if_neg h4, if_pos ((valid_nat c).2 (by omega)), decide_eq_false (by dsimp only; omega)]
      · rw [if_neg (show ¬ (pos + 2 ≤ s.size ∧ a1 / 64 = 2 ∧ (3 ≤ 2 → a2 / 64 = 2) ∧ (4 ≤ 2 → a3 / 64 = 2)) from fun h => hc ⟨h.1, h.2.1⟩), if_neg (show ¬ (1 < s.size - pos ∧ a1 / 64 = 2) from fun h => hc ⟨by omega, h.2⟩)]
        rfl
    · by_cases h3 : 224 ≤ a0 ∧ a0 < 240
      · have e : (((a0 : Int) - 224) % 256) = ((a0 - 224 : Nat) : Int) := by omega
        rw [if_pos (by omega), decide_eq_false (by omega)]
        show RRa.cognateref01_At.j0 (k + 11 + 1) _ _ _ _ _ _ = _
        rw [RRa.cognateref01_At.j0, if_neg (by simp), if_pos (by omega), decide_eq_true (by omega)]
        show RRa.cognateref01_At.j1 (k + 10 + 1) _ _ _ _ _ _ = _
        rw [RRa.cognateref01_At.j1, if_pos rfl, e]
        have := hseq 3 (a0 - 224) 2048 k (.inr (.inl ⟨rfl, rfl, by omega⟩))
        refine this.trans ?_
        rw [dec3 _ _ _ _ _ h3.1 h3.2]
        by_cases hc : pos + 3 ≤ s.size ∧ a1 / 64 = 2 ∧ a2 / 64 = 2
        · rw [if_pos (show pos + 3 ≤ s.size ∧ a1 / 64 = 2 ∧ (3 ≤ 3 → a2 / 64 = 2) ∧ (4 ≤ 3 → a3 / 64 = 2) from ⟨hc.1, hc.2.1, fun _ => hc.2.2, fun h => absurd h (by omega)⟩), if_pos (show 2 < s.size - pos ∧ a1 / 64 = 2 ∧ a2 / 64 = 2 from ⟨by omega, hc.2⟩)]
          have e3 : (a0 - 224) * 4096 + a1 % 64 * 64 + a2 % 64 = a0 % 16 * 4096 + a1 % 64 * 64 + a2 % 64 := by omega
          have hb : a0 % 16 * 4096 + a1 % 64 * 64 + a2 % 64 < 65536 := by omega
          have n32 : ¬ (3 = 2) := by omega
          simp only [if_true, n32, if_false, e3]
          generalize a0 % 16 * 4096 + a1 % 64 * 64 + a2 % 64 = c at hb ⊢
          by_cases h4 : c < 2048
          · rw [if_pos h4, if_pos h4]
            rfl
          · rw [if_neg h4, if_neg h4]
            by_cases h5 : c < 55296 ∨ 57344 ≤ c
            · rw [if_pos ((valid_nat c).2 (by omega)), if_pos h5, decide_eq_false (by dsimp only; omega)]
            · rw [if_neg (fun h => h5 (by have := (valid_nat c).1 h; omega)), if_neg h5]
              rfl
        · rw [if_neg (show ¬ (pos + 3 ≤ s.size ∧ a1 / 64 = 2 ∧ (3 ≤ 3 → a2 / 64 = 2) ∧ (4 ≤ 3 → a3 / 64 = 2)) from fun h => hc ⟨h.1, h.2.1, h.2.2.1 (by omega)⟩), if_neg (show ¬ (2 < s.size - pos ∧ a1 / 64 = 2 ∧ a2 / 64 = 2) from fun h => hc ⟨by omega, h.2⟩)]
          rfl
      · by_cases h4 : 240 ≤ a0 ∧ a0 < 248
        · have e : (((a0 : Int) - 240) % 256) = ((a0 - 240 : Nat) : Int) := by omega
          rw [if_pos (by omega), decide_eq_false (by omega)]
          show RRa.cognateref01_At.j0 (k + 11 + 1) _ _ _ _ _ _ = _
          rw [RRa.cognateref01_At.j0, if_neg (by simp), if_pos (by omega), decide_eq_false (by omega)]
          show RRa.cognateref01_At.j1 (k + 10 + 1) _ _ _ _ _ _ = _
          rw [RRa.cognateref01_At.j1, if_neg (by simp), if_pos (by omega), if_pos (by omega), e]
          have := hseq 4 (a0 - 240) 65536 k (.inr (.inr ⟨rfl, rfl, by omega⟩))
          refine this.trans ?_
          rw [dec4 _ _ _ _ _ h4.1 h4.2]
          by_cases hc : pos + 4 ≤ s.size ∧ a1 / 64 = 2 ∧ a2 / 64 = 2 ∧ a3 / 64 = 2
          · rw [if_pos (show pos + 4 ≤ s.size ∧ a1 / 64 = 2 ∧ (3 ≤ 4 → a2 / 64 = 2) ∧ (4 ≤ 4 → a3 / 64 = 2) from ⟨hc.1, hc.2.1, fun _ => hc.2.2.1, fun _ => hc.2.2.2⟩), if_pos (show 3 < s.size - pos ∧ a1 / 64 = 2 ∧ a2 / 64 = 2 ∧ a3 / 64 = 2 from ⟨by omega, hc.2⟩)]
            have e3 : (a0 - 240) * 262144 + a1 % 64 * 4096 + a2 % 64 * 64 + a3 % 64 = a0 % 8 * 262144 + a1 % 64 * 4096 + a2 % 64 * 64 + a3 % 64 := by omega
            have n42 : ¬ (4 = 2) := by omega
            have n43 : ¬ (4 = 3) := by omega
            simp only [n42, n43, if_false, e3]
            generalize a0 % 8 * 262144 + a1 % 64 * 4096 + a2 % 64 * 64 + a3 % 64 = c
            by_cases h4 : c < 65536
            · rw [if_pos h4, if_pos h4]
              rfl
            · rw [if_neg h4, if_neg h4]
              by_cases h5 : c ≤ 1114111
              · rw [if_pos ((valid_nat c).2 (by omega)), if_pos h5, decide_eq_false (by dsimp only; omega)]
              · rw [if_neg (fun h => h5 (by have := (valid_nat c).1 h; omega)), if_neg h5]
                rfl
          · rw [if_neg (show ¬ (pos + 4 ≤ s.size ∧ a1 / 64 = 2 ∧ (3 ≤ 4 → a2 / 64 = 2) ∧ (4 ≤ 4 → a3 / 64 = 2)) from fun h => hc ⟨h.1, h.2.1, h.2.2.1 (by omega), h.2.2.2 (by omega)⟩), if_neg (show ¬ (3 < s.size - pos ∧ a1 / 64 = 2 ∧ a2 / 64 = 2 ∧ a3 / 64 = 2) from fun h => hc ⟨by omega, h.2⟩)]
            rfl
        · have hb : RRa.cognateref01_At.j2 (k + 10) s (pos : Int) 0 0 = some (65533, (pos : Int), 1, true) := by
            show RRa.cognateref01_At.j2 (k + 9 + 1) _ _ _ _ = _
            rw [RRa.cognateref01_At.j2, if_pos rfl]
            show RRa.cognateref01_At.j3 (k + 8 + 1) _ _ _ _ _ _ _ _ _ = _
            rw [RRa.cognateref01_At.j3, if_pos rfl]
          have hd : Lib.decodeN (s.size - pos) a0 a1 a2 a3 = (65533, 1) := by
            unfold Lib.decodeN
            rw [if_neg h1, if_neg (by omega), if_neg (by omega), if_neg (by omega)]
          rw [hd]
          by_cases h5 : 192 ≤ a0
          · rw [if_pos (by omega), decide_eq_false (by omega)]
            show RRa.cognateref01_At.j0 (k + 11 + 1) _ _ _ _ _ _ = _
            rw [RRa.cognateref01_At.j0, if_neg (by simp), if_pos (by omega), decide_eq_false (by omega)]
            show RRa.cognateref01_At.j1 (k + 10 + 1) _ _ _ _ _ _ = _
            rw [RRa.cognateref01_At.j1, if_neg (by simp), if_pos (by omega), if_neg (by omega), hb]
            rfl
          · rw [if_neg (by omega)]
            show RRa.cognateref01_At.j0 (k + 11 + 1) _ _ _ _ _ _ = _
            rw [RRa.cognateref01_At.j0, if_neg (by simp), if_neg (by omega)]
            show RRa.cognateref01_At.j1 (k + 10 + 1) _ _ _ _ _ _ = _
            rw [RRa.cognateref01_At.j1, if_neg (by simp), if_neg (by omega), hb]
            rfl
namespace Ext
def cognateref01_At.f (s : ByteArray) (i : Int) : Option (Int × Int × Int × Bool) := if 0 ≤ i ∧ i < (s.size : Int) ∧ s.size ≤ 4611686018427387000 then some (pieceT s i.toNat) else none
theorem cognateref01_At.calls (s : ByteArray) (i : Int) (r1 r2 r3 : Int) (r4 : Bool) (w : World) (h : cognateref01_At.f s i = some (r1, r2, r3, r4)) :
    Calls Tryd.prog 52 #[.string s, .int .i64 i] w fun e w' => e = .returned (.agg #[.int .i32 r1, .int .i64 r2, .int .i64 r3, .bool r4]) ∧ Below w.heap.size w w' := by
  unfold cognateref01_At.f at h
  split at h
  · rename_i hc
    have e : i = ((i.toNat : Nat) : Int) := by omega
    have := At_eq s hc.2.2 i.toNat (by omega) 0
    rw [← e] at this
    exact RRa.cognateref01_At.calls 12 s i r1 r2 r3 r4 w (this.trans h)
  · cases h
end Ext
end Go.Proofs.YtdeichibnnbjdaaDoor
end
section
/-
  The library's functions, by the shelf's contracts, in the print's form: utf8.ValidString, RuneCountInString.
-/
namespace Go.Proofs.YtdeichibnnbjdaaDoor.Ext
open Go.RowKit Go.Shelf Go.Proofs.YtdeichibnnbjdaaDoor Go.Proofs.YtdeichibnnbjdaaDoorW.PrintWords Go.Proofs.YtdeichibnnbjdaaDoorW.PrintLast Go.Proofs.YtdeichibnnbjdaaDoorW.PrintMore

def utf8_ValidString.f (a0 : ByteArray) : Option Bool := if a0.size ≤ 9223372036854775807 then some (Lib.validD a0.data.toList) else none
theorem utf8_ValidString.calls (a0 : ByteArray) (r : Bool) (w : World) (hT : Tabs w) (h : utf8_ValidString.f a0 = some r) :
    Calls Tryd.prog 39 #[.string a0] w fun e w' => e = .returned (.bool r) ∧ Below w.heap.size w w' := by
  unfold utf8_ValidString.f at h
  split at h
  · rename_i hc
    obtain rfl := Option.some.inj h
    exact Any.utf8_ValidString Tryd.lays196 a0 w hc hT
  · cases h
def utf8_RuneCountInString.f (a0 : ByteArray) : Option Int := if a0.size < 9223372036854775807 then some (Lib.runeCount a0 : Int) else none
theorem utf8_RuneCountInString.calls (a0 : ByteArray) (r : Int) (w : World) (h : utf8_RuneCountInString.f a0 = some r) :
    Calls Tryd.prog 40 #[.string a0] w fun e w' => e = .returned (.int .i64 r) ∧ Below w.heap.size w w' := by
  unfold utf8_RuneCountInString.f at h
  split at h
  · rename_i hc
    obtain rfl := Option.some.inj h
    refine (Any.utf8_RuneCountInString Tryd.lays195 a0 w hc).mono ?_
    rintro e w' ⟨he, pos, rfl⟩
    exact ⟨he, (Below.refl _ _).alloc (Nat.le_refl _) _⟩
  · cases h
end Go.Proofs.YtdeichibnnbjdaaDoor.Ext
end
section
/-
  feature.Of by walks: a rune's letter.
-/
set_option linter.unusedSimpArgs false
set_option linter.unusedVariables false
namespace Go.Proofs.YtdeichibnnbjdaaDoor
open Go.RowKit Go.Proofs.YtdeichibnnbjdaaDoorW.PrintWords Go.Proofs.YtdeichibnnbjdaaDoorW.PrintLast Go.Proofs.YtdeichibnnbjdaaDoorW.PrintMore Go.Proofs.YtdeichibnnbjdaaDoor.Ext

set_option maxHeartbeats 1000000 in
set_option maxRecDepth 100000 in
theorem isRune (b : Nat) (r x0 x1 x2 : Int) (w : World) (hblk : w.heap[b]? = some (.cells #[.int .i32 r] 21 (0, 0))) :
    Calls Tryd.prog 66 #[.agg #[.int .i32 x0, .int .u32 x1, .int .u32 x2], .pointer (some ⟨b, 0, none⟩)] w fun e w' => e = .returned (.bool (x0 == r)) ∧ Below w.heap.size w w' := by
  have hbl := blk_lt hblk
  have hc0 : ∀ o, (w.alloc o).cell? ⟨b, 0, none⟩ = some (.int .i32 r) := fun o => (blk_cell (blk_alloc hblk o) 0).trans rfl
  have hc1 : w.cell? ⟨b, 0, none⟩ = some (.int .i32 r) := (blk_cell hblk 0).trans rfl
  clear hblk
  go_enter Tryd.func66, Tryd.ntmps66
  go_wp2_with fail
  go_ret
  exact ⟨rfl, (Below.refl _ _).alloc (Nat.le_refl _) _⟩

theorem numOf_here (l1 : List Letter) (r : Int) (k : Nat) (h : k < l1.length) (hn : ∀ j (hj : j < k), (l1[j]'(by omega)).f0 ≠ r) (hk : l1[k].f0 = r) : numOf l1 r = (k : Int) := by
  unfold numOf
  have : l1.findIdx? (fun x => x.f0 == r) = some k := by
    rw [List.findIdx?_eq_some_iff_getElem]
    exact ⟨h, by simpa using hk, fun j hj => by simpa using hn j hj⟩
  rw [this]
theorem numOf_none (l1 : List Letter) (r : Int) (hn : ∀ j (hj : j < l1.length), l1[j].f0 ≠ r) : numOf l1 r = -1 := by
  unfold numOf
  have : l1.findIdx? (fun x => x.f0 == r) = none := by
    rw [List.findIdx?_eq_none_iff]
    intro x hx
    obtain ⟨j, hj, rfl⟩ := List.getElem_of_mem hx
    simpa using hn j hj
  rw [this]

set_option maxHeartbeats 2000000 in
set_option maxRecDepth 100000 in
theorem find_walk (A : Option Addr) (c : Nat) (l1 : List Letter) (b : Nat) (r : Int) (w : World) (hblk : w.heap[b]? = some (.cells #[.int .i32 r] 21 (0, 0))) (hL : Kd.C kLetter w A l1.length l1) (hcL : l1.length ≤ c) (hl : l1.length ≤ 1000000) :
    Calls Tryd.prog 65 #[.slice A l1.length c, .func (.func 66) #[] #[.pointer (some ⟨b, 0, none⟩)]] w fun e w' => e = .returned (.int .i64 (numOf l1 r)) ∧ Below w.heap.size w w' := by
  have Hblk := Lib.hid hblk
  have HL := Lib.hid hL
  clear hblk hL
  go_enter Tryd.func65, Tryd.ntmps65
  go_wp2_with fail
  go_loopw [8] (fun i wr => ∃ k : Nat, k ≤ l1.length ∧ i = .int .i64 k ∧ Below w.heap.size w wr ∧ Hid (∀ j (hj : j < k) (hj2 : j < l1.length), l1[j].f0 ≠ r)) (fun i _ => l1.length - (intOf i).toNat)
  case atStart => exact ⟨0, Nat.zero_le _, rfl, Below.refl _ _, fun j hj _ => absurd hj (by omega)⟩
  case round =>
    obtain ⟨k, hk, rfl, hb, hn⟩ := hrel
    by_cases hlt : k < l1.length
    · obtain ⟨ad, hA, hx0, hx1, hx2⟩ := at_T74 (Kd.C_below HL.out hb) k (by omega) (by omega)
      subst hA
      rw [Int.toNat_natCast] at hx0 hx1 hx2
      rw [rdL l1 k hlt] at hx0 hx1 hx2
      obtain ⟨x, hx⟩ : ∃ x, x = l1[k] := ⟨_, rfl⟩
      rw [← hx] at hx0 hx1 hx2
      have Hx := Lib.hid hx
      clear hx
      obtain ⟨x0, x1, x2⟩ := x
      dsimp only at hx0 hx1 hx2
      have hcall := isRune b r x0 x1 x2 wr (blk_below Hblk.out hb)
      cases hq : (x0 == r) with
      | true =>
        rw [hq] at hcall
        have Hq := Lib.hid (numOf_here l1 r k hlt (fun j hj => hn.out j hj (by omega)) (by rw [← Hx.out]; simpa using hq))
        clear hq
        go_wp2_with (go_at_call 66; refine hcall.mono ?_; rintro e w1 ⟨rfl, hb1⟩)
        go_ret
        exact ⟨ret_i64 Hq.out.symm, below_step hb hb1⟩
      | false =>
        rw [hq] at hcall
        have Hq : Hid (x0 ≠ r) := by simpa [Hid] using hq
        clear hq
        go_wp2_with (go_at_call 66; refine hcall.mono ?_; rintro e w1 ⟨rfl, hb1⟩)
        go_roundw
        case rel =>
          refine ⟨k + 1, by omega, by go_num, below_step hb hb1, fun j hj hj2 => ?_⟩
          by_cases e : j = k
          · subst e
            rw [← Hx.out]
            exact Hq.out
          · exact hn.out j (by omega) hj2
        case measure => simp [intOf]; omega
    · obtain rfl : k = l1.length := by omega
      have Hq := Lib.hid (numOf_none l1 r (fun j hj => hn.out j hj hj))
      go_wp2_with fail
      go_ret
      exact ⟨ret_i64 Hq.out.symm, hb⟩

theorem boxes3 (w : World) (a b c : Obj) : Below w.heap.size w (((w.alloc a).alloc b).alloc c) ∧ (((w.alloc a).alloc b).alloc c).heap[w.heap.size]? = some a ∧ (((w.alloc a).alloc b).alloc c).heap[w.heap.size + 1]? = some b ∧ (((w.alloc a).alloc b).alloc c).heap[w.heap.size + 1 + 1]? = some c := by
  have e1 : (w.alloc a).heap.size = w.heap.size + 1 := by simp
  have e2 : ((w.alloc a).alloc b).heap.size = w.heap.size + 1 + 1 := by simp
  refine ⟨(((Below.refl _ _).alloc (Nat.le_refl _) _).alloc (by simp) _).alloc (by simp; omega) _, blk_alloc (blk_alloc (blk_new w a) b) c, ?_, ?_⟩
  · have := blk_alloc (blk_new (w.alloc a) b) c
    rwa [e1] at this
  · have := blk_new ((w.alloc a).alloc b) c
    rwa [e2] at this
namespace Ext
def feature_Of.f (l0 : List ByteArray) (l1 : List Letter) (r : Int) : Option (Int × Int × Int × Int) :=
  some (if chk l0 l1 = 0 then (if numOf l1 r < 0 then (0, 0, 0, 5) else ((rd_T74 l1 (numOf l1 r)).f0, (rd_T74 l1 (numOf l1 r)).f1, (rd_T74 l1 (numOf l1 r)).f2, 0)) else (0, 0, 0, chk l0 l1))
set_option maxHeartbeats 2000000 in
set_option maxRecDepth 100000 in
theorem feature_Of.calls (A0 : Option Addr) (c0 : Nat) (l0 : List ByteArray) (A1 : Option Addr) (c1 : Nat) (l1 : List Letter) (r : Int) (r1 r2 r3 r4 : Int) (w : World) (hF : Kd.C Kd.string w A0 l0.length l0) (hcF : l0.length ≤ c0) (hL : Kd.C kLetter w A1 l1.length l1) (hcL : l1.length ≤ c1)
    (h : feature_Of.f l0 l1 r = some (r1, r2, r3, r4)) :
    Calls Tryd.prog 41 #[.agg #[.slice A0 l0.length c0, .slice A1 l1.length c1], .int .i32 r] w fun e w' => e = .returned (.tuple #[.agg #[.int .i32 r1, .int .u32 r2, .int .u32 r3], .int .i64 r4]) ∧ Below w.heap.size w w' := by
  have h := Option.some.inj h
  have hch := fun W hF hL => feature_Check.calls A0 c0 l0 A1 c1 l1 (chk l0 l1) W hF hcF hL hcL rfl
  have HF := Lib.hid hF
  have HL := Lib.hid hL
  clear hF hL
  by_cases hk : chk l0 l1 = 0
  · rw [if_pos hk] at h
    rw [hk] at hch
    have hlen := chk_len hk
    have hfi := fun W b hb hL => find_walk A1 c1 l1 b r W hb hL hcL (by omega)
    have Hk := Lib.hid hk
    clear hk
    by_cases hneg : numOf l1 r < 0
    · rw [if_pos hneg] at h
      simp only [Prod.mk.injEq] at h
      obtain ⟨rfl, rfl, rfl, rfl⟩ := h
      have hd := decide_eq_true hneg
      clear hneg
      go_enter Tryd.func41, Tryd.ntmps41
      go_wp2_with (first | (go_at_call 37; have hB3 := boxes3 w (.cells #[.slice A0 l0.length c0, .slice A1 l1.length c1] 25) (.cells #[.int .i32 r] 21) (.cells #[.int .i32 0, .int .u32 0, .int .u32 0] 74); refine (hch _ (Kd.C_below HF.out hB3.1) (Kd.C_below HL.out hB3.1)).mono ?_; rintro e w1 ⟨rfl, hb1⟩; have hB1 := Lib.hid (below_step hB3.1 hb1); have ha := Lib.hid (blk_below hB3.2.1 hb1); have hr := Lib.hid (blk_below hB3.2.2.1 hb1); have hz := Lib.hid (blk_below hB3.2.2.2 hb1); have hA0 := (blk_cell ha.out 0).trans rfl; have hA1 := (blk_cell ha.out 1).trans rfl; have hR0 := (blk_cell hr.out 0).trans rfl; have hz0 := (blk_cell hz.out 0).trans rfl; have hz1 := (blk_cell hz.out 1).trans rfl; have hz2 := (blk_cell hz.out 2).trans rfl; have hf0 := blk_frozen hz.out 0; have hf1 := blk_frozen hz.out 1; have hf2 := blk_frozen hz.out 2; clear hB3) | (go_at_call 65; refine (hfi _ (w.heap.size + 1) hr.out (Kd.C_below HL.out hB1.out)).mono ?_; rintro e w2 ⟨rfl, hb2⟩; have hB2 := Lib.hid (below_step hB1.out hb2); have ha2 := Lib.hid (blk_below ha.out hb2); have hz2' := Lib.hid (blk_below hz.out hb2); have gA1 := (blk_cell ha2.out 1).trans rfl; have gz0 := (blk_cell hz2'.out 0).trans rfl; have gz1 := (blk_cell hz2'.out 1).trans rfl; have gz2 := (blk_cell hz2'.out 2).trans rfl; have gf0 := blk_frozen hz2'.out 0; have gf1 := blk_frozen hz2'.out 1; have gf2 := blk_frozen hz2'.out 2))
      refine bodyPost_ret (results_ct rfl _ _ (w.heap.size + 1 + 1) 74 #[.int .i32 0, .int .u32 0, .int .u32 0] (0, 0) _ rfl (by refine blk_put (cs := #[.int .i32 0, .int .u32 0, .int .u32 0]) ?_ 2 _ rfl; refine blk_put (cs := #[.int .i32 0, .int .u32 0, .int .u32 0]) ?_ 1 _ rfl; refine blk_put (cs := #[.int .i32 0, .int .u32 0, .int .u32 0]) ?_ 0 _ rfl; exact hz2'.out) Tryd.underlying74 rfl (by kernel_rfl)) rfl ?_
      exact ⟨rfl, below_set (below_set (below_set hB2.out (by omega)) (by omega)) (by omega)⟩
    · rw [if_neg hneg] at h
      simp only [Prod.mk.injEq] at h
      obtain ⟨rfl, rfl, rfl, rfl⟩ := h
      have hd := decide_eq_false hneg
      have hge : 0 ≤ numOf l1 r := by omega
      have hlt : numOf l1 r < l1.length := by
        unfold numOf at hge ⊢
        cases hfd : l1.findIdx? (fun x => x.f0 == r) with
        | none => rw [hfd] at hge; exact absurd hge (by show ¬ (0 : Int) ≤ -1; omega)
        | some i =>
          rw [List.findIdx?_eq_some_iff_getElem] at hfd
          obtain ⟨hi, _⟩ := hfd
          show (i : Int) < _
          omega
      obtain ⟨q, hq⟩ : ∃ q, q = numOf l1 r := ⟨_, rfl⟩
      rw [← hq] at hd hge hlt hfi ⊢
      have hT := fun W (hb : Below w.heap.size w W) => at_T74 (Kd.C_below HL.out hb) q hge hlt
      have HT := Lib.hid hT
      obtain ⟨ad, hA, _⟩ := hT w (Below.refl _ _)
      subst hA
      have p1 := eq_true hge
      have p2 := eq_true hlt
      clear hq hT hneg
      go_enter Tryd.func41, Tryd.ntmps41
      go_wp2_with (first | (go_at_call 37; have hB3 := boxes3 w (.cells #[.slice A0 l0.length c0, .slice (some ad) l1.length c1] 25) (.cells #[.int .i32 r] 21) (.cells #[.int .i32 0, .int .u32 0, .int .u32 0] 74); refine (hch _ (Kd.C_below HF.out hB3.1) (Kd.C_below HL.out hB3.1)).mono ?_; rintro e w1 ⟨rfl, hb1⟩; have hB1 := Lib.hid (below_step hB3.1 hb1); have ha := Lib.hid (blk_below hB3.2.1 hb1); have hr := Lib.hid (blk_below hB3.2.2.1 hb1); have hz := Lib.hid (blk_below hB3.2.2.2 hb1); have hA0 := (blk_cell ha.out 0).trans rfl; have hA1 := (blk_cell ha.out 1).trans rfl; have hR0 := (blk_cell hr.out 0).trans rfl; have hz0 := (blk_cell hz.out 0).trans rfl; have hz1 := (blk_cell hz.out 1).trans rfl; have hz2 := (blk_cell hz.out 2).trans rfl; have hf0 := blk_frozen hz.out 0; have hf1 := blk_frozen hz.out 1; have hf2 := blk_frozen hz.out 2; clear hB3) | (go_at_call 65; refine (hfi _ (w.heap.size + 1) hr.out (Kd.C_below HL.out hB1.out)).mono ?_; rintro e w2 ⟨rfl, hb2⟩; have hB2 := Lib.hid (below_step hB1.out hb2); have ha2 := Lib.hid (blk_below ha.out hb2); have hz2' := Lib.hid (blk_below hz.out hb2); have gA1 := (blk_cell ha2.out 1).trans rfl; have gz0 := (blk_cell hz2'.out 0).trans rfl; have gz1 := (blk_cell hz2'.out 1).trans rfl; have gz2 := (blk_cell hz2'.out 2).trans rfl; have gf0 := blk_frozen hz2'.out 0; have gf1 := blk_frozen hz2'.out 1; have gf2 := blk_frozen hz2'.out 2; obtain ⟨ad2, hA2, hx0, hx1, hx2⟩ := HT.out w2 hB2.out; cases hA2))
      refine bodyPost_ret (results_ct rfl _ _ (w.heap.size + 1 + 1) 74 #[.int .i32 (rd_T74 l1 q).f0, .int .u32 (rd_T74 l1 q).f1, .int .u32 (rd_T74 l1 q).f2] (0, 0) _ rfl (by refine blk_put (cs := #[.int .i32 (rd_T74 l1 q).f0, .int .u32 (rd_T74 l1 q).f1, .int .u32 0]) ?_ 2 _ rfl; refine blk_put (cs := #[.int .i32 (rd_T74 l1 q).f0, .int .u32 0, .int .u32 0]) ?_ 1 _ rfl; refine blk_put (cs := #[.int .i32 0, .int .u32 0, .int .u32 0]) ?_ 0 _ rfl; exact hz2'.out) Tryd.underlying74 rfl (by kernel_rfl)) rfl ?_
      exact ⟨rfl, below_set (below_set (below_set hB2.out (by omega)) (by omega)) (by omega)⟩
  · rw [if_neg hk] at h
    simp only [Prod.mk.injEq] at h
    obtain ⟨rfl, rfl, rfl, rfl⟩ := h
    have heb : (chk l0 l1 == 0) = false := beq_eq_false_iff_ne.mpr hk
    have heb2 : (chk l0 l1 != 0) = true := bne_iff_ne.mpr hk
    clear hk
    go_enter Tryd.func41, Tryd.ntmps41
    go_wp2_with (go_at_call 37; have hB3 := boxes3 w (.cells #[.slice A0 l0.length c0, .slice A1 l1.length c1] 25) (.cells #[.int .i32 r] 21) (.cells #[.int .i32 0, .int .u32 0, .int .u32 0] 74); refine (hch _ (Kd.C_below HF.out hB3.1) (Kd.C_below HL.out hB3.1)).mono ?_; rintro e w1 ⟨rfl, hb1⟩; have hB1 := Lib.hid (below_step hB3.1 hb1); have ha := Lib.hid (blk_below hB3.2.1 hb1); have hr := Lib.hid (blk_below hB3.2.2.1 hb1); have hz := Lib.hid (blk_below hB3.2.2.2 hb1); have hA0 := (blk_cell ha.out 0).trans rfl; have hA1 := (blk_cell ha.out 1).trans rfl; have hR0 := (blk_cell hr.out 0).trans rfl; have hz0 := (blk_cell hz.out 0).trans rfl; have hz1 := (blk_cell hz.out 1).trans rfl; have hz2 := (blk_cell hz.out 2).trans rfl; have hf0 := blk_frozen hz.out 0; have hf1 := blk_frozen hz.out 1; have hf2 := blk_frozen hz.out 2; clear hB3)
    refine bodyPost_ret (results_ct rfl _ _ (w.heap.size + 1 + 1) 74 #[.int .i32 0, .int .u32 0, .int .u32 0] (0, 0) _ rfl (by refine blk_put (cs := #[.int .i32 0, .int .u32 0, .int .u32 0]) ?_ 2 _ rfl; refine blk_put (cs := #[.int .i32 0, .int .u32 0, .int .u32 0]) ?_ 1 _ rfl; refine blk_put (cs := #[.int .i32 0, .int .u32 0, .int .u32 0]) ?_ 0 _ rfl; exact hz.out) Tryd.underlying74 rfl (by kernel_rfl)) rfl ?_
    exact ⟨rfl, below_set (below_set (below_set hB1.out (by omega)) (by omega)) (by omega)⟩
end Ext
end Go.Proofs.YtdeichibnnbjdaaDoor
end
section
/-
  What radical.Check asks of a shape, in plain words, over a text's pieces.
-/
set_option linter.unusedSimpArgs false
set_option linter.unusedVariables false
namespace Go.Proofs.YtdeichibnnbjdaaDoor
open Go.RowKit Go.Proofs.YtdeichibnnbjdaaDoorW.PrintWords Go.Proofs.YtdeichibnnbjdaaDoorW.PrintLast Go.Proofs.YtdeichibnnbjdaaDoorW.PrintMore Go.Proofs.YtdeichibnnbjdaaDoor.Ext

theorem runeCount_pieces (s : ByteArray) : ∀ f pos, Lib.runeCountFrom s f pos = (piecesFrom s f pos).length
  | 0, _ => rfl
  | f + 1, pos => by
    unfold Lib.runeCountFrom piecesFrom
    split
    · rw [runeCount_pieces s f]
      simp
      omega
    · rfl
theorem runeCount_eq (s : ByteArray) : Lib.runeCount s = (pieces s).length := runeCount_pieces s s.size 0
theorem validGo_pieces (s : ByteArray) : ∀ f pos, Lib.validGoD f (s.data.toList.drop pos) = (piecesFrom s f pos).all (fun p => !p.f3)
  | 0, _ => rfl
  | f + 1, pos => by
    have hl : s.data.toList.length = s.size := by rw [Array.length_toList]; rfl
    unfold Lib.validGoD piecesFrom
    by_cases h : pos < s.size
    · rw [if_pos h, if_neg (dropsz s pos h), Lib.decodeL_drop, List.drop_drop, validGo_pieces s f]
      have hf3 : (pieceAt s pos).f3 = decide ((Utf8.decode s pos).1 = 65533 ∧ (Utf8.decode s pos).2 = 1) := rfl
      rw [List.all_cons, hf3]
      by_cases e : (Utf8.decode s pos).1 = 65533 ∧ (Utf8.decode s pos).2 = 1
      · rw [if_pos e, decide_eq_true e]
        rfl
      · rw [if_neg e, decide_eq_false e]
        simp
    · rw [if_neg h, if_pos (List.drop_of_length_le (by omega))]
      rfl
theorem valid_pieces (s : ByteArray) : Lib.validD s.data.toList = (pieces s).all (fun p => !p.f3) := by
  unfold Lib.validD pieces
  have hl : s.data.toList.length = s.size := by rw [Array.length_toList]; rfl
  rw [hl]
  have := validGo_pieces s s.size 0
  simpa using this
theorem runesFrom_pieces (s : ByteArray) : ∀ (f pos : Nat) (acc : Array Value), (Conv.runesFrom s f pos acc).toList = acc.toList ++ (piecesFrom s f pos).map (fun p => Value.int .i32 p.f0)
  | 0, _, acc => by simp [Conv.runesFrom, piecesFrom]
  | f + 1, pos, acc => by
    unfold Conv.runesFrom piecesFrom
    split
    · rename_i h
      show (Conv.runesFrom s f (pos + (Utf8.decode s pos).2) (acc.push (Value.int .i32 (Int.ofNat (Utf8.decode s pos).1)))).toList = _
      rw [runesFrom_pieces s f, Array.toList_push, List.map_cons, List.append_assoc]
      rfl
    · simp
theorem runesOf_pieces (s : ByteArray) : runesOf s = (pieces s).map (fun p => p.f0) := by
  unfold runesOf pieces
  rw [runesFrom_pieces]
  simp
/-- A shape's name. -/
def nameC (b : UInt8) : Bool := az b || (decide (48 ≤ b.toNat) && decide (b.toNat ≤ 57)) || decide (b.toNat = 45)
def nameS (s : ByteArray) : Bool := decide (s.size ≤ 32) && s.data.toList.all nameC
def formS (ks : List Int) (s : ByteArray) : Bool := (pieces s).all (fun p => !p.f3) && decide ((pieces s).length ≤ 64) && (pieces s).all (fun p => ks.contains p.f0 || decide (p.f0 = 95))
/-- radical.Check. -/
def chkS (l0 : List ByteArray) (l1 : List Letter) (n f : ByteArray) : Int := if chk l0 l1 = 0 then (if (nameS n && formS (kindsOf l1) f) = true then 0 else 130) else chk l0 l1
end Go.Proofs.YtdeichibnnbjdaaDoor
end
section
/-
  radical.Check by a walk.
-/
set_option linter.unusedSimpArgs false
set_option linter.unusedVariables false
namespace Go.Proofs.YtdeichibnnbjdaaDoor
open Go.RowKit Go.Proofs.YtdeichibnnbjdaaDoorW.PrintWords Go.Proofs.YtdeichibnnbjdaaDoorW.PrintLast Go.Proofs.YtdeichibnnbjdaaDoorW.PrintMore Go.Proofs.YtdeichibnnbjdaaDoor.Ext

theorem boxes2 (w : World) (a b : Obj) : Below w.heap.size w ((w.alloc a).alloc b) ∧ ((w.alloc a).alloc b).heap[w.heap.size]? = some a ∧ ((w.alloc a).alloc b).heap[w.heap.size + 1]? = some b := by
  have e1 : (w.alloc a).heap.size = w.heap.size + 1 := by simp
  refine ⟨((Below.refl _ _).alloc (Nat.le_refl _) _).alloc (by simp) _, blk_alloc (blk_new w a) b, ?_⟩
  have := blk_new (w.alloc a) b
  rwa [e1] at this
theorem nameC_contains (b : UInt8) : ([97, 98, 99, 100, 101, 102, 103, 104, 105, 106, 107, 108, 109, 110, 111, 112, 113, 114, 115, 116, 117, 118, 119, 120, 121, 122, 48, 49, 50, 51, 52, 53, 54, 55, 56, 57, 45] : List UInt8).contains b = nameC b := by
  have h : ∀ n, n < 256 → ([97, 98, 99, 100, 101, 102, 103, 104, 105, 106, 107, 108, 109, 110, 111, 112, 113, 114, 115, 116, 117, 118, 119, 120, 121, 122, 48, 49, 50, 51, 52, 53, 54, 55, 56, 57, 45] : List UInt8).contains (UInt8.ofNat n) = nameC (UInt8.ofNat n) := by decide +kernel
  have h2 := h b.toNat b.toNat_lt
  rwa [UInt8.ofNat_toNat] at h2
abbrev nameSet : ByteArray := ⟨#[97, 98, 99, 100, 101, 102, 103, 104, 105, 106, 107, 108, 109, 110, 111, 112, 113, 114, 115, 116, 117, 118, 119, 120, 121, 122, 48, 49, 50, 51, 52, 53, 54, 55, 56, 57, 45]⟩
theorem trimName (n : ByteArray) : Lib.trimS n.data.toList nameSet.data.toList = [] ↔ n.data.toList.all nameC = true := by
  rw [trimS_nil]
  have e : (n.data.toList.all (nameSet.data.toList.contains ·)) = n.data.toList.all nameC := by
    congr 1
    funext b
    exact nameC_contains b
  rw [e]
def okF (ks : List Int) (p : Piece) : Bool := ks.contains p.f0 || decide (p.f0 = 95)
namespace Ext
def radical_Check.f (l0 : List ByteArray) (l1 : List Letter) (n f : ByteArray) : Option Int := if n.size ≤ 9223372036854775807 ∧ f.size < 9223372036854775807 then some (chkS l0 l1 n f) else none
set_option maxHeartbeats 4000000 in
set_option maxRecDepth 100000 in
theorem radical_Check.calls (A0 : Option Addr) (c0 : Nat) (l0 : List ByteArray) (A1 : Option Addr) (c1 : Nat) (l1 : List Letter) (n f : ByteArray) (r : Int) (w : World) (hF : Kd.C Kd.string w A0 l0.length l0) (hcF : l0.length ≤ c0) (hL : Kd.C kLetter w A1 l1.length l1) (hcL : l1.length ≤ c1) (hT : Tabs w)
    (h : radical_Check.f l0 l1 n f = some r) :
    Calls Tryd.prog 22 #[.agg #[.slice A0 l0.length c0, .slice A1 l1.length c1], .agg #[.string n, .string f]] w fun e w' => e = .returned (.int .i64 r) ∧ Below w.heap.size w w' := by
  unfold radical_Check.f at h
  split at h
  case isFalse => cases h
  case isTrue hsz =>
  have h := Option.some.inj h
  have hch := fun W (hb : Below w.heap.size w W) => feature_Check.calls A0 c0 l0 A1 c1 l1 (chk l0 l1) W (Kd.C_below hF hb) hcF (Kd.C_below hL hb) hcL rfl
  have HO := Lib.hid (fun (x r1 r2 r3 r4 : Int) W (hb : Below w.heap.size w W) h => feature_Of.calls A0 c0 l0 A1 c1 l1 x r1 r2 r3 r4 W (Kd.C_below hF hb) hcF (Kd.C_below hL hb) hcL h)
  have HT := Lib.hid hT
  have HB := Lib.hid (boxes2 w (.cells #[.slice A0 l0.length c0, .slice A1 l1.length c1] 25) (.cells #[.string n, .string f] 32))
  clear hF hL hT
  obtain ⟨hn1, hf1⟩ := hsz
  by_cases hk : chk l0 l1 = 0
  · rw [hk] at hch
    have hcS : chkS l0 l1 n f = if (nameS n && formS (kindsOf l1) f) = true then 0 else 130 := by unfold chkS; rw [if_pos hk]
    rw [hcS] at h
    have Hk := Lib.hid hk
    clear hk hcS
    by_cases hn : n.size ≤ 32
    · have htr := fun W => strings_Trim.calls n nameSet ⟨(Lib.trimS n.data.toList nameSet.data.toList).toArray⟩ W (by unfold strings_Trim.f; rw [if_pos ⟨hn1, by decide, by decide⟩])
      by_cases ht : n.data.toList.all nameC = true
      · have ht2 := (trimName n).2 ht
        rw [ht2] at htr
        have Hnm : Hid (nameS n = true) := by unfold nameS; simp [hn, ht, Hid]
        have hrc := fun W => utf8_RuneCountInString.calls f (Lib.runeCount f) W (by unfold utf8_RuneCountInString.f; rw [if_pos hf1])
        rw [runeCount_eq] at hrc
        by_cases hv : (pieces f).all (fun p => !p.f3) = true
        · have hva := fun W hT => utf8_ValidString.calls f true W hT (by unfold utf8_ValidString.f; rw [if_pos (by omega), valid_pieces, hv])
          by_cases hct : (pieces f).length ≤ 64
          · have Hform : Hid ((if (pieces f).all (okF (kindsOf l1)) = true then 0 else 130) = r) := by
              rw [← h, Hnm.out]
              unfold formS
              rw [hv, decide_eq_true hct]
              rfl
            have hlen : ((pieces f).length : Int) ≤ 64 := by omega
            have hd : decide ((64 : Int) < (pieces f).length) = false := decide_eq_false (by omega)
            obtain ⟨nc, hnc⟩ : ∃ nc, nc = ((pieces f).length : Int) := ⟨_, rfl⟩
            rw [← hnc] at hd hlen hrc
            clear h hv ht ht2 hct hnc
            go_enter Tryd.func22, Tryd.ntmps22
            go_wp2_with (first | (go_at_call 37; refine (hch _ HB.out.1).mono ?_; rintro e w1 ⟨rfl, hb1⟩; have hB1 := Lib.hid (below_step HB.out.1 hb1); have hx1 := Lib.hid (blk_below HB.out.2.2 hb1); have hy1 := Lib.hid (blk_below HB.out.2.1 hb1); have hc10 := (blk_cell hx1.out 0).trans rfl; have hc11 := (blk_cell hx1.out 1).trans rfl) | (go_at_call 38; refine (htr _).mono ?_; rintro e w2 ⟨rfl, hb2⟩; have hB2 := Lib.hid (below_step hB1.out hb2); have hx2 := Lib.hid (blk_below hx1.out hb2); have hy2 := Lib.hid (blk_below hy1.out hb2); have hc21 := (blk_cell hx2.out 1).trans rfl) | (go_at_call 39; refine (hva _ (HT.out.below hB2.out)).mono ?_; rintro e w3 ⟨rfl, hb3⟩; have hB3 := Lib.hid (below_step hB2.out hb3); have hx3 := Lib.hid (blk_below hx2.out hb3); have hy3 := Lib.hid (blk_below hy2.out hb3); have hc31 := (blk_cell hx3.out 1).trans rfl) | (go_at_call 40; refine (hrc _).mono ?_; rintro e w4 ⟨rfl, hb4⟩; have hB4 := Lib.hid (below_step hB3.out hb4); have hx4 := Lib.hid (blk_below hx3.out hb4); have hy4 := Lib.hid (blk_below hy3.out hb4); have hc41 := (blk_cell hx4.out 1).trans rfl))
            have hs4 := hb4.size
            have hs0 := hB3.out.size
            have hlt0 := blk_lt hy4.out
            go_loopw [7] (fun _ wr => ∃ pos fuel : Nat, wr.heap[w4.heap.size]? = some (.stringIter f pos) ∧ Hid (Below w.heap.size w wr) ∧ Hid (wr.heap[w.heap.size]? = some (.cells #[.slice A0 l0.length c0, .slice A1 l1.length c1] 25 (0, 0))) ∧ Hid ((pieces f).all (okF (kindsOf l1)) = (piecesFrom f fuel pos).all (okF (kindsOf l1))) ∧ f.size ≤ pos + fuel ∧ w4.heap.size < wr.heap.size)
              (fun _ w' => f.size - w'.iterPos w4.heap.size)
            case atStart => exact ⟨0, f.size, World.iter_heap _ _ _, hB4.out.alloc hB4.out.size _, blk_alloc hy4.out _, rfl, by omega, by simp [World.iter]⟩
            case round =>
              obtain ⟨pos, fuel, hit, hb, hx, hq, hfu, hsz⟩ := hrel
              by_cases hp : pos < f.size
              · have hnx : ∀ ty, (Instr.next (.pointer (some ⟨w4.heap.size, 0, none⟩)) true ty).run Tryd.prog wr = _ := fun ty => Lib.run_next_any_at wr w4.heap.size f pos ty hit hp
                obtain ⟨x, m, hd⟩ : ∃ x m, Utf8.decode f pos = (x, m) := ⟨_, _, rfl⟩
                have f1 := dec_pos f pos
                have f2 := dec_le f pos hp
                have HPF : Hid (piecesFrom f fuel pos = pieceAt f pos :: piecesFrom f (fuel - 1) (pos + m)) := by
                  obtain ⟨g, rfl⟩ : ∃ g, fuel = g + 1 := ⟨fuel - 1, by omega⟩
                  show piecesFrom f (g + 1) pos = _
                  rw [piecesFrom, if_pos hp, hd]
                  rfl
                have HP0 : Hid ((pieceAt f pos).f0 = (x : Int)) := by unfold pieceAt; rw [hd]; rfl
                rw [hd] at hnx f1 f2
                dsimp only at hnx f1 f2
                have Hbq := Lib.hid (Lib.below_iterAt hb.out (Nat.le_of_lt (by omega : w.heap.size < w4.heap.size)) f (pos + m))
                have Hitq := Lib.hid (Lib.iterAt_heap wr w4.heap.size f pos (pos + m) hit)
                have Hxq := Lib.hid ((Lib.iterAt_other wr w4.heap.size w.heap.size f (pos + m) (by omega)).trans hx.out)
                have hcq0 := (blk_cell Hxq.out 0).trans rfl
                have hcq1 := (blk_cell Hxq.out 1).trans rfl
                have Hhit := Lib.hid hit
                have Hzq := Lib.hid (Lib.iterAt_size wr w4.heap.size f (pos + m))
                clear hd hit
                obtain ⟨a1, a2, a3, e, hof, he⟩ : ∃ a1 a2 a3 e, feature_Of.f l0 l1 (x : Int) = some (a1, a2, a3, e) ∧ ((e = 5 ∧ (kindsOf l1).contains (x : Int) = false) ∨ (e = 0 ∧ (kindsOf l1).contains (x : Int) = true)) := by
                  unfold feature_Of.f
                  rw [if_pos Hk.out]
                  by_cases hneg : numOf l1 (x : Int) < 0
                  · rw [if_pos hneg]
                    exact ⟨_, _, _, _, rfl, .inl ⟨rfl, (numOf_neg l1 x).1 hneg⟩⟩
                  · rw [if_neg hneg]
                    refine ⟨_, _, _, _, rfl, .inr ⟨rfl, ?_⟩⟩
                    have := mt (numOf_neg l1 x).2 hneg
                    simpa using this
                have hOf := fun W hb => HO.out (x : Int) a1 a2 a3 e W hb hof
                clear hof
                rcases he with ⟨rfl, hks⟩ | ⟨rfl, hks⟩
                · have Hks := Lib.hid hks
                  clear hks
                  by_cases h95 : (x : Int) = 95
                  · have hr1 : ((x : Int) != 95) = false := by simp [h95]
                    have Hok : Hid (okF (kindsOf l1) (pieceAt f pos) = true) := by unfold okF; rw [HP0.out]; simp [h95, Hid]
                    clear h95
                    go_wp2_with (go_at_call 41; refine (hOf _ Hbq.out).mono ?_; rintro e w5 ⟨rfl, hb5⟩)
                    have hi5 := Lib.hid (blk_below Hitq.out hb5)
                    have hx5 := Lib.hid (blk_below Hxq.out hb5)
                    have hB5 := Lib.hid (below_step Hbq.out hb5)
                    have hs5 := hb5.size
                    rw [Hzq.out] at hs5
                    go_roundw
                    case rel =>
                      refine ⟨pos + m, fuel - 1, blk_alloc hi5.out _, hB5.out.alloc hB5.out.size _, blk_alloc hx5.out _, ?_, by omega, by simp; omega⟩
                      show _ = _
                      rw [hq.out, HPF.out, List.all_cons, Hok.out, Bool.true_and]
                    case measure => rw [iterPos_of Hhit.out, iterPos_of (blk_alloc hi5.out _)]; omega
                  · have hr1 : ((x : Int) != 95) = true := by simpa using h95
                    have Hok : Hid (okF (kindsOf l1) (pieceAt f pos) = false) := by unfold okF; rw [HP0.out, Hks.out]; simpa [Hid] using h95
                    clear h95
                    go_wp2_with (go_at_call 41; refine (hOf _ Hbq.out).mono ?_; rintro e w5 ⟨rfl, hb5⟩)
                    have hB5 := Lib.hid (below_step Hbq.out hb5)
                    go_ret
                    refine ⟨ret_i64 ?_, hB5.out.alloc hB5.out.size _⟩
                    rw [← Hform.out, hq.out, HPF.out, List.all_cons, Hok.out]
                    rfl
                · have Hok : Hid (okF (kindsOf l1) (pieceAt f pos) = true) := by unfold okF; rw [HP0.out, hks]; rfl
                  clear hks
                  go_wp2_with (go_at_call 41; refine (hOf _ Hbq.out).mono ?_; rintro e w5 ⟨rfl, hb5⟩)
                  have hi5 := Lib.hid (blk_below Hitq.out hb5)
                  have hx5 := Lib.hid (blk_below Hxq.out hb5)
                  have hB5 := Lib.hid (below_step Hbq.out hb5)
                  have hs5 := hb5.size
                  rw [Hzq.out] at hs5
                  go_roundw
                  case rel =>
                    refine ⟨pos + m, fuel - 1, blk_alloc hi5.out _, hB5.out.alloc hB5.out.size _, blk_alloc hx5.out _, ?_, by omega, by simp; omega⟩
                    show _ = _
                    rw [hq.out, HPF.out, List.all_cons, Hok.out, Bool.true_and]
                  case measure => rw [iterPos_of Hhit.out, iterPos_of (blk_alloc hi5.out _)]; omega
              · have hnx : ∀ ty, (Instr.next (.pointer (some ⟨w4.heap.size, 0, none⟩)) true ty).run Tryd.prog wr = _ := fun ty => Lib.run_next_end_at wr w4.heap.size f pos ty hit hp
                go_wp2_with fail
                go_ret
                refine ⟨ret_i64 ?_, hb.out⟩
                have hz : piecesFrom f fuel pos = [] := by
                  cases fuel with
                  | zero => rfl
                  | succ g => exact if_neg hp
                rw [← Hform.out, hq.out, hz]
                rfl
          · have Hr : Hid (130 = r) := by rw [← h]; unfold formS; simp [hct, Hid]
            have hlen : (64 : Int) < ((pieces f).length : Int) := by omega
            have hd : decide ((64 : Int) < (pieces f).length) = true := decide_eq_true (by omega)
            obtain ⟨nc, hnc⟩ : ∃ nc, nc = ((pieces f).length : Int) := ⟨_, rfl⟩
            rw [← hnc] at hd hlen hrc
            clear h hv ht ht2 hct hnc
            go_enter Tryd.func22, Tryd.ntmps22
            go_wp2_with (first | (go_at_call 37; refine (hch _ HB.out.1).mono ?_; rintro e w1 ⟨rfl, hb1⟩; have hB1 := Lib.hid (below_step HB.out.1 hb1); have hx1 := Lib.hid (blk_below HB.out.2.2 hb1); have hy1 := Lib.hid (blk_below HB.out.2.1 hb1); have hc10 := (blk_cell hx1.out 0).trans rfl; have hc11 := (blk_cell hx1.out 1).trans rfl) | (go_at_call 38; refine (htr _).mono ?_; rintro e w2 ⟨rfl, hb2⟩; have hB2 := Lib.hid (below_step hB1.out hb2); have hx2 := Lib.hid (blk_below hx1.out hb2); have hy2 := Lib.hid (blk_below hy1.out hb2); have hc21 := (blk_cell hx2.out 1).trans rfl) | (go_at_call 39; refine (hva _ (HT.out.below hB2.out)).mono ?_; rintro e w3 ⟨rfl, hb3⟩; have hB3 := Lib.hid (below_step hB2.out hb3); have hx3 := Lib.hid (blk_below hx2.out hb3); have hy3 := Lib.hid (blk_below hy2.out hb3); have hc31 := (blk_cell hx3.out 1).trans rfl) | (go_at_call 40; refine (hrc _).mono ?_; rintro e w4 ⟨rfl, hb4⟩; have hB4 := Lib.hid (below_step hB3.out hb4); have hx4 := Lib.hid (blk_below hx3.out hb4); have hy4 := Lib.hid (blk_below hy3.out hb4); have hc41 := (blk_cell hx4.out 1).trans rfl))
            go_ret
            exact ⟨ret_i64 Hr.out, hB4.out⟩
        · have hva := fun W hT => utf8_ValidString.calls f false W hT (by unfold utf8_ValidString.f; rw [if_pos (by omega), valid_pieces, (Bool.not_eq_true _).mp hv])
          have Hr : Hid (130 = r) := by rw [← h]; unfold formS; simp [hv, Hid]
          clear h hv ht ht2
          go_enter Tryd.func22, Tryd.ntmps22
          go_wp2_with (first | (go_at_call 37; refine (hch _ HB.out.1).mono ?_; rintro e w1 ⟨rfl, hb1⟩; have hB1 := Lib.hid (below_step HB.out.1 hb1); have hx1 := Lib.hid (blk_below HB.out.2.2 hb1); have hy1 := Lib.hid (blk_below HB.out.2.1 hb1); have hc10 := (blk_cell hx1.out 0).trans rfl; have hc11 := (blk_cell hx1.out 1).trans rfl) | (go_at_call 38; refine (htr _).mono ?_; rintro e w2 ⟨rfl, hb2⟩; have hB2 := Lib.hid (below_step hB1.out hb2); have hx2 := Lib.hid (blk_below hx1.out hb2); have hy2 := Lib.hid (blk_below hy1.out hb2); have hc21 := (blk_cell hx2.out 1).trans rfl) | (go_at_call 39; refine (hva _ (HT.out.below hB2.out)).mono ?_; rintro e w3 ⟨rfl, hb3⟩; have hB3 := Lib.hid (below_step hB2.out hb3); have hx3 := Lib.hid (blk_below hx2.out hb3); have hy3 := Lib.hid (blk_below hy2.out hb3); have hc31 := (blk_cell hx3.out 1).trans rfl) | (go_at_call 40; refine (hrc _).mono ?_; rintro e w4 ⟨rfl, hb4⟩; have hB4 := Lib.hid (below_step hB3.out hb4); have hx4 := Lib.hid (blk_below hx3.out hb4); have hy4 := Lib.hid (blk_below hy3.out hb4); have hc41 := (blk_cell hx4.out 1).trans rfl))
          go_ret
          exact ⟨ret_i64 Hr.out, hB3.out⟩
      · have ht2 := mt (trimName n).1 ht
        have Hr : Hid (130 = r) := by rw [← h]; unfold nameS; simp [ht, Hid]
        obtain ⟨q, hq⟩ : ∃ q, q = Lib.trimS n.data.toList nameSet.data.toList := ⟨_, rfl⟩
        rw [← hq] at htr ht2
        have hqe : (!q.isEmpty) = true := by cases q with | nil => exact absurd rfl ht2 | cons _ _ => rfl
        clear h hq ht
        go_enter Tryd.func22, Tryd.ntmps22
        go_wp2_with (first | (go_at_call 37; refine (hch _ HB.out.1).mono ?_; rintro e w1 ⟨rfl, hb1⟩; have hB1 := Lib.hid (below_step HB.out.1 hb1); have hx1 := Lib.hid (blk_below HB.out.2.2 hb1); have hy1 := Lib.hid (blk_below HB.out.2.1 hb1); have hc10 := (blk_cell hx1.out 0).trans rfl; have hc11 := (blk_cell hx1.out 1).trans rfl) | (go_at_call 38; refine (htr _).mono ?_; rintro e w2 ⟨rfl, hb2⟩; have hB2 := Lib.hid (below_step hB1.out hb2)))
        go_ret
        exact ⟨ret_i64 Hr.out, hB2.out⟩
    · have Hr : Hid (130 = r) := by rw [← h]; unfold nameS; simp [hn, Hid]
      have hd := decide_eq_true (show (32 : Int) < n.size by omega)
      clear h
      go_enter Tryd.func22, Tryd.ntmps22
      go_wp2_with (first | (go_at_call 37; refine (hch _ HB.out.1).mono ?_; rintro e w1 ⟨rfl, hb1⟩; have hB1 := Lib.hid (below_step HB.out.1 hb1); have hx1 := Lib.hid (blk_below HB.out.2.2 hb1); have hy1 := Lib.hid (blk_below HB.out.2.1 hb1); have hc10 := (blk_cell hx1.out 0).trans rfl; have hc11 := (blk_cell hx1.out 1).trans rfl))
      go_ret
      exact ⟨ret_i64 Hr.out, hB1.out⟩
  · have heb : (chk l0 l1 == 0) = false := beq_eq_false_iff_ne.mpr hk
    have heb2 : (chk l0 l1 != 0) = true := bne_iff_ne.mpr hk
    have Hr : Hid (chk l0 l1 = r) := by rw [← h]; unfold chkS; rw [if_neg hk]; rfl
    clear h hk
    go_enter Tryd.func22, Tryd.ntmps22
    go_wp2_with (first | (go_at_call 37; refine (hch _ HB.out.1).mono ?_; rintro e w1 ⟨rfl, hb1⟩; have hB1 := Lib.hid (below_step HB.out.1 hb1)))
    go_ret
    exact ⟨ret_i64 Hr.out, hB1.out⟩
end Ext
end Go.Proofs.YtdeichibnnbjdaaDoor
end
section
/-
  Texts and their runes, there and back: plain facts. No program in sight.
-/
set_option linter.unusedSimpArgs false
set_option linter.unusedVariables false
namespace Go.Proofs.YtdeichibnnbjdaaDoor
open Go.RowKit Go.Proofs.YtdeichibnnbjdaaDoorW.PrintWords Go.Proofs.YtdeichibnnbjdaaDoorW.PrintLast Go.Proofs.YtdeichibnnbjdaaDoorW.PrintMore Go.Proofs.YtdeichibnnbjdaaDoor.Ext

theorem valid_iff (r : Int) : Utf8.valid r = true ↔ (0 ≤ r ∧ r < 55296) ∨ (57344 ≤ r ∧ r ≤ 1114111) := by
  unfold Utf8.valid
  simp
def encB (r : Int) : List UInt8 := (Utf8.encode r).data.toList
theorem encB_cases (r : Int) (h : Utf8.valid r = true) :
    (r < 128 ∧ encB r = [UInt8.ofNat r.toNat]) ∨ (128 ≤ r ∧ r < 2048 ∧ encB r = [UInt8.ofNat (192 + r.toNat / 64), UInt8.ofNat (128 + r.toNat % 64)]) ∨
    (2048 ≤ r ∧ r < 65536 ∧ encB r = [UInt8.ofNat (224 + r.toNat / 4096), UInt8.ofNat (128 + r.toNat / 64 % 64), UInt8.ofNat (128 + r.toNat % 64)]) ∨
    (65536 ≤ r ∧ encB r = [UInt8.ofNat (240 + r.toNat / 262144), UInt8.ofNat (128 + r.toNat / 4096 % 64), UInt8.ofNat (128 + r.toNat / 64 % 64), UInt8.ofNat (128 + r.toNat % 64)]) := by
  have hv := (valid_iff r).1 h
  unfold encB Utf8.encode
  simp only [h, if_true]
  by_cases a : r.toNat < 128
  · left
    exact ⟨by omega, by rw [if_pos (by omega)]⟩
  · right
    by_cases b : r.toNat < 2048
    · left
      exact ⟨by omega, by omega, by rw [if_neg (by omega), if_pos (by omega)]⟩
    · right
      by_cases c : r.toNat < 65536
      · left
        exact ⟨by omega, by omega, by rw [if_neg (by omega), if_neg (by omega), if_pos (by omega)]⟩
      · right
        exact ⟨by omega, by rw [if_neg (by omega), if_neg (by omega), if_neg (by omega)]⟩
theorem toN (n : Nat) (h : n < 256) : (UInt8.ofNat n).toNat = n := by
  rw [UInt8.toNat_ofNat']
  omega
theorem encB_len (r : Int) (h : Utf8.valid r = true) : 1 ≤ (encB r).length ∧ (encB r).length ≤ 4 ∧ ((encB r).length = 1 → r < 128) := by
  rcases encB_cases r h with ⟨a, e⟩ | ⟨a, b, e⟩ | ⟨a, b, e⟩ | ⟨a, e⟩
  all_goals (rw [e]; simp)
  omega
theorem encB_lib (r : Int) (h : Utf8.valid r = true) : encB r = Lib.encodeRune r := by
  have hv := (valid_iff r).1 h
  unfold Lib.encodeRune
  rcases encB_cases r h with ⟨a, e⟩ | ⟨a, b, e⟩ | ⟨a, b, e⟩ | ⟨a, e⟩
  · rw [e, Lib.encodeRuneZ_one (by omega) (by omega)]
    rfl
  · rw [e, Lib.encodeRuneZ_two (by omega) (by omega)]
    simp only [List.map_cons, List.map_nil]
    have e1 : (192 + r / 64).toNat = 192 + r.toNat / 64 := by omega
    have e2 : (128 + r % 64).toNat = 128 + r.toNat % 64 := by omega
    rw [e1, e2]
  · rw [e, Lib.encodeRuneZ_three (by omega)]
    simp only [List.map_cons, List.map_nil]
    have e1 : (224 + r / 4096).toNat = 224 + r.toNat / 4096 := by omega
    have e2 : (128 + r / 64 % 64).toNat = 128 + r.toNat / 64 % 64 := by omega
    have e3 : (128 + r % 64).toNat = 128 + r.toNat % 64 := by omega
    rw [e1, e2, e3]
  · rw [e, Lib.encodeRuneZ_four (by omega) (by omega)]
    simp only [List.map_cons, List.map_nil]
    have e1 : (240 + r / 262144).toNat = 240 + r.toNat / 262144 := by omega
    have e2 : (128 + r / 4096 % 64).toNat = 128 + r.toNat / 4096 % 64 := by omega
    have e3 : (128 + r / 64 % 64).toNat = 128 + r.toNat / 64 % 64 := by omega
    have e4 : (128 + r % 64).toNat = 128 + r.toNat % 64 := by omega
    rw [e1, e2, e3, e4]
def flat : List Int → List UInt8
  | [] => []
  | r :: rs => encB r ++ flat rs
theorem flat_append : ∀ a b : List Int, flat (a ++ b) = flat a ++ flat b
  | [], _ => rfl
  | x :: xs, b => by simp [flat, flat_append xs b]
theorem foldl_flat : ∀ (l : List Int) (a : ByteArray), (l.foldl (fun r n => r ++ Utf8.encode n) a).data.toList = a.data.toList ++ flat l
  | [], a => by simp [flat]
  | x :: xs, a => by
    rw [List.foldl_cons, foldl_flat xs]
    simp [flat, encB]
theorem runesBytes_flat (l : List Int) : (runesBytes l).data.toList = flat l := by
  unfold runesBytes
  rw [foldl_flat]
  rfl
theorem bytes_ext {a b : ByteArray} (h : a.data.toList = b.data.toList) : a = b := by
  obtain ⟨x⟩ := a
  obtain ⟨y⟩ := b
  congr 1
  exact Array.toList_inj.1 h
theorem size_list (s : ByteArray) : s.data.toList.length = s.size := by
  rw [Array.length_toList]
  rfl
theorem runesBytes_append (a b : List Int) : runesBytes (a ++ b) = runesBytes a ++ runesBytes b := by
  apply bytes_ext
  rw [runesBytes_flat, flat_append]
  simp [runesBytes_flat]
theorem runesBytes_one (r : Int) : runesBytes [r] = Utf8.encode r := by
  apply bytes_ext
  rw [runesBytes_flat]
  simp [flat, encB]
theorem runesBytes_nil : runesBytes [] = (⟨#[]⟩ : ByteArray) := rfl
theorem flat_len : ∀ l : List Int, (∀ x ∈ l, Utf8.valid x = true) → l.length ≤ (flat l).length ∧ (flat l).length ≤ 4 * l.length
  | [], _ => by simp [flat]
  | x :: xs, h => by
    have h1 := flat_len xs (fun y hy => h y (List.mem_cons_of_mem _ hy))
    have h2 := encB_len x (h x (List.mem_cons_self ..))
    simp only [flat, List.length_append, List.length_cons]
    omega
theorem runesBytes_size (l : List Int) (h : ∀ x ∈ l, Utf8.valid x = true) : l.length ≤ (runesBytes l).size ∧ (runesBytes l).size ≤ 4 * l.length := by
  rw [← size_list, runesBytes_flat]
  exact flat_len l h
theorem flat_back (s : ByteArray) : ∀ (f pos : Nat), (piecesFrom s f pos).all (fun p => !p.f3) = true → s.size - pos ≤ f → flat ((piecesFrom s f pos).map (fun p => p.f0)) = s.data.toList.drop pos ∧ ∀ p ∈ piecesFrom s f pos, Utf8.valid p.f0 = true
  | 0, pos, _, hf => by
    rw [List.drop_of_length_le (by rw [size_list]; omega)]
    simp [piecesFrom, flat]
  | f + 1, pos, ha, hf => by
    unfold piecesFrom at ha ⊢
    by_cases h : pos < s.size
    · rw [if_pos h] at ha ⊢
      simp only [List.all_cons, Bool.and_eq_true] at ha
      have hp1 := dec_pos s pos
      have ih := flat_back s f (pos + (Utf8.decode s pos).2) ha.2 (by omega)
      have hb : ¬ ((Lib.decodeL (s.data.toList.drop pos)).1 = 65533 ∧ (Lib.decodeL (s.data.toList.drop pos)).2 = 1) := by
        rw [Lib.decodeL_drop]
        intro hc
        have := ha.1
        unfold pieceAt at this
        simp [hc] at this
      have henc := Lib.encode_decode (s.data.toList.drop pos) (dropsz s pos h) hb
      rw [Lib.decodeL_drop] at henc
      have hvd : Utf8.valid ((Utf8.decode s pos).1 : Int) = true := by
        rw [valid_iff, Lib.decode_at]
        have := Lib.decodeN_valid (s.size - pos) (s.get! pos).toNat (s.get! (pos + 1)).toNat (s.get! (pos + 2)).toNat (s.get! (pos + 3)).toNat (UInt8.toNat_lt _)
        omega
      refine ⟨?_, ?_⟩
      · rw [List.map_cons]
        show encB ((Utf8.decode s pos).1 : Int) ++ flat _ = _
        rw [ih.1, encB_lib _ hvd, henc, ← List.drop_drop, List.take_append_drop]
      · intro p hp
        rcases List.mem_cons.1 hp with rfl | hp
        · exact hvd
        · exact ih.2 p hp
    · rw [if_neg h]
      rw [List.drop_of_length_le (by rw [size_list]; omega)]
      simp [flat]
/-- A text without broken bytes is its runes' text. -/
theorem runes_back (s : ByteArray) (h : (pieces s).all (fun p => !p.f3) = true) : runesBytes (runesOf s) = s := by
  apply bytes_ext
  rw [runesBytes_flat, runesOf_pieces]
  have := (flat_back s s.size 0 h (by omega)).1
  simpa [pieces] using this
theorem runes_valid (s : ByteArray) (h : (pieces s).all (fun p => !p.f3) = true) : ∀ x ∈ runesOf s, Utf8.valid x = true := by
  rw [runesOf_pieces]
  intro x hx
  obtain ⟨p, hp, rfl⟩ := List.mem_map.1 hx
  exact (flat_back s s.size 0 h (by omega)).2 p hp
theorem rune_valid {r : Int} (h : runeOk r = true) : Utf8.valid r = true := by
  rw [valid_iff]
  unfold runeOk at h
  simp at h
  omega

/-! ### letters -/
theorem readP_ok (ks : List Int) : ∀ (ps : List Piece) (acc l : List Int), acc.length ≤ 64 → readP ks ps acc = (l, 0) → l = acc ++ ps.map (fun p => p.f0) ∧ ps.all (fun p => !p.f3) = true ∧ (∀ p ∈ ps, ks.contains p.f0 = true) ∧ acc.length + ps.length ≤ 64
  | [], acc, l, ha, h => by
    simp only [readP, Prod.mk.injEq] at h
    obtain ⟨rfl, _⟩ := h
    exact ⟨by simp, by simp, by simp, by simpa using ha⟩
  | p :: ps, acc, l, ha, h => by
    unfold readP at h
    split at h
    · simp at h
    · rename_i h3
      split at h
      · simp at h
      · rename_i hk
        split at h
        · simp at h
        · rename_i hn
          have ih := readP_ok ks ps _ l (by simp; omega) h
          simp only [List.length_append, List.length_cons, List.length_nil] at ih
          refine ⟨by simp [ih.1], ?_, ?_, by simp; omega⟩
          · rw [List.all_cons, ih.2.1]
            simpa using h3
          · intro q hq
            rcases List.mem_cons.1 hq with rfl | hq
            · simpa using hk
            · exact ih.2.2.1 q hq
theorem cut_small {s : ByteArray} (h : s.size ≤ 65536) : cut s = s := by
  unfold cut
  rw [if_pos h]
theorem letters_ok {l0 : List ByteArray} {l1 : List Letter} {s : ByteArray} {l : List Int} (hs : s.size ≤ 65536) (h : lettersOf l0 l1 s = (l, 0)) :
    chk l0 l1 = 0 ∧ l = runesOf s ∧ (pieces s).all (fun p => !p.f3) = true ∧ (∀ x ∈ l, (kindsOf l1).contains x = true) ∧ l.length ≤ 64 := by
  unfold lettersOf at h
  split at h
  · rename_i hk
    rw [cut_small hs] at h
    have := readP_ok _ _ _ _ (by simp) h
    rw [runesOf_pieces]
    simp only [List.nil_append, List.length_nil, Nat.zero_add] at this
    refine ⟨hk, this.1, this.2.1, ?_, ?_⟩
    · rw [this.1]
      intro x hx
      obtain ⟨p, hp, rfl⟩ := List.mem_map.1 hx
      exact this.2.2.1 p hp
    · rw [this.1, List.length_map]
      exact this.2.2.2
  · simp at h
theorem kinds_valid {l0 : List ByteArray} {l1 : List Letter} (hk : chk l0 l1 = 0) {x : Int} (h : (kindsOf l1).contains x = true) : runeOk x = true := by
  unfold kindsOf at h
  simp only [List.contains_iff_mem, List.mem_map] at h
  obtain ⟨y, hy, rfl⟩ := h
  exact chk_rune hk y hy
/-! ### holes: bytes and runes -/
theorem encB_count (r : Int) (h : Utf8.valid r = true) : (encB r).count 95 = if r = 95 then 1 else 0 := by
  have hv := (valid_iff r).1 h
  have hn : ∀ n, n < 256 → n ≠ 95 → UInt8.ofNat n ≠ 95 := by
    intro n hn hne he
    have := congrArg UInt8.toNat he
    rw [toN n hn] at this
    exact hne this
  rcases encB_cases r h with ⟨a, e⟩ | ⟨a, b, e⟩ | ⟨a, b, e⟩ | ⟨a, e⟩
  · rw [e]
    by_cases hr : r = 95
    · subst hr
      rfl
    · rw [if_neg hr, List.count_eq_zero]
      simpa using (hn r.toNat (by omega) (by omega)).symm
  · rw [e, if_neg (by omega), List.count_eq_zero]
    have h1 := hn (192 + r.toNat / 64) (by omega) (by omega)
    have h2 := hn (128 + r.toNat % 64) (by omega) (by omega)
    simp only [List.mem_cons, List.not_mem_nil, or_false, not_or]
    exact ⟨fun h => h1 h.symm, fun h => h2 h.symm⟩
  · rw [e, if_neg (by omega), List.count_eq_zero]
    have h1 := hn (224 + r.toNat / 4096) (by omega) (by omega)
    have h2 := hn (128 + r.toNat / 64 % 64) (by omega) (by omega)
    have h3 := hn (128 + r.toNat % 64) (by omega) (by omega)
    simp only [List.mem_cons, List.not_mem_nil, or_false, not_or]
    exact ⟨fun h => h1 h.symm, fun h => h2 h.symm, fun h => h3 h.symm⟩
  · rw [e, if_neg (by omega), List.count_eq_zero]
    have h1 := hn (240 + r.toNat / 262144) (by omega) (by omega)
    have h2 := hn (128 + r.toNat / 4096 % 64) (by omega) (by omega)
    have h3 := hn (128 + r.toNat / 64 % 64) (by omega) (by omega)
    have h4 := hn (128 + r.toNat % 64) (by omega) (by omega)
    simp only [List.mem_cons, List.not_mem_nil, or_false, not_or]
    exact ⟨fun h => h1 h.symm, fun h => h2 h.symm, fun h => h3 h.symm, fun h => h4 h.symm⟩
theorem flat_count : ∀ l : List Int, (∀ x ∈ l, Utf8.valid x = true) → (flat l).count 95 = l.count 95
  | [], _ => rfl
  | x :: xs, h => by
    simp only [flat, List.count_append]
    rw [flat_count xs (fun y hy => h y (List.mem_cons_of_mem _ hy)), encB_count x (h x (List.mem_cons_self ..)), List.count_cons]
    by_cases e : x = 95
    · simp [e]; omega
    · simp [e]
/-- A text's holes: bytes or runes. -/
theorem holes_runes (s : ByteArray) (h : (pieces s).all (fun p => !p.f3) = true) : s.data.toList.count 95 = (runesOf s).count 95 := by
  have := flat_count (runesOf s) (runes_valid s h)
  rw [← this, ← runesBytes_flat, runes_back s h]
end Go.Proofs.YtdeichibnnbjdaaDoor
end
section
-- printed by a program of this session (wip/tools/prx.sh: a turned copy of the kit's print, with functions given from outside)
namespace Go.Proofs.YtdeichibnnbjdaaDoor.RRw
open Go.RowKit Go.Proofs.YtdeichibnnbjdaaDoor Go.Proofs.YtdeichibnnbjdaaDoor.Ext Go.Proofs.YtdeichibnnbjdaaDoorW.PrintWords Go.Proofs.YtdeichibnnbjdaaDoorW.PrintLast Go.Proofs.YtdeichibnnbjdaaDoorW.PrintMore
attribute [local go_sem] max2_int min2_int max_two min_two max_three min_three max_four min_four   -- for this text's walks alone
set_option linter.unusedVariables false
set_option linter.unusedSimpArgs false



end Go.Proofs.YtdeichibnnbjdaaDoor.RRw
end
section
-- printed by a program of this session (wip/tools/prx.sh: a turned copy of the kit's print, with functions given from outside)
namespace Go.Proofs.YtdeichibnnbjdaaDoor.RRw
open Go.RowKit Go.Proofs.YtdeichibnnbjdaaDoor Go.Proofs.YtdeichibnnbjdaaDoor.Ext Go.Proofs.YtdeichibnnbjdaaDoorW.PrintWords Go.Proofs.YtdeichibnnbjdaaDoorW.PrintLast Go.Proofs.YtdeichibnnbjdaaDoorW.PrintMore
attribute [local go_sem] max2_int min2_int max_two min_two max_three min_three max_four min_four   -- for this text's walks alone
set_option linter.unusedVariables false
set_option linter.unusedSimpArgs false

theorem eqA32 (d : Nat) (w : World) (x0 y0 : ByteArray) (x1 y1 : ByteArray) :
    (Op.equalIn (d + 2) 32 (.agg #[.string x0, .string x1]) (.agg #[.string y0, .string y1])).run Tryd.prog w = .ok (x0.toList == y0.toList && (x1.toList == y1.toList)) w := by
  refine eqA_of Tryd.underlying32 (by kernel_rfl) ?_
  refine eqf_cons (by rfl) (by go_simp; rfl) (by go_simp; rfl) (by go_simp) ?_
  exact eqf_last (by rfl) (by go_simp; rfl) (by go_simp; rfl) (by go_simp)
end Go.Proofs.YtdeichibnnbjdaaDoor.RRw
end
section
-- printed by a program of this session (wip/tools/prx.sh: a turned copy of the kit's print, with functions given from outside)
namespace Go.Proofs.YtdeichibnnbjdaaDoor.RRw
open Go.RowKit Go.Proofs.YtdeichibnnbjdaaDoor Go.Proofs.YtdeichibnnbjdaaDoor.Ext Go.Proofs.YtdeichibnnbjdaaDoorW.PrintWords Go.Proofs.YtdeichibnnbjdaaDoorW.PrintLast Go.Proofs.YtdeichibnnbjdaaDoorW.PrintMore
attribute [local go_sem] max2_int min2_int max_two min_two max_three min_three max_four min_four   -- for this text's walks alone
set_option linter.unusedVariables false
set_option linter.unusedSimpArgs false

/-! ### cognatelaw13_long: function 7 -/
def cognatelaw13_long.f (l0_0 : List ByteArray) (l0_1 : List (S74)) (a1 : ByteArray) (l2 : List (S32)) : Option (Bool) := if (l0_1.length : Int) > 300 then (some true) else (if (l0_0.length : Int) > 60 then (some true) else (if (a1.size : Int) > 3000 then (some true) else (if (l2.length : Int) > 300 then (if (l2.length : Int) ≤ 4096 then (some true) else (some (decide ((l2.length : Int) > 5000)))) else (some (decide ((l2.length : Int) > 5000))))))
set_option maxHeartbeats 8000000 in
set_option maxRecDepth 100000 in
theorem cognatelaw13_long.calls (A0_0 : Option Addr) (c0_0 : Nat) (l0_0 : List ByteArray) (A0_1 : Option Addr) (c0_1 : Nat) (l0_1 : List (S74)) (a1 : ByteArray) (A2 : Option Addr) (c2 : Nat) (l2 : List (S32)) (r : Bool) (w : World) (hr0_0 : Kd.C Kd.string w A0_0 l0_0.length l0_0) (hc0_0 : l0_0.length ≤ c0_0) (hr0_1 : Kd.C k74 w A0_1 l0_1.length l0_1) (hc0_1 : l0_1.length ≤ c0_1) (hr2 : Kd.C k32 w A2 l2.length l2) (hc2 : l2.length ≤ c2) (h : cognatelaw13_long.f l0_0 l0_1 a1 l2 = some r) :
    Calls Tryd.prog 7 #[.agg #[.slice A0_0 l0_0.length c0_0, .slice A0_1 l0_1.length c0_1], .string a1, .slice A2 l2.length c2] w fun e w' => e = .returned (.bool r) ∧ Below w.heap.size w w' := by
  have hu25 := Tryd.underlying25
  have HR0_0 := Aside0.mk hr0_0
  have HC0_0 := Aside0.mk hc0_0
  clear hr0_0 hc0_0
  have HR0_1 := Aside0.mk hr0_1
  have HC0_1 := Aside0.mk hc0_1
  clear hr0_1 hc0_1
  have HR2 := Aside0.mk hr2
  have HC2 := Aside0.mk hc2
  clear hr2 hc2
  have HB := Aside0.mk (Below.refl w.heap.size w)
  have H : (if (l0_1.length : Int) > 300 then (some true) else (if (l0_0.length : Int) > 60 then (some true) else (if (a1.size : Int) > 3000 then (some true) else (if (l2.length : Int) > 300 then (if (l2.length : Int) ≤ 4096 then (some true) else (some (decide ((l2.length : Int) > 5000)))) else (some (decide ((l2.length : Int) > 5000))))))) = some r := h
  clear h
  by_cases c4 : (l0_1.length : Int) > 300
  · rw [if_pos c4] at H
    have c4b0 : decide (300 < (l0_1.length : Int)) = true := decide_eq_true c4
    have c4b1 : decide (300 < l0_1.length) = true := decide_eq_true (by omega)
    clear c4
    obtain rfl := Option.some.inj H
    go_enter Tryd.func7, Tryd.ntmps7
    go_wp2_with (first | ((with_reducible refine gate_dst (N := 3) rfl ?_); (try (refine gate_guard (by rfl) ?_; dsimp only)); refine box_event ?hg (N := 3) ?hd (cs := #[.slice A0_0 l0_0.length c0_0, .slice A0_1 l0_1.length c0_1]) (t := 25) ?hr ?_; (case hd => rfl); (case hg => rfl); (case hr => first | (go_simp; done) | (go_simp; rfl)); intro gb101 hg w5 hbox hb; have n0_ := Aside0.mk (below_step (by repeat (first | (with_reducible first | exact HB.out | apply below_alloc | apply pw_below_drewN | apply below_drew1) | exact HB.out)) hb); have n1_ := Aside0.mk (hbox); have n2_ := Aside0.mk ((by rw [hg]; exact (below_size (by repeat (first | (with_reducible first | exact HB.out | apply below_alloc | apply pw_below_drewN | apply below_drew1) | exact HB.out))) : w.heap.size ≤ gb101)); have n3_ := Aside0.mk ((by rw [hg]; exact (below_size (by repeat (first | (with_reducible first | exact HB.out | apply below_alloc | apply pw_below_drewN | apply below_drew1) | exact HB.out))) : w.heap.size ≤ gb101)); clear HB; have HB := n0_; have BK101 := n1_; have GW101 := n2_; have GE101 := n3_; clear n0_ n1_ n2_ n3_; clear hb hbox hg; have hcz6_0 : w5.cell? ⟨gb101, 0, none⟩ = some (.slice A0_0 l0_0.length c0_0) := (blk_cell BK101.out 0).trans rfl; have hcz6_1 : w5.cell? ⟨gb101, 1, none⟩ = some (.slice A0_1 l0_1.length c0_1) := (blk_cell BK101.out 1).trans rfl; have hfz6_0 := blk_frozen BK101.out 0; have hfz6_1 := blk_frozen BK101.out 1))
    go_ret
    exact ⟨by first | rfl | (simp [errW_none, errW_some] <;> rfl) | (simp [*, errW_none, errW_some] <;> rfl), by repeat (first | (with_reducible first | exact HB.out | apply below_alloc | apply pw_below_drewN | apply below_drew1 | refine below_set ?_ GE101.out) | exact HB.out)⟩
  · rw [if_neg c4] at H
    have c4b0 : decide (300 < (l0_1.length : Int)) = false := decide_eq_false c4
    have c4b1 : decide (300 < l0_1.length) = false := decide_eq_false (by omega)
    clear c4
    by_cases c7 : (l0_0.length : Int) > 60
    · rw [if_pos c7] at H
      have c7b0 : decide (60 < (l0_0.length : Int)) = true := decide_eq_true c7
      have c7b1 : decide (60 < l0_0.length) = true := decide_eq_true (by omega)
      clear c7
      obtain rfl := Option.some.inj H
      go_enter Tryd.func7, Tryd.ntmps7
      go_wp2_with (first | ((with_reducible refine gate_dst (N := 3) rfl ?_); (try (refine gate_guard (by rfl) ?_; dsimp only)); refine box_event ?hg (N := 3) ?hd (cs := #[.slice A0_0 l0_0.length c0_0, .slice A0_1 l0_1.length c0_1]) (t := 25) ?hr ?_; (case hd => rfl); (case hg => rfl); (case hr => first | (go_simp; done) | (go_simp; rfl)); intro gb101 hg w8 hbox hb; have n0_ := Aside0.mk (below_step (by repeat (first | (with_reducible first | exact HB.out | apply below_alloc | apply pw_below_drewN | apply below_drew1) | exact HB.out)) hb); have n1_ := Aside0.mk (hbox); have n2_ := Aside0.mk ((by rw [hg]; exact (below_size (by repeat (first | (with_reducible first | exact HB.out | apply below_alloc | apply pw_below_drewN | apply below_drew1) | exact HB.out))) : w.heap.size ≤ gb101)); have n3_ := Aside0.mk ((by rw [hg]; exact (below_size (by repeat (first | (with_reducible first | exact HB.out | apply below_alloc | apply pw_below_drewN | apply below_drew1) | exact HB.out))) : w.heap.size ≤ gb101)); clear HB; have HB := n0_; have BK101 := n1_; have GW101 := n2_; have GE101 := n3_; clear n0_ n1_ n2_ n3_; clear hb hbox hg; have hcz9_0 : w8.cell? ⟨gb101, 0, none⟩ = some (.slice A0_0 l0_0.length c0_0) := (blk_cell BK101.out 0).trans rfl; have hcz9_1 : w8.cell? ⟨gb101, 1, none⟩ = some (.slice A0_1 l0_1.length c0_1) := (blk_cell BK101.out 1).trans rfl; have hfz9_0 := blk_frozen BK101.out 0; have hfz9_1 := blk_frozen BK101.out 1))
      go_ret
      exact ⟨by first | rfl | (simp [errW_none, errW_some] <;> rfl) | (simp [*, errW_none, errW_some] <;> rfl), by repeat (first | (with_reducible first | exact HB.out | apply below_alloc | apply pw_below_drewN | apply below_drew1 | refine below_set ?_ GE101.out) | exact HB.out)⟩
    · rw [if_neg c7] at H
      have c7b0 : decide (60 < (l0_0.length : Int)) = false := decide_eq_false c7
      have c7b1 : decide (60 < l0_0.length) = false := decide_eq_false (by omega)
      clear c7
      by_cases c10 : (a1.size : Int) > 3000
      · rw [if_pos c10] at H
        have c10b0 : decide (3000 < (a1.size : Int)) = true := decide_eq_true c10
        have c10b1 : decide (3000 < a1.size) = true := decide_eq_true (by omega)
        clear c10
        obtain rfl := Option.some.inj H
        go_enter Tryd.func7, Tryd.ntmps7
        go_wp2_with (first | ((with_reducible refine gate_dst (N := 3) rfl ?_); (try (refine gate_guard (by rfl) ?_; dsimp only)); refine box_event ?hg (N := 3) ?hd (cs := #[.slice A0_0 l0_0.length c0_0, .slice A0_1 l0_1.length c0_1]) (t := 25) ?hr ?_; (case hd => rfl); (case hg => rfl); (case hr => first | (go_simp; done) | (go_simp; rfl)); intro gb101 hg w11 hbox hb; have n0_ := Aside0.mk (below_step (by repeat (first | (with_reducible first | exact HB.out | apply below_alloc | apply pw_below_drewN | apply below_drew1) | exact HB.out)) hb); have n1_ := Aside0.mk (hbox); have n2_ := Aside0.mk ((by rw [hg]; exact (below_size (by repeat (first | (with_reducible first | exact HB.out | apply below_alloc | apply pw_below_drewN | apply below_drew1) | exact HB.out))) : w.heap.size ≤ gb101)); have n3_ := Aside0.mk ((by rw [hg]; exact (below_size (by repeat (first | (with_reducible first | exact HB.out | apply below_alloc | apply pw_below_drewN | apply below_drew1) | exact HB.out))) : w.heap.size ≤ gb101)); clear HB; have HB := n0_; have BK101 := n1_; have GW101 := n2_; have GE101 := n3_; clear n0_ n1_ n2_ n3_; clear hb hbox hg; have hcz12_0 : w11.cell? ⟨gb101, 0, none⟩ = some (.slice A0_0 l0_0.length c0_0) := (blk_cell BK101.out 0).trans rfl; have hcz12_1 : w11.cell? ⟨gb101, 1, none⟩ = some (.slice A0_1 l0_1.length c0_1) := (blk_cell BK101.out 1).trans rfl; have hfz12_0 := blk_frozen BK101.out 0; have hfz12_1 := blk_frozen BK101.out 1))
        go_ret
        exact ⟨by first | rfl | (simp [errW_none, errW_some] <;> rfl) | (simp [*, errW_none, errW_some] <;> rfl), by repeat (first | (with_reducible first | exact HB.out | apply below_alloc | apply pw_below_drewN | apply below_drew1 | refine below_set ?_ GE101.out) | exact HB.out)⟩
      · rw [if_neg c10] at H
        have c10b0 : decide (3000 < (a1.size : Int)) = false := decide_eq_false c10
        have c10b1 : decide (3000 < a1.size) = false := decide_eq_false (by omega)
        clear c10
        by_cases c13 : (l2.length : Int) > 300
        · rw [if_pos c13] at H
          have c13b0 : decide (300 < (l2.length : Int)) = true := decide_eq_true c13
          have c13b1 : decide (300 < l2.length) = true := decide_eq_true (by omega)
          clear c13
          by_cases c14 : (l2.length : Int) ≤ 4096
          · rw [if_pos c14] at H
            have c14b0 : decide ((l2.length : Int) ≤ 4096) = true := decide_eq_true c14
            have c14b1 : decide (l2.length ≤ 4096) = true := decide_eq_true (by omega)
            clear c14
            obtain rfl := Option.some.inj H
            go_enter Tryd.func7, Tryd.ntmps7
            go_wp2_with (first | ((with_reducible refine gate_dst (N := 3) rfl ?_); (try (refine gate_guard (by rfl) ?_; dsimp only)); refine box_event ?hg (N := 3) ?hd (cs := #[.slice A0_0 l0_0.length c0_0, .slice A0_1 l0_1.length c0_1]) (t := 25) ?hr ?_; (case hd => rfl); (case hg => rfl); (case hr => first | (go_simp; done) | (go_simp; rfl)); intro gb101 hg w15 hbox hb; have n0_ := Aside0.mk (below_step (by repeat (first | (with_reducible first | exact HB.out | apply below_alloc | apply pw_below_drewN | apply below_drew1) | exact HB.out)) hb); have n1_ := Aside0.mk (hbox); have n2_ := Aside0.mk ((by rw [hg]; exact (below_size (by repeat (first | (with_reducible first | exact HB.out | apply below_alloc | apply pw_below_drewN | apply below_drew1) | exact HB.out))) : w.heap.size ≤ gb101)); have n3_ := Aside0.mk ((by rw [hg]; exact (below_size (by repeat (first | (with_reducible first | exact HB.out | apply below_alloc | apply pw_below_drewN | apply below_drew1) | exact HB.out))) : w.heap.size ≤ gb101)); clear HB; have HB := n0_; have BK101 := n1_; have GW101 := n2_; have GE101 := n3_; clear n0_ n1_ n2_ n3_; clear hb hbox hg; have hcz16_0 : w15.cell? ⟨gb101, 0, none⟩ = some (.slice A0_0 l0_0.length c0_0) := (blk_cell BK101.out 0).trans rfl; have hcz16_1 : w15.cell? ⟨gb101, 1, none⟩ = some (.slice A0_1 l0_1.length c0_1) := (blk_cell BK101.out 1).trans rfl; have hfz16_0 := blk_frozen BK101.out 0; have hfz16_1 := blk_frozen BK101.out 1))
            go_ret
            exact ⟨by first | rfl | (simp [errW_none, errW_some] <;> rfl) | (simp [*, errW_none, errW_some] <;> rfl), by repeat (first | (with_reducible first | exact HB.out | apply below_alloc | apply pw_below_drewN | apply below_drew1 | refine below_set ?_ GE101.out) | exact HB.out)⟩
          · rw [if_neg c14] at H
            have c14b0 : decide ((l2.length : Int) ≤ 4096) = false := decide_eq_false c14
            have c14b1 : decide (l2.length ≤ 4096) = false := decide_eq_false (by omega)
            clear c14
            obtain rfl := Option.some.inj H
            go_enter Tryd.func7, Tryd.ntmps7
            go_wp2_with (first | ((with_reducible refine gate_dst (N := 3) rfl ?_); (try (refine gate_guard (by rfl) ?_; dsimp only)); refine box_event ?hg (N := 3) ?hd (cs := #[.slice A0_0 l0_0.length c0_0, .slice A0_1 l0_1.length c0_1]) (t := 25) ?hr ?_; (case hd => rfl); (case hg => rfl); (case hr => first | (go_simp; done) | (go_simp; rfl)); intro gb101 hg w17 hbox hb; have n0_ := Aside0.mk (below_step (by repeat (first | (with_reducible first | exact HB.out | apply below_alloc | apply pw_below_drewN | apply below_drew1) | exact HB.out)) hb); have n1_ := Aside0.mk (hbox); have n2_ := Aside0.mk ((by rw [hg]; exact (below_size (by repeat (first | (with_reducible first | exact HB.out | apply below_alloc | apply pw_below_drewN | apply below_drew1) | exact HB.out))) : w.heap.size ≤ gb101)); have n3_ := Aside0.mk ((by rw [hg]; exact (below_size (by repeat (first | (with_reducible first | exact HB.out | apply below_alloc | apply pw_below_drewN | apply below_drew1) | exact HB.out))) : w.heap.size ≤ gb101)); clear HB; have HB := n0_; have BK101 := n1_; have GW101 := n2_; have GE101 := n3_; clear n0_ n1_ n2_ n3_; clear hb hbox hg; have hcz18_0 : w17.cell? ⟨gb101, 0, none⟩ = some (.slice A0_0 l0_0.length c0_0) := (blk_cell BK101.out 0).trans rfl; have hcz18_1 : w17.cell? ⟨gb101, 1, none⟩ = some (.slice A0_1 l0_1.length c0_1) := (blk_cell BK101.out 1).trans rfl; have hfz18_0 := blk_frozen BK101.out 0; have hfz18_1 := blk_frozen BK101.out 1))
            go_ret
            exact ⟨by first | rfl | (simp [errW_none, errW_some] <;> rfl) | (simp [*, errW_none, errW_some] <;> rfl), by repeat (first | (with_reducible first | exact HB.out | apply below_alloc | apply pw_below_drewN | apply below_drew1 | refine below_set ?_ GE101.out) | exact HB.out)⟩
        · rw [if_neg c13] at H
          have c13b0 : decide (300 < (l2.length : Int)) = false := decide_eq_false c13
          have c13b1 : decide (300 < l2.length) = false := decide_eq_false (by omega)
          clear c13
          obtain rfl := Option.some.inj H
          go_enter Tryd.func7, Tryd.ntmps7
          go_wp2_with (first | ((with_reducible refine gate_dst (N := 3) rfl ?_); (try (refine gate_guard (by rfl) ?_; dsimp only)); refine box_event ?hg (N := 3) ?hd (cs := #[.slice A0_0 l0_0.length c0_0, .slice A0_1 l0_1.length c0_1]) (t := 25) ?hr ?_; (case hd => rfl); (case hg => rfl); (case hr => first | (go_simp; done) | (go_simp; rfl)); intro gb101 hg w19 hbox hb; have n0_ := Aside0.mk (below_step (by repeat (first | (with_reducible first | exact HB.out | apply below_alloc | apply pw_below_drewN | apply below_drew1) | exact HB.out)) hb); have n1_ := Aside0.mk (hbox); have n2_ := Aside0.mk ((by rw [hg]; exact (below_size (by repeat (first | (with_reducible first | exact HB.out | apply below_alloc | apply pw_below_drewN | apply below_drew1) | exact HB.out))) : w.heap.size ≤ gb101)); have n3_ := Aside0.mk ((by rw [hg]; exact (below_size (by repeat (first | (with_reducible first | exact HB.out | apply below_alloc | apply pw_below_drewN | apply below_drew1) | exact HB.out))) : w.heap.size ≤ gb101)); clear HB; have HB := n0_; have BK101 := n1_; have GW101 := n2_; have GE101 := n3_; clear n0_ n1_ n2_ n3_; clear hb hbox hg; have hcz20_0 : w19.cell? ⟨gb101, 0, none⟩ = some (.slice A0_0 l0_0.length c0_0) := (blk_cell BK101.out 0).trans rfl; have hcz20_1 : w19.cell? ⟨gb101, 1, none⟩ = some (.slice A0_1 l0_1.length c0_1) := (blk_cell BK101.out 1).trans rfl; have hfz20_0 := blk_frozen BK101.out 0; have hfz20_1 := blk_frozen BK101.out 1))
          go_ret
          exact ⟨by first | rfl | (simp [errW_none, errW_some] <;> rfl) | (simp [*, errW_none, errW_some] <;> rfl), by repeat (first | (with_reducible first | exact HB.out | apply below_alloc | apply pw_below_drewN | apply below_drew1 | refine below_set ?_ GE101.out) | exact HB.out)⟩

/-! ### cognateref13_parted: function 31 -/
/-! ### cognateref13_Radicals: function 9 -/
/-! ### cognateref13_Shape: function 11 -/
end Go.Proofs.YtdeichibnnbjdaaDoor.RRw
end
section
/-
  radical.parted, Radicals, Shape by walks.
-/
set_option linter.unusedSimpArgs false
set_option linter.unusedVariables false
namespace Go.Proofs.YtdeichibnnbjdaaDoor
open Go.RowKit Go.Maps Go.WideMaps Go.Proofs.YtdeichibnnbjdaaDoorW.PrintWords Go.Proofs.YtdeichibnnbjdaaDoorW.PrintLast Go.Proofs.YtdeichibnnbjdaaDoorW.PrintMore Go.Proofs.YtdeichibnnbjdaaDoor.Ext

theorem conv_runes {w : World} {A : Option Addr} {n c : Nat} {xs : List Int} (h : Kd.C (Kd.int .i32) w A n xs) : (convert 51 9 (.slice A n c)).run Tryd.prog w = .ok (.string (runesBytes xs)) w := by
  have hn : xs.length = n := h.1
  cases A with
  | none =>
    have h0 : n = 0 := by
      by_cases hz : n = 0
      · exact hz
      · obtain ⟨ad, hA, _⟩ := Kd.at_int h 0 (by omega) (by omega)
        cases hA
    subst h0
    have : xs = [] := List.length_eq_zero_iff.1 hn
    subst this
    rw [run_convert_runes_nil w 51 9 21 0 c Tryd.underlying51 Tryd.underlying21 Tryd.underlying9]
    rfl
  | some a =>
    have := run_convert_runes w 51 9 21 a n c xs (by omega) Tryd.underlying51 Tryd.underlying21 Tryd.underlying9 (fun j hj => by
      obtain ⟨ad, hA, hx⟩ := Kd.at_int h (j : Int) (by omega) (by omega)
      cases hA
      simpa [YtdeichibnnbjdaaDoorW.PrintWords.rd] using hx)
    rw [this, List.take_of_length_le (by omega)]

end Go.Proofs.YtdeichibnnbjdaaDoor
end
section
/-
  radical.Radicals and radical.Shape by walks.
-/
set_option linter.unusedSimpArgs false
set_option linter.unusedVariables false
namespace Go.Proofs.YtdeichibnnbjdaaDoor
open Go.RowKit Go.Maps Go.WideMaps Go.Proofs.YtdeichibnnbjdaaDoorW.PrintWords Go.Proofs.YtdeichibnnbjdaaDoorW.PrintLast Go.Proofs.YtdeichibnnbjdaaDoorW.PrintMore Go.Proofs.YtdeichibnnbjdaaDoor.Ext
namespace Ext
end Ext
end Go.Proofs.YtdeichibnnbjdaaDoor
end
section
-- printed by a program of this session (wip/tools/prx.sh: a turned copy of the kit's print, with functions given from outside)
namespace Go.Proofs.YtdeichibnnbjdaaDoor.RRw
open Go.RowKit Go.Proofs.YtdeichibnnbjdaaDoor Go.Proofs.YtdeichibnnbjdaaDoor.Ext Go.Proofs.YtdeichibnnbjdaaDoorW.PrintWords Go.Proofs.YtdeichibnnbjdaaDoorW.PrintLast Go.Proofs.YtdeichibnnbjdaaDoorW.PrintMore
attribute [local go_sem] max2_int min2_int max_two min_two max_three min_three max_four min_four   -- for this text's walks alone
set_option linter.unusedVariables false
set_option linter.unusedSimpArgs false

attribute [local go_sem high] eqA32
/-! ### radical_Skip: function 12 -/
/-! ### cognateref13_Skip: function 13 -/
/-! ### cognatelaw13_RadicalWords: function 3 -/
end Go.Proofs.YtdeichibnnbjdaaDoor.RRw
end
section
/-
  The plain law of RadicalWords: what the printed statement computes is true.
-/
set_option linter.unusedSimpArgs false
set_option linter.unusedVariables false
namespace Go.Proofs.YtdeichibnnbjdaaDoor
open Go.RowKit Go.Proofs.YtdeichibnnbjdaaDoorW.PrintWords Go.Proofs.YtdeichibnnbjdaaDoorW.PrintLast Go.Proofs.YtdeichibnnbjdaaDoorW.PrintMore Go.Proofs.YtdeichibnnbjdaaDoor.Ext

/-! ### skipped through -/
/-! ### parted -/
theorem readP_in (ks : List Int) : ∀ (ps : List Piece) (acc : List Int), (∀ x ∈ acc, ks.contains x = true) → ∀ x ∈ (readP ks ps acc).1, ks.contains x = true
  | [], acc, h => h
  | p :: ps, acc, h => by
    unfold readP
    split
    · simp
    · split
      · simp
      · rename_i hc
        split
        · simp
        · refine readP_in ks ps _ ?_
          intro x hx
          rcases List.mem_append.1 hx with hx | hx
          · exact h x hx
          · obtain rfl : x = p.f0 := by simpa using hx
            simpa using hc
theorem letters_rune (l0 : List ByteArray) (l1 : List Letter) (s : ByteArray) : ∀ x ∈ (lettersOf l0 l1 s).1, 0 ≤ x ∧ x ≤ 1114111 := by
  unfold lettersOf
  split
  · rename_i h
    intro x hx
    have h2 := readP_in (kindsOf l1) _ [] (by simp) x hx
    unfold kindsOf at h2
    simp only [List.contains_iff_mem, List.mem_map] at h2
    obtain ⟨y, hy, rfl⟩ := h2
    have := chk_rune h y hy
    unfold runeOk at this
    simp at this
    omega
  · simp
theorem letters_chk {l0 : List ByteArray} {l1 : List Letter} {s : ByteArray} (h : (lettersOf l0 l1 s).2 = 0) : chk l0 l1 = 0 := by
  unfold lettersOf at h
  split at h
  · assumption
  · cases h
end Go.Proofs.YtdeichibnnbjdaaDoor
end
section
/-
  Roots in shapes, in plain words: merged, split, skipped through. No program in sight.
-/
set_option linter.unusedSimpArgs false
set_option linter.unusedVariables false
namespace Go.Proofs.YtdeichibnnbjdaaDoor
open Go.RowKit Go.Proofs.YtdeichibnnbjdaaDoorW.PrintWords Go.Proofs.YtdeichibnnbjdaaDoorW.PrintLast Go.Proofs.YtdeichibnnbjdaaDoorW.PrintMore Go.Proofs.YtdeichibnnbjdaaDoor.Ext

/-- Letters put into a shape's holes. -/
def fillH : List Int → List Int → List Int
  | [], _ => []
  | x :: xs, [] => x :: fillH xs []
  | x :: xs, r :: rs => if x = 95 then r :: fillH xs rs else x :: fillH xs (r :: rs)
/-- What stands at a shape's holes. -/
def pickH : List Int → List Int → Option (List Int)
  | [], [] => some []
  | x :: xs, y :: ys => if y = 95 then (pickH xs ys).map (x :: ·) else if y = x then pickH xs ys else none
  | _, _ => none
abbrev noB : ByteArray := ⟨#[]⟩
def mergeOf (l0 : List ByteArray) (l1 : List Letter) (root n f : ByteArray) : ByteArray × Int :=
  if (lettersOf l0 l1 root).2 = 0 then (if chkS l0 l1 n f = 0 ∧ f.data.toList.count 95 = (lettersOf l0 l1 root).1.length then (runesBytes (fillH (runesOf f) (lettersOf l0 l1 root).1), 0) else (noB, 130)) else (noB, (lettersOf l0 l1 root).2)
def pickB (l f : List Int) : ByteArray × Bool := match pickH l f with | some q => (runesBytes q, true) | none => (noB, false)
def splitOf (l0 : List ByteArray) (l1 : List Letter) (w n f : ByteArray) : ByteArray × Bool × Int :=
  if (lettersOf l0 l1 w).2 = 0 then (if chkS l0 l1 n f = 0 then ((pickB (lettersOf l0 l1 w).1 (runesOf f)).1, (pickB (lettersOf l0 l1 w).1 (runesOf f)).2, 0) else (noB, false, chkS l0 l1 n f)) else (noB, false, (lettersOf l0 l1 w).2)

theorem fill_nil : ∀ f : List Int, fillH f [] = f
  | [] => rfl
  | x :: xs => by rw [fillH, fill_nil xs]
theorem fill_len : ∀ (f l : List Int), (fillH f l).length = f.length
  | [], _ => by simp [fillH]
  | x :: xs, [] => by simp [fill_nil]
  | x :: xs, r :: rs => by
    unfold fillH
    split <;> simp [fill_len xs]
theorem fill_pick : ∀ (w f l : List Int), pickH w f = some l → fillH f l = w ∧ f.count 95 = l.length ∧ (∀ x ∈ l, x ∈ w) ∧ w.length = f.length
  | [], [], l, h => by
    simp only [pickH, Option.some.injEq] at h
    subst h
    simp [fillH]
  | [], y :: ys, l, h => by simp [pickH] at h
  | x :: xs, [], l, h => by simp [pickH] at h
  | x :: xs, y :: ys, l, h => by
    unfold pickH at h
    by_cases hy : y = 95
    · rw [if_pos hy] at h
      cases hq : pickH xs ys with
      | none => rw [hq] at h; cases h
      | some q =>
        rw [hq] at h
        obtain rfl : x :: q = l := by simpa using h
        have ih := fill_pick xs ys q hq
        unfold fillH
        rw [if_pos hy, ih.1, List.count_cons]
        refine ⟨rfl, by simp [hy, ih.2.1], fun z hz => ?_, by simp [ih.2.2.2]⟩
        rcases List.mem_cons.1 hz with rfl | hz
        · exact List.mem_cons_self ..
        · exact List.mem_cons_of_mem _ (ih.2.2.1 z hz)
    · rw [if_neg hy] at h
      by_cases he : y = x
      · rw [if_pos he] at h
        have ih := fill_pick xs ys l h
        subst he
        refine ⟨?_, by rw [List.count_cons]; simp [hy, ih.2.1], fun z hz => List.mem_cons_of_mem _ (ih.2.2.1 z hz), by simp [ih.2.2.2]⟩
        cases l with
        | nil => rw [fill_nil] at ih ⊢; rw [ih.1]
        | cons r rs =>
          unfold fillH
          rw [if_neg hy, ih.1]
      · rw [if_neg he] at h
        cases h
theorem fill_mem : ∀ (f l : List Int), f.count 95 = l.length → ∀ x ∈ fillH f l, (x ∈ f ∧ x ≠ 95) ∨ x ∈ l
  | [], _, _ => by simp [fillH]
  | y :: ys, [], h => by
    rw [fill_nil]
    intro x hx
    left
    refine ⟨hx, ?_⟩
    intro e
    subst e
    have : 0 < (y :: ys).count 95 := List.count_pos_iff.2 hx
    simp at h
    omega
  | y :: ys, r :: rs, h => by
    rw [List.count_cons] at h
    unfold fillH
    by_cases hy : y = 95
    · rw [if_pos hy]
      intro x hx
      rcases List.mem_cons.1 hx with rfl | hx
      · exact .inr (List.mem_cons_self ..)
      · rcases fill_mem ys rs (by simp [hy] at h; exact h) x hx with h1 | h1
        · exact .inl ⟨List.mem_cons_of_mem _ h1.1, h1.2⟩
        · exact .inr (List.mem_cons_of_mem _ h1)
    · rw [if_neg hy]
      intro x hx
      rcases List.mem_cons.1 hx with rfl | hx
      · exact .inl ⟨List.mem_cons_self .., hy⟩
      · rcases fill_mem ys (r :: rs) (by simp [hy] at h; simp [h]) x hx with h1 | h1
        · exact .inl ⟨List.mem_cons_of_mem _ h1.1, h1.2⟩
        · exact .inr h1
/-! ### shapes that may be -/
theorem chkS_zero {l0 : List ByteArray} {l1 : List Letter} {n f : ByteArray} (h : chkS l0 l1 n f = 0) : chk l0 l1 = 0 ∧ nameS n = true ∧ formS (kindsOf l1) f = true := by
  unfold chkS at h
  by_cases hk : chk l0 l1 = 0
  · rw [if_pos hk] at h
    by_cases hs : (nameS n && formS (kindsOf l1) f) = true
    · simp only [Bool.and_eq_true] at hs
      exact ⟨hk, hs.1, hs.2⟩
    · rw [if_neg hs] at h
      cases h
  · rw [if_neg hk] at h
    exact absurd h hk
theorem chkS_mk {l0 : List ByteArray} {l1 : List Letter} {n f : ByteArray} (h : chk l0 l1 = 0) (h1 : nameS n = true) (h2 : formS (kindsOf l1) f = true) : chkS l0 l1 n f = 0 := by
  unfold chkS
  rw [if_pos h, h1, h2]
  rfl
theorem formS_ok {ks : List Int} {f : ByteArray} (h : formS ks f = true) : (pieces f).all (fun p => !p.f3) = true ∧ (runesOf f).length ≤ 64 ∧ ∀ x ∈ runesOf f, ks.contains x = true ∨ x = 95 := by
  unfold formS at h
  simp only [Bool.and_eq_true, decide_eq_true_eq] at h
  rw [runesOf_pieces]
  refine ⟨h.1.1, by simpa using h.1.2, fun x hx => ?_⟩
  obtain ⟨p, hp, rfl⟩ := List.mem_map.1 hx
  have := List.all_eq_true.1 h.2 p hp
  simpa using this
/-! ### merged and split, split and merged -/
/-! ### a word's radicals in its shape -/
end Go.Proofs.YtdeichibnnbjdaaDoor
end
section
/-
  radical.Merge by a walk.
-/
set_option linter.unusedSimpArgs false
set_option linter.unusedVariables false
namespace Go.Proofs.YtdeichibnnbjdaaDoor
open Go.RowKit Go.Proofs.YtdeichibnnbjdaaDoorW.PrintWords Go.Proofs.YtdeichibnnbjdaaDoorW.PrintLast Go.Proofs.YtdeichibnnbjdaaDoorW.PrintMore Go.Proofs.YtdeichibnnbjdaaDoor.Ext

theorem fill_at : ∀ (f l : List Int) (i : Nat) (h : i < f.length), f.count 95 = l.length → (fillH f l)[i]? = some (if f[i] = 95 then l.getD ((f.take i).count 95) 0 else f[i])
  | [], l, i, h, _ => by simp at h
  | x :: xs, [], i, h, hc => by
    rw [fill_nil, List.getElem?_eq_getElem h]
    congr 1
    rw [if_neg]
    intro e
    have : 0 < (x :: xs).count 95 := List.count_pos_iff.2 (e ▸ List.getElem_mem h)
    simp at hc
    omega
  | x :: xs, r :: rs, 0, h, hc => by
    unfold fillH
    by_cases hx : x = 95
    · rw [if_pos hx]
      simp [hx]
    · rw [if_neg hx]
      simp [hx]
  | x :: xs, r :: rs, i + 1, h, hc => by
    rw [List.count_cons] at hc
    have hi : i < xs.length := by simpa using h
    unfold fillH
    by_cases hx : x = 95
    · rw [if_pos hx, List.getElem?_cons_succ, fill_at xs rs i hi (by simp [hx] at hc; exact hc)]
      subst hx
      simp
    · rw [if_neg hx, List.getElem?_cons_succ, fill_at xs (r :: rs) i hi (by simp [hx] at hc; simp [hc])]
      simp [hx]
def fillN (f l : List Int) (i : Nat) : List Int := (fillH f l).take i ++ f.drop i
theorem fillN_len (f l : List Int) (i : Nat) : (fillN f l i).length = f.length := by
  unfold fillN
  simp [fill_len]
  omega
theorem fillN_at (f l : List Int) (i : Nat) (h : i < f.length) : (fillN f l i)[i]'(by rw [fillN_len]; exact h) = f[i] := by
  unfold fillN
  rw [List.getElem_append_right (by simp [fill_len]; omega)]
  simp [fill_len, Nat.min_eq_left (Nat.le_of_lt h)]
theorem fillN_step (f l : List Int) (i : Nat) (h : i < f.length) (hc : f.count 95 = l.length) : fillN f l (i + 1) = if f[i] = 95 then (fillN f l i).set i (l.getD ((f.take i).count 95) 0) else fillN f l i := by
  have ha := fill_at f l i h hc
  have hi : i < (fillH f l).length := by rw [fill_len]; exact h
  rw [List.getElem?_eq_getElem hi] at ha
  have ha := Option.some.inj ha
  unfold fillN
  rw [List.take_succ_eq_append_getElem hi, ha, List.drop_eq_getElem_cons h]
  have hl : ((fillH f l).take i).length = i := by simp; omega
  by_cases e : f[i] = 95
  · rw [if_pos e, if_pos e, List.set_append_right _ _ (by omega), hl, Nat.sub_self, List.set_cons_zero, List.append_assoc]
    rfl
  · rw [if_neg e, if_neg e, List.append_assoc]
    rfl
theorem count_step (f : List Int) (i : Nat) (h : i < f.length) : (f.take (i + 1)).count 95 = (f.take i).count 95 + if f[i] = 95 then 1 else 0 := by
  rw [List.take_succ_eq_append_getElem h, List.count_append, List.count_singleton]
  simp only [beq_iff_eq]
theorem count_lt (f : List Int) (i : Nat) (h : i < f.length) (e : f[i] = 95) : (f.take i).count 95 < f.count 95 := by
  have h1 := count_step f i h
  rw [if_pos e] at h1
  have h2 : (f.take (i + 1)).count 95 ≤ f.count 95 := List.Sublist.count_le 95 (List.take_sublist _ _)
  omega
theorem count_le' (f : List Int) (i : Nat) : (f.take i).count 95 ≤ f.length := Nat.le_trans List.count_le_length (by simp; omega)

namespace Ext
def radical_Merge.f (l0 : List ByteArray) (l1 : List Letter) (root n f : ByteArray) : Option (ByteArray × Int) := if n.size ≤ 9223372036854775807 ∧ f.size ≤ 1000000 then some (mergeOf l0 l1 root n f) else none
set_option maxHeartbeats 4000000 in
set_option maxRecDepth 100000 in
theorem radical_Merge.calls (A0 : Option Addr) (c0 : Nat) (l0 : List ByteArray) (A1 : Option Addr) (c1 : Nat) (l1 : List Letter) (root n f : ByteArray) (r1 : ByteArray) (r2 : Int) (w : World) (hF : Kd.C Kd.string w A0 l0.length l0) (hcF : l0.length ≤ c0) (hL : Kd.C kLetter w A1 l1.length l1) (hcL : l1.length ≤ c1) (hT : Tabs w)
    (h : radical_Merge.f l0 l1 root n f = some (r1, r2)) :
    Calls Tryd.prog 15 #[.agg #[.slice A0 l0.length c0, .slice A1 l1.length c1], .string root, .agg #[.string n, .string f]] w fun e w' => e = .returned (.tuple #[.string r1, .int .i64 r2]) ∧ Below w.heap.size w w' := by
  unfold radical_Merge.f at h
  split at h
  case isFalse => cases h
  case isTrue hsz =>
  have h := Option.some.inj h
  obtain ⟨l, e, hl⟩ : ∃ l e, lettersOf l0 l1 root = (l, e) := ⟨_, _, rfl⟩
  have h64 := lettersOf_len l0 l1 root
  rw [hl] at h64
  dsimp only at h64
  have hle := fun W (hb : Below w.heap.size w W) => word_Letters.calls A0 c0 l0 A1 c1 l1 root l e W (Kd.C_below hF hb) hcF (Kd.C_below hL hb) hcL (hT.below hb) (by unfold word_Letters.f; rw [hl])
  have hch := fun W (hb : Below w.heap.size w W) => radical_Check.calls A0 c0 l0 A1 c1 l1 n f (chkS l0 l1 n f) W (Kd.C_below hF hb) hcF (Kd.C_below hL hb) hcL (hT.below hb) (by unfold radical_Check.f; rw [if_pos ⟨hsz.1, by omega⟩])
  have hho := fun W => RF1.radical_Holes.calls n f ((f.data.toList.count 95 : Nat) : Int) W rfl
  have HB := Lib.hid (boxes2 w (.cells #[.slice A0 l0.length c0, .slice A1 l1.length c1] 25) (.cells #[.string n, .string f] 32))
  clear hF hL hT
  unfold mergeOf at h
  rw [hl] at h
  dsimp only at h
  by_cases he : e = 0
  · subst he
    rw [if_pos rfl] at h
    by_cases hk : chkS l0 l1 n f = 0
    · rw [hk] at hch
      by_cases hc : f.data.toList.count 95 = l.length
      · rw [if_pos ⟨hk, hc⟩] at h
        simp only [Prod.mk.injEq] at h
        obtain ⟨hr, rfl⟩ := h
        have hcz := chkS_zero hk
        have hfo := formS_ok hcz.2.2
        obtain ⟨F, hFd⟩ : ∃ F, F = runesOf f := ⟨_, rfl⟩
        have hcF2 : F.count 95 = l.length := by rw [hFd, ← holes_runes f hfo.1]; exact hc
        have hF64 : F.length ≤ 64 := by rw [hFd]; exact hfo.2.1
        rw [← hFd] at hr
        have Hr := Lib.hid hr
        have HF := Lib.hid hFd
        have HcF := Lib.hid hcF2
        have hq1 : (((f.data.toList.count 95 : Nat) : Int) != (l.length : Int)) = false := by simp [hc]
        have hq2 : (((f.data.toList.count 95 : Nat) : Int) == (l.length : Int)) = true := by simp [hc]
        obtain ⟨nh, hnh⟩ : ∃ nh, nh = ((f.data.toList.count 95 : Nat) : Int) := ⟨_, rfl⟩
        rw [← hnh] at hq1 hq2 hho
        clear hr hFd hk hcz hfo hcF2 hl hc hnh
        go_enter Tryd.func15, Tryd.ntmps15
        go_wp2_with (first | (go_at_call 27; refine (hle _ HB.out.1).mono ?_; rintro e w1 ⟨v1, rfl, HR1, hb1⟩; have hB1 := Lib.hid (below_step HB.out.1 hb1); have hx1 := Lib.hid (blk_below HB.out.2.2 hb1); have hy1 := Lib.hid (blk_below HB.out.2.1 hb1); have hc10 := (blk_cell hx1.out 0).trans rfl; have hc11 := (blk_cell hx1.out 1).trans rfl; have hd10 := (blk_cell hy1.out 0).trans rfl; have hd11 := (blk_cell hy1.out 1).trans rfl; obtain ⟨A, c, rfl, hlc, hC⟩ := Kd.R_reads HR1; have HC1 := Lib.hid hC; clear HR1 hC) | (go_at_call 22; refine (hch _ hB1.out).mono ?_; rintro e w2 ⟨rfl, hb2⟩; have hB2 := Lib.hid (below_step hB1.out hb2); have hx2 := Lib.hid (blk_below hx1.out hb2); have hc20 := (blk_cell hx2.out 0).trans rfl; have hc21 := (blk_cell hx2.out 1).trans rfl; have HC2 := Lib.hid (Kd.C_below HC1.out hb2)) | (go_at_call 24; refine (hho _).mono ?_; rintro e w3 ⟨rfl, hb3⟩; have hB3 := Lib.hid (below_step hB2.out hb3); have hx3 := Lib.hid (blk_below hx2.out hb3); have hc31 := (blk_cell hx3.out 1).trans rfl; have HC3 := Lib.hid (Kd.C_below HC2.out hb3)) | ((with_reducible refine gate_dst (N := 36) rfl ?_); refine R_runes (w0 := w3) w3.heap.size 21 rfl (N := 36) rfl 9 51 _ rfl f rfl Tryd.underlying9 Tryd.underlying51 Tryd.underlying21 (by omega) (Below.refl _ _) (Nat.le_refl _) ?_; intro v4 w4 HR4 hb4 hg4 hat4; rw [← HF.out] at HR4; have HR4' := Lib.hid HR4; obtain ⟨A4, c4, rfl⟩ := Kd.R_slice HR4; have Hb4 := Lib.hid hb4; clear HR4 hb4 hg4 hat4))
        go_loopw [11, 39] (fun kk i wr => ∃ k : Nat, k ≤ F.length ∧ i = .int .i64 k ∧ kk = .int .i64 ((F.take k).count 95 : Nat) ∧ Hid (Below w3.heap.size w3 wr) ∧ Hid (Kd.R (Kd.int .i32) 21 wr w3.heap.size (fun _ => True) (.slice A4 F.length c4) (fillN F l k)))
          (fun _ i _ => F.length - (intOf i).toNat)
        case atStart => exact ⟨0, Nat.zero_le _, rfl, rfl, Hb4.out, by have := HR4'.out; simpa [fillN, Hid] using this⟩
        case round =>
          obtain ⟨k, hk, rfl, rfl, hb, hR⟩ := hrel
          by_cases hlt : k < F.length
          · have hfl := fillN_len F l k
            obtain ⟨g, co, hv, hge, hgl, cells, hgc⟩ := Kd.R_form hR.out (by omega)
            injection hv with ha hn2 hco
            subst ha
            subst hco
            clear hn2
            obtain ⟨hx0, hf0⟩ := Kd.R_celln 0 hR.out (k : Int) (by omega) (by omega)
            have hrd : rdOf 0 (fillN F l k) (k : Int) = F[k] := by
              unfold rdOf
              rw [Int.toNat_natCast, List.getD_eq_getElem?_getD, List.getElem?_eq_getElem (by omega), ← fillN_at F l k hlt]
              rfl
            rw [hrd, Int.toNat_natCast] at hx0
            rw [Int.toNat_natCast] at hf0
            have Hst := Lib.hid (fillN_step F l k hlt HcF.out)
            have Hcs := Lib.hid (count_step F k hlt)
            clear hfl hrd hgc cells
            by_cases h95 : F[k] = 95
            · have hcl := count_lt F k hlt h95
              have hck := count_le' F k
              rw [HcF.out] at hcl
              rw [h95] at hx0
              have Hst2 : Hid (fillN F l (k + 1) = (fillN F l k).set k (l.getD ((F.take k).count 95) 0)) := by have := Hst.out; rw [if_pos h95] at this; exact this
              have Hcs2 : Hid ((F.take (k + 1)).count 95 = (F.take k).count 95 + 1) := by have := Hcs.out; rw [if_pos h95] at this; exact this
              clear h95 Hst Hcs
              obtain ⟨q, hq⟩ : ∃ q, q = (F.take k).count 95 := ⟨_, rfl⟩
              rw [← hq] at hcl hck
              rw [← hq] at Hst2 Hcs2
              obtain ⟨ad, hA, hy0⟩ := Kd.at_int (Kd.C_below HC3.out hb.out) q (by omega) (by omega)
              subst hA
              rw [Int.toNat_natCast] at hy0
              have hyr : YtdeichibnnbjdaaDoorW.PrintWords.rd l (q : Int) = l.getD q 0 := by unfold YtdeichibnnbjdaaDoorW.PrintWords.rd; rw [Int.toNat_natCast]
              rw [hyr] at hy0
              obtain ⟨y, hy⟩ : ∃ y, y = l.getD q 0 := ⟨_, rfl⟩
              rw [← hy] at hy0 Hst2
              have HP := Lib.hid (Kd.R_putg hR.out (k : Int) y)
              rw [Int.toNat_natCast] at HP
              rw [← hq]
              clear hq hyr hy
              go_wp2_with fail
              go_roundw
              case rel => exact ⟨k + 1, by omega, by go_num, by rw [Hcs2.out]; go_num, below_set hb.out hge, by show Kd.R _ _ _ _ _ _ _; rw [Hst2.out]; exact HP.out.1⟩
              case measure => simp [intOf]; omega
            · have Hst2 : Hid (fillN F l (k + 1) = fillN F l k) := by have := Hst.out; rw [if_neg h95] at this; exact this
              have Hcs2 : Hid ((F.take (k + 1)).count 95 = (F.take k).count 95) := by have := Hcs.out; rw [if_neg h95] at this; exact this
              have he1 : ((F[k] : Int) == 95) = false := by simpa using h95
              clear h95 Hst Hcs
              go_wp2_with fail
              go_roundw
              case rel => exact ⟨k + 1, by omega, by go_num, by rw [Hcs2.out], hb.out, by show Kd.R _ _ _ _ _ _ _; rw [Hst2.out]; exact hR.out⟩
              case measure => simp [intOf]; omega
          · obtain rfl : k = F.length := by omega
            have hcv := conv_runes (c := c4) (Kd.R_reads' hR.out).2.2
            have hfin : fillN F l F.length = fillH F l := by unfold fillN; rw [List.drop_length, List.append_nil, List.take_of_length_le (by rw [fill_len]; omega)]
            have hln := fillN_len F l F.length
            rw [hln, hfin, Hr.out] at hcv
            have Hb3 := Lib.hid (hB3.out.trans (hb.out.mono hB3.out.size))
            clear hln hfin
            go_wp2_with fail
            go_ret2
            exact ⟨rfl, Hb3.out⟩
      · rw [if_neg (fun hh => hc hh.2)] at h
        simp only [Prod.mk.injEq] at h
        obtain ⟨rfl, rfl⟩ := h
        have hq1 : (((f.data.toList.count 95 : Nat) : Int) != (l.length : Int)) = true := bne_iff_ne.mpr (by omega)
        have hq2 : (((f.data.toList.count 95 : Nat) : Int) == (l.length : Int)) = false := beq_eq_false_iff_ne.mpr (by omega)
        obtain ⟨nh, hnh⟩ : ∃ nh, nh = ((f.data.toList.count 95 : Nat) : Int) := ⟨_, rfl⟩
        rw [← hnh] at hq1 hq2 hho
        clear hk hl hc hnh
        go_enter Tryd.func15, Tryd.ntmps15
        go_wp2_with (first | (go_at_call 27; refine (hle _ HB.out.1).mono ?_; rintro e w1 ⟨v1, rfl, HR1, hb1⟩; have hB1 := Lib.hid (below_step HB.out.1 hb1); have hx1 := Lib.hid (blk_below HB.out.2.2 hb1); have hy1 := Lib.hid (blk_below HB.out.2.1 hb1); have hc10 := (blk_cell hx1.out 0).trans rfl; have hc11 := (blk_cell hx1.out 1).trans rfl; have hd10 := (blk_cell hy1.out 0).trans rfl; have hd11 := (blk_cell hy1.out 1).trans rfl; obtain ⟨A, c, rfl, hlc, hC⟩ := Kd.R_reads HR1; have HC1 := Lib.hid hC; clear HR1 hC) | (go_at_call 22; refine (hch _ hB1.out).mono ?_; rintro e w2 ⟨rfl, hb2⟩; have hB2 := Lib.hid (below_step hB1.out hb2); have hx2 := Lib.hid (blk_below hx1.out hb2); have hc20 := (blk_cell hx2.out 0).trans rfl; have hc21 := (blk_cell hx2.out 1).trans rfl; have HC2 := Lib.hid (Kd.C_below HC1.out hb2)) | (go_at_call 24; refine (hho _).mono ?_; rintro e w3 ⟨rfl, hb3⟩; have hB3 := Lib.hid (below_step hB2.out hb3)))
        go_ret2
        exact ⟨rfl, hB3.out⟩
    · rw [if_neg (fun hh => hk hh.1)] at h
      simp only [Prod.mk.injEq] at h
      obtain ⟨rfl, rfl⟩ := h
      have heb : (chkS l0 l1 n f == 0) = false := beq_eq_false_iff_ne.mpr hk
      have heb2 : (chkS l0 l1 n f != 0) = true := bne_iff_ne.mpr hk
      clear hk hl
      go_enter Tryd.func15, Tryd.ntmps15
      go_wp2_with (first | (go_at_call 27; refine (hle _ HB.out.1).mono ?_; rintro e w1 ⟨v1, rfl, HR1, hb1⟩; have hB1 := Lib.hid (below_step HB.out.1 hb1); have hx1 := Lib.hid (blk_below HB.out.2.2 hb1); have hy1 := Lib.hid (blk_below HB.out.2.1 hb1); have hc10 := (blk_cell hx1.out 0).trans rfl; have hc11 := (blk_cell hx1.out 1).trans rfl; have hd10 := (blk_cell hy1.out 0).trans rfl; have hd11 := (blk_cell hy1.out 1).trans rfl; obtain ⟨A, c, rfl, hlc, hC⟩ := Kd.R_reads HR1; have HC1 := Lib.hid hC; clear HR1 hC) | (go_at_call 22; refine (hch _ hB1.out).mono ?_; rintro e w2 ⟨rfl, hb2⟩; have hB2 := Lib.hid (below_step hB1.out hb2)))
      go_ret2
      exact ⟨rfl, hB2.out⟩
  · rw [if_neg he] at h
    simp only [Prod.mk.injEq] at h
    obtain ⟨rfl, rfl⟩ := h
    have heb : (e == 0) = false := beq_eq_false_iff_ne.mpr he
    have heb2 : (e != 0) = true := bne_iff_ne.mpr he
    clear he hl
    go_enter Tryd.func15, Tryd.ntmps15
    go_wp2_with (first | (go_at_call 27; refine (hle _ HB.out.1).mono ?_; rintro e' w1 ⟨v1, rfl, HR1, hb1⟩; have hB1 := Lib.hid (below_step HB.out.1 hb1); obtain ⟨A, c, rfl, hlc, hC⟩ := Kd.R_reads HR1; clear HR1 hC))
    go_ret2
    exact ⟨rfl, hB1.out⟩
end Ext
end Go.Proofs.YtdeichibnnbjdaaDoor
end
section
-- printed by a program of this session (wip/tools/prx.sh: a turned copy of the kit's print, with functions given from outside)
namespace Go.Proofs.YtdeichibnnbjdaaDoor.RRm
open Go.RowKit Go.Proofs.YtdeichibnnbjdaaDoor Go.Proofs.YtdeichibnnbjdaaDoor.Ext Go.Proofs.YtdeichibnnbjdaaDoorW.PrintWords Go.Proofs.YtdeichibnnbjdaaDoorW.PrintLast Go.Proofs.YtdeichibnnbjdaaDoorW.PrintMore
attribute [local go_sem] max2_int min2_int max_two min_two max_three min_three max_four min_four   -- for this text's walks alone
set_option linter.unusedVariables false
set_option linter.unusedSimpArgs false



end Go.Proofs.YtdeichibnnbjdaaDoor.RRm
end
