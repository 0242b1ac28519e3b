/-
  ParadigmFind: of any paradigm just the cells with all tags, rising; no condition but that the tables of utf8 stand as their text lays them.
-/
import Derived.Test.YthmjheclhcdinaaDoorClP3
import Derived.Deep.DeepCutAuto
import Derived.Test.YthmjheclhcdinaaDoorProg
import Derived.Below
import Derived.Deep.Draws
import Derived.Deep.AppendLies
import Derived.Maps.AppendAt
import Derived.OwnWalk
import Derived.Laws.BytesArg
import Derived.Laws.MakeOwn
import Derived.Laws.OwnMore
import Derived.Deep.OwnRows
import Derived.Tactics
import Derived.Lib.ConvBytes
import Derived.Laws.Slices
import Derived.WalkKit
import Derived.KernelRfl
import Derived.RowKit3
import Derived.Deep.LoopGhost
import Derived.Deep.QuietTactic
import Derived.BigQuiet
import Derived.WideLaws
import Derived.Deep.CutBlock
import Derived.Deep.RegionHeld3
import Derived.Laws.Rows
import Derived.Lib.AppendStr
import Derived.ArgAppend
import Derived.Laws.IdiomCopy
import Derived.OrdersHeld
import Derived.Laws.BitsLemmas
import Derived.RowKit
section
-- printed by a program of this session (wip/tools/prx.sh: a turned copy of the kit's print, with functions given from outside)
namespace Go.Proofs.YthmjheclhcdinaaDoor.RAl
open Go.RowKit Go.Proofs.YthmjheclhcdinaaDoor Go.Proofs.YthmjheclhcdinaaDoor.Ext Go.Proofs.YthmjheclhcdinaaDoorW.PrintWords Go.Proofs.YthmjheclhcdinaaDoorW.PrintLast Go.Proofs.YthmjheclhcdinaaDoorW.PrintMore
attribute [local go_sem] max2_int min2_int max_two min_two max_three min_three max_four min_four   -- for this text's walks alone
set_option linter.unusedVariables false
set_option linter.unusedSimpArgs false

/-! ### cognatelaw17_sample: function 18 -/
def cognatelaw17_sample.f  : Option (List ByteArray × (List (S84))) := some ((([(⟨#[118, 111, 119, 101, 108]⟩ : ByteArray)] : List ByteArray)), (([(⟨97, 1, 0⟩ : S84), (⟨105, 1, 0⟩ : S84), (⟨107, 0, 1⟩ : S84), (⟨116, 0, 1⟩ : S84), (⟨98, 0, 1⟩ : S84)] : List (S84))))
set_option maxHeartbeats 8000000 in
set_option maxRecDepth 100000 in
theorem cognatelaw17_sample.calls  (r1 : List ByteArray) (r2 : List (S84)) (w : World) (h : cognatelaw17_sample.f  = some (r1, r2)) :
    Calls Tryd.prog 18 #[] w fun e w' => ∃ v0_ v1_ : Value, e = .returned (.agg #[v0_, v1_]) ∧ Kd.R Kd.string 9 w' w.heap.size (fun _ => True) v0_ r1 ∧ Kd.R k84 84 w' w.heap.size (fun _ => True) v1_ r2 ∧ Below w.heap.size w w' := by
  have hu25 := Tryd.underlying25
  have hu84 := Tryd.underlying84
  have HB := Aside0.mk (Below.refl w.heap.size w)
  have H : (some ((([(⟨#[118, 111, 119, 101, 108]⟩ : ByteArray)] : List ByteArray)), (([(⟨97, 1, 0⟩ : S84), (⟨105, 1, 0⟩ : S84), (⟨107, 0, 1⟩ : S84), (⟨116, 0, 1⟩ : S84), (⟨98, 0, 1⟩ : S84)] : List (S84))))) = some (r1, r2) := h
  clear h
  obtain ⟨y102, hy102⟩ : ∃ y_ : List ByteArray, y_ = (([(⟨#[118, 111, 119, 101, 108]⟩ : ByteArray)] : List ByteArray)) := ⟨_, rfl⟩
  replace H : (some (y102, (([(⟨97, 1, 0⟩ : S84), (⟨105, 1, 0⟩ : S84), (⟨107, 0, 1⟩ : S84), (⟨116, 0, 1⟩ : S84), (⟨98, 0, 1⟩ : S84)] : List (S84))))) = some (r1, r2) := by first | (rw [hy102]; with_reducible exact H) | (have H2_ := (Option.bind_some _ _).symm.trans H; rw [hy102]; with_reducible exact H2_) | (have H2_ := (Option.bind_some _ _).symm.trans H; with_reducible exact H2_) | with_reducible exact H | (rw [hy102]; exact H) | exact H
  have Ny102 := Aside0.mk hy102
  clear hy102
  obtain ⟨y105, hy105⟩ : ∃ y_ : List (S84), y_ = (([(⟨97, 1, 0⟩ : S84), (⟨105, 1, 0⟩ : S84), (⟨107, 0, 1⟩ : S84), (⟨116, 0, 1⟩ : S84), (⟨98, 0, 1⟩ : S84)] : List (S84))) := ⟨_, rfl⟩
  replace H : (some (y102, y105)) = some (r1, r2) := by first | (rw [hy105]; with_reducible exact H) | (have H2_ := (Option.bind_some _ _).symm.trans H; rw [hy105]; with_reducible exact H2_) | (have H2_ := (Option.bind_some _ _).symm.trans H; with_reducible exact H2_) | with_reducible exact H | (rw [hy105]; exact H) | exact H
  have Ny105 := Aside0.mk hy105
  clear hy105
  simp only [Option.some.injEq, Prod.mk.injEq] at H
  obtain ⟨rfl, rfl⟩ := H
  go_enter Tryd.func18, Tryd.ntmps18
  go_wp2_with (first | ((with_reducible refine gate_dst (N := 0) rfl ?_); refine box_event ?hg (N := 0) ?hd (cs := #[.slice none 0 0, .slice none 0 0]) (t := 25) ?hr ?_; (case hd => rfl); (case hg => rfl); (case hr => first | (go_simp; done) | (go_simp; rfl)); intro gb101 hg w1 hbox hb; have n0_ := Aside0.mk (below_step (by repeat (first | (with_reducible first | exact HB.out | apply below_alloc | apply pw_below_drewN | apply below_drew1) | exact HB.out)) hb); have n1_ := Aside0.mk (hbox); have n2_ := Aside0.mk ((by rw [hg]; exact (below_size (by repeat (first | (with_reducible first | exact HB.out | apply below_alloc | apply pw_below_drewN | apply below_drew1) | exact HB.out))) : w.heap.size ≤ gb101)); have n3_ := Aside0.mk ((by rw [hg]; exact (below_size (by repeat (first | (with_reducible first | exact HB.out | apply below_alloc | apply pw_below_drewN | apply below_drew1) | exact HB.out))) : w.heap.size ≤ gb101)); clear HB; have HB := n0_; have BK101 := n1_; have GW101 := n2_; have GE101 := n3_; clear n0_ n1_ n2_ n3_; clear hb hbox hg) | ((with_reducible refine gate_dst (N := 1) rfl ?_); refine Kd.R_lit Kd.string _ 9 ?hg (N := 1) ?hd (xs := ([(⟨#[118, 111, 119, 101, 108]⟩ : ByteArray)] : List ByteArray)) (inner := [.string (⟨#[118, 111, 119, 101, 108]⟩ : ByteArray)]) (ok := fun _ => True) (okp := fun _ => True) ?hr ?hp (fun _ hk => hk) trivial (Below.refl _ _) (Nat.le_refl _) (by simp) ?_; (case hd => rfl); (case hg => rfl); (case hr => first | (go_simp; done) | (go_simp; rfl)); (case hp => exact (Reps.one (show Kd.M Kd.string _ _ _ (⟨#[118, 111, 119, 101, 108]⟩ : ByteArray) [.string (⟨#[118, 111, 119, 101, 108]⟩ : ByteArray)] from rfl) (Reps.none _ _))); intro v103 w2 ho3 hb hg_ hnew_; clear hg_ hnew_; (first | rw [← Ny102.out] at ho3 | (simp only [Int.reduceToNat] at ho3; rw [← Ny102.out] at ho3)); have n0_ := Aside0.mk (Kd.R_lower ho3 (below_size (by repeat (first | (with_reducible first | exact HB.out | apply below_alloc | apply pw_below_drewN | apply below_drew1 | refine below_set ?_ GE101.out) | exact HB.out)))); have n1_ := Aside0.mk (blk_below (g := gb101) (o := .cells #[.slice none 0 0, .slice none 0 0] 25 (0, 0)) (by (with_reducible repeat (first | refine blk_drewN ?_ _ | refine blk_drew ?_ | refine blk_alloc ?_ _)); exact BK101.out) hb); have n2_ := Aside0.mk (below_step (by repeat (first | (with_reducible first | exact HB.out | apply below_alloc | apply pw_below_drewN | apply below_drew1 | refine below_set ?_ GE101.out) | exact HB.out)) hb); clear BK101; clear HB; have HO104 := n0_; have BK101 := n1_; have HB := n2_; clear n0_ n1_ n2_; clear hb ho3) | ((with_reducible refine gate_dst (N := 7) rfl ?_); refine Kd.R_lit k84 _ 84 ?hg (N := 7) ?hd (xs := ([(⟨97, 1, 0⟩ : S84), (⟨105, 1, 0⟩ : S84), (⟨107, 0, 1⟩ : S84), (⟨116, 0, 1⟩ : S84), (⟨98, 0, 1⟩ : S84)] : List (S84))) (inner := [.int .i32 97, .int .u32 1, .int .u32 0, .int .i32 105, .int .u32 1, .int .u32 0, .int .i32 107, .int .u32 0, .int .u32 1, .int .i32 116, .int .u32 0, .int .u32 1, .int .i32 98, .int .u32 0, .int .u32 1]) (ok := fun _ => True) (okp := fun _ => True) ?hr ?hp (fun _ hk => hk) trivial (Below.refl _ _) (Nat.le_refl _) (by simp) ?_; (case hd => rfl); (case hg => rfl); (case hr => first | (go_simp; done) | (go_simp; rfl)); (case hp => exact (Reps.c3 (show Kd.M k84 _ _ _ (⟨97, 1, 0⟩ : S84) [.int .i32 97, .int .u32 1, .int .u32 0] from (k84_mkM _ _ _ (⟨97, 1, 0⟩ : S84) )) (Reps.c3 (show Kd.M k84 _ _ _ (⟨105, 1, 0⟩ : S84) [.int .i32 105, .int .u32 1, .int .u32 0] from (k84_mkM _ _ _ (⟨105, 1, 0⟩ : S84) )) (Reps.c3 (show Kd.M k84 _ _ _ (⟨107, 0, 1⟩ : S84) [.int .i32 107, .int .u32 0, .int .u32 1] from (k84_mkM _ _ _ (⟨107, 0, 1⟩ : S84) )) (Reps.c3 (show Kd.M k84 _ _ _ (⟨116, 0, 1⟩ : S84) [.int .i32 116, .int .u32 0, .int .u32 1] from (k84_mkM _ _ _ (⟨116, 0, 1⟩ : S84) )) (Reps.c3 (show Kd.M k84 _ _ _ (⟨98, 0, 1⟩ : S84) [.int .i32 98, .int .u32 0, .int .u32 1] from (k84_mkM _ _ _ (⟨98, 0, 1⟩ : S84) )) (Reps.none _ _))))))); intro v106 w4 ho5 hb hg_ hnew_; clear hg_ hnew_; (first | rw [← Ny105.out] at ho5 | (simp only [Int.reduceToNat] at ho5; rw [← Ny105.out] at ho5)); have n0_ := Aside0.mk (Kd.R_below (by (with_reducible repeat (first | apply Kd.R_alloc | apply Kd.R_drewN | apply Kd.R_drew)); exact HO104.out) hb); have n1_ := Aside0.mk (Kd.R_lower ho5 (below_size (by repeat (first | (with_reducible first | exact HB.out | apply below_alloc | apply pw_below_drewN | apply below_drew1 | refine below_set ?_ GE101.out) | exact HB.out)))); have n2_ := Aside0.mk (blk_below (g := gb101) (o := .cells #[.slice none 0 0, .slice none 0 0] 25 (0, 0)) (by (with_reducible repeat (first | refine blk_drewN ?_ _ | refine blk_drew ?_ | refine blk_alloc ?_ _)); exact BK101.out) hb); have n3_ := Aside0.mk (below_step (by repeat (first | (with_reducible first | exact HB.out | apply below_alloc | apply pw_below_drewN | apply below_drew1 | refine below_set ?_ GE101.out) | exact HB.out)) hb); clear HO104; clear BK101; clear HB; have HO104 := n0_; have HO107 := n1_; have BK101 := n2_; have HB := n3_; clear n0_ n1_ n2_ n3_; clear hb ho5; obtain ⟨Ao6, co6, eo6⟩ := Kd.R_slice HO107.out; subst eo6; obtain ⟨Ao7, co7, eo7⟩ := Kd.R_slice HO104.out; subst eo7; have hcz8_0 : w4.cell? ⟨gb101, 0, none⟩ = some (.slice none 0 0) := (blk_cell BK101.out 0).trans rfl; have hcz8_1 : w4.cell? ⟨gb101, 1, none⟩ = some (.slice none 0 0) := (blk_cell BK101.out 1).trans rfl; have hfz8_0 := blk_frozen BK101.out 0; have hfz8_1 := blk_frozen BK101.out 1))
  refine bodyPost_ret (results_cell_row rfl _ _ gb101 25 #[.slice Ao7 y102.length co7, .slice Ao6 y105.length co6] (0, 0) _ rfl (by (with_reducible repeat (first | refine blk_drewN ?_ _ | refine blk_drew ?_ | refine blk_alloc ?_ _)); refine blk_put (cs := #[.slice Ao7 y102.length co7, .slice none 0 0]) ?_ 1 _ rfl; (with_reducible repeat (first | refine blk_drewN ?_ _ | refine blk_drew ?_ | refine blk_alloc ?_ _)); refine blk_put (cs := #[.slice none 0 0, .slice none 0 0]) ?_ 0 _ rfl; (with_reducible repeat (first | refine blk_drewN ?_ _ | refine blk_drew ?_ | refine blk_alloc ?_ _)); exact BK101.out) Tryd.underlying25 rfl (by kernel_rfl)) rfl ?_
  exact ⟨_, _, by first | rfl | (simp [errW_none, errW_some] <;> rfl) | (simp [*, errW_none, errW_some] <;> rfl), by (with_reducible repeat (first | apply Kd.R_alloc | apply Kd.R_drewN | apply Kd.R_drew)); exact Kd.R_mono (Kd.R_far (p := ⟨gb101, 1, none⟩) (Kd.R_far (p := ⟨gb101, 0, none⟩) (Kd.R_types HO104.out BK101.out (by decide)) (fun _ hk => hk.2) (.slice Ao7 y102.length co7)) (fun _ hk => hk.2) (.slice Ao6 y105.length co6)) (fun _ hk => trivial), by (with_reducible repeat (first | apply Kd.R_alloc | apply Kd.R_drewN | apply Kd.R_drew)); exact Kd.R_mono (Kd.R_far (p := ⟨gb101, 1, none⟩) (Kd.R_far (p := ⟨gb101, 0, none⟩) (Kd.R_types HO107.out BK101.out (by decide)) (fun _ hk => hk.2) (.slice Ao7 y102.length co7)) (fun _ hk => hk.2) (.slice Ao6 y105.length co6)) (fun _ hk => trivial), by repeat (first | (with_reducible first | exact HB.out | apply below_alloc | apply pw_below_drewN | apply below_drew1 | refine below_set ?_ GE101.out) | exact HB.out)⟩

/-! ### cognatelaw17_row: function 21 -/
/-! ### cognatelaw17_cells: function 20 -/
/-! ### paradigm_Find: function 29 -/
def paradigm_Find.l0 : Nat → Int → List Int → List (S56) → Int → Int → Option (List Int)
  | 0, _, _, _, _, _ => none
  | k + 1, x1, x5, x9, x10, x11 => if x11 < x10 then (if 0 ≤ x11 then (if x11 < (x9.length : Int) then (if (Go.bits .andNot .u64 x1 ((rd_T56 x9 x11).f0)) = 0 then (if x5.length < 17592186044416 then (paradigm_Find.l0 k x1 (x5 ++ [x11]) x9 x10 (wrap64 (x11 + 1))) else (none)) else (paradigm_Find.l0 k x1 x5 x9 x10 (wrap64 (x11 + 1)))) else (none)) else (none)) else (some x5)
def paradigm_Find.f (k : Nat) (a0_0 : ByteArray) (l0_1 : List (S56)) (a1 : Int) : Option (List Int) := paradigm_Find.l0 k a1 ([] : List Int) l0_1 (l0_1.length : Int) 0
set_option maxHeartbeats 8000000 in
set_option maxRecDepth 100000 in
theorem paradigm_Find.calls (k : Nat) (a0_0 : ByteArray) (A0_1 : Option Addr) (c0_1 : Nat) (l0_1 : List (S56)) (a1 : Int) (r : List Int) (w : World) (hr0_1 : Kd.C k56 w A0_1 l0_1.length l0_1) (hc0_1 : l0_1.length ≤ c0_1) (h : paradigm_Find.f k a0_0 l0_1 a1 = some r) :
    Calls Tryd.prog 29 #[.agg #[.string a0_0, .slice A0_1 l0_1.length c0_1], .int .u64 a1] w fun e w' => ∃ v0_ : Value, e = .returned (v0_) ∧ Kd.R (Kd.int .i64) 3 w' w.heap.size (fun _ => True) v0_ r ∧ Below w.heap.size w w' := by
  have hu45 := Tryd.underlying45
  have hu56 := Tryd.underlying56
  have HR0_1 := Aside0.mk hr0_1
  have HC0_1 := Aside0.mk hc0_1
  clear hr0_1 hc0_1
  have HB := Aside0.mk (Below.refl w.heap.size w)
  have H : (paradigm_Find.l0 k a1 ([] : List Int) l0_1 (l0_1.length : Int) 0) = some r := h
  clear h
  have H' := Aside0.mk H
  clear H
  go_enter Tryd.func29, Tryd.ntmps29
  go_wp2_with (first | ((with_reducible refine gate_dst (N := 2) rfl ?_); refine box_event ?hg (N := 2) ?hd (cs := #[.string a0_0, .slice A0_1 l0_1.length c0_1]) (t := 45) ?hr ?_; (case hd => rfl); (case hg => rfl); (case hr => first | (go_simp; done) | (go_simp; rfl)); intro gb121 hg w3 hbox hb; have n0_ := Aside0.mk (below_step (by repeat (first | (with_reducible first | exact HB.out | apply below_alloc | apply pw_below_drewN | apply below_drew1) | exact HB.out)) hb); have n1_ := Aside0.mk (hbox); have n2_ := Aside0.mk ((by rw [hg]; exact (below_size (by repeat (first | (with_reducible first | exact HB.out | apply below_alloc | apply pw_below_drewN | apply below_drew1) | exact HB.out))) : w.heap.size ≤ gb121)); have n3_ := Aside0.mk ((by rw [hg]; exact (below_size (by repeat (first | (with_reducible first | exact HB.out | apply below_alloc | apply pw_below_drewN | apply below_drew1) | exact HB.out))) : w.heap.size ≤ gb121)); clear HB; have HB := n0_; have BK121 := n1_; have GW121 := n2_; have GE121 := n3_; clear n0_ n1_ n2_ n3_; clear hb hbox hg; have hcz4_0 : w3.cell? ⟨gb121, 0, none⟩ = some (.string a0_0) := (blk_cell BK121.out 0).trans rfl; have hcz4_1 : w3.cell? ⟨gb121, 1, none⟩ = some (.slice A0_1 l0_1.length c0_1) := (blk_cell BK121.out 1).trans rfl; have hfz4_0 := blk_frozen BK121.out 0; have hfz4_1 := blk_frozen BK121.out 1))
  go_loopg [5, 11] k (fun kq v5 v11 w' => ∃ (x5_1 : List Int) (x11_1 : Int), v11 = .int .i64 x11_1 ∧ Aside0 (paradigm_Find.l0 kq a1 x5_1 l0_1 (l0_1.length : Int) x11_1 = some r) ∧ Aside0 (kq ≤ k) ∧ Aside0 (Kd.R (Kd.int .i64) 3 w' w.heap.size (fun _ => True) v5 x5_1) ∧ Aside0 (w'.heap[gb121]? = some (.cells #[.string a0_0, (.slice A0_1 l0_1.length c0_1)] 45 (0, 0))) ∧ Aside0 (Below w.heap.size w w'))
  case atStart => exact ⟨(([] : List Int)), (0), (by first | rfl | (simp; done) | (simp [*]; done)), H', ⟨Nat.le_refl _⟩, ⟨by first | exact Kd.R_nil _ _ _ _ _ | exact Kd.N_nil _ _ _ _ _ | exact Kd.V_nil _ _ _ _ _ | exact Kd.Q_nil _ _ _ _ _ | exact Kd.S_nil _ _ _ _ _⟩, ⟨by (with_reducible repeat (first | refine blk_drewN ?_ _ | refine blk_drew ?_ | refine blk_alloc ?_ _)); exact BK121.out⟩, ⟨by repeat (first | (with_reducible first | exact HB.out | apply below_alloc | apply pw_below_drewN | apply below_drew1 | refine below_set ?_ GE121.out) | exact HB.out)⟩⟩
  case round =>
    clear H'
    try clear c2
    try clear p2
    try clear hcz4_0
    try clear hcz4_1
    try clear hfz4_0
    try clear hfz4_1
    obtain ⟨x5_1, x11_1, rfl, HA, HK1, HO_5, BK121, HB⟩ := hrel
    cases gk with
    | zero => exact absurd HA.out (by simp [paradigm_Find.l0])
    | succ k1 =>
      have H := HA.out
      clear HA
      simp only [paradigm_Find.l0] at H
      by_cases c5 : x11_1 < (l0_1.length : Int)
      · rw [if_pos c5] at H
        have c5b0 : decide (x11_1 < (l0_1.length : Int)) = true := decide_eq_true c5
        clear c5
        by_cases c6 : 0 ≤ x11_1
        · rw [if_pos c6] at H
          have c6b0 : decide (0 ≤ x11_1) = true := decide_eq_true c6
          clear c6
          by_cases c7 : x11_1 < (l0_1.length : Int)
          · rw [if_pos c7] at H
            have c7b0 : decide (x11_1 < (l0_1.length : Int)) = true := decide_eq_true c7
            clear c7
            by_cases c8 : (Go.bits .andNot .u64 a1 ((rd_T56 l0_1 x11_1).f0)) = 0
            · rw [if_pos c8] at H
              have c8b0 : ((Go.bits .andNot .u64 a1 ((rd_T56 l0_1 x11_1).f0)) == 0) = true := beq_iff_eq.mpr c8
              have c8b1 : ((Go.bits .andNot .u64 a1 ((rd_T56 l0_1 x11_1).f0)) != 0) = false := bne_eq_false_iff_eq.mpr c8
              clear c8
              by_cases c9 : x5_1.length < 17592186044416
              · rw [if_pos c9] at H
                have LMc9 := Aside0.mk c9
                clear c9
                obtain ⟨y124, hy124⟩ : ∃ y_ : List Int, y_ = (x5_1 ++ [x11_1]) := ⟨_, rfl⟩
                replace H : (paradigm_Find.l0 k1 a1 y124 l0_1 (l0_1.length : Int) (wrap64 (x11_1 + 1))) = some r := by first | (rw [hy124]; with_reducible exact H) | (have H2_ := (Option.bind_some _ _).symm.trans H; rw [hy124]; with_reducible exact H2_) | (have H2_ := (Option.bind_some _ _).symm.trans H; with_reducible exact H2_) | with_reducible exact H | (rw [hy124]; exact H) | exact H
                have Ny124 := Aside0.mk hy124
                clear hy124
                have H' := Aside0.mk H
                clear H
                have p122 : 0 ≤ (x11_1 : Int) := of_decide_eq_true (by first | (with_reducible assumption) | assumption)
                have q122 : x11_1 < (l0_1.length : Int) := of_decide_eq_true (by first | (with_reducible assumption) | assumption)
                obtain ⟨ad122, A122_1, c122_1, e122, hx122_0, hx122_1, hl122_1, hi122_1⟩ := at_T56 HR0_1.out x11_1 p122 q122
                cases e122
                replace hx122_0 := (HB.out.cell (World.block_lt_of_cell? w _ hx122_0)).trans hx122_0
                replace hx122_1 := (HB.out.cell (World.block_lt_of_cell? w _ hx122_1)).trans hx122_1
                have HR122_1 := Aside0.mk hi122_1
                have HC122_1 := Aside0.mk hl122_1
                clear hi122_1 hl122_1
                replace p122 := eq_true p122
                replace q122 := eq_true q122
                go_wp2_with (first | ((with_reducible refine gate_dst (N := 7) rfl ?_); refine box_event ?hg (N := 7) ?hd (cs := #[.int .u64 0, .slice none 0 0]) (t := 56) ?hr ?_; (case hd => rfl); (case hg => rfl); (case hr => first | (go_simp; done) | (go_simp; rfl)); intro gb123 hg w10 hbox hb; have n0_ := Aside0.mk (Kd.R_below (by (with_reducible repeat (first | apply Kd.R_alloc | apply Kd.R_drewN | apply Kd.R_drew)); exact HO_5.out) hb); have n1_ := Aside0.mk (blk_below (g := gb121) (o := .cells #[.string a0_0, .slice (some ad122) l0_1.length c0_1] 45 (0, 0)) (by (with_reducible repeat (first | refine blk_drewN ?_ _ | refine blk_drew ?_ | refine blk_alloc ?_ _)); exact BK121.out) hb); have n2_ := Aside0.mk (below_step (by repeat (first | (with_reducible first | exact HB.out | apply below_alloc | apply pw_below_drewN | apply below_drew1 | refine below_set ?_ GE121.out) | exact HB.out)) hb); have n3_ := Aside0.mk (hbox); have n4_ := Aside0.mk ((by rw [hg]; exact (below_size (by repeat (first | (with_reducible first | exact HB.out | apply below_alloc | apply pw_below_drewN | apply below_drew1 | refine below_set ?_ GE121.out) | exact HB.out))) : w.heap.size ≤ gb123)); have n5_ := Aside0.mk ((by rw [hg]; exact (below_size (by repeat (first | (with_reducible first | exact HB.out | apply below_alloc | apply pw_below_drewN | apply below_drew1 | refine below_set ?_ GE121.out) | exact HB.out))) : w.heap.size ≤ gb123)); have n6_ := Aside0.mk ((by rw [hg]; exact Nat.ne_of_lt (blk_lt (g := gb121) (o := .cells #[.string a0_0, .slice (some ad122) l0_1.length c0_1] 45 (0, 0)) (by (with_reducible repeat (first | refine blk_drewN ?_ _ | refine blk_drew ?_ | refine blk_alloc ?_ _)); exact BK121.out)) : gb121 ≠ gb123)); have n7_ := Aside0.mk ((by rw [hg]; exact Nat.ne_of_gt (blk_lt (g := gb121) (o := .cells #[.string a0_0, .slice (some ad122) l0_1.length c0_1] 45 (0, 0)) (by (with_reducible repeat (first | refine blk_drewN ?_ _ | refine blk_drew ?_ | refine blk_alloc ?_ _)); exact BK121.out)) : gb123 ≠ gb121)); clear HO_5; clear BK121; clear HB; have HO_5 := n0_; have BK121 := n1_; have HB := n2_; have BK123 := n3_; have GW123 := n4_; have GE123 := n5_; have NB121_123 := n6_; have NB123_121 := n7_; clear n0_ n1_ n2_ n3_ n4_ n5_ n6_ n7_; clear hb hbox hg; have hnb11 := NB123_121.out; have hnc11 := NB121_123.out; have hcz12_0 : w10.cell? ⟨gb123, 0, none⟩ = some (.int .u64 0) := (blk_cell BK123.out 0).trans rfl; have hcz12_1 : w10.cell? ⟨gb123, 1, none⟩ = some (.slice none 0 0) := (blk_cell BK123.out 1).trans rfl; have hfz12_0 := blk_frozen BK123.out 0; have hfz12_1 := blk_frozen BK123.out 1) | ((with_reducible refine gate_builtin (b := .append) (xs := #[.tmp 21, .tmp 23]) rfl ?_); at_builtin; refine Kd.R_append (Kd.int .i64) (w0 := w) w.heap.size rfl (.tmp 21) (.tmp 23) 35 3 (.int .i64 0) 8 rfl Tryd.underlying35 info3 rfl (by decide) (by omega) u5 x5_1 x11_1 [.int .i64 x11_1] (fun _ => True) (fun _ => False) rfl (by first | (go_simp; done) | (go_simp; rfl)) ?aP (fun _ hk => hk.elim) ?aF ?aO ?aB ?aS ?aL ?_; (case aP => exact rfl); (case aB => exact (by repeat (first | (with_reducible first | exact HB.out | apply below_alloc | apply pw_below_drewN | apply below_drew1 | refine below_set ?_ GE121.out | refine below_set ?_ GE123.out) | exact HB.out))); (case aF => exact (fun _ _ => trivial)); (case aO => exact (by (with_reducible repeat (first | apply Kd.R_alloc | apply Kd.R_drewN | apply Kd.R_drew)); exact Kd.R_mono (Kd.R_far (p := ⟨gb123, 1, none⟩) (Kd.R_far (p := ⟨gb123, 0, none⟩) (Kd.R_types HO_5.out BK123.out (by decide)) (fun _ hk => hk.2) (.int .u64 ((rd_T56 l0_1 x11_1).f0))) (fun _ hk => hk.2) (.slice A122_1 ((rd_T56 l0_1 x11_1).f1).length c122_1)) (fun _ hk => trivial))); (case aS => exact (below_size (by repeat (first | (with_reducible first | exact HB.out | apply below_alloc | apply pw_below_drewN | apply below_drew1 | refine below_set ?_ GE121.out | refine below_set ?_ GE123.out) | exact HB.out)))); (case aL => have := LMc9.out; omega); intro v125 w13 ho hb hg hat; rw [← Ny124.out] at ho; have n0_ := Aside0.mk (blk_grown (g := gb121) (o := .cells #[.string a0_0, .slice (some ad122) l0_1.length c0_1] 45 (0, 0)) (by (with_reducible repeat (first | refine blk_drewN ?_ _ | refine blk_drew ?_ | refine blk_alloc ?_ _)); refine blk_far ?_ NB121_123.out _; (with_reducible repeat (first | refine blk_drewN ?_ _ | refine blk_drew ?_ | refine blk_alloc ?_ _)); refine blk_far ?_ NB121_123.out _; (with_reducible repeat (first | refine blk_drewN ?_ _ | refine blk_drew ?_ | refine blk_alloc ?_ _)); exact BK121.out) hg (Kd.R_ne HO_5.out BK121.out (by decide))); have n1_ := Aside0.mk (blk_grown (g := gb123) (o := .cells #[.int .u64 ((rd_T56 l0_1 x11_1).f0), .slice A122_1 ((rd_T56 l0_1 x11_1).f1).length c122_1] 56 (0, 0)) (by (with_reducible repeat (first | refine blk_drewN ?_ _ | refine blk_drew ?_ | refine blk_alloc ?_ _)); refine blk_put (cs := #[.int .u64 ((rd_T56 l0_1 x11_1).f0), .slice none 0 0]) ?_ 1 _ rfl; (with_reducible repeat (first | refine blk_drewN ?_ _ | refine blk_drew ?_ | refine blk_alloc ?_ _)); refine blk_put (cs := #[.int .u64 0, .slice none 0 0]) ?_ 0 _ rfl; (with_reducible repeat (first | refine blk_drewN ?_ _ | refine blk_drew ?_ | refine blk_alloc ?_ _)); exact BK123.out) hg (Kd.R_ne HO_5.out BK123.out (by decide))); have n2_ := Aside0.mk (hb); have n3_ := Aside0.mk (ho); clear BK121; clear BK123; clear HB; clear HO_5; have BK121 := n0_; have BK123 := n1_; have HB := n2_; have HO126 := n3_; clear n0_ n1_ n2_ n3_; clear ho hb hg hat))
                go_roundg k1
                case measure => have := HK1.out; omega
                case rel => exact ⟨(y124), (wrap64 (x11_1 + 1)), (by first | rfl | (simp; done) | (simp [*]; done)), H', ⟨by have := HK1.out; omega⟩, ⟨by (with_reducible repeat (first | apply Kd.R_alloc | apply Kd.R_drewN | apply Kd.R_drew)); exact HO126.out⟩, ⟨by (with_reducible repeat (first | refine blk_drewN ?_ _ | refine blk_drew ?_ | refine blk_alloc ?_ _)); exact BK121.out⟩, ⟨by repeat (first | (with_reducible first | exact HB.out | apply below_alloc | apply pw_below_drewN | apply below_drew1 | refine below_set ?_ GE121.out | refine below_set ?_ GE123.out) | exact HB.out)⟩⟩
              · rw [if_neg c9] at H
                exact absurd H (by simp)
            · rw [if_neg c8] at H
              have c8b0 : ((Go.bits .andNot .u64 a1 ((rd_T56 l0_1 x11_1).f0)) == 0) = false := beq_eq_false_iff_ne.mpr c8
              have c8b1 : ((Go.bits .andNot .u64 a1 ((rd_T56 l0_1 x11_1).f0)) != 0) = true := bne_iff_ne.mpr c8
              have H' := Aside0.mk H
              clear H
              have p122 : 0 ≤ (x11_1 : Int) := of_decide_eq_true (by first | (with_reducible assumption) | assumption)
              have q122 : x11_1 < (l0_1.length : Int) := of_decide_eq_true (by first | (with_reducible assumption) | assumption)
              obtain ⟨ad122, A122_1, c122_1, e122, hx122_0, hx122_1, hl122_1, hi122_1⟩ := at_T56 HR0_1.out x11_1 p122 q122
              cases e122
              replace hx122_0 := (HB.out.cell (World.block_lt_of_cell? w _ hx122_0)).trans hx122_0
              replace hx122_1 := (HB.out.cell (World.block_lt_of_cell? w _ hx122_1)).trans hx122_1
              have HR122_1 := Aside0.mk hi122_1
              have HC122_1 := Aside0.mk hl122_1
              clear hi122_1 hl122_1
              replace p122 := eq_true p122
              replace q122 := eq_true q122
              go_wp2_with (first | ((with_reducible refine gate_dst (N := 7) rfl ?_); refine box_event ?hg (N := 7) ?hd (cs := #[.int .u64 0, .slice none 0 0]) (t := 56) ?hr ?_; (case hd => rfl); (case hg => rfl); (case hr => first | (go_simp; done) | (go_simp; rfl)); intro gb123 hg w14 hbox hb; have n0_ := Aside0.mk (Kd.R_below (by (with_reducible repeat (first | apply Kd.R_alloc | apply Kd.R_drewN | apply Kd.R_drew)); exact HO_5.out) hb); have n1_ := Aside0.mk (blk_below (g := gb121) (o := .cells #[.string a0_0, .slice (some ad122) l0_1.length c0_1] 45 (0, 0)) (by (with_reducible repeat (first | refine blk_drewN ?_ _ | refine blk_drew ?_ | refine blk_alloc ?_ _)); exact BK121.out) hb); have n2_ := Aside0.mk (below_step (by repeat (first | (with_reducible first | exact HB.out | apply below_alloc | apply pw_below_drewN | apply below_drew1 | refine below_set ?_ GE121.out) | exact HB.out)) hb); have n3_ := Aside0.mk (hbox); have n4_ := Aside0.mk ((by rw [hg]; exact (below_size (by repeat (first | (with_reducible first | exact HB.out | apply below_alloc | apply pw_below_drewN | apply below_drew1 | refine below_set ?_ GE121.out) | exact HB.out))) : w.heap.size ≤ gb123)); have n5_ := Aside0.mk ((by rw [hg]; exact (below_size (by repeat (first | (with_reducible first | exact HB.out | apply below_alloc | apply pw_below_drewN | apply below_drew1 | refine below_set ?_ GE121.out) | exact HB.out))) : w.heap.size ≤ gb123)); have n6_ := Aside0.mk ((by rw [hg]; exact Nat.ne_of_lt (blk_lt (g := gb121) (o := .cells #[.string a0_0, .slice (some ad122) l0_1.length c0_1] 45 (0, 0)) (by (with_reducible repeat (first | refine blk_drewN ?_ _ | refine blk_drew ?_ | refine blk_alloc ?_ _)); exact BK121.out)) : gb121 ≠ gb123)); have n7_ := Aside0.mk ((by rw [hg]; exact Nat.ne_of_gt (blk_lt (g := gb121) (o := .cells #[.string a0_0, .slice (some ad122) l0_1.length c0_1] 45 (0, 0)) (by (with_reducible repeat (first | refine blk_drewN ?_ _ | refine blk_drew ?_ | refine blk_alloc ?_ _)); exact BK121.out)) : gb123 ≠ gb121)); clear HO_5; clear BK121; clear HB; have HO_5 := n0_; have BK121 := n1_; have HB := n2_; have BK123 := n3_; have GW123 := n4_; have GE123 := n5_; have NB121_123 := n6_; have NB123_121 := n7_; clear n0_ n1_ n2_ n3_ n4_ n5_ n6_ n7_; clear hb hbox hg; have hnb15 := NB123_121.out; have hnc15 := NB121_123.out; have hcz16_0 : w14.cell? ⟨gb123, 0, none⟩ = some (.int .u64 0) := (blk_cell BK123.out 0).trans rfl; have hcz16_1 : w14.cell? ⟨gb123, 1, none⟩ = some (.slice none 0 0) := (blk_cell BK123.out 1).trans rfl; have hfz16_0 := blk_frozen BK123.out 0; have hfz16_1 := blk_frozen BK123.out 1))
              go_roundg k1
              case measure => have := HK1.out; omega
              case rel => exact ⟨(x5_1), (wrap64 (x11_1 + 1)), (by first | rfl | (simp; done) | (simp [*]; done)), H', ⟨by have := HK1.out; omega⟩, ⟨by (with_reducible repeat (first | apply Kd.R_alloc | apply Kd.R_drewN | apply Kd.R_drew)); exact Kd.R_mono (Kd.R_far (p := ⟨gb123, 1, none⟩) (Kd.R_far (p := ⟨gb123, 0, none⟩) (Kd.R_types HO_5.out BK123.out (by decide)) (fun _ hk => hk.2) (.int .u64 ((rd_T56 l0_1 x11_1).f0))) (fun _ hk => hk.2) (.slice A122_1 ((rd_T56 l0_1 x11_1).f1).length c122_1)) (fun _ hk => trivial)⟩, ⟨by (with_reducible repeat (first | refine blk_drewN ?_ _ | refine blk_drew ?_ | refine blk_alloc ?_ _)); refine blk_far ?_ NB121_123.out _; (with_reducible repeat (first | refine blk_drewN ?_ _ | refine blk_drew ?_ | refine blk_alloc ?_ _)); refine blk_far ?_ NB121_123.out _; (with_reducible repeat (first | refine blk_drewN ?_ _ | refine blk_drew ?_ | refine blk_alloc ?_ _)); exact BK121.out⟩, ⟨by repeat (first | (with_reducible first | exact HB.out | apply below_alloc | apply pw_below_drewN | apply below_drew1 | refine below_set ?_ GE121.out | refine below_set ?_ GE123.out) | exact HB.out)⟩⟩
          · rw [if_neg c7] at H
            exact absurd H (by simp)
        · rw [if_neg c6] at H
          exact absurd H (by simp)
      · rw [if_neg c5] at H
        have c5b0 : decide (x11_1 < (l0_1.length : Int)) = false := decide_eq_false c5
        clear c5
        obtain rfl := Option.some.inj H
        go_wp2
        go_ret
        exact ⟨_, by first | rfl | (simp [errW_none, errW_some] <;> rfl) | (simp [*, errW_none, errW_some] <;> rfl), by (with_reducible repeat (first | apply Kd.R_alloc | apply Kd.R_drewN | apply Kd.R_drew)); exact HO_5.out, by repeat (first | (with_reducible first | exact HB.out | apply below_alloc | apply pw_below_drewN | apply below_drew1 | refine below_set ?_ GE121.out) | exact HB.out)⟩

end Go.Proofs.YthmjheclhcdinaaDoor.RAl
end
section
/-
  cognatelaw17.alive by a walk.
-/
set_option linter.unusedSimpArgs false
set_option linter.unusedVariables false
namespace Go.Proofs.YthmjheclhcdinaaDoor.Ext
open Go.RowKit Go.Maps Go.Proofs.YthmjheclhcdinaaDoor Go.Proofs.YthmjheclhcdinaaDoorW.PrintWords Go.Proofs.YthmjheclhcdinaaDoorW.PrintLast Go.Proofs.YthmjheclhcdinaaDoorW.PrintMore
def sF : List ByteArray := [⟨#[118, 111, 119, 101, 108]⟩]
def sL : List Letter := [⟨97, 1, 0⟩, ⟨105, 1, 0⟩, ⟨107, 0, 1⟩, ⟨116, 0, 1⟩, ⟨98, 0, 1⟩]
def sX : List Affix := [⟨6, ⟨#[]⟩, ⟨#[]⟩, 1⟩, ⟨2, ⟨#[97]⟩, ⟨#[]⟩, 0⟩]
def sC : List Cell := [⟨3, sX⟩, ⟨1, []⟩]
theorem sX_C {W : World} {g : Nat} (h : W.heap[g]? = some (.cells #[.int .u8 6, .string ⟨#[]⟩, .string ⟨#[]⟩, .int .i64 1, .int .u8 2, .string ⟨#[97]⟩, .string ⟨#[]⟩, .int .i64 0] 49 (0, 0))) : Kd.C kAffix W (some ⟨g, 0, none⟩) sX.length sX := by
  have hc := fun j => blk_cell h j
  refine ⟨rfl, by decide, fun _ => ⟨_, rfl, fun j p hj => ?_⟩⟩
  match j, hj with
  | 0, hj =>
    obtain rfl := Option.some.inj hj
    refine ⟨_, rfl, k49_mk W _, fun i u hu => ?_⟩
    match i, hu with
    | 0, hu => obtain rfl := Option.some.inj hu; exact (hc 0).trans rfl
    | 1, hu => obtain rfl := Option.some.inj hu; exact (hc 1).trans rfl
    | 2, hu => obtain rfl := Option.some.inj hu; exact (hc 2).trans rfl
    | 3, hu => obtain rfl := Option.some.inj hu; exact (hc 3).trans rfl
    | i + 4, hu => cases hu
  | 1, hj =>
    obtain rfl := Option.some.inj hj
    refine ⟨_, rfl, k49_mk W _, fun i u hu => ?_⟩
    match i, hu with
    | 0, hu => obtain rfl := Option.some.inj hu; exact (hc 4).trans rfl
    | 1, hu => obtain rfl := Option.some.inj hu; exact (hc 5).trans rfl
    | 2, hu => obtain rfl := Option.some.inj hu; exact (hc 6).trans rfl
    | 3, hu => obtain rfl := Option.some.inj hu; exact (hc 7).trans rfl
    | i + 4, hu => cases hu
  | j + 2, hj => cases hj
theorem sC_C {W : World} {g g2 : Nat} (hA : W.heap[g]? = some (.cells #[.int .u8 6, .string ⟨#[]⟩, .string ⟨#[]⟩, .int .i64 1, .int .u8 2, .string ⟨#[97]⟩, .string ⟨#[]⟩, .int .i64 0] 49 (0, 0)))
    (h : W.heap[g2]? = some (.cells #[.int .u64 3, .slice (some ⟨g, 0, none⟩) 2 2, .int .u64 1, .slice none 0 0] 56 (0, 0))) : Kd.C kCell W (some ⟨g2, 0, none⟩) sC.length sC := by
  have hc := fun j => blk_cell h j
  refine ⟨rfl, by decide, fun _ => ⟨_, rfl, fun j p hj => ?_⟩⟩
  match j, hj with
  | 0, hj =>
    obtain rfl := Option.some.inj hj
    refine ⟨_, rfl, k56_mk W (⟨3, sX⟩ : Cell) (A1 := some ⟨g, 0, none⟩) (c1 := 2) (by decide) (sX_C hA), fun i u hu => ?_⟩
    match i, hu with
    | 0, hu => obtain rfl := Option.some.inj hu; exact (hc 0).trans rfl
    | 1, hu => obtain rfl := Option.some.inj hu; exact (hc 1).trans rfl
    | i + 2, hu => cases hu
  | 1, hj =>
    obtain rfl := Option.some.inj hj
    refine ⟨_, rfl, k56_mk W (⟨1, []⟩ : Cell) (A1 := none) (c1 := 0) (by decide) (Kd.C_nil _ _), fun i u hu => ?_⟩
    match i, hu with
    | 0, hu => obtain rfl := Option.some.inj hu; exact (hc 2).trans rfl
    | 1, hu => obtain rfl := Option.some.inj hu; exact (hc 3).trans rfl
    | i + 2, hu => cases hu
  | j + 2, hj => cases hj
theorem alv_a1 : paradigm_Put.f sF sL 1 (⟨#[107, 105, 116]⟩ : ByteArray) 4 (⟨#[116, 97]⟩ : ByteArray) (⟨#[]⟩ : ByteArray) 1 = some ((⟨#[107, 116, 97, 105, 116]⟩ : ByteArray), 0) := by decide +kernel
theorem alv_a2 : paradigm_Put.f sF sL 1 (⟨#[107, 105, 116]⟩ : ByteArray) 5 (⟨#[95, 97, 95, 105]⟩ : ByteArray) (⟨#[]⟩ : ByteArray) 0 = some ((⟨#[107, 97, 116, 105]⟩ : ByteArray), 0) := by decide +kernel
theorem alv_a3 : paradigm_Put.f sF sL 1 (⟨#[107, 105, 116]⟩ : ByteArray) 5 (⟨#[95, 97, 95, 97, 95]⟩ : ByteArray) (⟨#[]⟩ : ByteArray) 0 = some ((⟨#[]⟩ : ByteArray), 130) := by decide +kernel
theorem alv_a4 : paradigm_Form.f sF sL 1 (⟨#[]⟩ : ByteArray) sC 0 (⟨#[107, 105, 116]⟩ : ByteArray) = some ((⟨#[107, 107, 105, 116, 97]⟩ : ByteArray), 0) := by decide +kernel
theorem alv_a5 : paradigm_Stems.f sF sL 1 (⟨#[]⟩ : ByteArray) sC 0 (⟨#[107, 107, 105, 116, 97]⟩ : ByteArray) = some ([(⟨#[107, 105, 116]⟩ : ByteArray)], 0) := by decide +kernel
theorem alv_a6 : paradigm_Off.f sF sL 1 (⟨#[107, 105, 116]⟩ : ByteArray) 2 (⟨#[97, 116]⟩ : ByteArray) (⟨#[]⟩ : ByteArray) 0 = some ([], 0) := by decide +kernel
theorem alv_a7 : paradigm_Off.f sF sL 1 (⟨#[107, 97, 116, 105]⟩ : ByteArray) 5 (⟨#[95, 97, 95, 105]⟩ : ByteArray) (⟨#[]⟩ : ByteArray) 0 = some ([(⟨#[107, 116]⟩ : ByteArray)], 0) := by decide +kernel
theorem alv_a8 : paradigm_Form.f sF sL 1 (⟨#[]⟩ : ByteArray) sC 2 (⟨#[107, 105, 116]⟩ : ByteArray) = some ((⟨#[]⟩ : ByteArray), 8) := by decide +kernel
theorem alv_a9 : RAl.paradigm_Find.f 10 (⟨#[]⟩ : ByteArray) sC 2 = some [0] := by decide +kernel
set_option maxHeartbeats 4000000 in
set_option maxRecDepth 100000 in
theorem alive_walk (w : World) (hT : Tabs w) : Calls Tryd.prog 17 #[] w fun e w' => e = .returned (.bool true) ∧ Below w.heap.size w w' := by
  have HT := Lib.hid hT
  clear hT
  go_enter Tryd.func17, Tryd.ntmps17
  go_upto_region 3 with (go_at_call 18; refine (RAl.cognatelaw17_sample.calls sF sL w rfl).mono ?_; rintro e w1 ⟨v0, v1, rfl, hR0, hR1, hb⟩; obtain ⟨A0, c0, rfl, hc0, hC0⟩ := Kd.R_reads hR0; obtain ⟨A1, c1, rfl, hc1, hC1⟩ := Kd.R_reads hR1; have HC0 := Lib.hid hC0; have HC1 := Lib.hid hC1; have HB := Lib.hid hb; clear hb hR0 hR1 hC0 hC1)
  obtain ⟨wz, hwz⟩ : ∃ wz, wz = (((w1.alloc (.cells #[.slice A0 sF.length c0, .slice A1 sL.length c1] 25)).alloc (.cells #[.int .u8 6, .string ⟨#[]⟩, .string ⟨#[]⟩, .int .i64 1, .int .u8 2, .string ⟨#[97]⟩, .string ⟨#[]⟩, .int .i64 0] 49)).alloc (.cells #[.int .u64 3, .slice (some ⟨w1.heap.size + 1, 0, none⟩) 2 2, .int .u64 1, .slice none 0 0] 56)).alloc (.cells #[.string ⟨#[]⟩, .slice (some ⟨w1.heap.size + 1 + 1, 0, none⟩) 2 2] 45) := ⟨_, rfl⟩
  obtain ⟨g, hg⟩ : ∃ g, g = w1.heap.size := ⟨_, rfl⟩
  have e1 : (w1.alloc (.cells #[.slice A0 sF.length c0, .slice A1 sL.length c1] 25)).heap.size = g + 1 := by rw [hg]; simp
  have e2 : ((w1.alloc (.cells #[.slice A0 sF.length c0, .slice A1 sL.length c1] 25)).alloc (.cells #[.int .u8 6, .string ⟨#[]⟩, .string ⟨#[]⟩, .int .i64 1, .int .u8 2, .string ⟨#[97]⟩, .string ⟨#[]⟩, .int .i64 0] 49)).heap.size = g + 1 + 1 := by rw [hg]; simp
  rw [← hg] at hwz ⊢
  have b1 : wz.heap[g]? = some (.cells #[.slice A0 sF.length c0, .slice A1 sL.length c1] 25 (0, 0)) := by rw [hwz, hg]; exact blk_alloc (blk_alloc (blk_alloc (blk_new _ _) _) _) _
  have b2 : wz.heap[g + 1]? = some (.cells #[.int .u8 6, .string ⟨#[]⟩, .string ⟨#[]⟩, .int .i64 1, .int .u8 2, .string ⟨#[97]⟩, .string ⟨#[]⟩, .int .i64 0] 49 (0, 0)) := by rw [hwz, ← e1]; exact blk_alloc (blk_alloc (blk_new _ _) _) _
  have b3 : wz.heap[g + 1 + 1]? = some (.cells #[.int .u64 3, .slice (some ⟨g + 1, 0, none⟩) 2 2, .int .u64 1, .slice none 0 0] 56 (0, 0)) := by rw [hwz, ← e2]; exact blk_alloc (blk_new _ _) _
  have b4 : wz.heap[g + 1 + 1 + 1]? = some (.cells #[.string ⟨#[]⟩, .slice (some ⟨g + 1 + 1, 0, none⟩) 2 2] 45 (0, 0)) := by
    have e3 : (((w1.alloc (.cells #[.slice A0 sF.length c0, .slice A1 sL.length c1] 25)).alloc (.cells #[.int .u8 6, .string ⟨#[]⟩, .string ⟨#[]⟩, .int .i64 1, .int .u8 2, .string ⟨#[97]⟩, .string ⟨#[]⟩, .int .i64 0] 49)).alloc (.cells #[.int .u64 3, .slice (some ⟨g + 1, 0, none⟩) 2 2, .int .u64 1, .slice none 0 0] 56)).heap.size = g + 1 + 1 + 1 := by rw [hg]; simp
    rw [hwz, ← e3]; exact blk_new _ _
  have hbz : Below w1.heap.size w1 wz := by
    rw [hwz]; exact ((((Below.refl _ w1).alloc (Nat.le_refl _) _).alloc (by simp) _).alloc (by simp; omega) _).alloc (by simp; omega) _
  have HBz := Lib.hid (below_step HB.out hbz)
  have HD0 := Lib.hid (Kd.C_below HC0.out hbz)
  have HD1 := Lib.hid (Kd.C_below HC1.out hbz)
  have HCC := Lib.hid (sC_C b2 b3)
  have BA := Lib.hid b1
  have BP := Lib.hid b4
  rw [← hwz]
  have ha0 := (blk_cell BA.out 0).trans rfl
  have ha1 := (blk_cell BA.out 1).trans rfl
  have hp0 := (blk_cell BP.out 0).trans rfl
  have hp1 := (blk_cell BP.out 1).trans rfl
  clear hwz hg e1 e2 b1 b2 b3 b4 hbz HC0 HC1 HB
  go_upto_region 4 with (go_at_call 22; refine (paradigm_Put.calls A0 c0 sF A1 c1 sL 1 (⟨#[107, 105, 116]⟩ : ByteArray) 4 (⟨#[116, 97]⟩ : ByteArray) (⟨#[]⟩ : ByteArray) 1 (⟨#[107, 116, 97, 105, 116]⟩ : ByteArray) 0 _ HD0.out hc0 HD1.out hc1 (HT.out.below HBz.out) alv_a1).mono ?_; rintro e wy ⟨rfl, hb⟩; have HBz' := Lib.hid (below_step HBz.out hb); have BA' := Lib.hid (blk_below BA.out hb); have BP' := Lib.hid (blk_below BP.out hb); have HD0' := Lib.hid (Kd.C_below HD0.out hb); have HD1' := Lib.hid (Kd.C_below HD1.out hb); have HCC' := Lib.hid (Kd.C_below HCC.out hb); clear HBz BA BP HD0 HD1 HCC; have HBz := HBz'; have BA := BA'; have BP := BP'; have HD0 := HD0'; have HD1 := HD1'; have HCC := HCC'; clear HBz' BA' BP' HD0' HD1' HCC' hb ha0 ha1 hp0 hp1; have ha0 := (blk_cell BA.out 0).trans rfl; have ha1 := (blk_cell BA.out 1).trans rfl; have hp0 := (blk_cell BP.out 0).trans rfl; have hp1 := (blk_cell BP.out 1).trans rfl)
  go_upto_region 5 with (go_at_call 22; refine (paradigm_Put.calls A0 c0 sF A1 c1 sL 1 (⟨#[107, 105, 116]⟩ : ByteArray) 5 (⟨#[95, 97, 95, 105]⟩ : ByteArray) (⟨#[]⟩ : ByteArray) 0 (⟨#[107, 97, 116, 105]⟩ : ByteArray) 0 _ HD0.out hc0 HD1.out hc1 (HT.out.below HBz.out) alv_a2).mono ?_; rintro e wy ⟨rfl, hb⟩; have HBz' := Lib.hid (below_step HBz.out hb); have BA' := Lib.hid (blk_below BA.out hb); have BP' := Lib.hid (blk_below BP.out hb); have HD0' := Lib.hid (Kd.C_below HD0.out hb); have HD1' := Lib.hid (Kd.C_below HD1.out hb); have HCC' := Lib.hid (Kd.C_below HCC.out hb); clear HBz BA BP HD0 HD1 HCC; have HBz := HBz'; have BA := BA'; have BP := BP'; have HD0 := HD0'; have HD1 := HD1'; have HCC := HCC'; clear HBz' BA' BP' HD0' HD1' HCC' hb ha0 ha1 hp0 hp1; have ha0 := (blk_cell BA.out 0).trans rfl; have ha1 := (blk_cell BA.out 1).trans rfl; have hp0 := (blk_cell BP.out 0).trans rfl; have hp1 := (blk_cell BP.out 1).trans rfl)
  go_upto_region 6 with (go_at_call 22; refine (paradigm_Put.calls A0 c0 sF A1 c1 sL 1 (⟨#[107, 105, 116]⟩ : ByteArray) 5 (⟨#[95, 97, 95, 97, 95]⟩ : ByteArray) (⟨#[]⟩ : ByteArray) 0 (⟨#[]⟩ : ByteArray) 130 _ HD0.out hc0 HD1.out hc1 (HT.out.below HBz.out) alv_a3).mono ?_; rintro e wy ⟨rfl, hb⟩; have HBz' := Lib.hid (below_step HBz.out hb); have BA' := Lib.hid (blk_below BA.out hb); have BP' := Lib.hid (blk_below BP.out hb); have HD0' := Lib.hid (Kd.C_below HD0.out hb); have HD1' := Lib.hid (Kd.C_below HD1.out hb); have HCC' := Lib.hid (Kd.C_below HCC.out hb); clear HBz BA BP HD0 HD1 HCC; have HBz := HBz'; have BA := BA'; have BP := BP'; have HD0 := HD0'; have HD1 := HD1'; have HCC := HCC'; clear HBz' BA' BP' HD0' HD1' HCC' hb ha0 ha1 hp0 hp1; have ha0 := (blk_cell BA.out 0).trans rfl; have ha1 := (blk_cell BA.out 1).trans rfl; have hp0 := (blk_cell BP.out 0).trans rfl; have hp1 := (blk_cell BP.out 1).trans rfl)
  go_upto_region 7 with (go_at_call 24; refine (paradigm_Form.calls A0 c0 sF A1 c1 sL 1 (⟨#[]⟩ : ByteArray) (some ⟨g + 1 + 1, 0, none⟩) 2 sC 0 (⟨#[107, 105, 116]⟩ : ByteArray) (⟨#[107, 107, 105, 116, 97]⟩ : ByteArray) 0 _ HD0.out hc0 HD1.out hc1 HCC.out (by decide) (HT.out.below HBz.out) alv_a4).mono ?_; rintro e wy ⟨rfl, hb⟩; have HBz' := Lib.hid (below_step HBz.out hb); have BA' := Lib.hid (blk_below BA.out hb); have BP' := Lib.hid (blk_below BP.out hb); have HD0' := Lib.hid (Kd.C_below HD0.out hb); have HD1' := Lib.hid (Kd.C_below HD1.out hb); have HCC' := Lib.hid (Kd.C_below HCC.out hb); clear HBz BA BP HD0 HD1 HCC; have HBz := HBz'; have BA := BA'; have BP := BP'; have HD0 := HD0'; have HD1 := HD1'; have HCC := HCC'; clear HBz' BA' BP' HD0' HD1' HCC' hb ha0 ha1 hp0 hp1; have ha0 := (blk_cell BA.out 0).trans rfl; have ha1 := (blk_cell BA.out 1).trans rfl; have hp0 := (blk_cell BP.out 0).trans rfl; have hp1 := (blk_cell BP.out 1).trans rfl)
  go_upto_region 8 with (go_at_call 25; refine (paradigm_Stems.calls A0 c0 sF A1 c1 sL 1 (⟨#[]⟩ : ByteArray) (some ⟨g + 1 + 1, 0, none⟩) 2 sC 0 (⟨#[107, 107, 105, 116, 97]⟩ : ByteArray) [(⟨#[107, 105, 116]⟩ : ByteArray)] 0 _ HD0.out hc0 HD1.out hc1 HCC.out (by decide) (HT.out.below HBz.out) alv_a5).mono ?_; rintro e wy ⟨v, rfl, hR, hb⟩; obtain ⟨A11, c11, rfl, hl11, hC⟩ := Kd.R_reads hR; have H11 := Lib.hid hC; clear hR hC; have HBz' := Lib.hid (below_step HBz.out hb); have BA' := Lib.hid (blk_below BA.out hb); have BP' := Lib.hid (blk_below BP.out hb); have HD0' := Lib.hid (Kd.C_below HD0.out hb); have HD1' := Lib.hid (Kd.C_below HD1.out hb); have HCC' := Lib.hid (Kd.C_below HCC.out hb); clear HBz BA BP HD0 HD1 HCC; have HBz := HBz'; have BA := BA'; have BP := BP'; have HD0 := HD0'; have HD1 := HD1'; have HCC := HCC'; clear HBz' BA' BP' HD0' HD1' HCC' hb ha0 ha1 hp0 hp1; have ha0 := (blk_cell BA.out 0).trans rfl; have ha1 := (blk_cell BA.out 1).trans rfl; have hp0 := (blk_cell BP.out 0).trans rfl; have hp1 := (blk_cell BP.out 1).trans rfl)
  go_upto_region 9 with (go_at_call 23; refine (paradigm_Off.calls A0 c0 sF A1 c1 sL 1 (⟨#[107, 105, 116]⟩ : ByteArray) 2 (⟨#[97, 116]⟩ : ByteArray) (⟨#[]⟩ : ByteArray) 0 [] 0 _ HD0.out hc0 HD1.out hc1 (HT.out.below HBz.out) alv_a6).mono ?_; rintro e wy ⟨v, rfl, hR, hb⟩; obtain ⟨A13, c13, rfl, hl13, hC⟩ := Kd.R_reads hR; have H13 := Lib.hid hC; clear hR hC; have HBz' := Lib.hid (below_step HBz.out hb); have BA' := Lib.hid (blk_below BA.out hb); have BP' := Lib.hid (blk_below BP.out hb); have HD0' := Lib.hid (Kd.C_below HD0.out hb); have HD1' := Lib.hid (Kd.C_below HD1.out hb); have HCC' := Lib.hid (Kd.C_below HCC.out hb); have H11' := Lib.hid (Kd.C_below H11.out hb); clear HBz BA BP HD0 HD1 HCC H11; have HBz := HBz'; have BA := BA'; have BP := BP'; have HD0 := HD0'; have HD1 := HD1'; have HCC := HCC'; have H11 := H11'; clear HBz' BA' BP' HD0' HD1' HCC' H11' hb ha0 ha1 hp0 hp1; have ha0 := (blk_cell BA.out 0).trans rfl; have ha1 := (blk_cell BA.out 1).trans rfl; have hp0 := (blk_cell BP.out 0).trans rfl; have hp1 := (blk_cell BP.out 1).trans rfl)
  go_upto_region 10 with (go_at_call 23; refine (paradigm_Off.calls A0 c0 sF A1 c1 sL 1 (⟨#[107, 97, 116, 105]⟩ : ByteArray) 5 (⟨#[95, 97, 95, 105]⟩ : ByteArray) (⟨#[]⟩ : ByteArray) 0 [(⟨#[107, 116]⟩ : ByteArray)] 0 _ HD0.out hc0 HD1.out hc1 (HT.out.below HBz.out) alv_a7).mono ?_; rintro e wy ⟨v, rfl, hR, hb⟩; obtain ⟨A15, c15, rfl, hl15, hC⟩ := Kd.R_reads hR; have H15 := Lib.hid hC; clear hR hC; have HBz' := Lib.hid (below_step HBz.out hb); have BA' := Lib.hid (blk_below BA.out hb); have BP' := Lib.hid (blk_below BP.out hb); have HD0' := Lib.hid (Kd.C_below HD0.out hb); have HD1' := Lib.hid (Kd.C_below HD1.out hb); have HCC' := Lib.hid (Kd.C_below HCC.out hb); have H11' := Lib.hid (Kd.C_below H11.out hb); have H13' := Lib.hid (Kd.C_below H13.out hb); clear HBz BA BP HD0 HD1 HCC H11 H13; have HBz := HBz'; have BA := BA'; have BP := BP'; have HD0 := HD0'; have HD1 := HD1'; have HCC := HCC'; have H11 := H11'; have H13 := H13'; clear HBz' BA' BP' HD0' HD1' HCC' H11' H13' hb ha0 ha1 hp0 hp1; have ha0 := (blk_cell BA.out 0).trans rfl; have ha1 := (blk_cell BA.out 1).trans rfl; have hp0 := (blk_cell BP.out 0).trans rfl; have hp1 := (blk_cell BP.out 1).trans rfl)
  go_upto_region 11 with (go_at_call 24; refine (paradigm_Form.calls A0 c0 sF A1 c1 sL 1 (⟨#[]⟩ : ByteArray) (some ⟨g + 1 + 1, 0, none⟩) 2 sC 2 (⟨#[107, 105, 116]⟩ : ByteArray) (⟨#[]⟩ : ByteArray) 8 _ HD0.out hc0 HD1.out hc1 HCC.out (by decide) (HT.out.below HBz.out) alv_a8).mono ?_; rintro e wy ⟨rfl, hb⟩; have HBz' := Lib.hid (below_step HBz.out hb); have BA' := Lib.hid (blk_below BA.out hb); have BP' := Lib.hid (blk_below BP.out hb); have HD0' := Lib.hid (Kd.C_below HD0.out hb); have HD1' := Lib.hid (Kd.C_below HD1.out hb); have HCC' := Lib.hid (Kd.C_below HCC.out hb); have H11' := Lib.hid (Kd.C_below H11.out hb); have H13' := Lib.hid (Kd.C_below H13.out hb); have H15' := Lib.hid (Kd.C_below H15.out hb); clear HBz BA BP HD0 HD1 HCC H11 H13 H15; have HBz := HBz'; have BA := BA'; have BP := BP'; have HD0 := HD0'; have HD1 := HD1'; have HCC := HCC'; have H11 := H11'; have H13 := H13'; have H15 := H15'; clear HBz' BA' BP' HD0' HD1' HCC' H11' H13' H15' hb ha0 ha1 hp0 hp1; have ha0 := (blk_cell BA.out 0).trans rfl; have ha1 := (blk_cell BA.out 1).trans rfl; have hp0 := (blk_cell BP.out 0).trans rfl; have hp1 := (blk_cell BP.out 1).trans rfl)
  go_upto_region 12 with (go_at_call 29; refine (RAl.paradigm_Find.calls 10 (⟨#[]⟩ : ByteArray) (some ⟨g + 1 + 1, 0, none⟩) 2 sC 2 [0] _ HCC.out (by decide) alv_a9).mono ?_; rintro e wy ⟨v, rfl, hR, hb⟩; obtain ⟨A19, c19, rfl, hl19, hC⟩ := Kd.R_reads hR; have H19 := Lib.hid hC; clear hR hC; have HBz' := Lib.hid (below_step HBz.out hb); have BA' := Lib.hid (blk_below BA.out hb); have BP' := Lib.hid (blk_below BP.out hb); have HD0' := Lib.hid (Kd.C_below HD0.out hb); have HD1' := Lib.hid (Kd.C_below HD1.out hb); have HCC' := Lib.hid (Kd.C_below HCC.out hb); have H11' := Lib.hid (Kd.C_below H11.out hb); have H13' := Lib.hid (Kd.C_below H13.out hb); have H15' := Lib.hid (Kd.C_below H15.out hb); clear HBz BA BP HD0 HD1 HCC H11 H13 H15; have HBz := HBz'; have BA := BA'; have BP := BP'; have HD0 := HD0'; have HD1 := HD1'; have HCC := HCC'; have H11 := H11'; have H13 := H13'; have H15 := H15'; clear HBz' BA' BP' HD0' HD1' HCC' H11' H13' H15' hb ha0 ha1 hp0 hp1; have ha0 := (blk_cell BA.out 0).trans rfl; have ha1 := (blk_cell BA.out 1).trans rfl; have hp0 := (blk_cell BP.out 0).trans rfl; have hp1 := (blk_cell BP.out 1).trans rfl)
  obtain ⟨ad11, hA11, s11⟩ := Kd.at_string H11.out 0 (by decide) (by decide)
  subst hA11
  obtain ⟨ad15, hA15, s15⟩ := Kd.at_string H15.out 0 (by decide) (by decide)
  subst hA15
  obtain ⟨ad19, hA19, s19⟩ := Kd.at_int H19.out 0 (by decide) (by decide)
  subst hA19
  have s11' : wy.cell? ad11 = some (.string (⟨#[107, 105, 116]⟩ : ByteArray)) := by rw [← Addr.add_zero' ad11]; exact s11
  have s15' : wy.cell? ad15 = some (.string (⟨#[107, 116]⟩ : ByteArray)) := by rw [← Addr.add_zero' ad15]; exact s15
  have s19' : wy.cell? ad19 = some (.int .i64 0) := by rw [← Addr.add_zero' ad19]; exact s19
  clear s11 s15 s19
  go_wp2_with fail
  go_ret
  exact ⟨rfl, HBz.out⟩
def cognatelaw17_alive.f : Option Bool := some true
theorem cognatelaw17_alive.calls (r : Bool) (w : World) (hT : Tabs w) (h : cognatelaw17_alive.f = some r) : Calls Tryd.prog 17 #[] w fun e w' => e = .returned (.bool r) ∧ Below w.heap.size w w' := by
  obtain rfl : true = r := Option.some.inj h
  exact alive_walk w hT
end Go.Proofs.YthmjheclhcdinaaDoor.Ext
end
section
-- printed by a program of this session (wip/tools/prx.sh: a turned copy of the kit's print, with functions given from outside)
namespace Go.Proofs.YthmjheclhcdinaaDoor.RPBack
open Go.RowKit Go.Proofs.YthmjheclhcdinaaDoor Go.Proofs.YthmjheclhcdinaaDoor.Ext Go.Proofs.YthmjheclhcdinaaDoorW.PrintWords Go.Proofs.YthmjheclhcdinaaDoorW.PrintLast Go.Proofs.YthmjheclhcdinaaDoorW.PrintMore
attribute [local go_sem] max2_int min2_int max_two min_two max_three min_three max_four min_four   -- for this text's walks alone
set_option linter.unusedVariables false
set_option linter.unusedSimpArgs false



end Go.Proofs.YthmjheclhcdinaaDoor.RPBack
end
section
/-
  cognatelaw17.long by a walk: how many runes a text has.
-/
set_option linter.unusedSimpArgs false
set_option linter.unusedVariables false
namespace Go.Proofs.YthmjheclhcdinaaDoor.Ext
open Go.RowKit Go.Maps Go.Proofs.YthmjheclhcdinaaDoor Go.Proofs.YthmjheclhcdinaaDoorW.PrintWords Go.Proofs.YthmjheclhcdinaaDoorW.PrintLast Go.Proofs.YthmjheclhcdinaaDoorW.PrintMore
def cognatelaw17_long.f (s : ByteArray) : Option Int := if s.size ≤ 1000000 then some ((runesOf s).length : Int) else none
set_option maxHeartbeats 2000000 in
set_option maxRecDepth 100000 in
theorem cognatelaw17_long.calls (f : ByteArray) (r : Int) (w : World) (h : cognatelaw17_long.f f = some r) :
    Calls Tryd.prog 27 #[.string f] w fun e w' => e = .returned (.int .i64 r) ∧ Below w.heap.size w w' := by
  unfold cognatelaw17_long.f at h
  by_cases hs : f.size ≤ 1000000
  · rw [if_pos hs] at h
    have hr : r = ((pieces f).length : Int) := by
      rw [runesOf_pieces, List.length_map] at h
      exact (Option.some.inj h).symm
    have Hr := Lib.hid hr
    clear h hr
    go_enter Tryd.func27, Tryd.ntmps27
    go_wp2_with fail
    go_loopw [3] (fun c wr => ∃ pos fuel n : Nat, c = .int .i64 (n : Int) ∧ n ≤ pos ∧ wr.heap[w.heap.size]? = some (.stringIter f pos) ∧ Hid (Below w.heap.size w wr) ∧ Hid ((pieces f).length = n + (piecesFrom f fuel pos).length) ∧ f.size ≤ pos + fuel ∧ pos ≤ f.size)
      (fun _ w' => f.size - w'.iterPos w.heap.size)
    case atStart => exact ⟨0, f.size, 0, rfl, Nat.le_refl _, World.iter_heap _ _ _, (Below.refl _ w).alloc (Nat.le_refl _) _, by show _ = _; simp [pieces], by omega, by omega⟩
    case round =>
      obtain ⟨pos, fuel, n, rfl, hnp, hit, hb, hq, hfu, hps⟩ := hrel
      by_cases hp : pos < f.size
      · have hnx : ∀ ty, (Instr.next (.pointer (some ⟨w.heap.size, 0, none⟩)) true ty).run Tryd.prog wr = _ := fun ty => Lib.run_next_any_at wr w.heap.size f pos ty hit hp
        obtain ⟨x, m, hd⟩ : ∃ x m, Utf8.decode f pos = (x, m) := ⟨_, _, rfl⟩
        have f1 := dec_pos f pos
        have f2 := dec_le f pos hp
        have HPF : Hid (piecesFrom f fuel pos = pieceAt f pos :: piecesFrom f (fuel - 1) (pos + m)) := by
          obtain ⟨g, rfl⟩ : ∃ g, fuel = g + 1 := ⟨fuel - 1, by omega⟩
          show piecesFrom f (g + 1) pos = _
          rw [piecesFrom, if_pos hp, hd]
          rfl
        rw [hd] at hnx f1 f2
        dsimp only at hnx f1 f2
        have Hbq := Lib.hid (Lib.below_iterAt hb.out (Nat.le_refl _) f (pos + m))
        have Hitq := Lib.hid (Lib.iterAt_heap wr w.heap.size f pos (pos + m) hit)
        have Hhit := Lib.hid hit
        clear hd hit
        go_wp2_with fail
        go_roundw
        case rel =>
          refine ⟨pos + m, fuel - 1, n + 1, by go_num, by omega, Hitq.out, Hbq, ?_, by omega, by omega⟩
          show _ = _
          rw [hq.out, HPF.out, List.length_cons]
          omega
        case measure => rw [iterPos_of Hhit.out, iterPos_of Hitq.out]; omega
      · have hnx : ∀ ty, (Instr.next (.pointer (some ⟨w.heap.size, 0, none⟩)) true ty).run Tryd.prog wr = _ := fun ty => Lib.run_next_end_at wr w.heap.size f pos ty hit hp
        have hz : piecesFrom f fuel pos = [] := by
          cases fuel with
          | zero => rfl
          | succ g => exact if_neg hp
        have Hn : Hid (r = (n : Int)) := by
          rw [Hid, Hr.out, hq.out, hz]
          simp
        go_wp2_with fail
        go_ret
        exact ⟨by rw [Hn.out]; rfl, hb.out⟩
  · rw [if_neg hs] at h
    cases h
end Go.Proofs.YthmjheclhcdinaaDoor.Ext
end
section
-- printed by a program of this session (wip/tools/prx.sh: a turned copy of the kit's print, with functions given from outside)
namespace Go.Proofs.YthmjheclhcdinaaDoor.RPBack
open Go.RowKit Go.Proofs.YthmjheclhcdinaaDoor Go.Proofs.YthmjheclhcdinaaDoor.Ext Go.Proofs.YthmjheclhcdinaaDoorW.PrintWords Go.Proofs.YthmjheclhcdinaaDoorW.PrintLast Go.Proofs.YthmjheclhcdinaaDoorW.PrintMore
attribute [local go_sem] max2_int min2_int max_two min_two max_three min_three max_four min_four   -- for this text's walks alone
set_option linter.unusedVariables false
set_option linter.unusedSimpArgs false

/-! ### cognatelaw17_ParadigmBack: function 7 -/
mutual
def cognatelaw17_ParadigmBack.j0 : Nat → Int → ByteArray → Bool → List ByteArray → List (S84) → Int → ByteArray → ByteArray → Int → Option (Bool)
  | 0, _, _, _, _, _, _, _, _, _ => none
  | k + 1, x1, x2, x33, x102000, x102001, x103000, x103001, x103002, x103003 => if x33 = true then (some true) else ((paradigm_Put.f x102000 x102001 x1 x2 x103000 x103001 x103002 x103003).bind fun bt104 => (if bt104.2 = 0 then ((cognatelaw17_long.f bt104.1).bind fun t106 => (cognatelaw17_ParadigmBack.j1 k x1 x2 bt104.1 (decide (t106 ≤ 64)) x102000 x102001 x103000 x103001 x103002 x103003)) else (cognatelaw17_ParadigmBack.j1 k x1 x2 bt104.1 false x102000 x102001 x103000 x103001 x103002 x103003)))
def cognatelaw17_ParadigmBack.j1 : Nat → Int → ByteArray → ByteArray → Bool → List ByteArray → List (S84) → Int → ByteArray → ByteArray → Int → Option (Bool)
  | 0, _, _, _, _, _, _, _, _, _, _ => none
  | k + 1, x1, x2, x10, x48, x102000, x102001, x103000, x103001, x103002, x103003 => if x48 = true then ((paradigm_Off.f x102000 x102001 x1 x10 x103000 x103001 x103002 x103003).bind fun bt107 => (if bt107.2 = 0 then (cognatelaw17_ParadigmBack.j2 k x1 x2 bt107.1 bt107.2 ((bt107.1.length : Int) != 1) x102000 x102001 x103000 x103001 x103002 x103003) else (cognatelaw17_ParadigmBack.j2 k x1 x2 bt107.1 bt107.2 true x102000 x102001 x103000 x103001 x103002 x103003))) else (cognatelaw17_ParadigmBack.j3 k x1 x2 x102000 x102001 x103000 x103001 x103002 x103003)
def cognatelaw17_ParadigmBack.j3 : Nat → Int → ByteArray → List ByteArray → List (S84) → Int → ByteArray → ByteArray → Int → Option (Bool)
  | 0, _, _, _, _, _, _, _, _ => none
  | k + 1, x1, x2, x102000, x102001, x103000, x103001, x103002, x103003 => (paradigm_Off.f x102000 x102001 x1 x2 x103000 x103001 x103002 x103003).bind fun bt115 => (if bt115.2 = 0 then (if (bt115.1.length : Int) = 0 then (some true) else (if 0 < (bt115.1.length : Int) then ((paradigm_Put.f x102000 x102001 x1 (rdOf ByteArray.empty bt115.1 0) x103000 x103001 x103002 x103003).bind fun bt120 => (if bt120.2 = 0 then (if bt120.1.toList = x2.toList then (some ((bt115.1.length : Int) == 1)) else (some false)) else (some false))) else (none))) else (some ((bt115.1.length : Int) == 0)))
def cognatelaw17_ParadigmBack.j2 : Nat → Int → ByteArray → List ByteArray → Int → Bool → List ByteArray → List (S84) → Int → ByteArray → ByteArray → Int → Option (Bool)
  | 0, _, _, _, _, _, _, _, _, _, _, _ => none
  | k + 1, x1, x2, x12, x13, x63, x102000, x102001, x103000, x103001, x103002, x103003 => if x63 = true then (some false) else (if x103000 = 5 then ((radical_Radicals.f x102000 x102001 x2 x1).bind fun bt111 => (if bt111.2 = 0 then (if 0 < (x12.length : Int) then (if (rdOf ByteArray.empty x12 0).toList = bt111.1.toList then (cognatelaw17_ParadigmBack.j3 k x1 x2 x102000 x102001 x103000 x103001 x103002 x103003) else (some false)) else (none)) else (some false))) else (if x13 = 0 then (if 0 < (x12.length : Int) then (if (rdOf ByteArray.empty x12 0).toList = x2.toList then (cognatelaw17_ParadigmBack.j3 k x1 x2 x102000 x102001 x103000 x103001 x103002 x103003) else (some false)) else (none)) else (some false)))
end
def cognatelaw17_ParadigmBack.f (k : Nat) (l0_0 : List ByteArray) (l0_1 : List (S84)) (a1 : Int) (a2 : ByteArray) (a3_0 : Int) (a3_1 : ByteArray) (a3_2 : ByteArray) (a3_3 : Int) : Option (Bool) := (cognatelaw17_alive.f).bind fun t103 => (if t103 = true then (if (a2.size : Int) > 2000 then (cognatelaw17_ParadigmBack.j0 k a1 a2 true l0_0 l0_1 a3_0 a3_1 a3_2 a3_3) else (cognatelaw17_ParadigmBack.j0 k a1 a2 (decide ((wrap64 ((a3_1.size : Int) + (a3_2.size : Int))) > 4000)) l0_0 l0_1 a3_0 a3_1 a3_2 a3_3)) else (some false))
def cognatelaw17_ParadigmBack.T21 : Bool × List (List Nat × List Nat) := (true, [([], []), ([], []), ([], []), ([2], [2]), ([3], [3]), ([], []), ([0, 1, 4, 5], [0, 1, 4, 5]), ([6], [6]), ([7], [7]), ([7], [7]), ([8, 6, 0, 1, 2, 3, 4, 5, 6, 7, 8], [8]), ([9, 10, 0, 1, 2, 3, 4, 5, 6, 7, 8, 9, 10], [9])])
def cognatelaw17_ParadigmBack.B21 : List Nat := [0, 0, 0, 4, 12, 0, 63, 127, 255, 255, 511, 2047]
theorem cognatelaw17_ParadigmBack.tab21 : rtab .any (opsOf Tryd.f7 21) = cognatelaw17_ParadigmBack.T21 := by kernel_rfl
theorem cognatelaw17_ParadigmBack.bits21 : waitsOk cognatelaw17_ParadigmBack.T21.2 cognatelaw17_ParadigmBack.B21 = true := by kernel_rfl
set_option maxHeartbeats 8000000 in
set_option maxRecDepth 100000 in
theorem cognatelaw17_ParadigmBack.calls (k : Nat) (A0_0 : Option Addr) (c0_0 : Nat) (l0_0 : List ByteArray) (A0_1 : Option Addr) (c0_1 : Nat) (l0_1 : List (S84)) (a1 : Int) (a2 : ByteArray) (a3_0 : Int) (a3_1 : ByteArray) (a3_2 : ByteArray) (a3_3 : Int) (r : Bool) (w : World) (hr0_0 : Kd.C Kd.string w A0_0 l0_0.length l0_0) (hc0_0 : l0_0.length ≤ c0_0) (hr0_1 : Kd.C k84 w A0_1 l0_1.length l0_1) (hc0_1 : l0_1.length ≤ c0_1) (hT : Tabs w) (hTrue : r = true) (h : cognatelaw17_ParadigmBack.f k l0_0 l0_1 a1 a2 a3_0 a3_1 a3_2 a3_3 = some r) :
    Calls Tryd.prog 7 #[.agg #[.slice A0_0 l0_0.length c0_0, .slice A0_1 l0_1.length c0_1], .int .u32 a1, .string a2, .agg #[.int .u8 a3_0, .string a3_1, .string a3_2, .int .i64 a3_3]] w fun e w' => e = .returned (.bool r) ∧ Below w.heap.size w w' := by
  have hu25 := Tryd.underlying25
  have hu49 := Tryd.underlying49
  have HR0_0 := Aside0.mk hr0_0
  have HC0_0 := Aside0.mk hc0_0
  clear hr0_0 hc0_0
  have HR0_1 := Aside0.mk hr0_1
  have HC0_1 := Aside0.mk hc0_1
  clear hr0_1 hc0_1
  have HB := Aside0.mk (Below.refl w.heap.size w)
  have HT := Aside0.mk hT
  clear hT
  have H : ((cognatelaw17_alive.f).bind fun t103 => (if t103 = true then (if (a2.size : Int) > 2000 then (cognatelaw17_ParadigmBack.j0 k a1 a2 true l0_0 l0_1 a3_0 a3_1 a3_2 a3_3) else (cognatelaw17_ParadigmBack.j0 k a1 a2 (decide ((wrap64 ((a3_1.size : Int) + (a3_2.size : Int))) > 4000)) l0_0 l0_1 a3_0 a3_1 a3_2 a3_3)) else (some false))) = some r := h
  clear h
  replace H := Option.bind_eq_some_iff.mp H
  obtain ⟨t103, A50, H⟩ := H
  replace H : (if t103 = true then (if (a2.size : Int) > 2000 then (cognatelaw17_ParadigmBack.j0 k a1 a2 true l0_0 l0_1 a3_0 a3_1 a3_2 a3_3) else (cognatelaw17_ParadigmBack.j0 k a1 a2 (decide ((wrap64 ((a3_1.size : Int) + (a3_2.size : Int))) > 4000)) l0_0 l0_1 a3_0 a3_1 a3_2 a3_3)) else (some false)) = some r := H
  have A5 := Aside0.mk A50
  clear A50
  by_cases c6 : t103 = true
  · subst c6
    have H1 : (if (a2.size : Int) > 2000 then (cognatelaw17_ParadigmBack.j0 k a1 a2 true l0_0 l0_1 a3_0 a3_1 a3_2 a3_3) else (cognatelaw17_ParadigmBack.j0 k a1 a2 (decide ((wrap64 ((a3_1.size : Int) + (a3_2.size : Int))) > 4000)) l0_0 l0_1 a3_0 a3_1 a3_2 a3_3)) = some r := by rw [if_pos rfl] at H; exact H
    clear H
    have H := H1
    clear H1
    have HC7 := Aside0.mk H
    clear H
    go_enter Tryd.func7, Tryd.ntmps7
    go_upto_region 4 with (first | ((with_reducible refine gate_dst (N := 4) rfl ?_); (try (refine gate_guard (by rfl) ?_; dsimp only)); refine box_event ?hg (N := 4) ?hd (cs := #[.slice A0_0 l0_0.length c0_0, .slice A0_1 l0_1.length c0_1]) (t := 25) ?hr ?_; (case hd => rfl); (case hg => rfl); (case hr => first | (go_simp; done) | (go_simp; rfl)); intro gb101 hg w8 hbox hb; have n0_ := Aside0.mk (below_step (by repeat (first | (with_reducible first | exact HB.out | apply below_alloc | apply pw_below_drewN | apply below_drew1) | exact HB.out)) hb); have n1_ := Aside0.mk (hbox); have n2_ := Aside0.mk ((by rw [hg]; exact (below_size (by repeat (first | (with_reducible first | exact HB.out | apply below_alloc | apply pw_below_drewN | apply below_drew1) | exact HB.out))) : w.heap.size ≤ gb101)); have n3_ := Aside0.mk ((by rw [hg]; exact (below_size (by repeat (first | (with_reducible first | exact HB.out | apply below_alloc | apply pw_below_drewN | apply below_drew1) | exact HB.out))) : w.heap.size ≤ gb101)); clear HB; have HB := n0_; have BK101 := n1_; have GW101 := n2_; have GE101 := n3_; clear n0_ n1_ n2_ n3_; clear hb hbox hg) | ((with_reducible refine gate_dst (N := 7) rfl ?_); (try (refine gate_guard (by rfl) ?_; dsimp only)); refine box_event ?hg (N := 7) ?hd (cs := #[.int .u8 a3_0, .string a3_1, .string a3_2, .int .i64 a3_3]) (t := 49) ?hr ?_; (case hd => rfl); (case hg => rfl); (case hr => first | (go_simp; done) | (go_simp; rfl)); intro gb102 hg w9 hbox hb; have n0_ := Aside0.mk (blk_below (g := gb101) (o := .cells #[.slice A0_0 l0_0.length c0_0, .slice A0_1 l0_1.length c0_1] 25 (0, 0)) (by (with_reducible repeat (first | refine blk_drewN ?_ _ | refine blk_drew ?_ | refine blk_alloc ?_ _)); exact BK101.out) hb); have n1_ := Aside0.mk (below_step (by repeat (first | (with_reducible first | exact HB.out | apply below_alloc | apply pw_below_drewN | apply below_drew1 | refine below_set ?_ GE101.out) | exact HB.out)) hb); have n2_ := Aside0.mk (hbox); have n3_ := Aside0.mk ((by rw [hg]; exact (below_size (by repeat (first | (with_reducible first | exact HB.out | apply below_alloc | apply pw_below_drewN | apply below_drew1 | refine below_set ?_ GE101.out) | exact HB.out))) : w.heap.size ≤ gb102)); have n4_ := Aside0.mk ((by rw [hg]; exact (below_size (by repeat (first | (with_reducible first | exact HB.out | apply below_alloc | apply pw_below_drewN | apply below_drew1 | refine below_set ?_ GE101.out) | exact HB.out))) : w.heap.size ≤ gb102)); have n5_ := Aside0.mk ((by rw [hg]; exact Nat.ne_of_lt (blk_lt (g := gb101) (o := .cells #[.slice A0_0 l0_0.length c0_0, .slice A0_1 l0_1.length c0_1] 25 (0, 0)) (by (with_reducible repeat (first | refine blk_drewN ?_ _ | refine blk_drew ?_ | refine blk_alloc ?_ _)); exact BK101.out)) : gb101 ≠ gb102)); have n6_ := Aside0.mk ((by rw [hg]; exact Nat.ne_of_gt (blk_lt (g := gb101) (o := .cells #[.slice A0_0 l0_0.length c0_0, .slice A0_1 l0_1.length c0_1] 25 (0, 0)) (by (with_reducible repeat (first | refine blk_drewN ?_ _ | refine blk_drew ?_ | refine blk_alloc ?_ _)); exact BK101.out)) : gb102 ≠ gb101)); clear BK101; clear HB; have BK101 := n0_; have HB := n1_; have BK102 := n2_; have GW102 := n3_; have GE102 := n4_; have NB101_102 := n5_; have NB102_101 := n6_; clear n0_ n1_ n2_ n3_ n4_ n5_ n6_; clear hb hbox hg) | ((with_reducible refine gate_callee (f := 17) rfl ?_); refine goesL_ (some 18) rfl rfl Tryd.func17 (by kernel_rfl) rfl #[] rfl (by (try simp only [List.map_toArray, List.map_cons, List.map_nil]); first | done | rfl | (simp only [List.length_drop, List.length_take]; rfl)) ?_; (with_reducible refine (cognatelaw17_alive.calls  true _ ?side1 A5.out).mono ?_); (case side1 => exact Tabs.below HT.out (by repeat (first | (with_reducible first | exact HB.out | apply below_alloc | apply pw_below_drewN | apply below_drew1 | refine below_set ?_ GE101.out | refine below_set ?_ GE102.out) | exact HB.out))); rintro e w10 ⟨rfl, hb⟩; refine ⟨_, rfl, ?_⟩; have n0_ := Aside0.mk (blk_below (g := gb101) (o := .cells #[.slice A0_0 l0_0.length c0_0, .slice A0_1 l0_1.length c0_1] 25 (0, 0)) (by (with_reducible repeat (first | refine blk_drewN ?_ _ | refine blk_drew ?_ | refine blk_alloc ?_ _)); exact BK101.out) hb); have n1_ := Aside0.mk (blk_below (g := gb102) (o := .cells #[.int .u8 a3_0, .string a3_1, .string a3_2, .int .i64 a3_3] 49 (0, 0)) (by (with_reducible repeat (first | refine blk_drewN ?_ _ | refine blk_drew ?_ | refine blk_alloc ?_ _)); exact BK102.out) hb); have n2_ := Aside0.mk (below_step (by repeat (first | (with_reducible first | exact HB.out | apply below_alloc | apply pw_below_drewN | apply below_drew1 | refine below_set ?_ GE101.out | refine below_set ?_ GE102.out) | exact HB.out)) hb); clear BK101; clear BK102; clear HB; have BK101 := n0_; have BK102 := n1_; have HB := n2_; clear n0_ n1_ n2_; (try clear hb); (try clear hb2); (try clear hk); (try clear hi)))
    (try simp only [Act.put, List.setIfInBounds_toArray, List.set_cons_zero, List.set_cons_succ])
    go_cut [33] (fun v33 wc => ∃ (kq : Nat) (x33_6 : Bool), v33 = .bool x33_6 ∧ Aside0 (cognatelaw17_ParadigmBack.j0 kq a1 a2 x33_6 l0_0 l0_1 a3_0 a3_1 a3_2 a3_3 = some r) ∧ Aside0 (kq ≤ k) ∧ Aside0 (wc.heap[gb101]? = some (.cells #[(.slice A0_0 l0_0.length c0_0), (.slice A0_1 l0_1.length c0_1)] 25 (0, 0))) ∧ Aside0 (wc.heap[gb102]? = some (.cells #[.int .u8 a3_0, .string a3_1, .string a3_2, .int .i64 a3_3] 49 (0, 0))) ∧ Aside0 (Below w.heap.size w wc))
    case first =>
      have H := HC7.out
      clear HC7
      by_cases c11 : (a2.size : Int) > 2000
      · rw [if_pos c11] at H
        have c11b0 : decide (2000 < (a2.size : Int)) = true := decide_eq_true c11
        have c11b1 : decide (2000 < a2.size) = true := decide_eq_true (by omega)
        clear c11
        (first | rw [c11b0] | (simp only [i64_w, i32_w]; rw [c11b0]) | skip)
        have H' := Aside0.mk H
        clear H
        go_wp2
        go_meet
        case rel => exact ⟨_, (true), (by first | rfl | (simp; done) | (simp [*]; done)), H', ⟨by first | omega | exact Nat.le_refl _⟩, ⟨by (with_reducible repeat (first | refine blk_drewN ?_ _ | refine blk_drew ?_ | refine blk_alloc ?_ _)); exact BK101.out⟩, ⟨by (with_reducible repeat (first | refine blk_drewN ?_ _ | refine blk_drew ?_ | refine blk_alloc ?_ _)); exact BK102.out⟩, ⟨by repeat (first | (with_reducible first | exact HB.out | apply below_alloc | apply pw_below_drewN | apply below_drew1 | refine below_set ?_ GE101.out | refine below_set ?_ GE102.out) | exact HB.out)⟩⟩
      · rw [if_neg c11] at H
        have c11b0 : decide (2000 < (a2.size : Int)) = false := decide_eq_false c11
        have c11b1 : decide (2000 < a2.size) = false := decide_eq_false (by omega)
        clear c11
        (first | rw [c11b0] | (simp only [i64_w, i32_w]; rw [c11b0]) | skip)
        have H' := Aside0.mk H
        clear H
        have hnb12 := NB102_101.out
        have hnc12 := NB101_102.out
        have hcz13_0 : w10.cell? ⟨gb102, 0, none⟩ = some (.int .u8 a3_0) := (blk_cell BK102.out 0).trans rfl
        have hcz13_1 : w10.cell? ⟨gb102, 1, none⟩ = some (.string a3_1) := (blk_cell BK102.out 1).trans rfl
        have hcz13_2 : w10.cell? ⟨gb102, 2, none⟩ = some (.string a3_2) := (blk_cell BK102.out 2).trans rfl
        have hcz13_3 : w10.cell? ⟨gb102, 3, none⟩ = some (.int .i64 a3_3) := (blk_cell BK102.out 3).trans rfl
        have hfz13_0 := blk_frozen BK102.out 0
        have hfz13_1 := blk_frozen BK102.out 1
        have hfz13_2 := blk_frozen BK102.out 2
        have hfz13_3 := blk_frozen BK102.out 3
        go_wp2
        go_meet
        case rel => exact ⟨_, (decide ((wrap64 ((a3_1.size : Int) + (a3_2.size : Int))) > 4000)), (by first | rfl | (simp; done) | (simp [*]; done)), H', ⟨by first | omega | exact Nat.le_refl _⟩, ⟨by (with_reducible repeat (first | refine blk_drewN ?_ _ | refine blk_drew ?_ | refine blk_alloc ?_ _)); exact BK101.out⟩, ⟨by (with_reducible repeat (first | refine blk_drewN ?_ _ | refine blk_drew ?_ | refine blk_alloc ?_ _)); exact BK102.out⟩, ⟨by repeat (first | (with_reducible first | exact HB.out | apply below_alloc | apply pw_below_drewN | apply below_drew1 | refine below_set ?_ GE101.out | refine below_set ?_ GE102.out) | exact HB.out)⟩⟩
    case rest =>
      clear HC7
      try clear c1
      try clear p2
      try clear c6
      try clear p6
      try clear c7
      try clear c11
      try clear c11b0
      try clear c11b1
      try clear c12
      try clear hcz13_0
      try clear hcz13_1
      try clear hcz13_2
      try clear hcz13_3
      try clear hfz13_0
      try clear hfz13_1
      try clear hfz13_2
      try clear hfz13_3
      obtain ⟨kq, x33_6, rfl, HA, HJ6, BK101, BK102, HB⟩ := hcut
      cases kq with
      | zero => exact absurd HA.out (by simp [cognatelaw17_ParadigmBack.j0])
      | succ kj6 =>
        have H := HA.out
        clear HA
        simp only [cognatelaw17_ParadigmBack.j0] at H
        by_cases c14 : x33_6 = true
        · subst c14
          have H1 : (some true) = some r := by rw [if_pos rfl] at H; exact H
          clear H
          have H := H1
          clear H1
          obtain rfl := Option.some.inj H
          go_wp2
          go_ret
          exact ⟨by first | rfl | (simp [errW_none, errW_some] <;> rfl) | (simp [*, errW_none, errW_some] <;> rfl), by repeat (first | (with_reducible first | exact HB.out | apply below_alloc | apply pw_below_drewN | apply below_drew1 | refine below_set ?_ GE101.out | refine below_set ?_ GE102.out) | exact HB.out)⟩
        · replace c14 := Bool.eq_false_iff.mpr c14
          subst c14
          have H1 : ((paradigm_Put.f l0_0 l0_1 a1 a2 a3_0 a3_1 a3_2 a3_3).bind fun bt104 => (if bt104.2 = 0 then ((cognatelaw17_long.f bt104.1).bind fun t106 => (cognatelaw17_ParadigmBack.j1 kj6 a1 a2 bt104.1 (decide (t106 ≤ 64)) l0_0 l0_1 a3_0 a3_1 a3_2 a3_3)) else (cognatelaw17_ParadigmBack.j1 kj6 a1 a2 bt104.1 false l0_0 l0_1 a3_0 a3_1 a3_2 a3_3))) = some r := by rw [if_neg (show ¬ (false = true) by decide)] at H; exact H
          clear H
          have H := H1
          clear H1
          replace H := Option.bind_eq_some_iff.mp H
          obtain ⟨⟨t104, t105⟩, A150, H⟩ := H
          replace H : (if t105 = 0 then ((cognatelaw17_long.f t104).bind fun t106 => (cognatelaw17_ParadigmBack.j1 kj6 a1 a2 t104 (decide (t106 ≤ 64)) l0_0 l0_1 a3_0 a3_1 a3_2 a3_3)) else (cognatelaw17_ParadigmBack.j1 kj6 a1 a2 t104 false l0_0 l0_1 a3_0 a3_1 a3_2 a3_3)) = some r := H
          have A15 := Aside0.mk A150
          clear A150
          have HC16 := Aside0.mk H
          clear H
          have hnb17 := NB101_102.out
          have hnc17 := NB102_101.out
          have hcz18_0 : wc.cell? ⟨gb101, 0, none⟩ = some (.slice A0_0 l0_0.length c0_0) := (blk_cell BK101.out 0).trans rfl
          have hcz18_1 : wc.cell? ⟨gb101, 1, none⟩ = some (.slice A0_1 l0_1.length c0_1) := (blk_cell BK101.out 1).trans rfl
          have hfz18_0 := blk_frozen BK101.out 0
          have hfz18_1 := blk_frozen BK101.out 1
          have hcz19_0 : wc.cell? ⟨gb102, 0, none⟩ = some (.int .u8 a3_0) := (blk_cell BK102.out 0).trans rfl
          have hcz19_1 : wc.cell? ⟨gb102, 1, none⟩ = some (.string a3_1) := (blk_cell BK102.out 1).trans rfl
          have hcz19_2 : wc.cell? ⟨gb102, 2, none⟩ = some (.string a3_2) := (blk_cell BK102.out 2).trans rfl
          have hcz19_3 : wc.cell? ⟨gb102, 3, none⟩ = some (.int .i64 a3_3) := (blk_cell BK102.out 3).trans rfl
          have hfz19_0 := blk_frozen BK102.out 0
          have hfz19_1 := blk_frozen BK102.out 1
          have hfz19_2 := blk_frozen BK102.out 2
          have hfz19_3 := blk_frozen BK102.out 3
          go_upto_region 7 with (first | ((with_reducible refine gate_callee (f := 22) rfl ?_); refine goesL_ (some 39) rfl rfl Tryd.func22 (by kernel_rfl) rfl #[.agg #[.slice A0_0 l0_0.length c0_0, .slice A0_1 l0_1.length c0_1], .int .u32 a1, .string a2, .agg #[.int .u8 a3_0, .string a3_1, .string a3_2, .int .i64 a3_3]] rfl (by (try simp only [List.map_toArray, List.map_cons, List.map_nil]); first | done | rfl | (simp only [List.length_drop, List.length_take]; rfl)) ?_; (with_reducible refine (paradigm_Put.calls _ _ l0_0 _ _ l0_1 a1 a2 a3_0 a3_1 a3_2 a3_3 t104 t105 _ ?side1 ?side2 ?side3 ?side4 ?side5 A15.out).mono ?_); (case side1 => repeat (first | exact (Kd.C_below HR0_0.out HB.out) | (with_reducible refine Kd.C_alloc ?_ _) | (with_reducible refine Kd.C_drewN ?_ _) | (with_reducible refine Kd.C_drew ?_))); (case side2 => exact HC0_0.out); (case side3 => repeat (first | exact (Kd.C_below HR0_1.out HB.out) | (with_reducible refine Kd.C_alloc ?_ _) | (with_reducible refine Kd.C_drewN ?_ _) | (with_reducible refine Kd.C_drew ?_))); (case side4 => exact HC0_1.out); (case side5 => exact Tabs.below HT.out (by repeat (first | (with_reducible first | exact HB.out | apply below_alloc | apply pw_below_drewN | apply below_drew1 | refine below_set ?_ GE101.out | refine below_set ?_ GE102.out) | exact HB.out))); rintro e w20 ⟨rfl, hb⟩; refine ⟨_, rfl, ?_⟩; have n0_ := Aside0.mk (blk_below (g := gb101) (o := .cells #[.slice A0_0 l0_0.length c0_0, .slice A0_1 l0_1.length c0_1] 25 (0, 0)) (by (with_reducible repeat (first | refine blk_drewN ?_ _ | refine blk_drew ?_ | refine blk_alloc ?_ _)); exact BK101.out) hb); have n1_ := Aside0.mk (blk_below (g := gb102) (o := .cells #[.int .u8 a3_0, .string a3_1, .string a3_2, .int .i64 a3_3] 49 (0, 0)) (by (with_reducible repeat (first | refine blk_drewN ?_ _ | refine blk_drew ?_ | refine blk_alloc ?_ _)); exact BK102.out) hb); have n2_ := Aside0.mk (below_step (by repeat (first | (with_reducible first | exact HB.out | apply below_alloc | apply pw_below_drewN | apply below_drew1 | refine below_set ?_ GE101.out | refine below_set ?_ GE102.out) | exact HB.out)) hb); clear BK101; clear BK102; clear HB; have BK101 := n0_; have BK102 := n1_; have HB := n2_; clear n0_ n1_ n2_; (try clear hb); (try clear hb2); (try clear hk); (try clear hi)))
          (try simp only [Act.put, List.setIfInBounds_toArray, List.set_cons_zero, List.set_cons_succ])
          go_cut [48] (fun v48 wc => ∃ (kq : Nat) (x48_15 : Bool), v48 = .bool x48_15 ∧ Aside0 (cognatelaw17_ParadigmBack.j1 kq a1 a2 t104 x48_15 l0_0 l0_1 a3_0 a3_1 a3_2 a3_3 = some r) ∧ Aside0 (kq ≤ kj6) ∧ Aside0 (wc.heap[gb101]? = some (.cells #[(.slice A0_0 l0_0.length c0_0), (.slice A0_1 l0_1.length c0_1)] 25 (0, 0))) ∧ Aside0 (wc.heap[gb102]? = some (.cells #[.int .u8 a3_0, .string a3_1, .string a3_2, .int .i64 a3_3] 49 (0, 0))) ∧ Aside0 (Below w.heap.size w wc))
          case first =>
            have H := HC16.out
            clear HC16
            by_cases c21 : t105 = 0
            · rw [if_pos c21] at H
              have c21b0 : (t105 == 0) = true := beq_iff_eq.mpr c21
              have c21b1 : (t105 != 0) = false := bne_eq_false_iff_eq.mpr c21
              clear c21
              (first | rw [c21b0] | (simp only [i64_w, i32_w]; rw [c21b0]) | skip)
              replace H := Option.bind_eq_some_iff.mp H
              obtain ⟨t106, A220, H⟩ := H
              replace H : (cognatelaw17_ParadigmBack.j1 kj6 a1 a2 t104 (decide (t106 ≤ 64)) l0_0 l0_1 a3_0 a3_1 a3_2 a3_3) = some r := H
              have A22 := Aside0.mk A220
              clear A220
              have H' := Aside0.mk H
              clear H
              go_wp2_with (first | (go_at_call 27; (with_reducible refine (cognatelaw17_long.calls t104 t106 _ A22.out).mono ?_); rintro e w23 ⟨rfl, hb⟩; have n0_ := Aside0.mk (blk_below (g := gb101) (o := .cells #[.slice A0_0 l0_0.length c0_0, .slice A0_1 l0_1.length c0_1] 25 (0, 0)) (by (with_reducible repeat (first | refine blk_drewN ?_ _ | refine blk_drew ?_ | refine blk_alloc ?_ _)); exact BK101.out) hb); have n1_ := Aside0.mk (blk_below (g := gb102) (o := .cells #[.int .u8 a3_0, .string a3_1, .string a3_2, .int .i64 a3_3] 49 (0, 0)) (by (with_reducible repeat (first | refine blk_drewN ?_ _ | refine blk_drew ?_ | refine blk_alloc ?_ _)); exact BK102.out) hb); have n2_ := Aside0.mk (below_step (by repeat (first | (with_reducible first | exact HB.out | apply below_alloc | apply pw_below_drewN | apply below_drew1 | refine below_set ?_ GE101.out | refine below_set ?_ GE102.out) | exact HB.out)) hb); clear BK101; clear BK102; clear HB; have BK101 := n0_; have BK102 := n1_; have HB := n2_; clear n0_ n1_ n2_; (try clear hb); (try clear hb2); (try clear hk); (try clear hi)))
              go_meet
              case rel => exact ⟨_, (decide (t106 ≤ 64)), (by first | rfl | (simp; done) | (simp [*]; done)), H', ⟨by have := HJ6.out; first | omega | exact Nat.le_refl _⟩, ⟨by (with_reducible repeat (first | refine blk_drewN ?_ _ | refine blk_drew ?_ | refine blk_alloc ?_ _)); exact BK101.out⟩, ⟨by (with_reducible repeat (first | refine blk_drewN ?_ _ | refine blk_drew ?_ | refine blk_alloc ?_ _)); exact BK102.out⟩, ⟨by repeat (first | (with_reducible first | exact HB.out | apply below_alloc | apply pw_below_drewN | apply below_drew1 | refine below_set ?_ GE101.out | refine below_set ?_ GE102.out) | exact HB.out)⟩⟩
            · rw [if_neg c21] at H
              have c21b0 : (t105 == 0) = false := beq_eq_false_iff_ne.mpr c21
              have c21b1 : (t105 != 0) = true := bne_iff_ne.mpr c21
              (first | rw [c21b0] | (simp only [i64_w, i32_w]; rw [c21b0]) | skip)
              have H' := Aside0.mk H
              clear H
              go_wp2
              go_meet
              case rel => exact ⟨_, (false), (by first | rfl | (simp; done) | (simp [*]; done)), H', ⟨by have := HJ6.out; first | omega | exact Nat.le_refl _⟩, ⟨by (with_reducible repeat (first | refine blk_drewN ?_ _ | refine blk_drew ?_ | refine blk_alloc ?_ _)); exact BK101.out⟩, ⟨by (with_reducible repeat (first | refine blk_drewN ?_ _ | refine blk_drew ?_ | refine blk_alloc ?_ _)); exact BK102.out⟩, ⟨by repeat (first | (with_reducible first | exact HB.out | apply below_alloc | apply pw_below_drewN | apply below_drew1 | refine below_set ?_ GE101.out | refine below_set ?_ GE102.out) | exact HB.out)⟩⟩
          case rest =>
            clear HC16
            try clear c1
            try clear c2
            try clear p2
            try clear c6
            try clear p6
            try clear c7
            try clear c11
            try clear c11b0
            try clear c11b1
            try clear c12
            try clear c14
            try clear c17
            try clear c21
            try clear c21b0
            try clear c21b1
            try clear c22
            try clear hcz13_0
            try clear hcz13_1
            try clear hcz13_2
            try clear hcz13_3
            try clear hcz18_0
            try clear hcz18_1
            try clear hcz19_0
            try clear hcz19_1
            try clear hcz19_2
            try clear hcz19_3
            try clear hfz13_0
            try clear hfz13_1
            try clear hfz13_2
            try clear hfz13_3
            try clear hfz18_0
            try clear hfz18_1
            try clear hfz19_0
            try clear hfz19_1
            try clear hfz19_2
            try clear hfz19_3
            try clear p2
            try clear p6
            obtain ⟨kq, x48_15, rfl, HA, HJ15, BK101, BK102, HB⟩ := hcut
            cases kq with
            | zero => exact absurd HA.out (by simp [cognatelaw17_ParadigmBack.j1])
            | succ kj15 =>
              have H := HA.out
              clear HA
              simp only [cognatelaw17_ParadigmBack.j1] at H
              have HC24 := Aside0.mk H
              clear H
              go_upto_if 48 with (fail)
              go_cut [] (fun wc => ∃ (kq : Nat), Aside0 (cognatelaw17_ParadigmBack.j3 kq a1 a2 l0_0 l0_1 a3_0 a3_1 a3_2 a3_3 = some r) ∧ Aside0 (kq ≤ kj15) ∧ Aside0 (wc.heap[gb101]? = some (.cells #[(.slice A0_0 l0_0.length c0_0), (.slice A0_1 l0_1.length c0_1)] 25 (0, 0))) ∧ Aside0 (wc.heap[gb102]? = some (.cells #[.int .u8 a3_0, .string a3_1, .string a3_2, .int .i64 a3_3] 49 (0, 0))) ∧ Aside0 (Below w.heap.size w wc))
              case first =>
                have H := HC24.out
                clear HC24
                by_cases c25 : x48_15 = true
                · subst c25
                  have H1 : ((paradigm_Off.f l0_0 l0_1 a1 t104 a3_0 a3_1 a3_2 a3_3).bind fun bt107 => (if bt107.2 = 0 then (cognatelaw17_ParadigmBack.j2 kj15 a1 a2 bt107.1 bt107.2 ((bt107.1.length : Int) != 1) l0_0 l0_1 a3_0 a3_1 a3_2 a3_3) else (cognatelaw17_ParadigmBack.j2 kj15 a1 a2 bt107.1 bt107.2 true l0_0 l0_1 a3_0 a3_1 a3_2 a3_3))) = some r := by rw [if_pos rfl] at H; exact H
                  clear H
                  have H := H1
                  clear H1
                  replace H := Option.bind_eq_some_iff.mp H
                  obtain ⟨⟨t107, t110⟩, A260, H⟩ := H
                  replace H : (if t110 = 0 then (cognatelaw17_ParadigmBack.j2 kj15 a1 a2 t107 t110 ((t107.length : Int) != 1) l0_0 l0_1 a3_0 a3_1 a3_2 a3_3) else (cognatelaw17_ParadigmBack.j2 kj15 a1 a2 t107 t110 true l0_0 l0_1 a3_0 a3_1 a3_2 a3_3)) = some r := H
                  have A26 := Aside0.mk A260
                  clear A260
                  have HC27 := Aside0.mk H
                  clear H
                  have hnb28 := NB101_102.out
                  have hnc28 := NB102_101.out
                  have hcz29_0 : wc.cell? ⟨gb101, 0, none⟩ = some (.slice A0_0 l0_0.length c0_0) := (blk_cell BK101.out 0).trans rfl
                  have hcz29_1 : wc.cell? ⟨gb101, 1, none⟩ = some (.slice A0_1 l0_1.length c0_1) := (blk_cell BK101.out 1).trans rfl
                  have hfz29_0 := blk_frozen BK101.out 0
                  have hfz29_1 := blk_frozen BK101.out 1
                  have hcz30_0 : wc.cell? ⟨gb102, 0, none⟩ = some (.int .u8 a3_0) := (blk_cell BK102.out 0).trans rfl
                  have hcz30_1 : wc.cell? ⟨gb102, 1, none⟩ = some (.string a3_1) := (blk_cell BK102.out 1).trans rfl
                  have hcz30_2 : wc.cell? ⟨gb102, 2, none⟩ = some (.string a3_2) := (blk_cell BK102.out 2).trans rfl
                  have hcz30_3 : wc.cell? ⟨gb102, 3, none⟩ = some (.int .i64 a3_3) := (blk_cell BK102.out 3).trans rfl
                  have hfz30_0 := blk_frozen BK102.out 0
                  have hfz30_1 := blk_frozen BK102.out 1
                  have hfz30_2 := blk_frozen BK102.out 2
                  have hfz30_3 := blk_frozen BK102.out 3
                  go_upto_region 9 with (first | ((with_reducible refine gate_callee (f := 23) rfl ?_); refine goesL_ (some 54) rfl rfl Tryd.func23 (by kernel_rfl) rfl #[.agg #[.slice A0_0 l0_0.length c0_0, .slice A0_1 l0_1.length c0_1], .int .u32 a1, .string t104, .agg #[.int .u8 a3_0, .string a3_1, .string a3_2, .int .i64 a3_3]] rfl (by (try simp only [List.map_toArray, List.map_cons, List.map_nil]); first | done | rfl | (simp only [List.length_drop, List.length_take]; rfl)) ?_; (with_reducible refine (paradigm_Off.calls _ _ l0_0 _ _ l0_1 a1 t104 a3_0 a3_1 a3_2 a3_3 t107 t110 _ ?side1 ?side2 ?side3 ?side4 ?side5 A26.out).mono ?_); (case side1 => repeat (first | exact (Kd.C_below HR0_0.out HB.out) | (with_reducible refine Kd.C_alloc ?_ _) | (with_reducible refine Kd.C_drewN ?_ _) | (with_reducible refine Kd.C_drew ?_))); (case side2 => exact HC0_0.out); (case side3 => repeat (first | exact (Kd.C_below HR0_1.out HB.out) | (with_reducible refine Kd.C_alloc ?_ _) | (with_reducible refine Kd.C_drewN ?_ _) | (with_reducible refine Kd.C_drew ?_))); (case side4 => exact HC0_1.out); (case side5 => exact Tabs.below HT.out (by repeat (first | (with_reducible first | exact HB.out | apply below_alloc | apply pw_below_drewN | apply below_drew1 | refine below_set ?_ GE101.out | refine below_set ?_ GE102.out) | exact HB.out))); rintro e w31 ⟨v108, rfl, ho0, hb⟩; refine ⟨_, rfl, ?_⟩; have n0_ := Aside0.mk (Kd.R_lower ho0 (below_size (by repeat (first | (with_reducible first | exact HB.out | apply below_alloc | apply pw_below_drewN | apply below_drew1 | refine below_set ?_ GE101.out | refine below_set ?_ GE102.out) | exact HB.out)))); have n1_ := Aside0.mk (blk_below (g := gb101) (o := .cells #[.slice A0_0 l0_0.length c0_0, .slice A0_1 l0_1.length c0_1] 25 (0, 0)) (by (with_reducible repeat (first | refine blk_drewN ?_ _ | refine blk_drew ?_ | refine blk_alloc ?_ _)); exact BK101.out) hb); have n2_ := Aside0.mk (blk_below (g := gb102) (o := .cells #[.int .u8 a3_0, .string a3_1, .string a3_2, .int .i64 a3_3] 49 (0, 0)) (by (with_reducible repeat (first | refine blk_drewN ?_ _ | refine blk_drew ?_ | refine blk_alloc ?_ _)); exact BK102.out) hb); have n3_ := Aside0.mk (below_step (by repeat (first | (with_reducible first | exact HB.out | apply below_alloc | apply pw_below_drewN | apply below_drew1 | refine below_set ?_ GE101.out | refine below_set ?_ GE102.out) | exact HB.out)) hb); clear BK101; clear BK102; clear HB; have HO109 := n0_; have BK101 := n1_; have BK102 := n2_; have HB := n3_; clear n0_ n1_ n2_ n3_; (try clear hb); (try clear hb2); (try clear hk); (try clear hi); (try clear ho0)))
                  (try simp only [Act.put, List.setIfInBounds_toArray, List.set_cons_zero, List.set_cons_succ])
                  go_cut [63] (fun v63 wc => ∃ (kq : Nat) (x63_26 : Bool), v63 = .bool x63_26 ∧ Aside0 (cognatelaw17_ParadigmBack.j2 kq a1 a2 t107 t110 x63_26 l0_0 l0_1 a3_0 a3_1 a3_2 a3_3 = some r) ∧ Aside0 (kq ≤ kj15) ∧ Aside0 (Kd.R Kd.string 9 wc w.heap.size (fun _ => True) v108 t107) ∧ Aside0 (wc.heap[gb101]? = some (.cells #[(.slice A0_0 l0_0.length c0_0), (.slice A0_1 l0_1.length c0_1)] 25 (0, 0))) ∧ Aside0 (wc.heap[gb102]? = some (.cells #[.int .u8 a3_0, .string a3_1, .string a3_2, .int .i64 a3_3] 49 (0, 0))) ∧ Aside0 (Below w.heap.size w wc))
                  case first =>
                    have H := HC27.out
                    clear HC27
                    by_cases c32 : t110 = 0
                    · rw [if_pos c32] at H
                      have c32b0 : (t110 == 0) = true := beq_iff_eq.mpr c32
                      have c32b1 : (t110 != 0) = false := bne_eq_false_iff_eq.mpr c32
                      clear c32
                      (first | rw [c32b0] | (simp only [i64_w, i32_w]; rw [c32b0]) | skip)
                      have H' := Aside0.mk H
                      clear H
                      obtain ⟨Ao33, co33, eo33⟩ := Kd.R_slice HO109.out
                      subst eo33
                      go_wp2
                      go_meet
                      case rel => exact ⟨_, (((t107.length : Int) != 1)), (by first | rfl | (simp; done) | (simp [*]; done)), H', ⟨by have := HJ6.out; have := HJ15.out; first | omega | exact Nat.le_refl _⟩, ⟨by (with_reducible repeat (first | apply Kd.R_alloc | apply Kd.R_drewN | apply Kd.R_drew)); exact HO109.out⟩, ⟨by (with_reducible repeat (first | refine blk_drewN ?_ _ | refine blk_drew ?_ | refine blk_alloc ?_ _)); exact BK101.out⟩, ⟨by (with_reducible repeat (first | refine blk_drewN ?_ _ | refine blk_drew ?_ | refine blk_alloc ?_ _)); exact BK102.out⟩, ⟨by repeat (first | (with_reducible first | exact HB.out | apply below_alloc | apply pw_below_drewN | apply below_drew1 | refine below_set ?_ GE101.out | refine below_set ?_ GE102.out) | exact HB.out)⟩⟩
                    · rw [if_neg c32] at H
                      have c32b0 : (t110 == 0) = false := beq_eq_false_iff_ne.mpr c32
                      have c32b1 : (t110 != 0) = true := bne_iff_ne.mpr c32
                      (first | rw [c32b0] | (simp only [i64_w, i32_w]; rw [c32b0]) | skip)
                      have H' := Aside0.mk H
                      clear H
                      go_wp2
                      go_meet
                      case rel => exact ⟨_, (true), (by first | rfl | (simp; done) | (simp [*]; done)), H', ⟨by have := HJ6.out; have := HJ15.out; first | omega | exact Nat.le_refl _⟩, ⟨by (with_reducible repeat (first | apply Kd.R_alloc | apply Kd.R_drewN | apply Kd.R_drew)); exact HO109.out⟩, ⟨by (with_reducible repeat (first | refine blk_drewN ?_ _ | refine blk_drew ?_ | refine blk_alloc ?_ _)); exact BK101.out⟩, ⟨by (with_reducible repeat (first | refine blk_drewN ?_ _ | refine blk_drew ?_ | refine blk_alloc ?_ _)); exact BK102.out⟩, ⟨by repeat (first | (with_reducible first | exact HB.out | apply below_alloc | apply pw_below_drewN | apply below_drew1 | refine below_set ?_ GE101.out | refine below_set ?_ GE102.out) | exact HB.out)⟩⟩
                  case rest =>
                    clear HC27
                    try clear c1
                    try clear c2
                    try clear p2
                    try clear c3
                    try clear c6
                    try clear p6
                    try clear c7
                    try clear c11
                    try clear c11b0
                    try clear c11b1
                    try clear c12
                    try clear c14
                    try clear c17
                    try clear c21
                    try clear c21b0
                    try clear c21b1
                    try clear c22
                    try clear c23
                    try clear c25
                    try clear c28
                    try clear c32
                    try clear c32b0
                    try clear c32b1
                    try clear hcz13_0
                    try clear hcz13_1
                    try clear hcz13_2
                    try clear hcz13_3
                    try clear hcz18_0
                    try clear hcz18_1
                    try clear hcz19_0
                    try clear hcz19_1
                    try clear hcz19_2
                    try clear hcz19_3
                    try clear hcz29_0
                    try clear hcz29_1
                    try clear hcz30_0
                    try clear hcz30_1
                    try clear hcz30_2
                    try clear hcz30_3
                    try clear hfz13_0
                    try clear hfz13_1
                    try clear hfz13_2
                    try clear hfz13_3
                    try clear hfz18_0
                    try clear hfz18_1
                    try clear hfz19_0
                    try clear hfz19_1
                    try clear hfz19_2
                    try clear hfz19_3
                    try clear hfz29_0
                    try clear hfz29_1
                    try clear hfz30_0
                    try clear hfz30_1
                    try clear hfz30_2
                    try clear hfz30_3
                    try clear p2
                    try clear p6
                    obtain ⟨kq, x63_26, rfl, HA, HJ26, HO_12, BK101, BK102, HB⟩ := hcut
                    cases kq with
                    | zero => exact absurd HA.out (by simp [cognatelaw17_ParadigmBack.j2])
                    | succ kj26 =>
                      have H := HA.out
                      clear HA
                      simp only [cognatelaw17_ParadigmBack.j2] at H
                      by_cases c34 : x63_26 = true
                      · subst c34
                        have H1 : (some false) = some r := by rw [if_pos rfl] at H; exact H
                        clear H
                        have H := H1
                        clear H1
                        exact absurd H (by rw [hTrue]; simp)
                      · replace c34 := Bool.eq_false_iff.mpr c34
                        subst c34
                        have H1 : (if a3_0 = 5 then ((radical_Radicals.f l0_0 l0_1 a2 a1).bind fun bt111 => (if bt111.2 = 0 then (if 0 < (t107.length : Int) then (if (rdOf ByteArray.empty t107 0).toList = bt111.1.toList then (cognatelaw17_ParadigmBack.j3 kj26 a1 a2 l0_0 l0_1 a3_0 a3_1 a3_2 a3_3) else (some false)) else (none)) else (some false))) else (if t110 = 0 then (if 0 < (t107.length : Int) then (if (rdOf ByteArray.empty t107 0).toList = a2.toList then (cognatelaw17_ParadigmBack.j3 kj26 a1 a2 l0_0 l0_1 a3_0 a3_1 a3_2 a3_3) else (some false)) else (none)) else (some false))) = some r := by rw [if_neg (show ¬ (false = true) by decide)] at H; exact H
                        clear H
                        have H := H1
                        clear H1
                        by_cases c35 : a3_0 = 5
                        · rw [if_pos c35] at H
                          have c35b0 : (a3_0 == 5) = true := beq_iff_eq.mpr c35
                          have c35b1 : (a3_0 != 5) = false := bne_eq_false_iff_eq.mpr c35
                          clear c35
                          replace H := Option.bind_eq_some_iff.mp H
                          obtain ⟨⟨t111, t112⟩, A360, H⟩ := H
                          replace H : (if t112 = 0 then (if 0 < (t107.length : Int) then (if (rdOf ByteArray.empty t107 0).toList = t111.toList then (cognatelaw17_ParadigmBack.j3 kj26 a1 a2 l0_0 l0_1 a3_0 a3_1 a3_2 a3_3) else (some false)) else (none)) else (some false)) = some r := H
                          have A36 := Aside0.mk A360
                          clear A360
                          by_cases c37 : t112 = 0
                          · rw [if_pos c37] at H
                            have c37b0 : (t112 == 0) = true := beq_iff_eq.mpr c37
                            have c37b1 : (t112 != 0) = false := bne_eq_false_iff_eq.mpr c37
                            clear c37
                            by_cases c38 : 0 < (t107.length : Int)
                            · rw [if_pos c38] at H
                              have c38b0 : decide (0 < (t107.length : Int)) = true := decide_eq_true c38
                              have c38b1 : decide (0 < t107.length) = true := decide_eq_true (by omega)
                              clear c38
                              by_cases c39 : (rdOf ByteArray.empty t107 0).toList = t111.toList
                              · rw [if_pos c39] at H
                                have c39b0 : ((rdOf ByteArray.empty t107 0).toList == t111.toList) = true := beq_iff_eq.mpr c39
                                have c39b1 : ((rdOf ByteArray.empty t107 0).toList != t111.toList) = false := bne_eq_false_iff_eq.mpr c39
                                clear c39
                                have H' := Aside0.mk H
                                clear H
                                have hnb40 := NB102_101.out
                                have hnc40 := NB101_102.out
                                have hcz41_0 : wc.cell? ⟨gb102, 0, none⟩ = some (.int .u8 a3_0) := (blk_cell BK102.out 0).trans rfl
                                have hcz41_1 : wc.cell? ⟨gb102, 1, none⟩ = some (.string a3_1) := (blk_cell BK102.out 1).trans rfl
                                have hcz41_2 : wc.cell? ⟨gb102, 2, none⟩ = some (.string a3_2) := (blk_cell BK102.out 2).trans rfl
                                have hcz41_3 : wc.cell? ⟨gb102, 3, none⟩ = some (.int .i64 a3_3) := (blk_cell BK102.out 3).trans rfl
                                have hfz41_0 := blk_frozen BK102.out 0
                                have hfz41_1 := blk_frozen BK102.out 1
                                have hfz41_2 := blk_frozen BK102.out 2
                                have hfz41_3 := blk_frozen BK102.out 3
                                have hcz42_0 : wc.cell? ⟨gb101, 0, none⟩ = some (.slice A0_0 l0_0.length c0_0) := (blk_cell BK101.out 0).trans rfl
                                have hcz42_1 : wc.cell? ⟨gb101, 1, none⟩ = some (.slice A0_1 l0_1.length c0_1) := (blk_cell BK101.out 1).trans rfl
                                have hfz42_0 := blk_frozen BK101.out 0
                                have hfz42_1 := blk_frozen BK101.out 1
                                go_wp2_with (first | ((with_reducible refine gate_callee (f := 10) rfl ?_); refine goesL_ (some 72) rfl rfl Tryd.func10 (by kernel_rfl) rfl #[.agg #[.slice A0_0 l0_0.length c0_0, .slice A0_1 l0_1.length c0_1], .string a2, .int .u32 a1] rfl (by (try simp only [List.map_toArray, List.map_cons, List.map_nil]); first | done | rfl | (simp only [List.length_drop, List.length_take]; rfl)) ?_; (with_reducible refine (radical_Radicals.calls _ _ l0_0 _ _ l0_1 a2 a1 t111 t112 _ ?side1 ?side2 ?side3 ?side4 ?side5 A36.out).mono ?_); (case side1 => repeat (first | exact (Kd.C_below HR0_0.out HB.out) | (with_reducible refine Kd.C_alloc ?_ _) | (with_reducible refine Kd.C_drewN ?_ _) | (with_reducible refine Kd.C_drew ?_))); (case side2 => exact HC0_0.out); (case side3 => repeat (first | exact (Kd.C_below HR0_1.out HB.out) | (with_reducible refine Kd.C_alloc ?_ _) | (with_reducible refine Kd.C_drewN ?_ _) | (with_reducible refine Kd.C_drew ?_))); (case side4 => exact HC0_1.out); (case side5 => exact Tabs.below HT.out (by repeat (first | (with_reducible first | exact HB.out | apply below_alloc | apply pw_below_drewN | apply below_drew1 | refine below_set ?_ GE101.out | refine below_set ?_ GE102.out) | exact HB.out))); rintro e w43 ⟨rfl, hb⟩; refine ⟨_, rfl, ?_⟩; have n0_ := Aside0.mk (Kd.R_below (by (with_reducible repeat (first | apply Kd.R_alloc | apply Kd.R_drewN | apply Kd.R_drew)); exact HO_12.out) hb); have n1_ := Aside0.mk (blk_below (g := gb101) (o := .cells #[.slice A0_0 l0_0.length c0_0, .slice A0_1 l0_1.length c0_1] 25 (0, 0)) (by (with_reducible repeat (first | refine blk_drewN ?_ _ | refine blk_drew ?_ | refine blk_alloc ?_ _)); exact BK101.out) hb); have n2_ := Aside0.mk (blk_below (g := gb102) (o := .cells #[.int .u8 a3_0, .string a3_1, .string a3_2, .int .i64 a3_3] 49 (0, 0)) (by (with_reducible repeat (first | refine blk_drewN ?_ _ | refine blk_drew ?_ | refine blk_alloc ?_ _)); exact BK102.out) hb); have n3_ := Aside0.mk (below_step (by repeat (first | (with_reducible first | exact HB.out | apply below_alloc | apply pw_below_drewN | apply below_drew1 | refine below_set ?_ GE101.out | refine below_set ?_ GE102.out) | exact HB.out)) hb); clear HO_12; clear BK101; clear BK102; clear HB; have HO_12 := n0_; have BK101 := n1_; have BK102 := n2_; have HB := n3_; clear n0_ n1_ n2_ n3_; (try clear hb); (try clear hb2); (try clear hk); (try clear hi); obtain ⟨Ao44, co44, eo44⟩ := Kd.R_slice HO_12.out; subst eo44; have p113 : 0 ≤ (0 : Int) := (by omega); have q113 : 0 < (t107.length : Int) := of_decide_eq_true (by first | (with_reducible assumption) | assumption); obtain ⟨ad113, e113, hx113_0⟩ := Kd.at_string (Kd.R_reads' HO_12.out).2.2 0 p113 q113; cases e113; have qi113 : (0 < t107.length) = True := eq_true (by omega); (try rw [show ((0 : Int)).toNat = 0 from rfl] at hx113_0); (try rw [Addr.add_zero'] at hx113_0); replace p113 := eq_true p113; replace q113 := eq_true q113))
                                go_meet
                                case rel => exact ⟨_, H', ⟨by have := HJ6.out; have := HJ15.out; have := HJ26.out; first | omega | exact Nat.le_refl _⟩, ⟨by (with_reducible repeat (first | refine blk_drewN ?_ _ | refine blk_drew ?_ | refine blk_alloc ?_ _)); exact BK101.out⟩, ⟨by (with_reducible repeat (first | refine blk_drewN ?_ _ | refine blk_drew ?_ | refine blk_alloc ?_ _)); exact BK102.out⟩, ⟨by repeat (first | (with_reducible first | exact HB.out | apply below_alloc | apply pw_below_drewN | apply below_drew1 | refine below_set ?_ GE101.out | refine below_set ?_ GE102.out) | exact HB.out)⟩⟩
                              · rw [if_neg c39] at H
                                have c39b0 : ((rdOf ByteArray.empty t107 0).toList == t111.toList) = false := beq_eq_false_iff_ne.mpr c39
                                have c39b1 : ((rdOf ByteArray.empty t107 0).toList != t111.toList) = true := bne_iff_ne.mpr c39
                                exact absurd H (by rw [hTrue]; simp)
                            · rw [if_neg c38] at H
                              exact absurd H (by simp)
                          · rw [if_neg c37] at H
                            have c37b0 : (t112 == 0) = false := beq_eq_false_iff_ne.mpr c37
                            have c37b1 : (t112 != 0) = true := bne_iff_ne.mpr c37
                            exact absurd H (by rw [hTrue]; simp)
                        · rw [if_neg c35] at H
                          have c35b0 : (a3_0 == 5) = false := beq_eq_false_iff_ne.mpr c35
                          have c35b1 : (a3_0 != 5) = true := bne_iff_ne.mpr c35
                          by_cases c45 : t110 = 0
                          · rw [if_pos c45] at H
                            have c45b0 : (t110 == 0) = true := beq_iff_eq.mpr c45
                            have c45b1 : (t110 != 0) = false := bne_eq_false_iff_eq.mpr c45
                            clear c45
                            by_cases c46 : 0 < (t107.length : Int)
                            · rw [if_pos c46] at H
                              have c46b0 : decide (0 < (t107.length : Int)) = true := decide_eq_true c46
                              have c46b1 : decide (0 < t107.length) = true := decide_eq_true (by omega)
                              clear c46
                              by_cases c47 : (rdOf ByteArray.empty t107 0).toList = a2.toList
                              · rw [if_pos c47] at H
                                have c47b0 : ((rdOf ByteArray.empty t107 0).toList == a2.toList) = true := beq_iff_eq.mpr c47
                                have c47b1 : ((rdOf ByteArray.empty t107 0).toList != a2.toList) = false := bne_eq_false_iff_eq.mpr c47
                                clear c47
                                have H' := Aside0.mk H
                                clear H
                                have hnb48 := NB102_101.out
                                have hnc48 := NB101_102.out
                                have hcz49_0 : wc.cell? ⟨gb102, 0, none⟩ = some (.int .u8 a3_0) := (blk_cell BK102.out 0).trans rfl
                                have hcz49_1 : wc.cell? ⟨gb102, 1, none⟩ = some (.string a3_1) := (blk_cell BK102.out 1).trans rfl
                                have hcz49_2 : wc.cell? ⟨gb102, 2, none⟩ = some (.string a3_2) := (blk_cell BK102.out 2).trans rfl
                                have hcz49_3 : wc.cell? ⟨gb102, 3, none⟩ = some (.int .i64 a3_3) := (blk_cell BK102.out 3).trans rfl
                                have hfz49_0 := blk_frozen BK102.out 0
                                have hfz49_1 := blk_frozen BK102.out 1
                                have hfz49_2 := blk_frozen BK102.out 2
                                have hfz49_3 := blk_frozen BK102.out 3
                                obtain ⟨Ao50, co50, eo50⟩ := Kd.R_slice HO_12.out
                                subst eo50
                                have p114 : 0 ≤ (0 : Int) := (by omega)
                                have q114 : 0 < (t107.length : Int) := of_decide_eq_true (by first | (with_reducible assumption) | assumption)
                                obtain ⟨ad114, e114, hx114_0⟩ := Kd.at_string (Kd.R_reads' HO_12.out).2.2 0 p114 q114
                                cases e114
                                have qi114 : (0 < t107.length) = True := eq_true (by omega)
                                (try rw [show ((0 : Int)).toNat = 0 from rfl] at hx114_0)
                                (try rw [Addr.add_zero'] at hx114_0)
                                replace p114 := eq_true p114
                                replace q114 := eq_true q114
                                go_wp2
                                go_meet
                                case rel => exact ⟨_, H', ⟨by have := HJ6.out; have := HJ15.out; have := HJ26.out; first | omega | exact Nat.le_refl _⟩, ⟨by (with_reducible repeat (first | refine blk_drewN ?_ _ | refine blk_drew ?_ | refine blk_alloc ?_ _)); exact BK101.out⟩, ⟨by (with_reducible repeat (first | refine blk_drewN ?_ _ | refine blk_drew ?_ | refine blk_alloc ?_ _)); exact BK102.out⟩, ⟨by repeat (first | (with_reducible first | exact HB.out | apply below_alloc | apply pw_below_drewN | apply below_drew1 | refine below_set ?_ GE101.out | refine below_set ?_ GE102.out) | exact HB.out)⟩⟩
                              · rw [if_neg c47] at H
                                have c47b0 : ((rdOf ByteArray.empty t107 0).toList == a2.toList) = false := beq_eq_false_iff_ne.mpr c47
                                have c47b1 : ((rdOf ByteArray.empty t107 0).toList != a2.toList) = true := bne_iff_ne.mpr c47
                                exact absurd H (by rw [hTrue]; simp)
                            · rw [if_neg c46] at H
                              exact absurd H (by simp)
                          · rw [if_neg c45] at H
                            have c45b0 : (t110 == 0) = false := beq_eq_false_iff_ne.mpr c45
                            have c45b1 : (t110 != 0) = true := bne_iff_ne.mpr c45
                            exact absurd H (by rw [hTrue]; simp)
                · replace c25 := Bool.eq_false_iff.mpr c25
                  subst c25
                  have H1 : (cognatelaw17_ParadigmBack.j3 kj15 a1 a2 l0_0 l0_1 a3_0 a3_1 a3_2 a3_3) = some r := by rw [if_neg (show ¬ (false = true) by decide)] at H; exact H
                  clear H
                  have H := H1
                  clear H1
                  have H' := Aside0.mk H
                  clear H
                  go_wp2
                  go_meet
                  case rel => exact ⟨_, H', ⟨by have := HJ6.out; have := HJ15.out; first | omega | exact Nat.le_refl _⟩, ⟨by (with_reducible repeat (first | refine blk_drewN ?_ _ | refine blk_drew ?_ | refine blk_alloc ?_ _)); exact BK101.out⟩, ⟨by (with_reducible repeat (first | refine blk_drewN ?_ _ | refine blk_drew ?_ | refine blk_alloc ?_ _)); exact BK102.out⟩, ⟨by repeat (first | (with_reducible first | exact HB.out | apply below_alloc | apply pw_below_drewN | apply below_drew1 | refine below_set ?_ GE101.out | refine below_set ?_ GE102.out) | exact HB.out)⟩⟩
              case rest =>
                clear HC24
                try clear c1
                try clear p1
                try clear q1
                try clear hx1
                try clear qi1
                try clear c2
                try clear p2
                try clear c3
                try clear c4
                try clear c6
                try clear p6
                try clear c7
                try clear c10
                try clear c11
                try clear c11b0
                try clear c11b1
                try clear p11
                try clear q11
                try clear hx11
                try clear qi11
                try clear c12
                try clear c14
                try clear c17
                try clear c21
                try clear c21b0
                try clear c21b1
                try clear c22
                try clear c23
                try clear c25
                try clear c28
                try clear c32
                try clear c32b0
                try clear c32b1
                try clear c34
                try clear c35
                try clear c35b0
                try clear c35b1
                try clear c37
                try clear c37b0
                try clear c37b1
                try clear c38
                try clear c38b0
                try clear c38b1
                try clear c39
                try clear c39b0
                try clear c39b1
                try clear c40
                try clear c45
                try clear c45b0
                try clear c45b1
                try clear c46
                try clear c46b0
                try clear c46b1
                try clear c47
                try clear c47b0
                try clear c47b1
                try clear c48
                try clear hcz13_0
                try clear hcz13_1
                try clear hcz13_2
                try clear hcz13_3
                try clear hcz18_0
                try clear hcz18_1
                try clear hcz19_0
                try clear hcz19_1
                try clear hcz19_2
                try clear hcz19_3
                try clear hcz29_0
                try clear hcz29_1
                try clear hcz30_0
                try clear hcz30_1
                try clear hcz30_2
                try clear hcz30_3
                try clear hcz41_0
                try clear hcz41_1
                try clear hcz41_2
                try clear hcz41_3
                try clear hcz42_0
                try clear hcz42_1
                try clear hcz49_0
                try clear hcz49_1
                try clear hcz49_2
                try clear hcz49_3
                try clear hfz13_0
                try clear hfz13_1
                try clear hfz13_2
                try clear hfz13_3
                try clear hfz18_0
                try clear hfz18_1
                try clear hfz19_0
                try clear hfz19_1
                try clear hfz19_2
                try clear hfz19_3
                try clear hfz29_0
                try clear hfz29_1
                try clear hfz30_0
                try clear hfz30_1
                try clear hfz30_2
                try clear hfz30_3
                try clear hfz41_0
                try clear hfz41_1
                try clear hfz41_2
                try clear hfz41_3
                try clear hfz42_0
                try clear hfz42_1
                try clear hfz49_0
                try clear hfz49_1
                try clear hfz49_2
                try clear hfz49_3
                try clear hx113_0
                try clear hx114_0
                try clear p113
                try clear p114
                try clear p2
                try clear p6
                try clear q113
                try clear q114
                obtain ⟨kq, HA, HJ23, BK101, BK102, HB⟩ := hcut
                cases kq with
                | zero => exact absurd HA.out (by simp [cognatelaw17_ParadigmBack.j3])
                | succ kj23 =>
                  have H := HA.out
                  clear HA
                  simp only [cognatelaw17_ParadigmBack.j3] at H
                  replace H := Option.bind_eq_some_iff.mp H
                  obtain ⟨⟨t115, t118⟩, A510, H⟩ := H
                  replace H : (if t118 = 0 then (if (t115.length : Int) = 0 then (some true) else (if 0 < (t115.length : Int) then ((paradigm_Put.f l0_0 l0_1 a1 (rdOf ByteArray.empty t115 0) a3_0 a3_1 a3_2 a3_3).bind fun bt120 => (if bt120.2 = 0 then (if bt120.1.toList = a2.toList then (some ((t115.length : Int) == 1)) else (some false)) else (some false))) else (none))) else (some ((t115.length : Int) == 0))) = some r := H
                  have A51 := Aside0.mk A510
                  clear A510
                  by_cases c52 : t118 = 0
                  · rw [if_pos c52] at H
                    have c52b0 : (t118 == 0) = true := beq_iff_eq.mpr c52
                    have c52b1 : (t118 != 0) = false := bne_eq_false_iff_eq.mpr c52
                    clear c52
                    by_cases c53 : (t115.length : Int) = 0
                    · rw [if_pos c53] at H
                      have c53b0 : ((t115.length : Int) == 0) = true := beq_iff_eq.mpr c53
                      have c53b1 : ((t115.length : Int) != 0) = false := bne_eq_false_iff_eq.mpr c53
                      clear c53
                      obtain rfl := Option.some.inj H
                      have hnb54 := NB101_102.out
                      have hnc54 := NB102_101.out
                      have hcz55_0 : wc.cell? ⟨gb101, 0, none⟩ = some (.slice A0_0 l0_0.length c0_0) := (blk_cell BK101.out 0).trans rfl
                      have hcz55_1 : wc.cell? ⟨gb101, 1, none⟩ = some (.slice A0_1 l0_1.length c0_1) := (blk_cell BK101.out 1).trans rfl
                      have hfz55_0 := blk_frozen BK101.out 0
                      have hfz55_1 := blk_frozen BK101.out 1
                      have hcz56_0 : wc.cell? ⟨gb102, 0, none⟩ = some (.int .u8 a3_0) := (blk_cell BK102.out 0).trans rfl
                      have hcz56_1 : wc.cell? ⟨gb102, 1, none⟩ = some (.string a3_1) := (blk_cell BK102.out 1).trans rfl
                      have hcz56_2 : wc.cell? ⟨gb102, 2, none⟩ = some (.string a3_2) := (blk_cell BK102.out 2).trans rfl
                      have hcz56_3 : wc.cell? ⟨gb102, 3, none⟩ = some (.int .i64 a3_3) := (blk_cell BK102.out 3).trans rfl
                      have hfz56_0 := blk_frozen BK102.out 0
                      have hfz56_1 := blk_frozen BK102.out 1
                      have hfz56_2 := blk_frozen BK102.out 2
                      have hfz56_3 := blk_frozen BK102.out 3
                      go_wp2_with (first | ((with_reducible refine gate_callee (f := 23) rfl ?_); refine goesL_ (some 89) rfl rfl Tryd.func23 (by kernel_rfl) rfl #[.agg #[.slice A0_0 l0_0.length c0_0, .slice A0_1 l0_1.length c0_1], .int .u32 a1, .string a2, .agg #[.int .u8 a3_0, .string a3_1, .string a3_2, .int .i64 a3_3]] rfl (by (try simp only [List.map_toArray, List.map_cons, List.map_nil]); first | done | rfl | (simp only [List.length_drop, List.length_take]; rfl)) ?_; (with_reducible refine (paradigm_Off.calls _ _ l0_0 _ _ l0_1 a1 a2 a3_0 a3_1 a3_2 a3_3 t115 t118 _ ?side1 ?side2 ?side3 ?side4 ?side5 A51.out).mono ?_); (case side1 => repeat (first | exact (Kd.C_below HR0_0.out HB.out) | (with_reducible refine Kd.C_alloc ?_ _) | (with_reducible refine Kd.C_drewN ?_ _) | (with_reducible refine Kd.C_drew ?_))); (case side2 => exact HC0_0.out); (case side3 => repeat (first | exact (Kd.C_below HR0_1.out HB.out) | (with_reducible refine Kd.C_alloc ?_ _) | (with_reducible refine Kd.C_drewN ?_ _) | (with_reducible refine Kd.C_drew ?_))); (case side4 => exact HC0_1.out); (case side5 => exact Tabs.below HT.out (by repeat (first | (with_reducible first | exact HB.out | apply below_alloc | apply pw_below_drewN | apply below_drew1 | refine below_set ?_ GE101.out | refine below_set ?_ GE102.out) | exact HB.out))); rintro e w57 ⟨v116, rfl, ho0, hb⟩; refine ⟨_, rfl, ?_⟩; have n0_ := Aside0.mk (Kd.R_lower ho0 (below_size (by repeat (first | (with_reducible first | exact HB.out | apply below_alloc | apply pw_below_drewN | apply below_drew1 | refine below_set ?_ GE101.out | refine below_set ?_ GE102.out) | exact HB.out)))); have n1_ := Aside0.mk (blk_below (g := gb101) (o := .cells #[.slice A0_0 l0_0.length c0_0, .slice A0_1 l0_1.length c0_1] 25 (0, 0)) (by (with_reducible repeat (first | refine blk_drewN ?_ _ | refine blk_drew ?_ | refine blk_alloc ?_ _)); exact BK101.out) hb); have n2_ := Aside0.mk (blk_below (g := gb102) (o := .cells #[.int .u8 a3_0, .string a3_1, .string a3_2, .int .i64 a3_3] 49 (0, 0)) (by (with_reducible repeat (first | refine blk_drewN ?_ _ | refine blk_drew ?_ | refine blk_alloc ?_ _)); exact BK102.out) hb); have n3_ := Aside0.mk (below_step (by repeat (first | (with_reducible first | exact HB.out | apply below_alloc | apply pw_below_drewN | apply below_drew1 | refine below_set ?_ GE101.out | refine below_set ?_ GE102.out) | exact HB.out)) hb); clear BK101; clear BK102; clear HB; have HO117 := n0_; have BK101 := n1_; have BK102 := n2_; have HB := n3_; clear n0_ n1_ n2_ n3_; (try clear hb); (try clear hb2); (try clear hk); (try clear hi); (try clear ho0); obtain ⟨Ao58, co58, eo58⟩ := Kd.R_slice HO117.out; subst eo58))
                      go_ret
                      exact ⟨by first | rfl | (simp [errW_none, errW_some] <;> rfl) | (simp [*, errW_none, errW_some] <;> rfl), by repeat (first | (with_reducible first | exact HB.out | apply below_alloc | apply pw_below_drewN | apply below_drew1 | refine below_set ?_ GE101.out | refine below_set ?_ GE102.out) | exact HB.out)⟩
                    · rw [if_neg c53] at H
                      have c53b0 : ((t115.length : Int) == 0) = false := beq_eq_false_iff_ne.mpr c53
                      have c53b1 : ((t115.length : Int) != 0) = true := bne_iff_ne.mpr c53
                      have c53b2 : ¬ (t115 = []) := fun h_ => c53 (by rw [h_]; rfl)
                      by_cases c59 : 0 < (t115.length : Int)
                      · rw [if_pos c59] at H
                        have c59b0 : decide (0 < (t115.length : Int)) = true := decide_eq_true c59
                        have c59b1 : decide (0 < t115.length) = true := decide_eq_true (by omega)
                        clear c59
                        replace H := Option.bind_eq_some_iff.mp H
                        obtain ⟨⟨t120, t121⟩, A600, H⟩ := H
                        replace H : (if t121 = 0 then (if t120.toList = a2.toList then (some ((t115.length : Int) == 1)) else (some false)) else (some false)) = some r := H
                        have A60 := Aside0.mk A600
                        clear A600
                        by_cases c61 : t121 = 0
                        · rw [if_pos c61] at H
                          have c61b0 : (t121 == 0) = true := beq_iff_eq.mpr c61
                          have c61b1 : (t121 != 0) = false := bne_eq_false_iff_eq.mpr c61
                          clear c61
                          by_cases c62 : t120.toList = a2.toList
                          · rw [if_pos c62] at H
                            have c62b0 : (t120.toList == a2.toList) = true := beq_iff_eq.mpr c62
                            have c62b1 : (t120.toList != a2.toList) = false := bne_eq_false_iff_eq.mpr c62
                            clear c62
                            obtain rfl := Option.some.inj H
                            have hnb63 := NB101_102.out
                            have hnc63 := NB102_101.out
                            have hcz64_0 : wc.cell? ⟨gb101, 0, none⟩ = some (.slice A0_0 l0_0.length c0_0) := (blk_cell BK101.out 0).trans rfl
                            have hcz64_1 : wc.cell? ⟨gb101, 1, none⟩ = some (.slice A0_1 l0_1.length c0_1) := (blk_cell BK101.out 1).trans rfl
                            have hfz64_0 := blk_frozen BK101.out 0
                            have hfz64_1 := blk_frozen BK101.out 1
                            have hcz65_0 : wc.cell? ⟨gb102, 0, none⟩ = some (.int .u8 a3_0) := (blk_cell BK102.out 0).trans rfl
                            have hcz65_1 : wc.cell? ⟨gb102, 1, none⟩ = some (.string a3_1) := (blk_cell BK102.out 1).trans rfl
                            have hcz65_2 : wc.cell? ⟨gb102, 2, none⟩ = some (.string a3_2) := (blk_cell BK102.out 2).trans rfl
                            have hcz65_3 : wc.cell? ⟨gb102, 3, none⟩ = some (.int .i64 a3_3) := (blk_cell BK102.out 3).trans rfl
                            have hfz65_0 := blk_frozen BK102.out 0
                            have hfz65_1 := blk_frozen BK102.out 1
                            have hfz65_2 := blk_frozen BK102.out 2
                            have hfz65_3 := blk_frozen BK102.out 3
                            try go_wp2_with (first | ((with_reducible refine gate_callee (f := 23) rfl ?_); refine goesL_ (some 89) rfl rfl Tryd.func23 (by kernel_rfl) rfl #[.agg #[.slice A0_0 l0_0.length c0_0, .slice A0_1 l0_1.length c0_1], .int .u32 a1, .string a2, .agg #[.int .u8 a3_0, .string a3_1, .string a3_2, .int .i64 a3_3]] rfl (by (try simp only [List.map_toArray, List.map_cons, List.map_nil]); first | done | rfl | (simp only [List.length_drop, List.length_take]; rfl)) ?_; (with_reducible refine (paradigm_Off.calls _ _ l0_0 _ _ l0_1 a1 a2 a3_0 a3_1 a3_2 a3_3 t115 t118 _ ?side1 ?side2 ?side3 ?side4 ?side5 A51.out).mono ?_); (case side1 => repeat (first | exact (Kd.C_below HR0_0.out HB.out) | (with_reducible refine Kd.C_alloc ?_ _) | (with_reducible refine Kd.C_drewN ?_ _) | (with_reducible refine Kd.C_drew ?_))); (case side2 => exact HC0_0.out); (case side3 => repeat (first | exact (Kd.C_below HR0_1.out HB.out) | (with_reducible refine Kd.C_alloc ?_ _) | (with_reducible refine Kd.C_drewN ?_ _) | (with_reducible refine Kd.C_drew ?_))); (case side4 => exact HC0_1.out); (case side5 => exact Tabs.below HT.out (by repeat (first | (with_reducible first | exact HB.out | apply below_alloc | apply pw_below_drewN | apply below_drew1 | refine below_set ?_ GE101.out | refine below_set ?_ GE102.out) | exact HB.out))); rintro e w66 ⟨v116, rfl, ho0, hb⟩; refine ⟨_, rfl, ?_⟩; have n0_ := Aside0.mk (Kd.R_lower ho0 (below_size (by repeat (first | (with_reducible first | exact HB.out | apply below_alloc | apply pw_below_drewN | apply below_drew1 | refine below_set ?_ GE101.out | refine below_set ?_ GE102.out) | exact HB.out)))); have n1_ := Aside0.mk (blk_below (g := gb101) (o := .cells #[.slice A0_0 l0_0.length c0_0, .slice A0_1 l0_1.length c0_1] 25 (0, 0)) (by (with_reducible repeat (first | refine blk_drewN ?_ _ | refine blk_drew ?_ | refine blk_alloc ?_ _)); exact BK101.out) hb); have n2_ := Aside0.mk (blk_below (g := gb102) (o := .cells #[.int .u8 a3_0, .string a3_1, .string a3_2, .int .i64 a3_3] 49 (0, 0)) (by (with_reducible repeat (first | refine blk_drewN ?_ _ | refine blk_drew ?_ | refine blk_alloc ?_ _)); exact BK102.out) hb); have n3_ := Aside0.mk (below_step (by repeat (first | (with_reducible first | exact HB.out | apply below_alloc | apply pw_below_drewN | apply below_drew1 | refine below_set ?_ GE101.out | refine below_set ?_ GE102.out) | exact HB.out)) hb); clear BK101; clear BK102; clear HB; have HO117 := n0_; have BK101 := n1_; have BK102 := n2_; have HB := n3_; clear n0_ n1_ n2_ n3_; (try clear hb); (try clear hb2); (try clear hk); (try clear hi); (try clear ho0); obtain ⟨Ao67, co67, eo67⟩ := Kd.R_slice HO117.out; subst eo67))
                            have n0_ := Aside0.mk (Kd.R_drew HO117.out)
                            have n1_ := Aside0.mk (blk_drew BK101.out)
                            have n2_ := Aside0.mk (blk_drew BK102.out)
                            have n3_ := Aside0.mk (below_drew1 HB.out)
                            clear HO117
                            clear BK101
                            clear BK102
                            clear HB
                            have HO117 := n0_
                            have BK101 := n1_
                            have BK102 := n2_
                            have HB := n3_
                            clear n0_ n1_ n2_ n3_
                            have p119 : 0 ≤ (0 : Int) := (by omega)
                            have q119 : 0 < (t115.length : Int) := of_decide_eq_true (by first | (with_reducible assumption) | assumption)
                            obtain ⟨ad119, e119, hx119_0⟩ := Kd.at_string (Kd.R_reads' HO117.out).2.2 0 p119 q119
                            cases e119
                            have qi119 : (0 < t115.length) = True := eq_true (by omega)
                            (try rw [show ((0 : Int)).toNat = 0 from rfl] at hx119_0)
                            (try rw [Addr.add_zero'] at hx119_0)
                            replace p119 := eq_true p119
                            replace q119 := eq_true q119
                            refine start_ (n := 12) (S := fun w' => w'.cell? ⟨gb101, 0, none⟩ = some (.slice A0_0 l0_0.length c0_0) ∧ w'.cell? ⟨gb101, 1, none⟩ = some (.slice A0_1 l0_1.length c0_1) ∧ w'.cell? ⟨gb102, 0, none⟩ = some (.int .u8 a3_0) ∧ w'.cell? ⟨gb102, 1, none⟩ = some (.string a3_1) ∧ w'.cell? ⟨gb102, 2, none⟩ = some (.string a3_2) ∧ w'.cell? ⟨gb102, 3, none⟩ = some (.int .i64 a3_3) ∧ w'.cell? ad119 = some (.string (rdOf ByteArray.empty t115 0))) (ds := []) #[false, false, false, false, false, false, false, false, false, false, false, false] (by kernel_rfl) rfl rfl ⟨(blk_cell BK101.out 0).trans rfl, (blk_cell BK101.out 1).trans rfl, (blk_cell BK102.out 0).trans rfl, (blk_cell BK102.out 1).trans rfl, (blk_cell BK102.out 2).trans rfl, (blk_cell BK102.out 3).trans rfl, hx119_0⟩ (fun hHeld => ?_); refine with_tabW cognatelaw17_ParadigmBack.tab21 cognatelaw17_ParadigmBack.bits21 (fun HT_ HW_ => ?_)
                            generalize w66.drew = w68 at HO117 BK101 BK102 HB hx119_0 hHeld ⊢
                            refine pure_ (i := 1) (N := some 102) (v := ?_) (a' := ?_) #[false, true, false, false, false, false, false, false, false, false, false, false] rfl rfl (any_of HT_.out (by kernel_rfl)) (fun _ _ _ h => h) (Or.inl ⟨by rfl, ?_⟩) ?_ ?_
                            rotate_left
                            · intro w'
                              go_simp
                              with_reducible rfl
                            rotate_left
                            · simp only [Act.put, List.setIfInBounds_toArray, List.set_cons_zero, List.set_cons_succ, i64_w, i32_w]
                              rfl
                            refine pure_ (i := 2) (N := some 103) (v := ?_) (a' := ?_) #[false, true, true, false, false, false, false, false, false, false, false, false] rfl rfl (any_of HT_.out (by kernel_rfl)) (fun _ _ _ h => h) (Or.inl ⟨by rfl, ?_⟩) ?_ ?_
                            rotate_left
                            · intro w'
                              go_simp
                              with_reducible rfl
                            rotate_left
                            · simp only [Act.put, List.setIfInBounds_toArray, List.set_cons_zero, List.set_cons_succ, i64_w, i32_w]
                              rfl
                            refine pure_ (i := 3) (N := some 104) (v := ?_) (a' := ?_) #[false, true, true, true, false, false, false, false, false, false, false, false] rfl rfl (any_of HT_.out (by kernel_rfl)) (fun _ _ _ h => h) (Or.inl ⟨by rfl, ?_⟩) ?_ ?_
                            rotate_left
                            · intro w'
                              go_simp
                              with_reducible rfl
                            rotate_left
                            · simp only [Act.put, List.setIfInBounds_toArray, List.set_cons_zero, List.set_cons_succ, i64_w, i32_w]
                              rfl
                            refine take_ (i := 0) (N := some 101) (v := ?_) (a' := ?_) #[true, true, true, true, false, false, false, false, false, false, false, false] rfl rfl (take_ofW HT_.out HW_.out (by kernel_rfl)) (fun _ _ _ h => h) (Or.inl ⟨by rfl, ?_⟩) hHeld ?_ ?_
                            rotate_left
                            · rintro w' ⟨s0, s1, s2, s3, s4, s5, s6⟩
                              go_simp
                              with_reducible rfl
                            rotate_left
                            · simp only [Act.put, List.setIfInBounds_toArray, List.set_cons_zero, List.set_cons_succ, i64_w, i32_w]
                              rfl
                            refine take_ (i := 4) (N := some 105) (v := ?_) (a' := ?_) #[true, true, true, true, true, false, false, false, false, false, false, false] rfl rfl (take_ofW HT_.out HW_.out (by kernel_rfl)) (fun _ _ _ h => h) (Or.inl ⟨by rfl, ?_⟩) hHeld ?_ ?_
                            rotate_left
                            · rintro w' ⟨s0, s1, s2, s3, s4, s5, s6⟩
                              go_simp
                              with_reducible rfl
                            rotate_left
                            · simp only [Act.put, List.setIfInBounds_toArray, List.set_cons_zero, List.set_cons_succ, i64_w, i32_w]
                              rfl
                            refine take_ (i := 5) (N := some 106) (v := ?_) (a' := ?_) #[true, true, true, true, true, true, false, false, false, false, false, false] rfl rfl (take_ofW HT_.out HW_.out (by kernel_rfl)) (fun _ _ _ h => h) (Or.inl ⟨by rfl, ?_⟩) hHeld ?_ ?_
                            rotate_left
                            · rintro w' ⟨s0, s1, s2, s3, s4, s5, s6⟩
                              go_simp
                              with_reducible rfl
                            rotate_left
                            · simp only [Act.put, List.setIfInBounds_toArray, List.set_cons_zero, List.set_cons_succ, i64_w, i32_w]
                              rfl
                            refine one_ (i := 6) (N := some 107) #[true, true, true, true, true, true, true, false, false, false, false, false] rfl rfl (one_of HT_.out (by kernel_rfl)) (by decide) (fun K hK => ?_)
                            refine goes_ Tryd.func22 (by kernel_rfl) rfl #[.agg #[.slice A0_0 l0_0.length c0_0, .slice A0_1 l0_1.length c0_1], .int .u32 a1, .string (rdOf ByteArray.empty t115 0), .agg #[.int .u8 a3_0, .string a3_1, .string a3_2, .int .i64 a3_3]] (by rfl) rfl rfl (by (try simp only [List.map_toArray, List.map_cons, List.map_nil]); first | done | rfl | (simp only [List.length_drop, List.length_take]; rfl)) ?_
                            with_reducible refine (paradigm_Put.calls _ _ l0_0 _ _ l0_1 a1 (rdOf ByteArray.empty t115 0) a3_0 a3_1 a3_2 a3_3 t120 t121 _ ?side1 ?side2 ?side3 ?side4 ?side5 A60.out).mono ?_
                            (case side1 => repeat (first | exact (Kd.C_below HR0_0.out HB.out) | (with_reducible refine Kd.C_alloc ?_ _) | (with_reducible refine Kd.C_drewN ?_ _) | (with_reducible refine Kd.C_drew ?_)))
                            (case side2 => exact HC0_0.out)
                            (case side3 => repeat (first | exact (Kd.C_below HR0_1.out HB.out) | (with_reducible refine Kd.C_alloc ?_ _) | (with_reducible refine Kd.C_drewN ?_ _) | (with_reducible refine Kd.C_drew ?_)))
                            (case side4 => exact HC0_1.out)
                            (case side5 => exact Tabs.below HT.out (by repeat (first | (with_reducible first | exact HB.out | apply below_alloc | apply pw_below_drewN | apply below_drew1 | refine below_set ?_ GE101.out | refine below_set ?_ GE102.out) | exact HB.out)))
                            rintro e w69 ⟨rfl, hb⟩
                            have HS6_ := (hb.cell (World.block_lt_of_cell? _ _ (hHeld.2.2.2.2.2.2))).trans (hHeld.2.2.2.2.2.2)
                            refine ⟨_, rfl, ?_⟩
                            have n0_ := Aside0.mk (Kd.R_below (by (with_reducible repeat (first | apply Kd.R_alloc | apply Kd.R_drewN | apply Kd.R_drew)); exact HO117.out) hb)
                            have n1_ := Aside0.mk (blk_below (g := gb101) (o := .cells #[.slice A0_0 l0_0.length c0_0, .slice A0_1 l0_1.length c0_1] 25 (0, 0)) (by (with_reducible repeat (first | refine blk_drewN ?_ _ | refine blk_drew ?_ | refine blk_alloc ?_ _)); exact BK101.out) hb)
                            have n2_ := Aside0.mk (blk_below (g := gb102) (o := .cells #[.int .u8 a3_0, .string a3_1, .string a3_2, .int .i64 a3_3] 49 (0, 0)) (by (with_reducible repeat (first | refine blk_drewN ?_ _ | refine blk_drew ?_ | refine blk_alloc ?_ _)); exact BK102.out) hb)
                            have n3_ := Aside0.mk (below_step (by repeat (first | (with_reducible first | exact HB.out | apply below_alloc | apply pw_below_drewN | apply below_drew1 | refine below_set ?_ GE101.out | refine below_set ?_ GE102.out) | exact HB.out)) hb)
                            clear HO117
                            clear BK101
                            clear BK102
                            clear HB
                            have HO117 := n0_
                            have BK101 := n1_
                            have BK102 := n2_
                            have HB := n3_
                            clear n0_ n1_ n2_ n3_
                            (try clear hb)
                            (try clear hb2)
                            (try clear hk)
                            (try clear hi)
                            refine hK.out _ _ ⟨(blk_cell BK101.out 0).trans rfl, (blk_cell BK101.out 1).trans rfl, (blk_cell BK102.out 0).trans rfl, (blk_cell BK102.out 1).trans rfl, (blk_cell BK102.out 2).trans rfl, (blk_cell BK102.out 3).trans rfl, HS6_⟩ (fun hHeld => ?_)
                            clear hK K
                            refine norm_ (a' := ?_) ?_ ?_
                            rotate_left
                            · show Act.put _ (some 107) _ = _
                              simp only [Act.put, List.setIfInBounds_toArray, List.set_cons_zero, List.set_cons_succ, i64_w, i32_w]
                              rfl
                            refine pure_ (i := 7) (N := some 100) (v := ?_) (a' := ?_) #[true, true, true, true, true, true, true, true, false, false, false, false] rfl rfl (any_of HT_.out (by kernel_rfl)) (fun _ _ _ h => h) (Or.inl ⟨by rfl, ?_⟩) ?_ ?_
                            rotate_left
                            · intro w'
                              go_simp
                              with_reducible rfl
                            rotate_left
                            · simp only [Act.put, List.setIfInBounds_toArray, List.set_cons_zero, List.set_cons_succ, i64_w, i32_w]
                              rfl
                            refine pure_ (i := 8) (N := some 108) (v := ?_) (a' := ?_) #[true, true, true, true, true, true, true, true, true, false, false, false] rfl rfl (any_of HT_.out (by kernel_rfl)) (fun _ _ _ h => h) (Or.inl ⟨by rfl, ?_⟩) ?_ ?_
                            rotate_left
                            · intro w'
                              go_simp
                              with_reducible rfl
                            rotate_left
                            · simp only [Act.put, List.setIfInBounds_toArray, List.set_cons_zero, List.set_cons_succ, i64_w, i32_w]
                              rfl
                            refine pure_ (i := 9) (N := some 109) (v := ?_) (a' := ?_) #[true, true, true, true, true, true, true, true, true, true, false, false] rfl rfl (any_of HT_.out (by kernel_rfl)) (fun _ _ _ h => h) (Or.inl ⟨by rfl, ?_⟩) ?_ ?_
                            rotate_left
                            · intro w'
                              go_simp
                              with_reducible rfl
                            rotate_left
                            · simp only [Act.put, List.setIfInBounds_toArray, List.set_cons_zero, List.set_cons_succ, i64_w, i32_w]
                              rfl
                            refine pure_ (i := 10) (N := some 16) (v := ?_) (a' := ?_) #[true, true, true, true, true, true, true, true, true, true, true, false] rfl rfl (any_of HT_.out (by kernel_rfl)) (fun _ _ _ h => h) (Or.inl ⟨by rfl, ?_⟩) ?_ ?_
                            rotate_left
                            · intro w'
                              go_simp
                              with_reducible rfl
                            rotate_left
                            · simp only [Act.put, List.setIfInBounds_toArray, List.set_cons_zero, List.set_cons_succ, i64_w, i32_w]
                              rfl
                            refine pure_ (i := 11) (N := some 17) (v := ?_) (a' := ?_) #[true, true, true, true, true, true, true, true, true, true, true, true] rfl rfl (any_of HT_.out (by kernel_rfl)) (fun _ _ _ h => h) (Or.inl ⟨by rfl, ?_⟩) ?_ ?_
                            rotate_left
                            · intro w'
                              go_simp
                              with_reducible rfl
                            rotate_left
                            · simp only [Act.put, List.setIfInBounds_toArray, List.set_cons_zero, List.set_cons_succ, i64_w, i32_w]
                              rfl
                            refine done_ (done_of HT_.out (by kernel_rfl)) ?_
                            try go_wp2
                            go_ret
                            exact ⟨by first | rfl | (simp [errW_none, errW_some] <;> rfl) | (simp [*, errW_none, errW_some] <;> rfl), by repeat (first | (with_reducible first | exact HB.out | apply below_alloc | apply pw_below_drewN | apply below_drew1 | refine below_set ?_ GE101.out | refine below_set ?_ GE102.out) | exact HB.out)⟩
                          · rw [if_neg c62] at H
                            have c62b0 : (t120.toList == a2.toList) = false := beq_eq_false_iff_ne.mpr c62
                            have c62b1 : (t120.toList != a2.toList) = true := bne_iff_ne.mpr c62
                            exact absurd H (by rw [hTrue]; simp)
                        · rw [if_neg c61] at H
                          have c61b0 : (t121 == 0) = false := beq_eq_false_iff_ne.mpr c61
                          have c61b1 : (t121 != 0) = true := bne_iff_ne.mpr c61
                          exact absurd H (by rw [hTrue]; simp)
                      · rw [if_neg c59] at H
                        exact absurd H (by simp)
                  · rw [if_neg c52] at H
                    have c52b0 : (t118 == 0) = false := beq_eq_false_iff_ne.mpr c52
                    have c52b1 : (t118 != 0) = true := bne_iff_ne.mpr c52
                    obtain rfl := Option.some.inj H
                    have hnb70 := NB101_102.out
                    have hnc70 := NB102_101.out
                    have hcz71_0 : wc.cell? ⟨gb101, 0, none⟩ = some (.slice A0_0 l0_0.length c0_0) := (blk_cell BK101.out 0).trans rfl
                    have hcz71_1 : wc.cell? ⟨gb101, 1, none⟩ = some (.slice A0_1 l0_1.length c0_1) := (blk_cell BK101.out 1).trans rfl
                    have hfz71_0 := blk_frozen BK101.out 0
                    have hfz71_1 := blk_frozen BK101.out 1
                    have hcz72_0 : wc.cell? ⟨gb102, 0, none⟩ = some (.int .u8 a3_0) := (blk_cell BK102.out 0).trans rfl
                    have hcz72_1 : wc.cell? ⟨gb102, 1, none⟩ = some (.string a3_1) := (blk_cell BK102.out 1).trans rfl
                    have hcz72_2 : wc.cell? ⟨gb102, 2, none⟩ = some (.string a3_2) := (blk_cell BK102.out 2).trans rfl
                    have hcz72_3 : wc.cell? ⟨gb102, 3, none⟩ = some (.int .i64 a3_3) := (blk_cell BK102.out 3).trans rfl
                    have hfz72_0 := blk_frozen BK102.out 0
                    have hfz72_1 := blk_frozen BK102.out 1
                    have hfz72_2 := blk_frozen BK102.out 2
                    have hfz72_3 := blk_frozen BK102.out 3
                    go_wp2_with (first | ((with_reducible refine gate_callee (f := 23) rfl ?_); refine goesL_ (some 89) rfl rfl Tryd.func23 (by kernel_rfl) rfl #[.agg #[.slice A0_0 l0_0.length c0_0, .slice A0_1 l0_1.length c0_1], .int .u32 a1, .string a2, .agg #[.int .u8 a3_0, .string a3_1, .string a3_2, .int .i64 a3_3]] rfl (by (try simp only [List.map_toArray, List.map_cons, List.map_nil]); first | done | rfl | (simp only [List.length_drop, List.length_take]; rfl)) ?_; (with_reducible refine (paradigm_Off.calls _ _ l0_0 _ _ l0_1 a1 a2 a3_0 a3_1 a3_2 a3_3 t115 t118 _ ?side1 ?side2 ?side3 ?side4 ?side5 A51.out).mono ?_); (case side1 => repeat (first | exact (Kd.C_below HR0_0.out HB.out) | (with_reducible refine Kd.C_alloc ?_ _) | (with_reducible refine Kd.C_drewN ?_ _) | (with_reducible refine Kd.C_drew ?_))); (case side2 => exact HC0_0.out); (case side3 => repeat (first | exact (Kd.C_below HR0_1.out HB.out) | (with_reducible refine Kd.C_alloc ?_ _) | (with_reducible refine Kd.C_drewN ?_ _) | (with_reducible refine Kd.C_drew ?_))); (case side4 => exact HC0_1.out); (case side5 => exact Tabs.below HT.out (by repeat (first | (with_reducible first | exact HB.out | apply below_alloc | apply pw_below_drewN | apply below_drew1 | refine below_set ?_ GE101.out | refine below_set ?_ GE102.out) | exact HB.out))); rintro e w73 ⟨v116, rfl, ho0, hb⟩; refine ⟨_, rfl, ?_⟩; have n0_ := Aside0.mk (Kd.R_lower ho0 (below_size (by repeat (first | (with_reducible first | exact HB.out | apply below_alloc | apply pw_below_drewN | apply below_drew1 | refine below_set ?_ GE101.out | refine below_set ?_ GE102.out) | exact HB.out)))); have n1_ := Aside0.mk (blk_below (g := gb101) (o := .cells #[.slice A0_0 l0_0.length c0_0, .slice A0_1 l0_1.length c0_1] 25 (0, 0)) (by (with_reducible repeat (first | refine blk_drewN ?_ _ | refine blk_drew ?_ | refine blk_alloc ?_ _)); exact BK101.out) hb); have n2_ := Aside0.mk (blk_below (g := gb102) (o := .cells #[.int .u8 a3_0, .string a3_1, .string a3_2, .int .i64 a3_3] 49 (0, 0)) (by (with_reducible repeat (first | refine blk_drewN ?_ _ | refine blk_drew ?_ | refine blk_alloc ?_ _)); exact BK102.out) hb); have n3_ := Aside0.mk (below_step (by repeat (first | (with_reducible first | exact HB.out | apply below_alloc | apply pw_below_drewN | apply below_drew1 | refine below_set ?_ GE101.out | refine below_set ?_ GE102.out) | exact HB.out)) hb); clear BK101; clear BK102; clear HB; have HO117 := n0_; have BK101 := n1_; have BK102 := n2_; have HB := n3_; clear n0_ n1_ n2_ n3_; (try clear hb); (try clear hb2); (try clear hk); (try clear hi); (try clear ho0); obtain ⟨Ao74, co74, eo74⟩ := Kd.R_slice HO117.out; subst eo74))
                    go_ret
                    exact ⟨by first | rfl | (simp [errW_none, errW_some] <;> rfl) | (simp [*, errW_none, errW_some] <;> rfl), by repeat (first | (with_reducible first | exact HB.out | apply below_alloc | apply pw_below_drewN | apply below_drew1 | refine below_set ?_ GE101.out | refine below_set ?_ GE102.out) | exact HB.out)⟩
  · replace c6 := Bool.eq_false_iff.mpr c6
    subst c6
    have H1 : (some false) = some r := by rw [if_neg (show ¬ (false = true) by decide)] at H; exact H
    clear H
    have H := H1
    clear H1
    exact absurd H (by rw [hTrue]; simp)

end Go.Proofs.YthmjheclhcdinaaDoor.RPBack
end
section
/-
  The plain law of ParadigmBack: what the printed statement computes is true.
-/
set_option linter.unusedSimpArgs false
set_option linter.unusedVariables false
namespace Go.Proofs.YthmjheclhcdinaaDoor
open Go.RowKit Go.Proofs.YthmjheclhcdinaaDoorW.PrintWords Go.Proofs.YthmjheclhcdinaaDoorW.PrintLast Go.Proofs.YthmjheclhcdinaaDoorW.PrintMore Go.Proofs.YthmjheclhcdinaaDoor.Ext
theorem put_f {l0 : List ByteArray} {l1 : List Letter} {v : Int} {s f1 f2 : ByteArray} {k p : Int} (h : sizedX f1 f2) : paradigm_Put.f l0 l1 v s k f1 f2 p = some (putS l0 l1 v s ⟨k, f1, f2, p⟩) := if_pos h
theorem off_f {l0 : List ByteArray} {l1 : List Letter} {v : Int} {s f1 f2 : ByteArray} {k p : Int} (h : sizedX f1 f2) : paradigm_Off.f l0 l1 v s k f1 f2 p = some (offS l0 l1 v s ⟨k, f1, f2, p⟩) := if_pos h
theorem offS_no {l0 : List ByteArray} {l1 : List Letter} {v : Int} {s : ByteArray} {x : Affix} (h : ¬ (offS l0 l1 v s x).2 = 0) : (offS l0 l1 v s x).1 = [] := by
  unfold offS at h ⊢
  split
  · rename_i h1
    rw [if_pos h1] at h
    split
    · rename_i h2
      rw [if_pos h2] at h
      split
      · rename_i h3
        rw [if_pos h3] at h
        exact absurd rfl h
      · rfl
    · rfl
  · rfl
theorem put_size {l0 : List ByteArray} {l1 : List Letter} {v : Int} {w s : ByteArray} {x : Affix} (h : putS l0 l1 v w x = (s, 0)) : s.size ≤ 1024 := by
  obtain ⟨cls, l, m, hc, hl, ha, hp, hm, rfl, hks⟩ := put_ok h
  have hlo := letters_ok (by have := letters_size (l0 := l0) (l1 := l1) (s := w) (by rw [hl]); omega) hl
  have hv : ∀ y ∈ m, Utf8.valid y = true := fun y hy => rune_valid (kinds_valid hlo.1 (hks y hy))
  have := runesBytes_size m hv
  omega
theorem rdOf_one (x : ByteArray) : rdOf ByteArray.empty [x] 0 = x := rfl
section
variable (l0 : List ByteArray) (l1 : List Letter) (v : Int) (w : ByteArray) (kd : Int) (f1 f2 : ByteArray) (p : Int)
theorem bk3 (h : sizedX f1 f2) (k : Nat) : RPBack.cognatelaw17_ParadigmBack.j3 (k + 1) v w l0 l1 kd f1 f2 p = some true := by
  rw [RPBack.cognatelaw17_ParadigmBack.j3, off_f h, Option.bind_some]
  obtain ⟨L, e, hL⟩ : ∃ L e, offS l0 l1 v w ⟨kd, f1, f2, p⟩ = (L, e) := ⟨_, _, rfl⟩
  by_cases he : e = 0
  · subst he
    rw [hL]
    dsimp only
    rw [if_pos rfl]
    cases L with
    | nil => rw [if_pos (by simp)]
    | cons r rs =>
      obtain ⟨h1, h2⟩ := off_back hL (List.mem_cons_self ..)
      rw [h1, if_neg (by simp), if_pos (by simp), rdOf_one, put_f h, Option.bind_some, h2]
      dsimp only
      rw [if_pos rfl, if_pos rfl]
      rfl
  · have := offS_no (l0 := l0) (l1 := l1) (v := v) (s := w) (x := ⟨kd, f1, f2, p⟩) (by rw [hL]; exact he)
    rw [hL] at this ⊢
    dsimp only at this ⊢
    rw [if_neg he, this]
    rfl
theorem back_true (h : sizedX f1 f2) : RPBack.cognatelaw17_ParadigmBack.f 10 l0 l1 v w kd f1 f2 p = some true := by
  unfold RPBack.cognatelaw17_ParadigmBack.f cognatelaw17_alive.f
  rw [Option.bind_some, if_pos rfl]
  have hj : ∀ b, RPBack.cognatelaw17_ParadigmBack.j0 10 v w b l0 l1 kd f1 f2 p = some true := by
    intro b
    rw [RPBack.cognatelaw17_ParadigmBack.j0]
    by_cases hb : b = true
    · rw [if_pos hb]
    · rw [if_neg hb, put_f h, Option.bind_some]
      have hj1 : ∀ s, RPBack.cognatelaw17_ParadigmBack.j1 9 v w s false l0 l1 kd f1 f2 p = some true := by
        intro s
        rw [RPBack.cognatelaw17_ParadigmBack.j1, if_neg (by simp)]
        exact bk3 l0 l1 v w kd f1 f2 p h 7
      obtain ⟨s, e, hs⟩ : ∃ s e, putS l0 l1 v w ⟨kd, f1, f2, p⟩ = (s, e) := ⟨_, _, rfl⟩
      rw [hs]
      dsimp only
      by_cases he : e = 0
      · subst he
        have hsz := put_size hs
        have hlong : cognatelaw17_long.f s = some ((runesOf s).length : Int) := if_pos (by omega)
        rw [if_pos rfl, hlong, Option.bind_some]
        by_cases hl : ((runesOf s).length : Int) ≤ 64
        · rw [decide_eq_true hl]
          obtain ⟨cls, l, hp, ho⟩ := put_back hs (by omega)
          rw [RPBack.cognatelaw17_ParadigmBack.j1, if_pos rfl, off_f h, Option.bind_some, ho]
          dsimp only
          rw [if_pos rfl, RPBack.cognatelaw17_ParadigmBack.j2, if_neg (by simp)]
          have h3 := bk3 l0 l1 v w kd f1 f2 p h 6
          by_cases h5 : kd = 5
          · have hR : radical_Radicals.f l0 l1 w v = some (runesBytes (l.filter (notC cls)), 0) := by unfold radical_Radicals.f; rw [hp]; rfl
            rw [if_pos h5, if_pos h5, hR, Option.bind_some]
            dsimp only
            rw [if_pos rfl, if_pos (by simp), rdOf_one, if_pos rfl]
            exact h3
          · rw [if_neg h5, if_neg h5, if_pos rfl, if_pos (by simp), rdOf_one, if_pos rfl]
            exact h3
        · rw [decide_eq_false hl]
          exact hj1 s
      · rw [if_neg he]
        exact hj1 s
  split
  · exact hj _
  · exact hj _
end
end Go.Proofs.YthmjheclhcdinaaDoor
end
