/-
  RadicalNames: the closed sentence of layer 13 is true; no condition but that the tables of utf8 stand as their text lays them.
-/
import Derived.Test.YtdeichibnnbjdaaDoorClRn1
import Derived.Lib.QuoteLoop
import Derived.Lib.MapLaws
import Derived.Test.YtdeichibnnbjdaaDoorProg
import Derived.Below
import Derived.Deep.Draws
import Derived.Deep.AppendLies
import Derived.Maps.AppendAt
import Derived.OwnWalk
import Derived.Laws.BytesArg
import Derived.Laws.MakeOwn
import Derived.Laws.OwnMore
import Derived.Deep.OwnRows
import Derived.Tactics
import Derived.Lib.ConvBytes
import Derived.Laws.Slices
import Derived.WalkKit
import Derived.KernelRfl
import Derived.RowKit3
import Derived.Deep.LoopGhost
import Derived.Deep.QuietTactic
import Derived.BigQuiet
import Derived.WideLaws
import Derived.Deep.DeepCutAuto
import Derived.Deep.CutBlock
import Derived.Deep.RegionHeld3
import Derived.Laws.Rows
import Derived.Lib.AppendStr
import Derived.ArgAppend
import Derived.Laws.IdiomCopy
import Derived.OrdersHeld
import Derived.Laws.BitsLemmas
import Derived.RowKit
import Derived.Laws.Cover4
section
/-
  What the printed reference functions of layers 2 and 3 compute: Check, Find, Letters, Has, lists compared.
-/
set_option linter.unusedSimpArgs false
set_option linter.unusedVariables false
namespace Go.Proofs.YtdeichibnnbjdaaDoor
open Go.RowKit Go.Proofs.YtdeichibnnbjdaaDoorW.PrintWords Go.Proofs.YtdeichibnnbjdaaDoorW.PrintLast Go.Proofs.YtdeichibnnbjdaaDoorW.PrintMore Go.Proofs.YtdeichibnnbjdaaDoor.Ext

/-- Each letter's bits are 32. -/
def wfA (l1 : List Letter) : Prop := ∀ x ∈ l1, u32 x.f1 ∧ u32 x.f2
instance (l1 : List Letter) : Decidable (wfA l1) := by unfold wfA; exact inferInstance
/-! ### a rune's number -/
def numOf (l1 : List Letter) (r : Int) : Int := match l1.findIdx? (fun x => x.f0 == r) with | some i => (i : Int) | none => -1
theorem numOf_neg (l1 : List Letter) (r : Int) : numOf l1 r < 0 ↔ (kindsOf l1).contains r = false := by
  unfold numOf kindsOf
  cases h : l1.findIdx? (fun x => x.f0 == r) with
  | none =>
    rw [List.findIdx?_eq_none_iff] at h
    constructor
    · intro _
      rw [Bool.eq_false_iff]
      intro hc
      simp only [List.contains_iff_mem, List.mem_map] at hc
      obtain ⟨x, hx, e⟩ := hc
      have := h x hx
      simp [e] at this
    · intro _
      show (-1 : Int) < 0
      omega
  | some i =>
    rw [List.findIdx?_eq_some_iff_getElem] at h
    obtain ⟨hi, hp, _⟩ := h
    constructor
    · intro h2
      have h2 : (i : Int) < 0 := h2
      omega
    · intro hc
      rw [Bool.eq_false_iff] at hc
      exact absurd (by simp only [List.contains_iff_mem, List.mem_map]; exact ⟨l1[i], List.getElem_mem hi, by simpa using hp⟩) hc

/-! ### a word's letters -/
/-! ### lists compared -/
end Go.Proofs.YtdeichibnnbjdaaDoor
end
section
/-
  feature.Of by walks: a rune's letter.
-/
set_option linter.unusedSimpArgs false
set_option linter.unusedVariables false
namespace Go.Proofs.YtdeichibnnbjdaaDoor
open Go.RowKit Go.Proofs.YtdeichibnnbjdaaDoorW.PrintWords Go.Proofs.YtdeichibnnbjdaaDoorW.PrintLast Go.Proofs.YtdeichibnnbjdaaDoorW.PrintMore Go.Proofs.YtdeichibnnbjdaaDoor.Ext

set_option maxHeartbeats 1000000 in
set_option maxRecDepth 100000 in
theorem isRune (b : Nat) (r x0 x1 x2 : Int) (w : World) (hblk : w.heap[b]? = some (.cells #[.int .i32 r] 21 (0, 0))) :
    Calls Tryd.prog 66 #[.agg #[.int .i32 x0, .int .u32 x1, .int .u32 x2], .pointer (some ⟨b, 0, none⟩)] w fun e w' => e = .returned (.bool (x0 == r)) ∧ Below w.heap.size w w' := by
  have hbl := blk_lt hblk
  have hc0 : ∀ o, (w.alloc o).cell? ⟨b, 0, none⟩ = some (.int .i32 r) := fun o => (blk_cell (blk_alloc hblk o) 0).trans rfl
  have hc1 : w.cell? ⟨b, 0, none⟩ = some (.int .i32 r) := (blk_cell hblk 0).trans rfl
  clear hblk
  go_enter Tryd.func66, Tryd.ntmps66
  go_wp2_with fail
  go_ret
  exact ⟨rfl, (Below.refl _ _).alloc (Nat.le_refl _) _⟩

theorem numOf_here (l1 : List Letter) (r : Int) (k : Nat) (h : k < l1.length) (hn : ∀ j (hj : j < k), (l1[j]'(by omega)).f0 ≠ r) (hk : l1[k].f0 = r) : numOf l1 r = (k : Int) := by
  unfold numOf
  have : l1.findIdx? (fun x => x.f0 == r) = some k := by
    rw [List.findIdx?_eq_some_iff_getElem]
    exact ⟨h, by simpa using hk, fun j hj => by simpa using hn j hj⟩
  rw [this]
theorem numOf_none (l1 : List Letter) (r : Int) (hn : ∀ j (hj : j < l1.length), l1[j].f0 ≠ r) : numOf l1 r = -1 := by
  unfold numOf
  have : l1.findIdx? (fun x => x.f0 == r) = none := by
    rw [List.findIdx?_eq_none_iff]
    intro x hx
    obtain ⟨j, hj, rfl⟩ := List.getElem_of_mem hx
    simpa using hn j hj
  rw [this]

set_option maxHeartbeats 2000000 in
set_option maxRecDepth 100000 in
theorem find_walk (A : Option Addr) (c : Nat) (l1 : List Letter) (b : Nat) (r : Int) (w : World) (hblk : w.heap[b]? = some (.cells #[.int .i32 r] 21 (0, 0))) (hL : Kd.C kLetter w A l1.length l1) (hcL : l1.length ≤ c) (hl : l1.length ≤ 1000000) :
    Calls Tryd.prog 65 #[.slice A l1.length c, .func (.func 66) #[] #[.pointer (some ⟨b, 0, none⟩)]] w fun e w' => e = .returned (.int .i64 (numOf l1 r)) ∧ Below w.heap.size w w' := by
  have Hblk := Lib.hid hblk
  have HL := Lib.hid hL
  clear hblk hL
  go_enter Tryd.func65, Tryd.ntmps65
  go_wp2_with fail
  go_loopw [8] (fun i wr => ∃ k : Nat, k ≤ l1.length ∧ i = .int .i64 k ∧ Below w.heap.size w wr ∧ Hid (∀ j (hj : j < k) (hj2 : j < l1.length), l1[j].f0 ≠ r)) (fun i _ => l1.length - (intOf i).toNat)
  case atStart => exact ⟨0, Nat.zero_le _, rfl, Below.refl _ _, fun j hj _ => absurd hj (by omega)⟩
  case round =>
    obtain ⟨k, hk, rfl, hb, hn⟩ := hrel
    by_cases hlt : k < l1.length
    · obtain ⟨ad, hA, hx0, hx1, hx2⟩ := at_T74 (Kd.C_below HL.out hb) k (by omega) (by omega)
      subst hA
      rw [Int.toNat_natCast] at hx0 hx1 hx2
      rw [rdL l1 k hlt] at hx0 hx1 hx2
      obtain ⟨x, hx⟩ : ∃ x, x = l1[k] := ⟨_, rfl⟩
      rw [← hx] at hx0 hx1 hx2
      have Hx := Lib.hid hx
      clear hx
      obtain ⟨x0, x1, x2⟩ := x
      dsimp only at hx0 hx1 hx2
      have hcall := isRune b r x0 x1 x2 wr (blk_below Hblk.out hb)
      cases hq : (x0 == r) with
      | true =>
        rw [hq] at hcall
        have Hq := Lib.hid (numOf_here l1 r k hlt (fun j hj => hn.out j hj (by omega)) (by rw [← Hx.out]; simpa using hq))
        clear hq
        go_wp2_with (go_at_call 66; refine hcall.mono ?_; rintro e w1 ⟨rfl, hb1⟩)
        go_ret
        exact ⟨ret_i64 Hq.out.symm, below_step hb hb1⟩
      | false =>
        rw [hq] at hcall
        have Hq : Hid (x0 ≠ r) := by simpa [Hid] using hq
        clear hq
        go_wp2_with (go_at_call 66; refine hcall.mono ?_; rintro e w1 ⟨rfl, hb1⟩)
        go_roundw
        case rel =>
          refine ⟨k + 1, by omega, by go_num, below_step hb hb1, fun j hj hj2 => ?_⟩
          by_cases e : j = k
          · subst e
            rw [← Hx.out]
            exact Hq.out
          · exact hn.out j (by omega) hj2
        case measure => simp [intOf]; omega
    · obtain rfl : k = l1.length := by omega
      have Hq := Lib.hid (numOf_none l1 r (fun j hj => hn.out j hj hj))
      go_wp2_with fail
      go_ret
      exact ⟨ret_i64 Hq.out.symm, hb⟩

theorem boxes3 (w : World) (a b c : Obj) : Below w.heap.size w (((w.alloc a).alloc b).alloc c) ∧ (((w.alloc a).alloc b).alloc c).heap[w.heap.size]? = some a ∧ (((w.alloc a).alloc b).alloc c).heap[w.heap.size + 1]? = some b ∧ (((w.alloc a).alloc b).alloc c).heap[w.heap.size + 1 + 1]? = some c := by
  have e1 : (w.alloc a).heap.size = w.heap.size + 1 := by simp
  have e2 : ((w.alloc a).alloc b).heap.size = w.heap.size + 1 + 1 := by simp
  refine ⟨(((Below.refl _ _).alloc (Nat.le_refl _) _).alloc (by simp) _).alloc (by simp; omega) _, blk_alloc (blk_alloc (blk_new w a) b) c, ?_, ?_⟩
  · have := blk_alloc (blk_new (w.alloc a) b) c
    rwa [e1] at this
  · have := blk_new ((w.alloc a).alloc b) c
    rwa [e2] at this
namespace Ext
def feature_Of.f (l0 : List ByteArray) (l1 : List Letter) (r : Int) : Option (Int × Int × Int × Int) :=
  some (if chk l0 l1 = 0 then (if numOf l1 r < 0 then (0, 0, 0, 5) else ((rd_T74 l1 (numOf l1 r)).f0, (rd_T74 l1 (numOf l1 r)).f1, (rd_T74 l1 (numOf l1 r)).f2, 0)) else (0, 0, 0, chk l0 l1))
set_option maxHeartbeats 2000000 in
set_option maxRecDepth 100000 in
theorem feature_Of.calls (A0 : Option Addr) (c0 : Nat) (l0 : List ByteArray) (A1 : Option Addr) (c1 : Nat) (l1 : List Letter) (r : Int) (r1 r2 r3 r4 : Int) (w : World) (hF : Kd.C Kd.string w A0 l0.length l0) (hcF : l0.length ≤ c0) (hL : Kd.C kLetter w A1 l1.length l1) (hcL : l1.length ≤ c1)
    (h : feature_Of.f l0 l1 r = some (r1, r2, r3, r4)) :
    Calls Tryd.prog 41 #[.agg #[.slice A0 l0.length c0, .slice A1 l1.length c1], .int .i32 r] w fun e w' => e = .returned (.tuple #[.agg #[.int .i32 r1, .int .u32 r2, .int .u32 r3], .int .i64 r4]) ∧ Below w.heap.size w w' := by
  have h := Option.some.inj h
  have hch := fun W hF hL => feature_Check.calls A0 c0 l0 A1 c1 l1 (chk l0 l1) W hF hcF hL hcL rfl
  have HF := Lib.hid hF
  have HL := Lib.hid hL
  clear hF hL
  by_cases hk : chk l0 l1 = 0
  · rw [if_pos hk] at h
    rw [hk] at hch
    have hlen := chk_len hk
    have hfi := fun W b hb hL => find_walk A1 c1 l1 b r W hb hL hcL (by omega)
    have Hk := Lib.hid hk
    clear hk
    by_cases hneg : numOf l1 r < 0
    · rw [if_pos hneg] at h
      simp only [Prod.mk.injEq] at h
      obtain ⟨rfl, rfl, rfl, rfl⟩ := h
      have hd := decide_eq_true hneg
      clear hneg
      go_enter Tryd.func41, Tryd.ntmps41
      go_wp2_with (first | (go_at_call 37; have hB3 := boxes3 w (.cells #[.slice A0 l0.length c0, .slice A1 l1.length c1] 25) (.cells #[.int .i32 r] 21) (.cells #[.int .i32 0, .int .u32 0, .int .u32 0] 74); refine (hch _ (Kd.C_below HF.out hB3.1) (Kd.C_below HL.out hB3.1)).mono ?_; rintro e w1 ⟨rfl, hb1⟩; have hB1 := Lib.hid (below_step hB3.1 hb1); have ha := Lib.hid (blk_below hB3.2.1 hb1); have hr := Lib.hid (blk_below hB3.2.2.1 hb1); have hz := Lib.hid (blk_below hB3.2.2.2 hb1); have hA0 := (blk_cell ha.out 0).trans rfl; have hA1 := (blk_cell ha.out 1).trans rfl; have hR0 := (blk_cell hr.out 0).trans rfl; have hz0 := (blk_cell hz.out 0).trans rfl; have hz1 := (blk_cell hz.out 1).trans rfl; have hz2 := (blk_cell hz.out 2).trans rfl; have hf0 := blk_frozen hz.out 0; have hf1 := blk_frozen hz.out 1; have hf2 := blk_frozen hz.out 2; clear hB3) | (go_at_call 65; refine (hfi _ (w.heap.size + 1) hr.out (Kd.C_below HL.out hB1.out)).mono ?_; rintro e w2 ⟨rfl, hb2⟩; have hB2 := Lib.hid (below_step hB1.out hb2); have ha2 := Lib.hid (blk_below ha.out hb2); have hz2' := Lib.hid (blk_below hz.out hb2); have gA1 := (blk_cell ha2.out 1).trans rfl; have gz0 := (blk_cell hz2'.out 0).trans rfl; have gz1 := (blk_cell hz2'.out 1).trans rfl; have gz2 := (blk_cell hz2'.out 2).trans rfl; have gf0 := blk_frozen hz2'.out 0; have gf1 := blk_frozen hz2'.out 1; have gf2 := blk_frozen hz2'.out 2))
      refine bodyPost_ret (results_ct rfl _ _ (w.heap.size + 1 + 1) 74 #[.int .i32 0, .int .u32 0, .int .u32 0] (0, 0) _ rfl (by refine blk_put (cs := #[.int .i32 0, .int .u32 0, .int .u32 0]) ?_ 2 _ rfl; refine blk_put (cs := #[.int .i32 0, .int .u32 0, .int .u32 0]) ?_ 1 _ rfl; refine blk_put (cs := #[.int .i32 0, .int .u32 0, .int .u32 0]) ?_ 0 _ rfl; exact hz2'.out) Tryd.underlying74 rfl (by kernel_rfl)) rfl ?_
      exact ⟨rfl, below_set (below_set (below_set hB2.out (by omega)) (by omega)) (by omega)⟩
    · rw [if_neg hneg] at h
      simp only [Prod.mk.injEq] at h
      obtain ⟨rfl, rfl, rfl, rfl⟩ := h
      have hd := decide_eq_false hneg
      have hge : 0 ≤ numOf l1 r := by omega
      have hlt : numOf l1 r < l1.length := by
        unfold numOf at hge ⊢
        cases hfd : l1.findIdx? (fun x => x.f0 == r) with
        | none => rw [hfd] at hge; exact absurd hge (by show ¬ (0 : Int) ≤ -1; omega)
        | some i =>
          rw [List.findIdx?_eq_some_iff_getElem] at hfd
          obtain ⟨hi, _⟩ := hfd
          show (i : Int) < _
          omega
      obtain ⟨q, hq⟩ : ∃ q, q = numOf l1 r := ⟨_, rfl⟩
      rw [← hq] at hd hge hlt hfi ⊢
      have hT := fun W (hb : Below w.heap.size w W) => at_T74 (Kd.C_below HL.out hb) q hge hlt
      have HT := Lib.hid hT
      obtain ⟨ad, hA, _⟩ := hT w (Below.refl _ _)
      subst hA
      have p1 := eq_true hge
      have p2 := eq_true hlt
      clear hq hT hneg
      go_enter Tryd.func41, Tryd.ntmps41
      go_wp2_with (first | (go_at_call 37; have hB3 := boxes3 w (.cells #[.slice A0 l0.length c0, .slice (some ad) l1.length c1] 25) (.cells #[.int .i32 r] 21) (.cells #[.int .i32 0, .int .u32 0, .int .u32 0] 74); refine (hch _ (Kd.C_below HF.out hB3.1) (Kd.C_below HL.out hB3.1)).mono ?_; rintro e w1 ⟨rfl, hb1⟩; have hB1 := Lib.hid (below_step hB3.1 hb1); have ha := Lib.hid (blk_below hB3.2.1 hb1); have hr := Lib.hid (blk_below hB3.2.2.1 hb1); have hz := Lib.hid (blk_below hB3.2.2.2 hb1); have hA0 := (blk_cell ha.out 0).trans rfl; have hA1 := (blk_cell ha.out 1).trans rfl; have hR0 := (blk_cell hr.out 0).trans rfl; have hz0 := (blk_cell hz.out 0).trans rfl; have hz1 := (blk_cell hz.out 1).trans rfl; have hz2 := (blk_cell hz.out 2).trans rfl; have hf0 := blk_frozen hz.out 0; have hf1 := blk_frozen hz.out 1; have hf2 := blk_frozen hz.out 2; clear hB3) | (go_at_call 65; refine (hfi _ (w.heap.size + 1) hr.out (Kd.C_below HL.out hB1.out)).mono ?_; rintro e w2 ⟨rfl, hb2⟩; have hB2 := Lib.hid (below_step hB1.out hb2); have ha2 := Lib.hid (blk_below ha.out hb2); have hz2' := Lib.hid (blk_below hz.out hb2); have gA1 := (blk_cell ha2.out 1).trans rfl; have gz0 := (blk_cell hz2'.out 0).trans rfl; have gz1 := (blk_cell hz2'.out 1).trans rfl; have gz2 := (blk_cell hz2'.out 2).trans rfl; have gf0 := blk_frozen hz2'.out 0; have gf1 := blk_frozen hz2'.out 1; have gf2 := blk_frozen hz2'.out 2; obtain ⟨ad2, hA2, hx0, hx1, hx2⟩ := HT.out w2 hB2.out; cases hA2))
      refine bodyPost_ret (results_ct rfl _ _ (w.heap.size + 1 + 1) 74 #[.int .i32 (rd_T74 l1 q).f0, .int .u32 (rd_T74 l1 q).f1, .int .u32 (rd_T74 l1 q).f2] (0, 0) _ rfl (by refine blk_put (cs := #[.int .i32 (rd_T74 l1 q).f0, .int .u32 (rd_T74 l1 q).f1, .int .u32 0]) ?_ 2 _ rfl; refine blk_put (cs := #[.int .i32 (rd_T74 l1 q).f0, .int .u32 0, .int .u32 0]) ?_ 1 _ rfl; refine blk_put (cs := #[.int .i32 0, .int .u32 0, .int .u32 0]) ?_ 0 _ rfl; exact hz2'.out) Tryd.underlying74 rfl (by kernel_rfl)) rfl ?_
      exact ⟨rfl, below_set (below_set (below_set hB2.out (by omega)) (by omega)) (by omega)⟩
  · rw [if_neg hk] at h
    simp only [Prod.mk.injEq] at h
    obtain ⟨rfl, rfl, rfl, rfl⟩ := h
    have heb : (chk l0 l1 == 0) = false := beq_eq_false_iff_ne.mpr hk
    have heb2 : (chk l0 l1 != 0) = true := bne_iff_ne.mpr hk
    clear hk
    go_enter Tryd.func41, Tryd.ntmps41
    go_wp2_with (go_at_call 37; have hB3 := boxes3 w (.cells #[.slice A0 l0.length c0, .slice A1 l1.length c1] 25) (.cells #[.int .i32 r] 21) (.cells #[.int .i32 0, .int .u32 0, .int .u32 0] 74); refine (hch _ (Kd.C_below HF.out hB3.1) (Kd.C_below HL.out hB3.1)).mono ?_; rintro e w1 ⟨rfl, hb1⟩; have hB1 := Lib.hid (below_step hB3.1 hb1); have ha := Lib.hid (blk_below hB3.2.1 hb1); have hr := Lib.hid (blk_below hB3.2.2.1 hb1); have hz := Lib.hid (blk_below hB3.2.2.2 hb1); have hA0 := (blk_cell ha.out 0).trans rfl; have hA1 := (blk_cell ha.out 1).trans rfl; have hR0 := (blk_cell hr.out 0).trans rfl; have hz0 := (blk_cell hz.out 0).trans rfl; have hz1 := (blk_cell hz.out 1).trans rfl; have hz2 := (blk_cell hz.out 2).trans rfl; have hf0 := blk_frozen hz.out 0; have hf1 := blk_frozen hz.out 1; have hf2 := blk_frozen hz.out 2; clear hB3)
    refine bodyPost_ret (results_ct rfl _ _ (w.heap.size + 1 + 1) 74 #[.int .i32 0, .int .u32 0, .int .u32 0] (0, 0) _ rfl (by refine blk_put (cs := #[.int .i32 0, .int .u32 0, .int .u32 0]) ?_ 2 _ rfl; refine blk_put (cs := #[.int .i32 0, .int .u32 0, .int .u32 0]) ?_ 1 _ rfl; refine blk_put (cs := #[.int .i32 0, .int .u32 0, .int .u32 0]) ?_ 0 _ rfl; exact hz.out) Tryd.underlying74 rfl (by kernel_rfl)) rfl ?_
    exact ⟨rfl, below_set (below_set (below_set hB1.out (by omega)) (by omega)) (by omega)⟩
end Ext
end Go.Proofs.YtdeichibnnbjdaaDoor
end
section
/-
  What radical.Check asks of a shape, in plain words, over a text's pieces.
-/
set_option linter.unusedSimpArgs false
set_option linter.unusedVariables false
namespace Go.Proofs.YtdeichibnnbjdaaDoor
open Go.RowKit Go.Proofs.YtdeichibnnbjdaaDoorW.PrintWords Go.Proofs.YtdeichibnnbjdaaDoorW.PrintLast Go.Proofs.YtdeichibnnbjdaaDoorW.PrintMore Go.Proofs.YtdeichibnnbjdaaDoor.Ext

theorem runeCount_pieces (s : ByteArray) : ∀ f pos, Lib.runeCountFrom s f pos = (piecesFrom s f pos).length
  | 0, _ => rfl
  | f + 1, pos => by
    unfold Lib.runeCountFrom piecesFrom
    split
    · rw [runeCount_pieces s f]
      simp
      omega
    · rfl
theorem runeCount_eq (s : ByteArray) : Lib.runeCount s = (pieces s).length := runeCount_pieces s s.size 0
theorem validGo_pieces (s : ByteArray) : ∀ f pos, Lib.validGoD f (s.data.toList.drop pos) = (piecesFrom s f pos).all (fun p => !p.f3)
  | 0, _ => rfl
  | f + 1, pos => by
    have hl : s.data.toList.length = s.size := by rw [Array.length_toList]; rfl
    unfold Lib.validGoD piecesFrom
    by_cases h : pos < s.size
    · rw [if_pos h, if_neg (dropsz s pos h), Lib.decodeL_drop, List.drop_drop, validGo_pieces s f]
      have hf3 : (pieceAt s pos).f3 = decide ((Utf8.decode s pos).1 = 65533 ∧ (Utf8.decode s pos).2 = 1) := rfl
      rw [List.all_cons, hf3]
      by_cases e : (Utf8.decode s pos).1 = 65533 ∧ (Utf8.decode s pos).2 = 1
      · rw [if_pos e, decide_eq_true e]
        rfl
      · rw [if_neg e, decide_eq_false e]
        simp
    · rw [if_neg h, if_pos (List.drop_of_length_le (by omega))]
      rfl
theorem valid_pieces (s : ByteArray) : Lib.validD s.data.toList = (pieces s).all (fun p => !p.f3) := by
  unfold Lib.validD pieces
  have hl : s.data.toList.length = s.size := by rw [Array.length_toList]; rfl
  rw [hl]
  have := validGo_pieces s s.size 0
  simpa using this
theorem runesFrom_pieces (s : ByteArray) : ∀ (f pos : Nat) (acc : Array Value), (Conv.runesFrom s f pos acc).toList = acc.toList ++ (piecesFrom s f pos).map (fun p => Value.int .i32 p.f0)
  | 0, _, acc => by simp [Conv.runesFrom, piecesFrom]
  | f + 1, pos, acc => by
    unfold Conv.runesFrom piecesFrom
    split
    · rename_i h
      show (Conv.runesFrom s f (pos + (Utf8.decode s pos).2) (acc.push (Value.int .i32 (Int.ofNat (Utf8.decode s pos).1)))).toList = _
      rw [runesFrom_pieces s f, Array.toList_push, List.map_cons, List.append_assoc]
      rfl
    · simp
theorem runesOf_pieces (s : ByteArray) : runesOf s = (pieces s).map (fun p => p.f0) := by
  unfold runesOf pieces
  rw [runesFrom_pieces]
  simp
/-- A shape's name. -/
def nameC (b : UInt8) : Bool := az b || (decide (48 ≤ b.toNat) && decide (b.toNat ≤ 57)) || decide (b.toNat = 45)
def nameS (s : ByteArray) : Bool := decide (s.size ≤ 32) && s.data.toList.all nameC
def formS (ks : List Int) (s : ByteArray) : Bool := (pieces s).all (fun p => !p.f3) && decide ((pieces s).length ≤ 64) && (pieces s).all (fun p => ks.contains p.f0 || decide (p.f0 = 95))
/-- radical.Check. -/
def chkS (l0 : List ByteArray) (l1 : List Letter) (n f : ByteArray) : Int := if chk l0 l1 = 0 then (if (nameS n && formS (kindsOf l1) f) = true then 0 else 130) else chk l0 l1
end Go.Proofs.YtdeichibnnbjdaaDoor
end
section
/-
  radical.Check by a walk.
-/
set_option linter.unusedSimpArgs false
set_option linter.unusedVariables false
namespace Go.Proofs.YtdeichibnnbjdaaDoor
open Go.RowKit Go.Proofs.YtdeichibnnbjdaaDoorW.PrintWords Go.Proofs.YtdeichibnnbjdaaDoorW.PrintLast Go.Proofs.YtdeichibnnbjdaaDoorW.PrintMore Go.Proofs.YtdeichibnnbjdaaDoor.Ext

theorem boxes2 (w : World) (a b : Obj) : Below w.heap.size w ((w.alloc a).alloc b) ∧ ((w.alloc a).alloc b).heap[w.heap.size]? = some a ∧ ((w.alloc a).alloc b).heap[w.heap.size + 1]? = some b := by
  have e1 : (w.alloc a).heap.size = w.heap.size + 1 := by simp
  refine ⟨((Below.refl _ _).alloc (Nat.le_refl _) _).alloc (by simp) _, blk_alloc (blk_new w a) b, ?_⟩
  have := blk_new (w.alloc a) b
  rwa [e1] at this
theorem nameC_contains (b : UInt8) : ([97, 98, 99, 100, 101, 102, 103, 104, 105, 106, 107, 108, 109, 110, 111, 112, 113, 114, 115, 116, 117, 118, 119, 120, 121, 122, 48, 49, 50, 51, 52, 53, 54, 55, 56, 57, 45] : List UInt8).contains b = nameC b := by
  have h : ∀ n, n < 256 → ([97, 98, 99, 100, 101, 102, 103, 104, 105, 106, 107, 108, 109, 110, 111, 112, 113, 114, 115, 116, 117, 118, 119, 120, 121, 122, 48, 49, 50, 51, 52, 53, 54, 55, 56, 57, 45] : List UInt8).contains (UInt8.ofNat n) = nameC (UInt8.ofNat n) := by decide +kernel
  have h2 := h b.toNat b.toNat_lt
  rwa [UInt8.ofNat_toNat] at h2
abbrev nameSet : ByteArray := ⟨#[97, 98, 99, 100, 101, 102, 103, 104, 105, 106, 107, 108, 109, 110, 111, 112, 113, 114, 115, 116, 117, 118, 119, 120, 121, 122, 48, 49, 50, 51, 52, 53, 54, 55, 56, 57, 45]⟩
theorem trimName (n : ByteArray) : Lib.trimS n.data.toList nameSet.data.toList = [] ↔ n.data.toList.all nameC = true := by
  rw [trimS_nil]
  have e : (n.data.toList.all (nameSet.data.toList.contains ·)) = n.data.toList.all nameC := by
    congr 1
    funext b
    exact nameC_contains b
  rw [e]
def okF (ks : List Int) (p : Piece) : Bool := ks.contains p.f0 || decide (p.f0 = 95)
namespace Ext
def radical_Check.f (l0 : List ByteArray) (l1 : List Letter) (n f : ByteArray) : Option Int := if n.size ≤ 9223372036854775807 ∧ f.size < 9223372036854775807 then some (chkS l0 l1 n f) else none
set_option maxHeartbeats 4000000 in
set_option maxRecDepth 100000 in
theorem radical_Check.calls (A0 : Option Addr) (c0 : Nat) (l0 : List ByteArray) (A1 : Option Addr) (c1 : Nat) (l1 : List Letter) (n f : ByteArray) (r : Int) (w : World) (hF : Kd.C Kd.string w A0 l0.length l0) (hcF : l0.length ≤ c0) (hL : Kd.C kLetter w A1 l1.length l1) (hcL : l1.length ≤ c1) (hT : Tabs w)
    (h : radical_Check.f l0 l1 n f = some r) :
    Calls Tryd.prog 22 #[.agg #[.slice A0 l0.length c0, .slice A1 l1.length c1], .agg #[.string n, .string f]] w fun e w' => e = .returned (.int .i64 r) ∧ Below w.heap.size w w' := by
  unfold radical_Check.f at h
  split at h
  case isFalse => cases h
  case isTrue hsz =>
  have h := Option.some.inj h
  have hch := fun W (hb : Below w.heap.size w W) => feature_Check.calls A0 c0 l0 A1 c1 l1 (chk l0 l1) W (Kd.C_below hF hb) hcF (Kd.C_below hL hb) hcL rfl
  have HO := Lib.hid (fun (x r1 r2 r3 r4 : Int) W (hb : Below w.heap.size w W) h => feature_Of.calls A0 c0 l0 A1 c1 l1 x r1 r2 r3 r4 W (Kd.C_below hF hb) hcF (Kd.C_below hL hb) hcL h)
  have HT := Lib.hid hT
  have HB := Lib.hid (boxes2 w (.cells #[.slice A0 l0.length c0, .slice A1 l1.length c1] 25) (.cells #[.string n, .string f] 32))
  clear hF hL hT
  obtain ⟨hn1, hf1⟩ := hsz
  by_cases hk : chk l0 l1 = 0
  · rw [hk] at hch
    have hcS : chkS l0 l1 n f = if (nameS n && formS (kindsOf l1) f) = true then 0 else 130 := by unfold chkS; rw [if_pos hk]
    rw [hcS] at h
    have Hk := Lib.hid hk
    clear hk hcS
    by_cases hn : n.size ≤ 32
    · have htr := fun W => strings_Trim.calls n nameSet ⟨(Lib.trimS n.data.toList nameSet.data.toList).toArray⟩ W (by unfold strings_Trim.f; rw [if_pos ⟨hn1, by decide, by decide⟩])
      by_cases ht : n.data.toList.all nameC = true
      · have ht2 := (trimName n).2 ht
        rw [ht2] at htr
        have Hnm : Hid (nameS n = true) := by unfold nameS; simp [hn, ht, Hid]
        have hrc := fun W => utf8_RuneCountInString.calls f (Lib.runeCount f) W (by unfold utf8_RuneCountInString.f; rw [if_pos hf1])
        rw [runeCount_eq] at hrc
        by_cases hv : (pieces f).all (fun p => !p.f3) = true
        · have hva := fun W hT => utf8_ValidString.calls f true W hT (by unfold utf8_ValidString.f; rw [if_pos (by omega), valid_pieces, hv])
          by_cases hct : (pieces f).length ≤ 64
          · have Hform : Hid ((if (pieces f).all (okF (kindsOf l1)) = true then 0 else 130) = r) := by
              rw [← h, Hnm.out]
              unfold formS
              rw [hv, decide_eq_true hct]
              rfl
            have hlen : ((pieces f).length : Int) ≤ 64 := by omega
            have hd : decide ((64 : Int) < (pieces f).length) = false := decide_eq_false (by omega)
            obtain ⟨nc, hnc⟩ : ∃ nc, nc = ((pieces f).length : Int) := ⟨_, rfl⟩
            rw [← hnc] at hd hlen hrc
            clear h hv ht ht2 hct hnc
            go_enter Tryd.func22, Tryd.ntmps22
            go_wp2_with (first | (go_at_call 37; refine (hch _ HB.out.1).mono ?_; rintro e w1 ⟨rfl, hb1⟩; have hB1 := Lib.hid (below_step HB.out.1 hb1); have hx1 := Lib.hid (blk_below HB.out.2.2 hb1); have hy1 := Lib.hid (blk_below HB.out.2.1 hb1); have hc10 := (blk_cell hx1.out 0).trans rfl; have hc11 := (blk_cell hx1.out 1).trans rfl) | (go_at_call 38; refine (htr _).mono ?_; rintro e w2 ⟨rfl, hb2⟩; have hB2 := Lib.hid (below_step hB1.out hb2); have hx2 := Lib.hid (blk_below hx1.out hb2); have hy2 := Lib.hid (blk_below hy1.out hb2); have hc21 := (blk_cell hx2.out 1).trans rfl) | (go_at_call 39; refine (hva _ (HT.out.below hB2.out)).mono ?_; rintro e w3 ⟨rfl, hb3⟩; have hB3 := Lib.hid (below_step hB2.out hb3); have hx3 := Lib.hid (blk_below hx2.out hb3); have hy3 := Lib.hid (blk_below hy2.out hb3); have hc31 := (blk_cell hx3.out 1).trans rfl) | (go_at_call 40; refine (hrc _).mono ?_; rintro e w4 ⟨rfl, hb4⟩; have hB4 := Lib.hid (below_step hB3.out hb4); have hx4 := Lib.hid (blk_below hx3.out hb4); have hy4 := Lib.hid (blk_below hy3.out hb4); have hc41 := (blk_cell hx4.out 1).trans rfl))
            have hs4 := hb4.size
            have hs0 := hB3.out.size
            have hlt0 := blk_lt hy4.out
            go_loopw [7] (fun _ wr => ∃ pos fuel : Nat, wr.heap[w4.heap.size]? = some (.stringIter f pos) ∧ Hid (Below w.heap.size w wr) ∧ Hid (wr.heap[w.heap.size]? = some (.cells #[.slice A0 l0.length c0, .slice A1 l1.length c1] 25 (0, 0))) ∧ Hid ((pieces f).all (okF (kindsOf l1)) = (piecesFrom f fuel pos).all (okF (kindsOf l1))) ∧ f.size ≤ pos + fuel ∧ w4.heap.size < wr.heap.size)
              (fun _ w' => f.size - w'.iterPos w4.heap.size)
            case atStart => exact ⟨0, f.size, World.iter_heap _ _ _, hB4.out.alloc hB4.out.size _, blk_alloc hy4.out _, rfl, by omega, by simp [World.iter]⟩
            case round =>
              obtain ⟨pos, fuel, hit, hb, hx, hq, hfu, hsz⟩ := hrel
              by_cases hp : pos < f.size
              · have hnx : ∀ ty, (Instr.next (.pointer (some ⟨w4.heap.size, 0, none⟩)) true ty).run Tryd.prog wr = _ := fun ty => Lib.run_next_any_at wr w4.heap.size f pos ty hit hp
                obtain ⟨x, m, hd⟩ : ∃ x m, Utf8.decode f pos = (x, m) := ⟨_, _, rfl⟩
                have f1 := dec_pos f pos
                have f2 := dec_le f pos hp
                have HPF : Hid (piecesFrom f fuel pos = pieceAt f pos :: piecesFrom f (fuel - 1) (pos + m)) := by
                  obtain ⟨g, rfl⟩ : ∃ g, fuel = g + 1 := ⟨fuel - 1, by omega⟩
                  show piecesFrom f (g + 1) pos = _
                  rw [piecesFrom, if_pos hp, hd]
                  rfl
                have HP0 : Hid ((pieceAt f pos).f0 = (x : Int)) := by unfold pieceAt; rw [hd]; rfl
                rw [hd] at hnx f1 f2
                dsimp only at hnx f1 f2
                have Hbq := Lib.hid (Lib.below_iterAt hb.out (Nat.le_of_lt (by omega : w.heap.size < w4.heap.size)) f (pos + m))
                have Hitq := Lib.hid (Lib.iterAt_heap wr w4.heap.size f pos (pos + m) hit)
                have Hxq := Lib.hid ((Lib.iterAt_other wr w4.heap.size w.heap.size f (pos + m) (by omega)).trans hx.out)
                have hcq0 := (blk_cell Hxq.out 0).trans rfl
                have hcq1 := (blk_cell Hxq.out 1).trans rfl
                have Hhit := Lib.hid hit
                have Hzq := Lib.hid (Lib.iterAt_size wr w4.heap.size f (pos + m))
                clear hd hit
                obtain ⟨a1, a2, a3, e, hof, he⟩ : ∃ a1 a2 a3 e, feature_Of.f l0 l1 (x : Int) = some (a1, a2, a3, e) ∧ ((e = 5 ∧ (kindsOf l1).contains (x : Int) = false) ∨ (e = 0 ∧ (kindsOf l1).contains (x : Int) = true)) := by
                  unfold feature_Of.f
                  rw [if_pos Hk.out]
                  by_cases hneg : numOf l1 (x : Int) < 0
                  · rw [if_pos hneg]
                    exact ⟨_, _, _, _, rfl, .inl ⟨rfl, (numOf_neg l1 x).1 hneg⟩⟩
                  · rw [if_neg hneg]
                    refine ⟨_, _, _, _, rfl, .inr ⟨rfl, ?_⟩⟩
                    have := mt (numOf_neg l1 x).2 hneg
                    simpa using this
                have hOf := fun W hb => HO.out (x : Int) a1 a2 a3 e W hb hof
                clear hof
                rcases he with ⟨rfl, hks⟩ | ⟨rfl, hks⟩
                · have Hks := Lib.hid hks
                  clear hks
                  by_cases h95 : (x : Int) = 95
                  · have hr1 : ((x : Int) != 95) = false := by simp [h95]
                    have Hok : Hid (okF (kindsOf l1) (pieceAt f pos) = true) := by unfold okF; rw [HP0.out]; simp [h95, Hid]
                    clear h95
                    go_wp2_with (go_at_call 41; refine (hOf _ Hbq.out).mono ?_; rintro e w5 ⟨rfl, hb5⟩)
                    have hi5 := Lib.hid (blk_below Hitq.out hb5)
                    have hx5 := Lib.hid (blk_below Hxq.out hb5)
                    have hB5 := Lib.hid (below_step Hbq.out hb5)
                    have hs5 := hb5.size
                    rw [Hzq.out] at hs5
                    go_roundw
                    case rel =>
                      refine ⟨pos + m, fuel - 1, blk_alloc hi5.out _, hB5.out.alloc hB5.out.size _, blk_alloc hx5.out _, ?_, by omega, by simp; omega⟩
                      show _ = _
                      rw [hq.out, HPF.out, List.all_cons, Hok.out, Bool.true_and]
                    case measure => rw [iterPos_of Hhit.out, iterPos_of (blk_alloc hi5.out _)]; omega
                  · have hr1 : ((x : Int) != 95) = true := by simpa using h95
                    have Hok : Hid (okF (kindsOf l1) (pieceAt f pos) = false) := by unfold okF; rw [HP0.out, Hks.out]; simpa [Hid] using h95
                    clear h95
                    go_wp2_with (go_at_call 41; refine (hOf _ Hbq.out).mono ?_; rintro e w5 ⟨rfl, hb5⟩)
                    have hB5 := Lib.hid (below_step Hbq.out hb5)
                    go_ret
                    refine ⟨ret_i64 ?_, hB5.out.alloc hB5.out.size _⟩
                    rw [← Hform.out, hq.out, HPF.out, List.all_cons, Hok.out]
                    rfl
                · have Hok : Hid (okF (kindsOf l1) (pieceAt f pos) = true) := by unfold okF; rw [HP0.out, hks]; rfl
                  clear hks
                  go_wp2_with (go_at_call 41; refine (hOf _ Hbq.out).mono ?_; rintro e w5 ⟨rfl, hb5⟩)
                  have hi5 := Lib.hid (blk_below Hitq.out hb5)
                  have hx5 := Lib.hid (blk_below Hxq.out hb5)
                  have hB5 := Lib.hid (below_step Hbq.out hb5)
                  have hs5 := hb5.size
                  rw [Hzq.out] at hs5
                  go_roundw
                  case rel =>
                    refine ⟨pos + m, fuel - 1, blk_alloc hi5.out _, hB5.out.alloc hB5.out.size _, blk_alloc hx5.out _, ?_, by omega, by simp; omega⟩
                    show _ = _
                    rw [hq.out, HPF.out, List.all_cons, Hok.out, Bool.true_and]
                  case measure => rw [iterPos_of Hhit.out, iterPos_of (blk_alloc hi5.out _)]; omega
              · have hnx : ∀ ty, (Instr.next (.pointer (some ⟨w4.heap.size, 0, none⟩)) true ty).run Tryd.prog wr = _ := fun ty => Lib.run_next_end_at wr w4.heap.size f pos ty hit hp
                go_wp2_with fail
                go_ret
                refine ⟨ret_i64 ?_, hb.out⟩
                have hz : piecesFrom f fuel pos = [] := by
                  cases fuel with
                  | zero => rfl
                  | succ g => exact if_neg hp
                rw [← Hform.out, hq.out, hz]
                rfl
          · have Hr : Hid (130 = r) := by rw [← h]; unfold formS; simp [hct, Hid]
            have hlen : (64 : Int) < ((pieces f).length : Int) := by omega
            have hd : decide ((64 : Int) < (pieces f).length) = true := decide_eq_true (by omega)
            obtain ⟨nc, hnc⟩ : ∃ nc, nc = ((pieces f).length : Int) := ⟨_, rfl⟩
            rw [← hnc] at hd hlen hrc
            clear h hv ht ht2 hct hnc
            go_enter Tryd.func22, Tryd.ntmps22
            go_wp2_with (first | (go_at_call 37; refine (hch _ HB.out.1).mono ?_; rintro e w1 ⟨rfl, hb1⟩; have hB1 := Lib.hid (below_step HB.out.1 hb1); have hx1 := Lib.hid (blk_below HB.out.2.2 hb1); have hy1 := Lib.hid (blk_below HB.out.2.1 hb1); have hc10 := (blk_cell hx1.out 0).trans rfl; have hc11 := (blk_cell hx1.out 1).trans rfl) | (go_at_call 38; refine (htr _).mono ?_; rintro e w2 ⟨rfl, hb2⟩; have hB2 := Lib.hid (below_step hB1.out hb2); have hx2 := Lib.hid (blk_below hx1.out hb2); have hy2 := Lib.hid (blk_below hy1.out hb2); have hc21 := (blk_cell hx2.out 1).trans rfl) | (go_at_call 39; refine (hva _ (HT.out.below hB2.out)).mono ?_; rintro e w3 ⟨rfl, hb3⟩; have hB3 := Lib.hid (below_step hB2.out hb3); have hx3 := Lib.hid (blk_below hx2.out hb3); have hy3 := Lib.hid (blk_below hy2.out hb3); have hc31 := (blk_cell hx3.out 1).trans rfl) | (go_at_call 40; refine (hrc _).mono ?_; rintro e w4 ⟨rfl, hb4⟩; have hB4 := Lib.hid (below_step hB3.out hb4); have hx4 := Lib.hid (blk_below hx3.out hb4); have hy4 := Lib.hid (blk_below hy3.out hb4); have hc41 := (blk_cell hx4.out 1).trans rfl))
            go_ret
            exact ⟨ret_i64 Hr.out, hB4.out⟩
        · have hva := fun W hT => utf8_ValidString.calls f false W hT (by unfold utf8_ValidString.f; rw [if_pos (by omega), valid_pieces, (Bool.not_eq_true _).mp hv])
          have Hr : Hid (130 = r) := by rw [← h]; unfold formS; simp [hv, Hid]
          clear h hv ht ht2
          go_enter Tryd.func22, Tryd.ntmps22
          go_wp2_with (first | (go_at_call 37; refine (hch _ HB.out.1).mono ?_; rintro e w1 ⟨rfl, hb1⟩; have hB1 := Lib.hid (below_step HB.out.1 hb1); have hx1 := Lib.hid (blk_below HB.out.2.2 hb1); have hy1 := Lib.hid (blk_below HB.out.2.1 hb1); have hc10 := (blk_cell hx1.out 0).trans rfl; have hc11 := (blk_cell hx1.out 1).trans rfl) | (go_at_call 38; refine (htr _).mono ?_; rintro e w2 ⟨rfl, hb2⟩; have hB2 := Lib.hid (below_step hB1.out hb2); have hx2 := Lib.hid (blk_below hx1.out hb2); have hy2 := Lib.hid (blk_below hy1.out hb2); have hc21 := (blk_cell hx2.out 1).trans rfl) | (go_at_call 39; refine (hva _ (HT.out.below hB2.out)).mono ?_; rintro e w3 ⟨rfl, hb3⟩; have hB3 := Lib.hid (below_step hB2.out hb3); have hx3 := Lib.hid (blk_below hx2.out hb3); have hy3 := Lib.hid (blk_below hy2.out hb3); have hc31 := (blk_cell hx3.out 1).trans rfl) | (go_at_call 40; refine (hrc _).mono ?_; rintro e w4 ⟨rfl, hb4⟩; have hB4 := Lib.hid (below_step hB3.out hb4); have hx4 := Lib.hid (blk_below hx3.out hb4); have hy4 := Lib.hid (blk_below hy3.out hb4); have hc41 := (blk_cell hx4.out 1).trans rfl))
          go_ret
          exact ⟨ret_i64 Hr.out, hB3.out⟩
      · have ht2 := mt (trimName n).1 ht
        have Hr : Hid (130 = r) := by rw [← h]; unfold nameS; simp [ht, Hid]
        obtain ⟨q, hq⟩ : ∃ q, q = Lib.trimS n.data.toList nameSet.data.toList := ⟨_, rfl⟩
        rw [← hq] at htr ht2
        have hqe : (!q.isEmpty) = true := by cases q with | nil => exact absurd rfl ht2 | cons _ _ => rfl
        clear h hq ht
        go_enter Tryd.func22, Tryd.ntmps22
        go_wp2_with (first | (go_at_call 37; refine (hch _ HB.out.1).mono ?_; rintro e w1 ⟨rfl, hb1⟩; have hB1 := Lib.hid (below_step HB.out.1 hb1); have hx1 := Lib.hid (blk_below HB.out.2.2 hb1); have hy1 := Lib.hid (blk_below HB.out.2.1 hb1); have hc10 := (blk_cell hx1.out 0).trans rfl; have hc11 := (blk_cell hx1.out 1).trans rfl) | (go_at_call 38; refine (htr _).mono ?_; rintro e w2 ⟨rfl, hb2⟩; have hB2 := Lib.hid (below_step hB1.out hb2)))
        go_ret
        exact ⟨ret_i64 Hr.out, hB2.out⟩
    · have Hr : Hid (130 = r) := by rw [← h]; unfold nameS; simp [hn, Hid]
      have hd := decide_eq_true (show (32 : Int) < n.size by omega)
      clear h
      go_enter Tryd.func22, Tryd.ntmps22
      go_wp2_with (first | (go_at_call 37; refine (hch _ HB.out.1).mono ?_; rintro e w1 ⟨rfl, hb1⟩; have hB1 := Lib.hid (below_step HB.out.1 hb1); have hx1 := Lib.hid (blk_below HB.out.2.2 hb1); have hy1 := Lib.hid (blk_below HB.out.2.1 hb1); have hc10 := (blk_cell hx1.out 0).trans rfl; have hc11 := (blk_cell hx1.out 1).trans rfl))
      go_ret
      exact ⟨ret_i64 Hr.out, hB1.out⟩
  · have heb : (chk l0 l1 == 0) = false := beq_eq_false_iff_ne.mpr hk
    have heb2 : (chk l0 l1 != 0) = true := bne_iff_ne.mpr hk
    have Hr : Hid (chk l0 l1 = r) := by rw [← h]; unfold chkS; rw [if_neg hk]; rfl
    clear h hk
    go_enter Tryd.func22, Tryd.ntmps22
    go_wp2_with (first | (go_at_call 37; refine (hch _ HB.out.1).mono ?_; rintro e w1 ⟨rfl, hb1⟩; have hB1 := Lib.hid (below_step HB.out.1 hb1)))
    go_ret
    exact ⟨ret_i64 Hr.out, hB1.out⟩
end Ext
end Go.Proofs.YtdeichibnnbjdaaDoor
end
section
/-
  Texts and their runes, there and back: plain facts. No program in sight.
-/
set_option linter.unusedSimpArgs false
set_option linter.unusedVariables false
namespace Go.Proofs.YtdeichibnnbjdaaDoor
open Go.RowKit Go.Proofs.YtdeichibnnbjdaaDoorW.PrintWords Go.Proofs.YtdeichibnnbjdaaDoorW.PrintLast Go.Proofs.YtdeichibnnbjdaaDoorW.PrintMore Go.Proofs.YtdeichibnnbjdaaDoor.Ext

theorem valid_iff (r : Int) : Utf8.valid r = true ↔ (0 ≤ r ∧ r < 55296) ∨ (57344 ≤ r ∧ r ≤ 1114111) := by
  unfold Utf8.valid
  simp
def encB (r : Int) : List UInt8 := (Utf8.encode r).data.toList
theorem encB_cases (r : Int) (h : Utf8.valid r = true) :
    (r < 128 ∧ encB r = [UInt8.ofNat r.toNat]) ∨ (128 ≤ r ∧ r < 2048 ∧ encB r = [UInt8.ofNat (192 + r.toNat / 64), UInt8.ofNat (128 + r.toNat % 64)]) ∨
    (2048 ≤ r ∧ r < 65536 ∧ encB r = [UInt8.ofNat (224 + r.toNat / 4096), UInt8.ofNat (128 + r.toNat / 64 % 64), UInt8.ofNat (128 + r.toNat % 64)]) ∨
    (65536 ≤ r ∧ encB r = [UInt8.ofNat (240 + r.toNat / 262144), UInt8.ofNat (128 + r.toNat / 4096 % 64), UInt8.ofNat (128 + r.toNat / 64 % 64), UInt8.ofNat (128 + r.toNat % 64)]) := by
  have hv := (valid_iff r).1 h
  unfold encB Utf8.encode
  simp only [h, if_true]
  by_cases a : r.toNat < 128
  · left
    exact ⟨by omega, by rw [if_pos (by omega)]⟩
  · right
    by_cases b : r.toNat < 2048
    · left
      exact ⟨by omega, by omega, by rw [if_neg (by omega), if_pos (by omega)]⟩
    · right
      by_cases c : r.toNat < 65536
      · left
        exact ⟨by omega, by omega, by rw [if_neg (by omega), if_neg (by omega), if_pos (by omega)]⟩
      · right
        exact ⟨by omega, by rw [if_neg (by omega), if_neg (by omega), if_neg (by omega)]⟩
theorem toN (n : Nat) (h : n < 256) : (UInt8.ofNat n).toNat = n := by
  rw [UInt8.toNat_ofNat']
  omega
theorem encB_len (r : Int) (h : Utf8.valid r = true) : 1 ≤ (encB r).length ∧ (encB r).length ≤ 4 ∧ ((encB r).length = 1 → r < 128) := by
  rcases encB_cases r h with ⟨a, e⟩ | ⟨a, b, e⟩ | ⟨a, b, e⟩ | ⟨a, e⟩
  all_goals (rw [e]; simp)
  omega
theorem encB_lib (r : Int) (h : Utf8.valid r = true) : encB r = Lib.encodeRune r := by
  have hv := (valid_iff r).1 h
  unfold Lib.encodeRune
  rcases encB_cases r h with ⟨a, e⟩ | ⟨a, b, e⟩ | ⟨a, b, e⟩ | ⟨a, e⟩
  · rw [e, Lib.encodeRuneZ_one (by omega) (by omega)]
    rfl
  · rw [e, Lib.encodeRuneZ_two (by omega) (by omega)]
    simp only [List.map_cons, List.map_nil]
    have e1 : (192 + r / 64).toNat = 192 + r.toNat / 64 := by omega
    have e2 : (128 + r % 64).toNat = 128 + r.toNat % 64 := by omega
    rw [e1, e2]
  · rw [e, Lib.encodeRuneZ_three (by omega)]
    simp only [List.map_cons, List.map_nil]
    have e1 : (224 + r / 4096).toNat = 224 + r.toNat / 4096 := by omega
    have e2 : (128 + r / 64 % 64).toNat = 128 + r.toNat / 64 % 64 := by omega
    have e3 : (128 + r % 64).toNat = 128 + r.toNat % 64 := by omega
    rw [e1, e2, e3]
  · rw [e, Lib.encodeRuneZ_four (by omega) (by omega)]
    simp only [List.map_cons, List.map_nil]
    have e1 : (240 + r / 262144).toNat = 240 + r.toNat / 262144 := by omega
    have e2 : (128 + r / 4096 % 64).toNat = 128 + r.toNat / 4096 % 64 := by omega
    have e3 : (128 + r / 64 % 64).toNat = 128 + r.toNat / 64 % 64 := by omega
    have e4 : (128 + r % 64).toNat = 128 + r.toNat % 64 := by omega
    rw [e1, e2, e3, e4]
def flat : List Int → List UInt8
  | [] => []
  | r :: rs => encB r ++ flat rs
theorem flat_append : ∀ a b : List Int, flat (a ++ b) = flat a ++ flat b
  | [], _ => rfl
  | x :: xs, b => by simp [flat, flat_append xs b]
theorem foldl_flat : ∀ (l : List Int) (a : ByteArray), (l.foldl (fun r n => r ++ Utf8.encode n) a).data.toList = a.data.toList ++ flat l
  | [], a => by simp [flat]
  | x :: xs, a => by
    rw [List.foldl_cons, foldl_flat xs]
    simp [flat, encB]
theorem runesBytes_flat (l : List Int) : (runesBytes l).data.toList = flat l := by
  unfold runesBytes
  rw [foldl_flat]
  rfl
theorem bytes_ext {a b : ByteArray} (h : a.data.toList = b.data.toList) : a = b := by
  obtain ⟨x⟩ := a
  obtain ⟨y⟩ := b
  congr 1
  exact Array.toList_inj.1 h
theorem size_list (s : ByteArray) : s.data.toList.length = s.size := by
  rw [Array.length_toList]
  rfl
theorem runesBytes_append (a b : List Int) : runesBytes (a ++ b) = runesBytes a ++ runesBytes b := by
  apply bytes_ext
  rw [runesBytes_flat, flat_append]
  simp [runesBytes_flat]
theorem runesBytes_one (r : Int) : runesBytes [r] = Utf8.encode r := by
  apply bytes_ext
  rw [runesBytes_flat]
  simp [flat, encB]
theorem runesBytes_nil : runesBytes [] = (⟨#[]⟩ : ByteArray) := rfl
theorem flat_len : ∀ l : List Int, (∀ x ∈ l, Utf8.valid x = true) → l.length ≤ (flat l).length ∧ (flat l).length ≤ 4 * l.length
  | [], _ => by simp [flat]
  | x :: xs, h => by
    have h1 := flat_len xs (fun y hy => h y (List.mem_cons_of_mem _ hy))
    have h2 := encB_len x (h x (List.mem_cons_self ..))
    simp only [flat, List.length_append, List.length_cons]
    omega
theorem runesBytes_size (l : List Int) (h : ∀ x ∈ l, Utf8.valid x = true) : l.length ≤ (runesBytes l).size ∧ (runesBytes l).size ≤ 4 * l.length := by
  rw [← size_list, runesBytes_flat]
  exact flat_len l h
theorem flat_back (s : ByteArray) : ∀ (f pos : Nat), (piecesFrom s f pos).all (fun p => !p.f3) = true → s.size - pos ≤ f → flat ((piecesFrom s f pos).map (fun p => p.f0)) = s.data.toList.drop pos ∧ ∀ p ∈ piecesFrom s f pos, Utf8.valid p.f0 = true
  | 0, pos, _, hf => by
    rw [List.drop_of_length_le (by rw [size_list]; omega)]
    simp [piecesFrom, flat]
  | f + 1, pos, ha, hf => by
    unfold piecesFrom at ha ⊢
    by_cases h : pos < s.size
    · rw [if_pos h] at ha ⊢
      simp only [List.all_cons, Bool.and_eq_true] at ha
      have hp1 := dec_pos s pos
      have ih := flat_back s f (pos + (Utf8.decode s pos).2) ha.2 (by omega)
      have hb : ¬ ((Lib.decodeL (s.data.toList.drop pos)).1 = 65533 ∧ (Lib.decodeL (s.data.toList.drop pos)).2 = 1) := by
        rw [Lib.decodeL_drop]
        intro hc
        have := ha.1
        unfold pieceAt at this
        simp [hc] at this
      have henc := Lib.encode_decode (s.data.toList.drop pos) (dropsz s pos h) hb
      rw [Lib.decodeL_drop] at henc
      have hvd : Utf8.valid ((Utf8.decode s pos).1 : Int) = true := by
        rw [valid_iff, Lib.decode_at]
        have := Lib.decodeN_valid (s.size - pos) (s.get! pos).toNat (s.get! (pos + 1)).toNat (s.get! (pos + 2)).toNat (s.get! (pos + 3)).toNat (UInt8.toNat_lt _)
        omega
      refine ⟨?_, ?_⟩
      · rw [List.map_cons]
        show encB ((Utf8.decode s pos).1 : Int) ++ flat _ = _
        rw [ih.1, encB_lib _ hvd, henc, ← List.drop_drop, List.take_append_drop]
      · intro p hp
        rcases List.mem_cons.1 hp with rfl | hp
        · exact hvd
        · exact ih.2 p hp
    · rw [if_neg h]
      rw [List.drop_of_length_le (by rw [size_list]; omega)]
      simp [flat]
/-- A text without broken bytes is its runes' text. -/
theorem runes_back (s : ByteArray) (h : (pieces s).all (fun p => !p.f3) = true) : runesBytes (runesOf s) = s := by
  apply bytes_ext
  rw [runesBytes_flat, runesOf_pieces]
  have := (flat_back s s.size 0 h (by omega)).1
  simpa [pieces] using this
theorem runes_valid (s : ByteArray) (h : (pieces s).all (fun p => !p.f3) = true) : ∀ x ∈ runesOf s, Utf8.valid x = true := by
  rw [runesOf_pieces]
  intro x hx
  obtain ⟨p, hp, rfl⟩ := List.mem_map.1 hx
  exact (flat_back s s.size 0 h (by omega)).2 p hp
/-! ### letters -/
/-! ### holes: bytes and runes -/
theorem encB_count (r : Int) (h : Utf8.valid r = true) : (encB r).count 95 = if r = 95 then 1 else 0 := by
  have hv := (valid_iff r).1 h
  have hn : ∀ n, n < 256 → n ≠ 95 → UInt8.ofNat n ≠ 95 := by
    intro n hn hne he
    have := congrArg UInt8.toNat he
    rw [toN n hn] at this
    exact hne this
  rcases encB_cases r h with ⟨a, e⟩ | ⟨a, b, e⟩ | ⟨a, b, e⟩ | ⟨a, e⟩
  · rw [e]
    by_cases hr : r = 95
    · subst hr
      rfl
    · rw [if_neg hr, List.count_eq_zero]
      simpa using (hn r.toNat (by omega) (by omega)).symm
  · rw [e, if_neg (by omega), List.count_eq_zero]
    have h1 := hn (192 + r.toNat / 64) (by omega) (by omega)
    have h2 := hn (128 + r.toNat % 64) (by omega) (by omega)
    simp only [List.mem_cons, List.not_mem_nil, or_false, not_or]
    exact ⟨fun h => h1 h.symm, fun h => h2 h.symm⟩
  · rw [e, if_neg (by omega), List.count_eq_zero]
    have h1 := hn (224 + r.toNat / 4096) (by omega) (by omega)
    have h2 := hn (128 + r.toNat / 64 % 64) (by omega) (by omega)
    have h3 := hn (128 + r.toNat % 64) (by omega) (by omega)
    simp only [List.mem_cons, List.not_mem_nil, or_false, not_or]
    exact ⟨fun h => h1 h.symm, fun h => h2 h.symm, fun h => h3 h.symm⟩
  · rw [e, if_neg (by omega), List.count_eq_zero]
    have h1 := hn (240 + r.toNat / 262144) (by omega) (by omega)
    have h2 := hn (128 + r.toNat / 4096 % 64) (by omega) (by omega)
    have h3 := hn (128 + r.toNat / 64 % 64) (by omega) (by omega)
    have h4 := hn (128 + r.toNat % 64) (by omega) (by omega)
    simp only [List.mem_cons, List.not_mem_nil, or_false, not_or]
    exact ⟨fun h => h1 h.symm, fun h => h2 h.symm, fun h => h3 h.symm, fun h => h4 h.symm⟩
theorem flat_count : ∀ l : List Int, (∀ x ∈ l, Utf8.valid x = true) → (flat l).count 95 = l.count 95
  | [], _ => rfl
  | x :: xs, h => by
    simp only [flat, List.count_append]
    rw [flat_count xs (fun y hy => h y (List.mem_cons_of_mem _ hy)), encB_count x (h x (List.mem_cons_self ..)), List.count_cons]
    by_cases e : x = 95
    · simp [e]; omega
    · simp [e]
/-- A text's holes: bytes or runes. -/
theorem holes_runes (s : ByteArray) (h : (pieces s).all (fun p => !p.f3) = true) : s.data.toList.count 95 = (runesOf s).count 95 := by
  have := flat_count (runesOf s) (runes_valid s h)
  rw [← this, ← runesBytes_flat, runes_back s h]
end Go.Proofs.YtdeichibnnbjdaaDoor
end
section
-- printed by a program of this session (wip/tools/prx.sh: a turned copy of the kit's print, with functions given from outside)
namespace Go.Proofs.YtdeichibnnbjdaaDoor.RRw
open Go.RowKit Go.Proofs.YtdeichibnnbjdaaDoor Go.Proofs.YtdeichibnnbjdaaDoor.Ext Go.Proofs.YtdeichibnnbjdaaDoorW.PrintWords Go.Proofs.YtdeichibnnbjdaaDoorW.PrintLast Go.Proofs.YtdeichibnnbjdaaDoorW.PrintMore
attribute [local go_sem] max2_int min2_int max_two min_two max_three min_three max_four min_four   -- for this text's walks alone
set_option linter.unusedVariables false
set_option linter.unusedSimpArgs false



end Go.Proofs.YtdeichibnnbjdaaDoor.RRw
end
section
-- printed by a program of this session (wip/tools/prx.sh: a turned copy of the kit's print, with functions given from outside)
namespace Go.Proofs.YtdeichibnnbjdaaDoor.RRw
open Go.RowKit Go.Proofs.YtdeichibnnbjdaaDoor Go.Proofs.YtdeichibnnbjdaaDoor.Ext Go.Proofs.YtdeichibnnbjdaaDoorW.PrintWords Go.Proofs.YtdeichibnnbjdaaDoorW.PrintLast Go.Proofs.YtdeichibnnbjdaaDoorW.PrintMore
attribute [local go_sem] max2_int min2_int max_two min_two max_three min_three max_four min_four   -- for this text's walks alone
set_option linter.unusedVariables false
set_option linter.unusedSimpArgs false

theorem eqA32 (d : Nat) (w : World) (x0 y0 : ByteArray) (x1 y1 : ByteArray) :
    (Op.equalIn (d + 2) 32 (.agg #[.string x0, .string x1]) (.agg #[.string y0, .string y1])).run Tryd.prog w = .ok (x0.toList == y0.toList && (x1.toList == y1.toList)) w := by
  refine eqA_of Tryd.underlying32 (by kernel_rfl) ?_
  refine eqf_cons (by rfl) (by go_simp; rfl) (by go_simp; rfl) (by go_simp) ?_
  exact eqf_last (by rfl) (by go_simp; rfl) (by go_simp; rfl) (by go_simp)
end Go.Proofs.YtdeichibnnbjdaaDoor.RRw
end
section
/-
  A letter's class, two ways; the reference functions as contracts in plain words.
-/
set_option linter.unusedSimpArgs false
set_option linter.unusedVariables false
namespace Go.Proofs.YtdeichibnnbjdaaDoor
open Go.RowKit Go.Proofs.YtdeichibnnbjdaaDoorW.PrintWords Go.Proofs.YtdeichibnnbjdaaDoorW.PrintLast Go.Proofs.YtdeichibnnbjdaaDoorW.PrintMore Go.Proofs.YtdeichibnnbjdaaDoor.Ext

namespace Ext
/-- An alphabet that is not too large. -/
def smallA (l0 : List ByteArray) (l1 : List Letter) : Prop := l0.length ≤ 1000 ∧ l1.length ≤ 1000 ∧ wfA l1
instance (l0 : List ByteArray) (l1 : List Letter) : Decidable (smallA l0 l1) := by unfold smallA; exact inferInstance
def runes32 (l : List Int) : Prop := ∀ x ∈ l, -2147483648 ≤ x ∧ x ≤ 2147483647
instance (l : List Int) : Decidable (runes32 l) := by unfold runes32; exact inferInstance
end Ext
end Go.Proofs.YtdeichibnnbjdaaDoor
end
section
-- printed by a program of this session (wip/tools/prx.sh: a turned copy of the kit's print, with functions given from outside)
namespace Go.Proofs.YtdeichibnnbjdaaDoor.RRw
open Go.RowKit Go.Proofs.YtdeichibnnbjdaaDoor Go.Proofs.YtdeichibnnbjdaaDoor.Ext Go.Proofs.YtdeichibnnbjdaaDoorW.PrintWords Go.Proofs.YtdeichibnnbjdaaDoorW.PrintLast Go.Proofs.YtdeichibnnbjdaaDoorW.PrintMore
attribute [local go_sem] max2_int min2_int max_two min_two max_three min_three max_four min_four   -- for this text's walks alone
set_option linter.unusedVariables false
set_option linter.unusedSimpArgs false

/-! ### cognatelaw13_long: function 7 -/
/-! ### cognateref13_parted: function 31 -/
/-! ### cognateref13_Radicals: function 9 -/
/-! ### cognateref13_Shape: function 11 -/
end Go.Proofs.YtdeichibnnbjdaaDoor.RRw
end
section
/-
  radical.parted, Radicals, Shape by walks.
-/
set_option linter.unusedSimpArgs false
set_option linter.unusedVariables false
namespace Go.Proofs.YtdeichibnnbjdaaDoor
open Go.RowKit Go.Maps Go.WideMaps Go.Proofs.YtdeichibnnbjdaaDoorW.PrintWords Go.Proofs.YtdeichibnnbjdaaDoorW.PrintLast Go.Proofs.YtdeichibnnbjdaaDoorW.PrintMore Go.Proofs.YtdeichibnnbjdaaDoor.Ext

/-- The numbers that a word's letters of a class have, so far, as keys. -/
def seenI (l : List Int) (k : Nat) : List Lit := (l.take k).reverse.map (Lit.int .i64)
theorem seenI_succ (l : List Int) (k : Nat) (h : k < l.length) : seenI l (k + 1) = Lit.int .i64 l[k] :: seenI l k := by
  unfold seenI
  rw [List.take_succ_eq_append_getElem h, List.reverse_append, List.map_append]
  simp
theorem wf_i64 {i : Int} (h : 0 ≤ i ∧ i < 1000000) : (Lit.int .i64 i).wf = true := by
  simp [Lit.wf, IntKind.min, IntKind.max, IntKind.signed, IntKind.bits]
  omega

set_option maxHeartbeats 2000000 in
set_option maxRecDepth 100000 in
theorem parted_walk (A0 A1 : Option Addr) (c0 c1 : Nat) (l0 : List ByteArray) (l1 : List Letter) (s : ByteArray) (p : Int) (w : World) (hF : Kd.C Kd.string w A0 l0.length l0) (hcF : l0.length ≤ c0) (hL : Kd.C kLetter w A1 l1.length l1) (hcL : l1.length ≤ c1) (hT : Tabs w)
    (l : List Int) (at_ : List Int) (h1 : lettersOf l0 l1 s = (l, 0)) (h2 : peaksOf l0 l1 s p 0 = (at_, 0)) (h3 : ∀ j ∈ at_, 0 ≤ j ∧ j < 1000000) (h4 : at_.length ≤ 64) :
    Calls Tryd.prog 30 #[.agg #[.slice A0 l0.length c0, .slice A1 l1.length c1], .string s, .int .u32 p] w fun e w' => ∃ v b D, e = .returned (.tuple #[v, .map (some b), .int .i64 0]) ∧ Kd.R (Kd.int .i32) 21 w' w.heap.size (fun k => k < b) v l ∧ b < w'.heap.size ∧ w'.ownsMap Tryd.prog 3 (plainElem (H := Unit) Tryd.prog 4) b at_.length D ∧ SetIs D (seenI at_ at_.length) ∧ Below w.heap.size w w' := by
  have hmm := @run_makeMap Tryd.prog
  have hcl := fun W hF hL hT => word_Letters.calls A0 c0 l0 A1 c1 l1 s l 0 W hF hcF hL hcL hT (by unfold word_Letters.f; rw [h1])
  have hcp := fun W hF hL hT => RF1.word_Peaks.calls 200 A0 c0 l0 A1 c1 l1 s p 0 at_ 0 W hF hcF hL hcL hT (by rw [Peaks_eq _ _ _ _ _ 200 (by omega), h2])
  have HF := Lib.hid hF
  have HL := Lib.hid hL
  have HT := Lib.hid hT
  have H3 := Lib.hid h3
  clear hF hL hT h1 h2 h3
  go_enter Tryd.func30, Tryd.ntmps30
  go_wp2_with (first | (go_at_call 27; refine (hcl _ (C_alloc HF.out _) (C_alloc HL.out _) (T_alloc HT.out _)).mono ?_; rintro e w1 ⟨v1, rfl, hR1, hb1⟩; have hB1 := below_step (B_alloc w _) hb1; have hbx := Lib.hid (blk_below (blk_new w (.cells #[.slice A0 l0.length c0, .slice A1 l1.length c1] 25)) hb1); have hq0 := (blk_cell hbx.out 0).trans rfl; have hq1 := (blk_cell hbx.out 1).trans rfl; obtain ⟨A, c, rfl⟩ := Kd.R_slice hR1) | (go_at_call 46; refine (hcp _ (Kd.C_below HF.out hB1) (Kd.C_below HL.out hB1) (HT.out.below hB1)).mono ?_; rintro e w2 ⟨v2, rfl, hR2, hb2⟩; have hB2 := below_step hB1 hb2; obtain ⟨A2, c2, rfl, hlc, hC2⟩ := Kd.R_reads hR2))
  have Hb1 := Lib.hid hb1
  have HB1 := Lib.hid hB1
  have HB2 := Lib.hid hB2
  have Hb2 := Lib.hid hb2
  have HC2 := Lib.hid hC2
  have HR1 := Lib.hid (Kd.R_bound hR1)
  clear hb1 hb2 hB1 hB2 hC2 hR1 hR2 hbx
  go_loopw [37] (fun i wr => ∃ k : Nat, k ≤ at_.length ∧ i = .int .i64 k ∧ Below w2.heap.size w2 wr ∧ w2.heap.size < wr.heap.size ∧
      ∃ D, wr.ownsMap Tryd.prog 3 (plainElem (H := Unit) Tryd.prog 4) w2.heap.size k D ∧ Hid (SetIs D (seenI at_ k)))
    (fun i _ => at_.length - (intOf i).toNat)
  case atStart => exact ⟨0, Nat.zero_le _, rfl, B_alloc _ _, by simp, _, World.ownsMap_made _ _ _ _, SetIs.empty⟩
  case round =>
    obtain ⟨k, hk, rfl, hb, hsz, D, hown, hS⟩ := hrel
    by_cases hlt : k < at_.length
    · have hx := Kd.at_int (Kd.C_below HC2.out hb) k (by omega) (by omega)
      obtain ⟨ad, hA, hx0⟩ := hx
      subst hA
      rw [Int.toNat_natCast] at hx0
      have hrd : YtdeichibnnbjdaaDoorW.PrintWords.rd at_ (k : Int) = at_[k] := by simp [YtdeichibnnbjdaaDoorW.PrintWords.rd, List.getD_eq_getElem?_getD, List.getElem?_eq_getElem hlt]
      rw [hrd] at hx0
      have hj := H3.out at_[k] (List.getElem_mem hlt)
      obtain ⟨x, hx⟩ : ∃ x, x = at_[k] := ⟨_, rfl⟩
      rw [← hx] at hx0 hj
      have Hx := Lib.hid hx
      clear hx hrd
      have hkey : keyOf Tryd.prog 3 (.int .i64 x) = some (.int .i64 x) := keyOf_int_mk Tryd.underlying3 (wf_i64 hj)
      go_wp2_with (at_mapUpdate; refine wpList_mapUpdate_own _ rfl _ _ _ 57 rfl 3 4 (int_keyed Tryd.underlying3) Tryd.underlying57 _ w2.heap.size k _ rfl hown (by unfold maxLen; omega) _ _ _ rfl rfl hkey _ [] (plainElem_bool Tryd.underlying4 true) ?_; intro w3 hown3 hgrow3)
      have s3 := hgrow3.size
      go_roundw
      case rel =>
        refine ⟨k + 1, by omega, by go_num, hb.grown hgrow3 (by omega) (fun j hj => by cases hj; omega), by omega, _, hown3, ?_⟩
        have := hS.out.put (k := Lit.int .i64 x) trivial
        rw [seenI_succ at_ k hlt, ← Hx.out]
        exact this
      case measure => simp [intOf]; omega
    · obtain rfl : k = at_.length := by omega
      go_wp2_with fail
      go_ret3
      exact ⟨_, _, _, rfl, Kd.R_below (Kd.R_below (Kd.R_mono (Kd.R_lower HR1.out (by simp)) (fun k hk => by have := Hb2.out.size; omega)) Hb2.out) hb, hsz, hown, hS.out, below_step HB2.out hb⟩

set_option maxHeartbeats 2000000 in
set_option maxRecDepth 100000 in
theorem parted_bad (A0 A1 : Option Addr) (c0 c1 : Nat) (l0 : List ByteArray) (l1 : List Letter) (s : ByteArray) (p : Int) (w : World) (hF : Kd.C Kd.string w A0 l0.length l0) (hcF : l0.length ≤ c0) (hL : Kd.C kLetter w A1 l1.length l1) (hcL : l1.length ≤ c1) (hT : Tabs w)
    (l : List Int) (e : Int) (h1 : lettersOf l0 l1 s = (l, e)) (he : e ≠ 0) :
    Calls Tryd.prog 30 #[.agg #[.slice A0 l0.length c0, .slice A1 l1.length c1], .string s, .int .u32 p] w fun e' w' => e' = .returned (.tuple #[.slice none 0 0, .map none, .int .i64 e]) ∧ Below w.heap.size w w' := by
  have hcl := fun W hF hL hT => word_Letters.calls A0 c0 l0 A1 c1 l1 s l e W hF hcF hL hcL hT (by unfold word_Letters.f; rw [h1])
  have HF := Lib.hid hF
  have HL := Lib.hid hL
  have HT := Lib.hid hT
  have heb : (e == 0) = false := beq_eq_false_iff_ne.mpr he
  have heb2 : (e != 0) = true := bne_iff_ne.mpr he
  clear hF hL hT h1
  go_enter Tryd.func30, Tryd.ntmps30
  go_wp2_with (first | (go_at_call 27; refine (hcl _ (C_alloc HF.out _) (C_alloc HL.out _) (T_alloc HT.out _)).mono ?_; rintro e w1 ⟨v1, rfl, hR1, hb1⟩; have hB1 := below_step (B_alloc w _) hb1; obtain ⟨A, c, rfl⟩ := Kd.R_slice hR1))
  go_ret3
  exact ⟨rfl, hB1⟩

set_option maxHeartbeats 2000000 in
set_option maxRecDepth 100000 in
theorem parted_bad2 (A0 A1 : Option Addr) (c0 c1 : Nat) (l0 : List ByteArray) (l1 : List Letter) (s : ByteArray) (p : Int) (w : World) (hF : Kd.C Kd.string w A0 l0.length l0) (hcF : l0.length ≤ c0) (hL : Kd.C kLetter w A1 l1.length l1) (hcL : l1.length ≤ c1) (hT : Tabs w)
    (l q : List Int) (e : Int) (h1 : lettersOf l0 l1 s = (l, 0)) (h2 : peaksOf l0 l1 s p 0 = (q, e)) (he : e ≠ 0) :
    Calls Tryd.prog 30 #[.agg #[.slice A0 l0.length c0, .slice A1 l1.length c1], .string s, .int .u32 p] w fun e' w' => e' = .returned (.tuple #[.slice none 0 0, .map none, .int .i64 e]) ∧ Below w.heap.size w w' := by
  have hcl := fun W hF hL hT => word_Letters.calls A0 c0 l0 A1 c1 l1 s l 0 W hF hcF hL hcL hT (by unfold word_Letters.f; rw [h1])
  have hcp := fun W hF hL hT => RF1.word_Peaks.calls 200 A0 c0 l0 A1 c1 l1 s p 0 q e W hF hcF hL hcL hT (by rw [Peaks_eq _ _ _ _ _ 200 (by omega), h2])
  have HF := Lib.hid hF
  have HL := Lib.hid hL
  have HT := Lib.hid hT
  have heb : (e == 0) = false := beq_eq_false_iff_ne.mpr he
  have heb2 : (e != 0) = true := bne_iff_ne.mpr he
  clear hF hL hT h1 h2
  go_enter Tryd.func30, Tryd.ntmps30
  go_wp2_with (first | (go_at_call 27; refine (hcl _ (C_alloc HF.out _) (C_alloc HL.out _) (T_alloc HT.out _)).mono ?_; rintro e w1 ⟨v1, rfl, hR1, hb1⟩; have hB1 := below_step (B_alloc w _) hb1; have hbx := Lib.hid (blk_below (blk_new w (.cells #[.slice A0 l0.length c0, .slice A1 l1.length c1] 25)) hb1); have hq0 := (blk_cell hbx.out 0).trans rfl; have hq1 := (blk_cell hbx.out 1).trans rfl; obtain ⟨A, c, rfl⟩ := Kd.R_slice hR1) | (go_at_call 46; refine (hcp _ (Kd.C_below HF.out hB1) (Kd.C_below HL.out hB1) (HT.out.below hB1)).mono ?_; rintro e w2 ⟨v2, rfl, hR2, hb2⟩; have hB2 := below_step hB1 hb2; obtain ⟨A2, c2, rfl⟩ := Kd.R_slice hR2))
  go_ret3
  exact ⟨rfl, hB2⟩

theorem conv_runes {w : World} {A : Option Addr} {n c : Nat} {xs : List Int} (h : Kd.C (Kd.int .i32) w A n xs) : (convert 51 9 (.slice A n c)).run Tryd.prog w = .ok (.string (runesBytes xs)) w := by
  have hn : xs.length = n := h.1
  cases A with
  | none =>
    have h0 : n = 0 := by
      by_cases hz : n = 0
      · exact hz
      · obtain ⟨ad, hA, _⟩ := Kd.at_int h 0 (by omega) (by omega)
        cases hA
    subst h0
    have : xs = [] := List.length_eq_zero_iff.1 hn
    subst this
    rw [run_convert_runes_nil w 51 9 21 0 c Tryd.underlying51 Tryd.underlying21 Tryd.underlying9]
    rfl
  | some a =>
    have := run_convert_runes w 51 9 21 a n c xs (by omega) Tryd.underlying51 Tryd.underlying21 Tryd.underlying9 (fun j hj => by
      obtain ⟨ad, hA, hx⟩ := Kd.at_int h (j : Int) (by omega) (by omega)
      cases hA
      simpa [YtdeichibnnbjdaaDoorW.PrintWords.rd] using hx)
    rw [this, List.take_of_length_le (by omega)]

def notC (cls : List Int) : Int → Bool := fun x => !(cls.contains x)
theorem notC_step (cls l acc : List Int) (k : Nat) (h : k < l.length) (e : acc ++ (l.drop k).filter (notC cls) = l.filter (notC cls)) : (if cls.contains l[k] = true then acc else acc ++ [l[k]]) ++ (l.drop (k + 1)).filter (notC cls) = l.filter (notC cls) := by
  rw [← e, List.drop_eq_getElem_cons h]
  generalize List.drop (k + 1) l = t
  by_cases hc : cls.contains l[k] = true
  · rw [if_pos hc]
    simp only [List.filter, notC, hc]
    rfl
  · rw [if_neg hc]
    have : cls.contains l[k] = false := by simpa using hc
    simp only [List.filter, notC, this]
    simp
theorem peak_iff (cls l : List Int) (k : Nat) (h : k < l.length) : Lit.int .i64 (k : Int) ∈ seenI (peaksL cls l 0) (peaksL cls l 0).length ↔ cls.contains l[k] = true := by
  unfold seenI
  rw [List.take_length]
  simp only [List.mem_map, List.mem_reverse, mem_peaksL]
  constructor
  · rintro ⟨j, ⟨q, hq, he, hc⟩, hj⟩
    injection hj with _ hj
    have : q = k := by omega
    subst this
    exact hc
  · intro hc
    exact ⟨_, ⟨k, h, rfl, hc⟩, by simp⟩
theorem peaks_wf (cls l : List Int) (hl : l.length ≤ 64) : ∀ j ∈ peaksL cls l 0, 0 ≤ j ∧ j < 1000000 := by
  intro j hj
  obtain ⟨q, hq, he, _⟩ := (mem_peaksL cls l 0 j).1 hj
  omega
/-- radical.parted where all is right: the letters, and a map of those that have the class. -/
theorem parted_ok (A0 A1 : Option Addr) (c0 c1 : Nat) (l0 : List ByteArray) (l1 : List Letter) (s : ByteArray) (p : Int) (l cls : List Int) (h : partsOf l0 l1 s p = (l, cls, 0)) (w : World) (hF : Kd.C Kd.string w A0 l0.length l0) (hcF : l0.length ≤ c0) (hL : Kd.C kLetter w A1 l1.length l1) (hcL : l1.length ≤ c1) (hT : Tabs w) :
    Calls Tryd.prog 30 #[.agg #[.slice A0 l0.length c0, .slice A1 l1.length c1], .string s, .int .u32 p] w fun e w' => ∃ v b n D, e = .returned (.tuple #[v, .map (some b), .int .i64 0]) ∧ Kd.R (Kd.int .i32) 21 w' w.heap.size (fun k => k < b) v l ∧ b < w'.heap.size ∧ w'.ownsMap Tryd.prog 3 (plainElem (H := Unit) Tryd.prog 4) b n D ∧ (∀ k (hk : k < l.length) (c : Bool), D.atKey (.int .i64 (k : Int)) (.lit (.bool false)) = .lit (.bool c) → c = cls.contains l[k]) ∧ Below w.heap.size w w' := by
  unfold partsOf at h
  split at h
  · rename_i h1
    split at h
    · rename_i h2
      obtain ⟨e1, e2, _⟩ : (lettersOf l0 l1 s).1 = l ∧ (classOf l0 l1 p 0).1 = cls ∧ (0 : Int) = 0 := by simpa using h
      have hlen : l.length ≤ 64 := by rw [← e1]; exact lettersOf_len _ _ _
      have hpk : peaksOf l0 l1 s p 0 = (peaksL cls l 0, 0) := by
        unfold peaksOf
        rw [if_pos h1, if_pos h2, e1, e2]
      refine (parted_walk A0 A1 c0 c1 l0 l1 s p w hF hcF hL hcL hT l (peaksL cls l 0) (by rw [← e1, ← h1]) hpk (peaks_wf cls l hlen) (Nat.le_trans (peaksL_len _ _ _) hlen)).mono ?_
      rintro e w' ⟨v, b, D, he, hR, hb, hown, hS, hB⟩
      refine ⟨v, b, _, D, he, hR, hb, hown, ?_, hB⟩
      intro k hk c hc
      have h3 := hS.iff hc
      rw [peak_iff cls l k hk] at h3
      rw [Bool.eq_iff_iff]
      exact h3
    · rename_i h2
      simp at h
      exact absurd h.2.2 h2
  · rename_i h2
    simp at h
    exact absurd h.2.2 h2
theorem parted_no (A0 A1 : Option Addr) (c0 c1 : Nat) (l0 : List ByteArray) (l1 : List Letter) (s : ByteArray) (p : Int) (l cls : List Int) (e : Int) (he : e ≠ 0) (h : partsOf l0 l1 s p = (l, cls, e)) (w : World) (hF : Kd.C Kd.string w A0 l0.length l0) (hcF : l0.length ≤ c0) (hL : Kd.C kLetter w A1 l1.length l1) (hcL : l1.length ≤ c1) (hT : Tabs w) :
    Calls Tryd.prog 30 #[.agg #[.slice A0 l0.length c0, .slice A1 l1.length c1], .string s, .int .u32 p] w fun e' w' => e' = .returned (.tuple #[.slice none 0 0, .map none, .int .i64 e]) ∧ Below w.heap.size w w' := by
  unfold partsOf at h
  split at h
  · rename_i h1
    split at h
    · simp at h
      omega
    · rename_i h2
      simp only [Prod.mk.injEq] at h
      exact parted_bad2 A0 A1 c0 c1 l0 l1 s p w hF hcF hL hcL hT (lettersOf l0 l1 s).1 [] e (by rw [← h1]) (by unfold peaksOf; rw [if_pos h1, if_neg h2, h.2.2]) he
  · rename_i h1
    simp only [Prod.mk.injEq] at h
    exact parted_bad A0 A1 c0 c1 l0 l1 s p w hF hcF hL hcL hT (lettersOf l0 l1 s).1 e (by rw [← h.2.2]) he
end Go.Proofs.YtdeichibnnbjdaaDoor
end
section
/-
  radical.Radicals and radical.Shape by walks.
-/
set_option linter.unusedSimpArgs false
set_option linter.unusedVariables false
namespace Go.Proofs.YtdeichibnnbjdaaDoor
open Go.RowKit Go.Maps Go.WideMaps Go.Proofs.YtdeichibnnbjdaaDoorW.PrintWords Go.Proofs.YtdeichibnnbjdaaDoorW.PrintLast Go.Proofs.YtdeichibnnbjdaaDoorW.PrintMore Go.Proofs.YtdeichibnnbjdaaDoor.Ext
theorem blk_new2 (w : World) (o o2 : Obj) : ((w.alloc o).alloc o2).heap[w.heap.size + 1]? = some o2 := by
  have := blk_new (w.alloc o) o2
  have e : (w.alloc o).heap.size = w.heap.size + 1 := by simp
  rwa [e] at this
namespace Ext
def radical_Radicals.f (l0 : List ByteArray) (l1 : List Letter) (s : ByteArray) (p : Int) : Option (ByteArray × Int) :=
  some (if (partsOf l0 l1 s p).2.2 = 0 then (runesBytes ((partsOf l0 l1 s p).1.filter (notC (partsOf l0 l1 s p).2.1)), 0) else ((⟨#[]⟩ : ByteArray), (partsOf l0 l1 s p).2.2))
def holed (cls : List Int) : Int → Int := fun x => if cls.contains x = true then x else 95
def radical_Shape.f (l0 : List ByteArray) (l1 : List Letter) (s : ByteArray) (p : Int) : Option (ByteArray × ByteArray × Int) :=
  some (if (partsOf l0 l1 s p).2.2 = 0 then ((⟨#[]⟩ : ByteArray), runesBytes ((partsOf l0 l1 s p).1.map (holed (partsOf l0 l1 s p).2.1)), 0) else ((⟨#[]⟩ : ByteArray), (⟨#[]⟩ : ByteArray), (partsOf l0 l1 s p).2.2))
set_option maxHeartbeats 2000000 in
set_option maxRecDepth 100000 in
theorem radical_Radicals.calls (A0 : Option Addr) (c0 : Nat) (l0 : List ByteArray) (A1 : Option Addr) (c1 : Nat) (l1 : List Letter) (s : ByteArray) (p : Int) (r1 : ByteArray) (r2 : Int) (w : World) (hF : Kd.C Kd.string w A0 l0.length l0) (hcF : l0.length ≤ c0) (hL : Kd.C kLetter w A1 l1.length l1) (hcL : l1.length ≤ c1) (hT : Tabs w)
    (h : radical_Radicals.f l0 l1 s p = some (r1, r2)) :
    Calls Tryd.prog 8 #[.agg #[.slice A0 l0.length c0, .slice A1 l1.length c1], .string s, .int .u32 p] w fun e w' => e = .returned (.tuple #[.string r1, .int .i64 r2]) ∧ Below w.heap.size w w' := by
  have h := Option.some.inj h
  have h6 : ∀ l cls e, partsOf l0 l1 s p = (l, cls, e) → e = 0 → l.length ≤ 64 := by
    intro l cls e hp he
    unfold partsOf at hp
    split at hp
    · split at hp
      · simp only [Prod.mk.injEq] at hp
        rw [← hp.1]
        exact lettersOf_len _ _ _
      · simp only [Prod.mk.injEq] at hp
        rw [← hp.1]; simp
    · simp only [Prod.mk.injEq] at hp
      rw [← hp.1]; simp
  obtain ⟨l, cls, e, hp⟩ : ∃ l cls e, partsOf l0 l1 s p = (l, cls, e) := ⟨_, _, _, rfl⟩
  rw [hp] at h
  dsimp only at h
  by_cases he : e = 0
  · subst he
    rw [if_pos rfl] at h
    simp only [Prod.mk.injEq] at h
    obtain ⟨hr, rfl⟩ := h
    have hlen := h6 _ _ _ hp rfl
    have hpt := fun W hF hL hT => parted_ok A0 A1 c0 c1 l0 l1 s p l cls hp W hF hcF hL hcL hT
    have HF := Lib.hid hF
    have HL := Lib.hid hL
    have HT := Lib.hid hT
    have Hr := Lib.hid hr
    clear hF hL hT hp hr h6
    go_enter Tryd.func8, Tryd.ntmps8
    go_wp2_with (first | (go_at_call 30; refine (hpt _ (C_alloc HF.out _) (C_alloc HL.out _) (T_alloc HT.out _)).mono ?_; rintro e w1 ⟨v1, b, n, D, rfl, hR1, hbs, hown, hat, hb1⟩; have hB1 := Lib.hid (below_step (B_alloc w _) hb1); obtain ⟨A, c, rfl, hlc, hC⟩ := Kd.R_reads hR1))
    have Hat := Lib.hid hat
    have HC := Lib.hid hC
    have Hown := Lib.hid hown
    clear hat hC hR1 hown hb1
    go_loopw [11, 27] (fun o i wr => ∃ (k : Nat) (acc : List Int), k ≤ l.length ∧ i = .int .i64 k ∧ Below w1.heap.size w1 wr ∧ Hid (Kd.R (Kd.int .i32) 21 wr w1.heap.size (fun _ => True) o acc) ∧ acc.length ≤ k ∧ Hid (acc ++ (l.drop k).filter (notC cls) = l.filter (notC cls)))
      (fun _ i _ => l.length - (intOf i).toNat)
    case atStart => exact ⟨0, [], Nat.zero_le _, rfl, Below.refl _ _, Kd.R_nil _ _ _ _ _, by simp, by simp [Hid]⟩
    case round =>
      obtain ⟨k, acc, hk, rfl, hb, hR, hal, hq⟩ := hrel
      have hown2 := Hown.out.kept (grown_of_below hb none) (by simp)
      obtain ⟨Ao, co, hv, hlo, hCo⟩ := Kd.R_reads hR.out
      have hR2 := Lib.hid (hv ▸ hR.out)
      subst hv
      by_cases hlt : k < l.length
      · obtain ⟨ad, hA, hx0⟩ := Kd.at_int (Kd.C_below HC.out hb) k (by omega) (by omega)
        subst hA
        rw [Int.toNat_natCast] at hx0
        have hrd : YtdeichibnnbjdaaDoorW.PrintWords.rd l (k : Int) = l[k] := by simp [YtdeichibnnbjdaaDoorW.PrintWords.rd, List.getD_eq_getElem?_getD, List.getElem?_eq_getElem hlt]
        rw [hrd] at hx0
        have hak := Hat.out k hlt
        have hq2 := notC_step cls l acc k hlt hq.out
        obtain ⟨x, hx⟩ : ∃ x, x = l[k] := ⟨_, rfl⟩
        rw [← hx] at hx0 hak hq2
        have hkey : keyOf Tryd.prog 3 (.int .i64 (k : Int)) = some (.int .i64 (k : Int)) := keyOf_int_mk Tryd.underlying3 (wf_i64 (by omega))
        have Hak := Lib.hid hak
        clear hx hrd hak hq hCo
        cases hcx : cls.contains x with
        | true =>
          rw [if_pos hcx] at hq2
          have Hq2 := Lib.hid hq2
          clear hq2
          go_wp2_with (at_lookup; (try (refine gate_guard (by rfl) ?_; dsimp only)); refine wpList_lookup_own_bool _ rfl _ _ 57 rfl 3 4 (int_keyed Tryd.underlying3) Tryd.underlying57 Tryd.underlying4 (zeroBool _) b n _ rfl hown2 _ _ rfl hkey ?_; intro c hat; (have hct := (Hak.out _ hat).trans hcx); subst hct)
          go_roundw
          case rel => exact ⟨k + 1, acc, by omega, by go_num, hb, hR2.out, by omega, Hq2.out⟩
          case measure => simp [intOf]; omega
        | false =>
          rw [if_neg (by rw [hcx]; simp)] at hq2
          have Hq2 := Lib.hid hq2
          clear hq2
          go_wp2_with (first | (at_lookup; (try (refine gate_guard (by rfl) ?_; dsimp only)); refine wpList_lookup_own_bool _ rfl _ _ 57 rfl 3 4 (int_keyed Tryd.underlying3) Tryd.underlying57 Tryd.underlying4 (zeroBool _) b n _ rfl hown2 _ _ rfl hkey ?_; intro c hat; (have hct := (Hak.out _ hat).trans hcx); subst hct) | (at_builtin; go_must (refine Kd.R_append (w0 := w1) (Kd.int .i32) w1.heap.size rfl (.tmp 36) (.tmp 38) 51 21 _ _ rfl Tryd.underlying51 info21 (by decide) (by decide) (by decide) _ acc x _ (fun _ => True) (fun _ => False) rfl (by first | rfl | simp [Act.eval]) rfl (fun _ h => h.elim) (fun _ _ => trivial) hR2.out hb hb.size (by omega) ?_); intro v2 w2 HR HB hg hat; have HRh := Lib.hid HR; have HBh := Lib.hid HB; clear HR HB hg hat))
          go_roundw
          case rel => exact ⟨k + 1, acc ++ [x], by omega, by go_num, HBh.out, HRh.out, by simp; omega, Hq2.out⟩
          case measure => simp [intOf]; omega
      · obtain rfl : k = l.length := by omega
        have hcv := conv_runes (c := co) hCo
        have hq2 := hq.out
        rw [List.drop_of_length_le (Nat.le_refl _), List.filter_nil, List.append_nil] at hq2
        have Hq2 := Lib.hid hq2
        clear hq hq2 hCo
        go_wp2_with fail
        go_ret2
        have hfin : runesBytes acc = r1 := by rw [Hq2.out]; exact Hr.out
        exact ⟨by rw [hfin]; rfl, below_step hB1.out hb⟩
  · rw [if_neg he] at h
    simp only [Prod.mk.injEq] at h
    obtain ⟨rfl, rfl⟩ := h
    have hpt := fun W hF hL hT => parted_no A0 A1 c0 c1 l0 l1 s p l cls e he hp W hF hcF hL hcL hT
    have HF := Lib.hid hF
    have HL := Lib.hid hL
    have HT := Lib.hid hT
    have heb : (e == 0) = false := beq_eq_false_iff_ne.mpr he
    have heb2 : (e != 0) = true := bne_iff_ne.mpr he
    clear hF hL hT hp h6
    go_enter Tryd.func8, Tryd.ntmps8
    go_wp2_with (first | (go_at_call 30; refine (hpt _ (C_alloc HF.out _) (C_alloc HL.out _) (T_alloc HT.out _)).mono ?_; rintro e w1 ⟨rfl, hb1⟩; have hB1 := Lib.hid (below_step (B_alloc w _) hb1)))
    go_ret2
    exact ⟨rfl, hB1.out⟩

theorem holed_step (cls l cur : List Int) (k : Nat) (h : k < l.length) (e : cur = (l.take k).map (holed cls) ++ l.drop k) : (if cls.contains l[k] = true then cur else cur.set k 95) = (l.take (k + 1)).map (holed cls) ++ l.drop (k + 1) := by
  rw [e, List.take_succ_eq_append_getElem h, List.drop_eq_getElem_cons h, List.map_append]
  generalize List.drop (k + 1) l = t
  have hl : ((l.take k).map (holed cls)).length = k := by simp; omega
  by_cases hc : cls.contains l[k] = true
  · rw [if_pos hc]
    have : holed cls l[k] = l[k] := by unfold holed; rw [if_pos hc]
    simp [this]
  · rw [if_neg hc]
    have : holed cls l[k] = 95 := by unfold holed; rw [if_neg hc]
    rw [List.set_append_right _ _ (by omega), hl]
    simp [this]
theorem parts_len {l0 : List ByteArray} {l1 : List Letter} {s : ByteArray} {p : Int} {l cls : List Int} {e : Int} (hp : partsOf l0 l1 s p = (l, cls, e)) : l.length ≤ 64 := by
  unfold partsOf at hp
  split at hp
  · split at hp
    · simp only [Prod.mk.injEq] at hp
      rw [← hp.1]
      exact lettersOf_len _ _ _
    · simp only [Prod.mk.injEq] at hp
      rw [← hp.1]; simp
  · simp only [Prod.mk.injEq] at hp
    rw [← hp.1]; simp

set_option maxHeartbeats 2000000 in
set_option maxRecDepth 100000 in
theorem radical_Shape.calls (A0 : Option Addr) (c0 : Nat) (l0 : List ByteArray) (A1 : Option Addr) (c1 : Nat) (l1 : List Letter) (s : ByteArray) (p : Int) (r1 r2 : ByteArray) (r3 : Int) (w : World) (hF : Kd.C Kd.string w A0 l0.length l0) (hcF : l0.length ≤ c0) (hL : Kd.C kLetter w A1 l1.length l1) (hcL : l1.length ≤ c1) (hT : Tabs w)
    (h : radical_Shape.f l0 l1 s p = some (r1, r2, r3)) :
    Calls Tryd.prog 10 #[.agg #[.slice A0 l0.length c0, .slice A1 l1.length c1], .string s, .int .u32 p] w fun e w' => e = .returned (.tuple #[.agg #[.string r1, .string r2], .int .i64 r3]) ∧ Below w.heap.size w w' := by
  have h := Option.some.inj h
  obtain ⟨l, cls, e, hp⟩ : ∃ l cls e, partsOf l0 l1 s p = (l, cls, e) := ⟨_, _, _, rfl⟩
  rw [hp] at h
  dsimp only at h
  by_cases he : e = 0
  · subst he
    rw [if_pos rfl] at h
    simp only [Prod.mk.injEq] at h
    obtain ⟨rfl, hr, rfl⟩ := h
    have hlen := parts_len hp
    have hpt := fun W hF hL hT => parted_ok A0 A1 c0 c1 l0 l1 s p l cls hp W hF hcF hL hcL hT
    have HF := Lib.hid hF
    have HL := Lib.hid hL
    have HT := Lib.hid hT
    have Hr := Lib.hid hr
    clear hF hL hT hp hr
    go_enter Tryd.func10, Tryd.ntmps10
    go_wp2_with (first | (go_at_call 30; refine (hpt _ (C_alloc (C_alloc HF.out _) _) (C_alloc (C_alloc HL.out _) _) (T_alloc (T_alloc HT.out _) _)).mono ?_; rintro e w1 ⟨v1, b, n, D, rfl, hR1, hbs, hown, hat, hb1⟩; have hB1 := Lib.hid (below_step (((Below.refl _ _).alloc (Nat.le_refl _) _).alloc (by simp) _) hb1); have hbR : Hid (w1.heap[w.heap.size + 1]? = some (.cells #[.string (⟨#[]⟩ : ByteArray), .string (⟨#[]⟩ : ByteArray)] 32 (0, 0))) := blk_below (blk_new2 w _ _) hb1; obtain ⟨A, c, rfl, hlc, hC⟩ := Kd.R_reads hR1))
    have Hat := Lib.hid hat
    have HR1 := Lib.hid hR1
    have Hown := Lib.hid hown
    clear hat hC hR1 hb1 hown
    go_loopw [26] (fun i wr => ∃ (k : Nat) (cur : List Int), k ≤ l.length ∧ i = .int .i64 k ∧ Below w.heap.size w wr ∧ cur.length = l.length ∧ Hid (wr.heap[w.heap.size + 1]? = some (.cells #[.string (⟨#[]⟩ : ByteArray), .string (⟨#[]⟩ : ByteArray)] 32 (0, 0))) ∧ Hid (Kd.R (Kd.int .i32) 21 wr ((w.alloc (.cells #[.slice A0 l0.length c0, .slice A1 l1.length c1] 25)).alloc (.cells #[.string (⟨#[]⟩ : ByteArray), .string (⟨#[]⟩ : ByteArray)] 32)).heap.size (fun k => k < b) (.slice A l.length c) cur) ∧ wr.ownsMap Tryd.prog 3 (plainElem (H := Unit) Tryd.prog 4) b n D ∧ Hid (cur = (l.take k).map (holed cls) ++ l.drop k))
      (fun i _ => l.length - (intOf i).toNat)
    case atStart => exact ⟨0, l, Nat.zero_le _, rfl, hB1.out, rfl, hbR.out, HR1.out, Hown.out, by simp [Hid]⟩
    case round =>
      obtain ⟨k, cur, hk, rfl, hb, hcl, hbx, hR, hown, hq⟩ := hrel
      by_cases hlt : k < l.length
      · have hak := Hat.out k hlt
        have hq2 := holed_step cls l cur k hlt hq.out
        obtain ⟨x, hx⟩ : ∃ x, x = l[k] := ⟨_, rfl⟩
        rw [← hx] at hak hq2
        have hkey : keyOf Tryd.prog 3 (.int .i64 (k : Int)) = some (.int .i64 (k : Int)) := keyOf_int_mk Tryd.underlying3 (wf_i64 (by omega))
        have Hak := Lib.hid hak
        clear hx hak hq
        cases hcx : cls.contains x with
        | true =>
          rw [if_pos hcx] at hq2
          have Hq2 := Lib.hid hq2
          clear hq2
          go_wp2_with (at_lookup; (try (refine gate_guard (by rfl) ?_; dsimp only)); refine wpList_lookup_own_bool _ rfl _ _ 57 rfl 3 4 (int_keyed Tryd.underlying3) Tryd.underlying57 Tryd.underlying4 (zeroBool _) b n _ rfl hown _ _ rfl hkey ?_; intro c hat; (have hct := (Hak.out _ hat).trans hcx); subst hct)
          go_roundw
          case rel => exact ⟨k + 1, cur, by omega, by go_num, hb, hcl, hbx, hR, hown, Hq2.out⟩
          case measure => simp [intOf]; omega
        | false =>
          rw [if_neg (by rw [hcx]; simp)] at hq2
          have Hq2 := Lib.hid hq2
          clear hq2
          obtain ⟨g, co, hv, hge, _, _, _⟩ := Kd.R_form hR.out (by omega)
          have hgb : g < b := hR.out.1 g (by rw [hv]; simp [Value.ownBlock])
          have hgx : w.heap.size + 2 ≤ g := by simp at hge; omega
          injection hv with ha hn2 hco
          subst ha
          subst hco
          clear hn2
          obtain ⟨hx0, hf0⟩ := Kd.R_celln 0 hR.out (k : Int) (by omega) (by omega)
          have HP := Lib.hid (Kd.R_putg hR.out (k : Int) 95)
          rw [Int.toNat_natCast] at hx0 hf0 HP
          go_wp2_with (at_lookup; (try (refine gate_guard (by rfl) ?_; dsimp only)); refine wpList_lookup_own_bool _ rfl _ _ 57 rfl 3 4 (int_keyed Tryd.underlying3) Tryd.underlying57 Tryd.underlying4 (zeroBool _) b n _ rfl hown _ _ rfl hkey ?_; intro c hat; (have hct := (Hak.out _ hat).trans hcx); subst hct)
          go_roundw
          case rel => exact ⟨k + 1, cur.set k 95, by omega, by go_num, below_set hb (by show w.heap.size ≤ g; omega), by simp [hcl], blk_far hbx.out (by show w.heap.size + 1 ≠ g; omega) _, HP.out.1, hown.setCell (by show b ≠ g; omega) _, Hq2.out⟩
          case measure => simp [intOf]; omega
      · obtain rfl : k = l.length := by omega
        have hcv := conv_runes (c := c) (Kd.R_reads' hR.out).2.2
        have hq2 := hq.out
        rw [List.drop_of_length_le (Nat.le_refl _), List.take_length, List.append_nil] at hq2
        have hfin : runesBytes cur = r2 := by rw [hq2]; exact Hr.out
        rw [hfin] at hcv
        try rw [hcl] at hcv
        have hcz0 := (blk_cell hbx.out 0).trans rfl; have hcz1 := (blk_cell hbx.out 1).trans rfl; have hfz0 := blk_frozen hbx.out 0; have hfz1 := blk_frozen hbx.out 1
        clear hq hq2
        go_wp2_with fail

        refine bodyPost_ret (results_ct rfl _ _ (w.heap.size + 1) 32 #[.string (⟨#[]⟩ : ByteArray), .string r2] (0, 0) _ rfl (by refine blk_put (cs := #[.string (⟨#[]⟩ : ByteArray), .string (⟨#[]⟩ : ByteArray)]) ?_ 1 _ rfl; refine blk_put (cs := #[.string (⟨#[]⟩ : ByteArray), .string (⟨#[]⟩ : ByteArray)]) ?_ 0 _ rfl; exact hbx.out) Tryd.underlying32 rfl (by kernel_rfl)) rfl ?_
        exact ⟨rfl, below_set (below_set hb (by simp)) (by simp)⟩
  · rw [if_neg he] at h
    simp only [Prod.mk.injEq] at h
    obtain ⟨rfl, rfl, rfl⟩ := h
    have hpt := fun W hF hL hT => parted_no A0 A1 c0 c1 l0 l1 s p l cls e he hp W hF hcF hL hcL hT
    have HF := Lib.hid hF
    have HL := Lib.hid hL
    have HT := Lib.hid hT
    have heb : (e == 0) = false := beq_eq_false_iff_ne.mpr he
    have heb2 : (e != 0) = true := bne_iff_ne.mpr he
    clear hF hL hT hp
    go_enter Tryd.func10, Tryd.ntmps10
    go_wp2_with (first | (go_at_call 30; refine (hpt _ (C_alloc (C_alloc HF.out _) _) (C_alloc (C_alloc HL.out _) _) (T_alloc (T_alloc HT.out _) _)).mono ?_; rintro e w1 ⟨rfl, hb1⟩; have hB1 := Lib.hid (below_step (((Below.refl _ _).alloc (Nat.le_refl _) _).alloc (by simp) _) hb1); have hbR : Hid (w1.heap[w.heap.size + 1]? = some (.cells #[.string (⟨#[]⟩ : ByteArray), .string (⟨#[]⟩ : ByteArray)] 32 (0, 0))) := blk_below (blk_new2 w _ _) hb1; have hcz0 := (blk_cell hbR.out 0).trans rfl; have hcz1 := (blk_cell hbR.out 1).trans rfl; have hfz0 := blk_frozen hbR.out 0; have hfz1 := blk_frozen hbR.out 1))

    refine bodyPost_ret (results_ct rfl _ _ (w.heap.size + 1) 32 #[.string (⟨#[]⟩ : ByteArray), .string (⟨#[]⟩ : ByteArray)] (0, 0) _ rfl (by refine blk_put (cs := #[.string (⟨#[]⟩ : ByteArray), .string (⟨#[]⟩ : ByteArray)]) ?_ 1 _ rfl; refine blk_put (cs := #[.string (⟨#[]⟩ : ByteArray), .string (⟨#[]⟩ : ByteArray)]) ?_ 0 _ rfl; exact hbR.out) Tryd.underlying32 rfl (by kernel_rfl)) rfl ?_
    exact ⟨rfl, below_set (below_set hB1.out (by simp)) (by simp)⟩
end Ext
end Go.Proofs.YtdeichibnnbjdaaDoor
end
section
-- printed by a program of this session (wip/tools/prx.sh: a turned copy of the kit's print, with functions given from outside)
namespace Go.Proofs.YtdeichibnnbjdaaDoor.RRw
open Go.RowKit Go.Proofs.YtdeichibnnbjdaaDoor Go.Proofs.YtdeichibnnbjdaaDoor.Ext Go.Proofs.YtdeichibnnbjdaaDoorW.PrintWords Go.Proofs.YtdeichibnnbjdaaDoorW.PrintLast Go.Proofs.YtdeichibnnbjdaaDoorW.PrintMore
attribute [local go_sem] max2_int min2_int max_two min_two max_three min_three max_four min_four   -- for this text's walks alone
set_option linter.unusedVariables false
set_option linter.unusedSimpArgs false

attribute [local go_sem high] eqA32
/-! ### radical_Skip: function 12 -/
def radical_Skip.l0 : Nat → List Int → List Int → List Int → Int → Int → Option (List Int × Bool × Int)
  | 0, _, _, _, _, _ => none
  | k + 1, x9, x12, x33, x34, x35 => if x35 < x34 then (if 0 ≤ x35 then (if x35 < (x33.length : Int) then (if (x12.length : Int) < (x9.length : Int) then (if 0 ≤ (x12.length : Int) then (if (rd x9 (x12.length : Int)) = (rd x33 x35) then (if x12.length < 17592186044416 then (radical_Skip.l0 k x9 (x12 ++ [x35]) x33 x34 (wrap64 (x35 + 1))) else (none)) else (radical_Skip.l0 k x9 x12 x33 x34 (wrap64 (x35 + 1)))) else (none)) else (radical_Skip.l0 k x9 x12 x33 x34 (wrap64 (x35 + 1)))) else (none)) else (none)) else (if (x12.length : Int) < (x9.length : Int) then (some (([] : List Int), false, 0)) else (some (x12, true, 0)))
def radical_Skip.f (k : Nat) (l0_0 : List ByteArray) (l0_1 : List (S74)) (a1 : ByteArray) (a2 : ByteArray) : Option (List Int × Bool × Int) := (word_Letters.f l0_0 l0_1 a1).bind fun bt140 => (if bt140.2 = 0 then ((word_Letters.f l0_0 l0_1 a2).bind fun bt144 => (if bt144.2 = 0 then (radical_Skip.l0 k bt140.1 ([] : List Int) bt144.1 (bt144.1.length : Int) 0) else (some (([] : List Int), false, bt144.2)))) else (some (([] : List Int), false, bt140.2)))
set_option maxHeartbeats 8000000 in
set_option maxRecDepth 100000 in
theorem radical_Skip.calls (k : Nat) (A0_0 : Option Addr) (c0_0 : Nat) (l0_0 : List ByteArray) (A0_1 : Option Addr) (c0_1 : Nat) (l0_1 : List (S74)) (a1 : ByteArray) (a2 : ByteArray) (r1 : List Int) (r2 : Bool) (r3 : Int) (w : World) (hr0_0 : Kd.C Kd.string w A0_0 l0_0.length l0_0) (hc0_0 : l0_0.length ≤ c0_0) (hr0_1 : Kd.C k74 w A0_1 l0_1.length l0_1) (hc0_1 : l0_1.length ≤ c0_1) (hT : Tabs w) (h : radical_Skip.f k l0_0 l0_1 a1 a2 = some (r1, r2, r3)) :
    Calls Tryd.prog 12 #[.agg #[.slice A0_0 l0_0.length c0_0, .slice A0_1 l0_1.length c0_1], .string a1, .string a2] w fun e w' => ∃ v0_ : Value, e = .returned (.tuple #[v0_, .bool r2, .int .i64 r3]) ∧ Kd.R (Kd.int .i64) 3 w' w.heap.size (fun _ => True) v0_ r1 ∧ Below w.heap.size w w' := by
  have hu25 := Tryd.underlying25
  have HR0_0 := Aside0.mk hr0_0
  have HC0_0 := Aside0.mk hc0_0
  clear hr0_0 hc0_0
  have HR0_1 := Aside0.mk hr0_1
  have HC0_1 := Aside0.mk hc0_1
  clear hr0_1 hc0_1
  have HB := Aside0.mk (Below.refl w.heap.size w)
  have HT := Aside0.mk hT
  clear hT
  have H : ((word_Letters.f l0_0 l0_1 a1).bind fun bt140 => (if bt140.2 = 0 then ((word_Letters.f l0_0 l0_1 a2).bind fun bt144 => (if bt144.2 = 0 then (radical_Skip.l0 k bt140.1 ([] : List Int) bt144.1 (bt144.1.length : Int) 0) else (some (([] : List Int), false, bt144.2)))) else (some (([] : List Int), false, bt140.2)))) = some (r1, r2, r3) := h
  clear h
  replace H := Option.bind_eq_some_iff.mp H
  obtain ⟨⟨t140, t143⟩, A40, H⟩ := H
  replace H : (if t143 = 0 then ((word_Letters.f l0_0 l0_1 a2).bind fun bt144 => (if bt144.2 = 0 then (radical_Skip.l0 k t140 ([] : List Int) bt144.1 (bt144.1.length : Int) 0) else (some (([] : List Int), false, bt144.2)))) else (some (([] : List Int), false, t143))) = some (r1, r2, r3) := H
  have A4 := Aside0.mk A40
  clear A40
  by_cases c5 : t143 = 0
  · rw [if_pos c5] at H
    have c5b0 : (t143 == 0) = true := beq_iff_eq.mpr c5
    have c5b1 : (t143 != 0) = false := bne_eq_false_iff_eq.mpr c5
    clear c5
    replace H := Option.bind_eq_some_iff.mp H
    obtain ⟨⟨t144, t147⟩, A60, H⟩ := H
    replace H : (if t147 = 0 then (radical_Skip.l0 k t140 ([] : List Int) t144 (t144.length : Int) 0) else (some (([] : List Int), false, t147))) = some (r1, r2, r3) := H
    have A6 := Aside0.mk A60
    clear A60
    by_cases c7 : t147 = 0
    · rw [if_pos c7] at H
      have c7b0 : (t147 == 0) = true := beq_iff_eq.mpr c7
      have c7b1 : (t147 != 0) = false := bne_eq_false_iff_eq.mpr c7
      clear c7
      have H' := Aside0.mk H
      clear H
      go_enter Tryd.func12, Tryd.ntmps12
      go_wp2_with (first | ((with_reducible refine gate_dst (N := 3) rfl ?_); (try (refine gate_guard (by rfl) ?_; dsimp only)); refine box_event ?hg (N := 3) ?hd (cs := #[.slice A0_0 l0_0.length c0_0, .slice A0_1 l0_1.length c0_1]) (t := 25) ?hr ?_; (case hd => rfl); (case hg => rfl); (case hr => first | (go_simp; done) | (go_simp; rfl)); intro gb139 hg w8 hbox hb; have n0_ := Aside0.mk (below_step (by repeat (first | (with_reducible first | exact HB.out | apply below_alloc | apply pw_below_drewN | apply below_drew1) | exact HB.out)) hb); have n1_ := Aside0.mk (hbox); have n2_ := Aside0.mk ((by rw [hg]; exact (below_size (by repeat (first | (with_reducible first | exact HB.out | apply below_alloc | apply pw_below_drewN | apply below_drew1) | exact HB.out))) : w.heap.size ≤ gb139)); have n3_ := Aside0.mk ((by rw [hg]; exact (below_size (by repeat (first | (with_reducible first | exact HB.out | apply below_alloc | apply pw_below_drewN | apply below_drew1) | exact HB.out))) : w.heap.size ≤ gb139)); clear HB; have HB := n0_; have BK139 := n1_; have GW139 := n2_; have GE139 := n3_; clear n0_ n1_ n2_ n3_; clear hb hbox hg; have hcz9_0 : w8.cell? ⟨gb139, 0, none⟩ = some (.slice A0_0 l0_0.length c0_0) := (blk_cell BK139.out 0).trans rfl; have hcz9_1 : w8.cell? ⟨gb139, 1, none⟩ = some (.slice A0_1 l0_1.length c0_1) := (blk_cell BK139.out 1).trans rfl; have hfz9_0 := blk_frozen BK139.out 0; have hfz9_1 := blk_frozen BK139.out 1) | ((with_reducible refine gate_callee (f := 27) rfl ?_); refine goesL_ (some 18) rfl rfl Tryd.func27 (by kernel_rfl) rfl #[.agg #[.slice A0_0 l0_0.length c0_0, .slice A0_1 l0_1.length c0_1], .string a1] rfl (by (try simp only [List.map_toArray, List.map_cons, List.map_nil]); first | done | rfl | (simp only [List.length_drop, List.length_take]; rfl)) ?_; (with_reducible refine (word_Letters.calls _ _ l0_0 _ _ l0_1 a1 t140 t143 _ ?side1 ?side2 ?side3 ?side4 ?side5 A4.out).mono ?_); (case side1 => repeat (first | exact (Kd.C_below HR0_0.out HB.out) | (with_reducible refine Kd.C_alloc ?_ _) | (with_reducible refine Kd.C_drewN ?_ _) | (with_reducible refine Kd.C_drew ?_))); (case side2 => exact HC0_0.out); (case side3 => repeat (first | exact (Kd.C_below HR0_1.out HB.out) | (with_reducible refine Kd.C_alloc ?_ _) | (with_reducible refine Kd.C_drewN ?_ _) | (with_reducible refine Kd.C_drew ?_))); (case side4 => exact HC0_1.out); (case side5 => exact Tabs.below HT.out (by repeat (first | (with_reducible first | exact HB.out | apply below_alloc | apply pw_below_drewN | apply below_drew1 | refine below_set ?_ GE139.out) | exact HB.out))); rintro e w10 ⟨v141, rfl, ho0, hb⟩; refine ⟨_, rfl, ?_⟩; have n0_ := Aside0.mk (Kd.R_lower ho0 (below_size (by repeat (first | (with_reducible first | exact HB.out | apply below_alloc | apply pw_below_drewN | apply below_drew1 | refine below_set ?_ GE139.out) | exact HB.out)))); have n1_ := Aside0.mk (blk_below (g := gb139) (o := .cells #[.slice A0_0 l0_0.length c0_0, .slice A0_1 l0_1.length c0_1] 25 (0, 0)) (by (with_reducible repeat (first | refine blk_drewN ?_ _ | refine blk_drew ?_ | refine blk_alloc ?_ _)); exact BK139.out) hb); have n2_ := Aside0.mk (below_step (by repeat (first | (with_reducible first | exact HB.out | apply below_alloc | apply pw_below_drewN | apply below_drew1 | refine below_set ?_ GE139.out) | exact HB.out)) hb); clear BK139; clear HB; have HO142 := n0_; have BK139 := n1_; have HB := n2_; clear n0_ n1_ n2_; (try clear hb); (try clear hb2); (try clear hk); (try clear hi); (try clear ho0); have hcz11_0 : w10.cell? ⟨gb139, 0, none⟩ = some (.slice A0_0 l0_0.length c0_0) := (blk_cell BK139.out 0).trans rfl; have hcz11_1 : w10.cell? ⟨gb139, 1, none⟩ = some (.slice A0_1 l0_1.length c0_1) := (blk_cell BK139.out 1).trans rfl; have hfz11_0 := blk_frozen BK139.out 0; have hfz11_1 := blk_frozen BK139.out 1) | ((with_reducible refine gate_callee (f := 27) rfl ?_); refine goesL_ (some 27) rfl rfl Tryd.func27 (by kernel_rfl) rfl #[.agg #[.slice A0_0 l0_0.length c0_0, .slice A0_1 l0_1.length c0_1], .string a2] rfl (by (try simp only [List.map_toArray, List.map_cons, List.map_nil]); first | done | rfl | (simp only [List.length_drop, List.length_take]; rfl)) ?_; (with_reducible refine (word_Letters.calls _ _ l0_0 _ _ l0_1 a2 t144 t147 _ ?side1 ?side2 ?side3 ?side4 ?side5 A6.out).mono ?_); (case side1 => repeat (first | exact (Kd.C_below HR0_0.out HB.out) | (with_reducible refine Kd.C_alloc ?_ _) | (with_reducible refine Kd.C_drewN ?_ _) | (with_reducible refine Kd.C_drew ?_))); (case side2 => exact HC0_0.out); (case side3 => repeat (first | exact (Kd.C_below HR0_1.out HB.out) | (with_reducible refine Kd.C_alloc ?_ _) | (with_reducible refine Kd.C_drewN ?_ _) | (with_reducible refine Kd.C_drew ?_))); (case side4 => exact HC0_1.out); (case side5 => exact Tabs.below HT.out (by repeat (first | (with_reducible first | exact HB.out | apply below_alloc | apply pw_below_drewN | apply below_drew1 | refine below_set ?_ GE139.out) | exact HB.out))); rintro e w12 ⟨v145, rfl, ho0, hb⟩; refine ⟨_, rfl, ?_⟩; have n0_ := Aside0.mk (Kd.R_elder' (by (with_reducible repeat (first | apply Kd.R_alloc | apply Kd.R_drewN | apply Kd.R_drew)); exact HO142.out) (Kd.R_base ho0) hb); have n1_ := Aside0.mk (Kd.R_lower (Kd.R_new' ho0 (Kd.R_lt (by (with_reducible repeat (first | apply Kd.R_alloc | apply Kd.R_drewN | apply Kd.R_drew)); exact HO142.out))) (below_size (by repeat (first | (with_reducible first | exact HB.out | apply below_alloc | apply pw_below_drewN | apply below_drew1 | refine below_set ?_ GE139.out) | exact HB.out)))); have n2_ := Aside0.mk (blk_below (g := gb139) (o := .cells #[.slice A0_0 l0_0.length c0_0, .slice A0_1 l0_1.length c0_1] 25 (0, 0)) (by (with_reducible repeat (first | refine blk_drewN ?_ _ | refine blk_drew ?_ | refine blk_alloc ?_ _)); exact BK139.out) hb); have n3_ := Aside0.mk (below_step (by repeat (first | (with_reducible first | exact HB.out | apply below_alloc | apply pw_below_drewN | apply below_drew1 | refine below_set ?_ GE139.out) | exact HB.out)) hb); clear HO142; clear BK139; clear HB; have HO142 := n0_; have HO146 := n1_; have BK139 := n2_; have HB := n3_; clear n0_ n1_ n2_ n3_; (try clear hb); (try clear hb2); (try clear hk); (try clear hi); (try clear ho0); obtain ⟨Ao13, co13, eo13⟩ := Kd.R_slice HO146.out; subst eo13))
      go_loopg [12, 35] k (fun kq v12 v35 w' => ∃ (x12_1 : List Int) (x35_1 : Int), v35 = .int .i64 x35_1 ∧ Aside0 (radical_Skip.l0 kq t140 x12_1 t144 (t144.length : Int) x35_1 = some (r1, r2, r3)) ∧ Aside0 (kq ≤ k) ∧ Aside0 (Kd.R (Kd.int .i32) 21 w' w.heap.size (fun k_ => some k_ ≠ ((.slice Ao13 t144.length co13) : Value).ownBlock) v141 t140) ∧ Aside0 (Kd.R (Kd.int .i64) 3 w' w.heap.size (fun _ => True) v12 x12_1) ∧ Aside0 (Kd.R (Kd.int .i32) 21 w' w.heap.size (fun k_ => some k_ ≠ (v141 : Value).ownBlock) (.slice Ao13 t144.length co13) t144) ∧ Aside0 (w'.heap[gb139]? = some (.cells #[(.slice A0_0 l0_0.length c0_0), (.slice A0_1 l0_1.length c0_1)] 25 (0, 0))) ∧ Aside0 (Below w.heap.size w w'))
      case atStart => exact ⟨(([] : List Int)), (0), (by first | rfl | (simp; done) | (simp [*]; done)), H', ⟨Nat.le_refl _⟩, ⟨by (with_reducible repeat (first | apply Kd.R_alloc | apply Kd.R_drewN | apply Kd.R_drew)); exact Kd.R_mono HO142.out (fun _ hk => hk.2)⟩, ⟨by first | exact Kd.R_nil _ _ _ _ _ | exact Kd.N_nil _ _ _ _ _ | exact Kd.V_nil _ _ _ _ _ | exact Kd.Q_nil _ _ _ _ _ | exact Kd.S_nil _ _ _ _ _⟩, ⟨by (with_reducible repeat (first | apply Kd.R_alloc | apply Kd.R_drewN | apply Kd.R_drew)); exact Kd.R_mono HO146.out (fun _ hk => hk.2)⟩, ⟨by (with_reducible repeat (first | refine blk_drewN ?_ _ | refine blk_drew ?_ | refine blk_alloc ?_ _)); exact BK139.out⟩, ⟨by repeat (first | (with_reducible first | exact HB.out | apply below_alloc | apply pw_below_drewN | apply below_drew1 | refine below_set ?_ GE139.out) | exact HB.out)⟩⟩
      case round =>
        clear H'
        try clear c1
        try clear c2
        try clear p2
        try clear c5
        try clear c5b0
        try clear c5b1
        try clear c7
        try clear c7b0
        try clear c7b1
        try clear c12
        try clear hcz11_0
        try clear hcz11_1
        try clear hcz9_0
        try clear hcz9_1
        try clear hfz11_0
        try clear hfz11_1
        try clear hfz9_0
        try clear hfz9_1
        obtain ⟨x12_1, x35_1, rfl, HA, HK1, HO_9, HO_12, HO_33, BK139, HB⟩ := hrel
        cases gk with
        | zero => exact absurd HA.out (by simp [radical_Skip.l0])
        | succ k1 =>
          have H := HA.out
          clear HA
          simp only [radical_Skip.l0] at H
          by_cases c14 : x35_1 < (t144.length : Int)
          · rw [if_pos c14] at H
            have c14b0 : decide (x35_1 < (t144.length : Int)) = true := decide_eq_true c14
            clear c14
            by_cases c15 : 0 ≤ x35_1
            · rw [if_pos c15] at H
              have c15b0 : decide (0 ≤ x35_1) = true := decide_eq_true c15
              clear c15
              by_cases c16 : x35_1 < (t144.length : Int)
              · rw [if_pos c16] at H
                have c16b0 : decide (x35_1 < (t144.length : Int)) = true := decide_eq_true c16
                clear c16
                by_cases c17 : (x12_1.length : Int) < (t140.length : Int)
                · rw [if_pos c17] at H
                  have c17b0 : decide ((x12_1.length : Int) < (t140.length : Int)) = true := decide_eq_true c17
                  have c17b1 : decide (x12_1.length < t140.length) = true := decide_eq_true (Int.ofNat_lt.mp c17)
                  clear c17
                  by_cases c18 : 0 ≤ (x12_1.length : Int)
                  · rw [if_pos c18] at H
                    have c18b0 : decide (0 ≤ (x12_1.length : Int)) = true := decide_eq_true c18
                    have c18b1 : decide (0 ≤ x12_1.length) = true := decide_eq_true (by omega)
                    clear c18
                    by_cases c19 : (rd t140 (x12_1.length : Int)) = (rd t144 x35_1)
                    · rw [if_pos c19] at H
                      have c19b0 : ((rd t140 (x12_1.length : Int)) == (rd t144 x35_1)) = true := beq_iff_eq.mpr c19
                      have c19b1 : ((rd t140 (x12_1.length : Int)) != (rd t144 x35_1)) = false := bne_eq_false_iff_eq.mpr c19
                      clear c19
                      by_cases c20 : x12_1.length < 17592186044416
                      · rw [if_pos c20] at H
                        have LMc20 := Aside0.mk c20
                        clear c20
                        obtain ⟨y150, hy150⟩ : ∃ y_ : List Int, y_ = (x12_1 ++ [x35_1]) := ⟨_, rfl⟩
                        replace H : (radical_Skip.l0 k1 t140 y150 t144 (t144.length : Int) (wrap64 (x35_1 + 1))) = some (r1, r2, r3) := by first | (rw [hy150]; with_reducible exact H) | (have H2_ := (Option.bind_some _ _).symm.trans H; rw [hy150]; with_reducible exact H2_) | (have H2_ := (Option.bind_some _ _).symm.trans H; with_reducible exact H2_) | with_reducible exact H | (rw [hy150]; exact H) | exact H
                        have Ny150 := Aside0.mk hy150
                        clear hy150
                        have H' := Aside0.mk H
                        clear H
                        have p148 : 0 ≤ (x35_1 : Int) := of_decide_eq_true (by first | (with_reducible assumption) | assumption)
                        have q148 : x35_1 < (t144.length : Int) := of_decide_eq_true (by first | (with_reducible assumption) | assumption)
                        obtain ⟨ad148, e148, hx148_0⟩ := Kd.at_int (Kd.R_reads' HO_33.out).2.2 x35_1 p148 q148
                        cases e148
                        replace p148 := eq_true p148
                        replace q148 := eq_true q148
                        obtain ⟨Ao21, co21, eo21⟩ := Kd.R_slice HO_12.out
                        subst eo21
                        obtain ⟨Ao22, co22, eo22⟩ := Kd.R_slice HO_9.out
                        subst eo22
                        have p149 : 0 ≤ ((x12_1.length : Int) : Int) := of_decide_eq_true (by first | (with_reducible assumption) | assumption)
                        have q149 : (x12_1.length : Int) < (t140.length : Int) := of_decide_eq_true (by first | (with_reducible assumption) | assumption)
                        obtain ⟨ad149, e149, hx149_0⟩ := Kd.at_int (Kd.R_reads' HO_9.out).2.2 (x12_1.length : Int) p149 q149
                        cases e149
                        (try simp only [Go.IntWalk.toNatUp] at hx149_0)
                        replace p149 := eq_true p149
                        replace q149 := eq_true q149
                        go_wp2_with (first | ((with_reducible refine gate_builtin (b := .append) (xs := #[.tmp 54, .tmp 56]) rfl ?_); (try (refine gate_guard (by rfl) ?_; dsimp only)); at_builtin; refine Kd.R_append (Kd.int .i64) (w0 := w) w.heap.size rfl (.tmp 54) (.tmp 56) 35 3 (.int .i64 0) 8 rfl Tryd.underlying35 info3 rfl (by decide) (by omega) (.slice Ao21 x12_1.length co21) x12_1 x35_1 [.int .i64 x35_1] (fun _ => True) (fun _ => False) rfl rfl ?aP (fun _ hk => hk.elim) ?aF ?aO ?aB ?aS ?aL ?_; (case aP => exact rfl); (case aB => exact (by repeat (first | (with_reducible first | exact HB.out | apply below_alloc | apply pw_below_drewN | apply below_drew1 | refine below_set ?_ GE139.out) | exact HB.out))); (case aF => exact (fun _ _ => trivial)); (case aO => exact (by (with_reducible repeat (first | apply Kd.R_alloc | apply Kd.R_drewN | apply Kd.R_drew)); exact HO_12.out)); (case aS => exact (below_size (by repeat (first | (with_reducible first | exact HB.out | apply below_alloc | apply pw_below_drewN | apply below_drew1 | refine below_set ?_ GE139.out) | exact HB.out)))); (case aL => have := LMc20.out; omega); intro v151 w23 ho hb hg hat; rw [← Ny150.out] at ho; have n0_ := Aside0.mk (Kd.R_over' (by (with_reducible repeat (first | apply Kd.R_alloc | apply Kd.R_drewN | apply Kd.R_drew)); exact HO_9.out) (Kd.R_typed (by (with_reducible repeat (first | apply Kd.R_alloc | apply Kd.R_drewN | apply Kd.R_drew)); exact HO_12.out)) (by decide) hg); have n1_ := Aside0.mk (Kd.R_over' (by (with_reducible repeat (first | apply Kd.R_alloc | apply Kd.R_drewN | apply Kd.R_drew)); exact HO_33.out) (Kd.R_typed (by (with_reducible repeat (first | apply Kd.R_alloc | apply Kd.R_drewN | apply Kd.R_drew)); exact HO_12.out)) (by decide) hg); have n2_ := Aside0.mk (blk_grown (g := gb139) (o := .cells #[.slice A0_0 l0_0.length c0_0, .slice A0_1 l0_1.length c0_1] 25 (0, 0)) (by (with_reducible repeat (first | refine blk_drewN ?_ _ | refine blk_drew ?_ | refine blk_alloc ?_ _)); exact BK139.out) hg (Kd.R_ne HO_12.out BK139.out (by decide))); have n3_ := Aside0.mk (hb); have n4_ := Aside0.mk (ho); clear HO_9; clear HO_33; clear BK139; clear HB; clear HO_12; have HO_9 := n0_; have HO_33 := n1_; have BK139 := n2_; have HB := n3_; have HO152 := n4_; clear n0_ n1_ n2_ n3_ n4_; clear ho hb hg hat))
                        go_roundg k1
                        case measure => have := HK1.out; omega
                        case rel => exact ⟨(y150), (wrap64 (x35_1 + 1)), (by first | rfl | (simp; done) | (simp [*]; done)), H', ⟨by have := HK1.out; omega⟩, ⟨by (with_reducible repeat (first | apply Kd.R_alloc | apply Kd.R_drewN | apply Kd.R_drew)); exact HO_9.out⟩, ⟨by (with_reducible repeat (first | apply Kd.R_alloc | apply Kd.R_drewN | apply Kd.R_drew)); exact HO152.out⟩, ⟨by (with_reducible repeat (first | apply Kd.R_alloc | apply Kd.R_drewN | apply Kd.R_drew)); exact HO_33.out⟩, ⟨by (with_reducible repeat (first | refine blk_drewN ?_ _ | refine blk_drew ?_ | refine blk_alloc ?_ _)); exact BK139.out⟩, ⟨by repeat (first | (with_reducible first | exact HB.out | apply below_alloc | apply pw_below_drewN | apply below_drew1 | refine below_set ?_ GE139.out) | exact HB.out)⟩⟩
                      · rw [if_neg c20] at H
                        exact absurd H (by simp)
                    · rw [if_neg c19] at H
                      have c19b0 : ((rd t140 (x12_1.length : Int)) == (rd t144 x35_1)) = false := beq_eq_false_iff_ne.mpr c19
                      have c19b1 : ((rd t140 (x12_1.length : Int)) != (rd t144 x35_1)) = true := bne_iff_ne.mpr c19
                      have H' := Aside0.mk H
                      clear H
                      have p148 : 0 ≤ (x35_1 : Int) := of_decide_eq_true (by first | (with_reducible assumption) | assumption)
                      have q148 : x35_1 < (t144.length : Int) := of_decide_eq_true (by first | (with_reducible assumption) | assumption)
                      obtain ⟨ad148, e148, hx148_0⟩ := Kd.at_int (Kd.R_reads' HO_33.out).2.2 x35_1 p148 q148
                      cases e148
                      replace p148 := eq_true p148
                      replace q148 := eq_true q148
                      obtain ⟨Ao24, co24, eo24⟩ := Kd.R_slice HO_12.out
                      subst eo24
                      obtain ⟨Ao25, co25, eo25⟩ := Kd.R_slice HO_9.out
                      subst eo25
                      have p149 : 0 ≤ ((x12_1.length : Int) : Int) := of_decide_eq_true (by first | (with_reducible assumption) | assumption)
                      have q149 : (x12_1.length : Int) < (t140.length : Int) := of_decide_eq_true (by first | (with_reducible assumption) | assumption)
                      obtain ⟨ad149, e149, hx149_0⟩ := Kd.at_int (Kd.R_reads' HO_9.out).2.2 (x12_1.length : Int) p149 q149
                      cases e149
                      (try simp only [Go.IntWalk.toNatUp] at hx149_0)
                      replace p149 := eq_true p149
                      replace q149 := eq_true q149
                      go_wp2
                      go_roundg k1
                      case measure => have := HK1.out; omega
                      case rel => exact ⟨(x12_1), (wrap64 (x35_1 + 1)), (by first | rfl | (simp; done) | (simp [*]; done)), H', ⟨by have := HK1.out; omega⟩, ⟨by (with_reducible repeat (first | apply Kd.R_alloc | apply Kd.R_drewN | apply Kd.R_drew)); exact HO_9.out⟩, ⟨by (with_reducible repeat (first | apply Kd.R_alloc | apply Kd.R_drewN | apply Kd.R_drew)); exact HO_12.out⟩, ⟨by (with_reducible repeat (first | apply Kd.R_alloc | apply Kd.R_drewN | apply Kd.R_drew)); exact HO_33.out⟩, ⟨by (with_reducible repeat (first | refine blk_drewN ?_ _ | refine blk_drew ?_ | refine blk_alloc ?_ _)); exact BK139.out⟩, ⟨by repeat (first | (with_reducible first | exact HB.out | apply below_alloc | apply pw_below_drewN | apply below_drew1 | refine below_set ?_ GE139.out) | exact HB.out)⟩⟩
                  · rw [if_neg c18] at H
                    exact absurd H (by simp)
                · rw [if_neg c17] at H
                  have c17b0 : decide ((x12_1.length : Int) < (t140.length : Int)) = false := decide_eq_false c17
                  have c17b1 : decide (x12_1.length < t140.length) = false := decide_eq_false (fun h => c17 (Int.ofNat_lt.mpr h))
                  clear c17
                  have H' := Aside0.mk H
                  clear H
                  have p148 : 0 ≤ (x35_1 : Int) := of_decide_eq_true (by first | (with_reducible assumption) | assumption)
                  have q148 : x35_1 < (t144.length : Int) := of_decide_eq_true (by first | (with_reducible assumption) | assumption)
                  obtain ⟨ad148, e148, hx148_0⟩ := Kd.at_int (Kd.R_reads' HO_33.out).2.2 x35_1 p148 q148
                  cases e148
                  replace p148 := eq_true p148
                  replace q148 := eq_true q148
                  obtain ⟨Ao26, co26, eo26⟩ := Kd.R_slice HO_12.out
                  subst eo26
                  obtain ⟨Ao27, co27, eo27⟩ := Kd.R_slice HO_9.out
                  subst eo27
                  go_wp2
                  go_roundg k1
                  case measure => have := HK1.out; omega
                  case rel => exact ⟨(x12_1), (wrap64 (x35_1 + 1)), (by first | rfl | (simp; done) | (simp [*]; done)), H', ⟨by have := HK1.out; omega⟩, ⟨by (with_reducible repeat (first | apply Kd.R_alloc | apply Kd.R_drewN | apply Kd.R_drew)); exact HO_9.out⟩, ⟨by (with_reducible repeat (first | apply Kd.R_alloc | apply Kd.R_drewN | apply Kd.R_drew)); exact HO_12.out⟩, ⟨by (with_reducible repeat (first | apply Kd.R_alloc | apply Kd.R_drewN | apply Kd.R_drew)); exact HO_33.out⟩, ⟨by (with_reducible repeat (first | refine blk_drewN ?_ _ | refine blk_drew ?_ | refine blk_alloc ?_ _)); exact BK139.out⟩, ⟨by repeat (first | (with_reducible first | exact HB.out | apply below_alloc | apply pw_below_drewN | apply below_drew1 | refine below_set ?_ GE139.out) | exact HB.out)⟩⟩
              · rw [if_neg c16] at H
                exact absurd H (by simp)
            · rw [if_neg c15] at H
              exact absurd H (by simp)
          · rw [if_neg c14] at H
            have c14b0 : decide (x35_1 < (t144.length : Int)) = false := decide_eq_false c14
            clear c14
            by_cases c28 : (x12_1.length : Int) < (t140.length : Int)
            · rw [if_pos c28] at H
              have c28b0 : decide ((x12_1.length : Int) < (t140.length : Int)) = true := decide_eq_true c28
              have c28b1 : decide (x12_1.length < t140.length) = true := decide_eq_true (Int.ofNat_lt.mp c28)
              clear c28
              simp only [Option.some.injEq, Prod.mk.injEq] at H
              obtain ⟨rfl, rfl, rfl⟩ := H
              obtain ⟨Ao29, co29, eo29⟩ := Kd.R_slice HO_12.out
              subst eo29
              obtain ⟨Ao30, co30, eo30⟩ := Kd.R_slice HO_9.out
              subst eo30
              go_wp2
              go_ret3
              exact ⟨_, by first | rfl | (simp [errW_none, errW_some] <;> rfl) | (simp [*, errW_none, errW_some] <;> rfl), by first | exact Kd.R_nil _ _ _ _ _ | exact Kd.N_nil _ _ _ _ _ | exact Kd.V_nil _ _ _ _ _ | exact Kd.Q_nil _ _ _ _ _ | exact Kd.S_nil _ _ _ _ _, by repeat (first | (with_reducible first | exact HB.out | apply below_alloc | apply pw_below_drewN | apply below_drew1 | refine below_set ?_ GE139.out) | exact HB.out)⟩
            · rw [if_neg c28] at H
              have c28b0 : decide ((x12_1.length : Int) < (t140.length : Int)) = false := decide_eq_false c28
              have c28b1 : decide (x12_1.length < t140.length) = false := decide_eq_false (fun h => c28 (Int.ofNat_lt.mpr h))
              clear c28
              simp only [Option.some.injEq, Prod.mk.injEq] at H
              obtain ⟨rfl, rfl, rfl⟩ := H
              obtain ⟨Ao31, co31, eo31⟩ := Kd.R_slice HO_12.out
              subst eo31
              obtain ⟨Ao32, co32, eo32⟩ := Kd.R_slice HO_9.out
              subst eo32
              go_wp2
              go_ret3
              exact ⟨_, by first | rfl | (simp [errW_none, errW_some] <;> rfl) | (simp [*, errW_none, errW_some] <;> rfl), by (with_reducible repeat (first | apply Kd.R_alloc | apply Kd.R_drewN | apply Kd.R_drew)); exact HO_12.out, by repeat (first | (with_reducible first | exact HB.out | apply below_alloc | apply pw_below_drewN | apply below_drew1 | refine below_set ?_ GE139.out) | exact HB.out)⟩
    · rw [if_neg c7] at H
      have c7b0 : (t147 == 0) = false := beq_eq_false_iff_ne.mpr c7
      have c7b1 : (t147 != 0) = true := bne_iff_ne.mpr c7
      simp only [Option.some.injEq, Prod.mk.injEq] at H
      obtain ⟨rfl, rfl, rfl⟩ := H
      go_enter Tryd.func12, Tryd.ntmps12
      go_wp2_with (first | ((with_reducible refine gate_dst (N := 3) rfl ?_); (try (refine gate_guard (by rfl) ?_; dsimp only)); refine box_event ?hg (N := 3) ?hd (cs := #[.slice A0_0 l0_0.length c0_0, .slice A0_1 l0_1.length c0_1]) (t := 25) ?hr ?_; (case hd => rfl); (case hg => rfl); (case hr => first | (go_simp; done) | (go_simp; rfl)); intro gb139 hg w33 hbox hb; have n0_ := Aside0.mk (below_step (by repeat (first | (with_reducible first | exact HB.out | apply below_alloc | apply pw_below_drewN | apply below_drew1) | exact HB.out)) hb); have n1_ := Aside0.mk (hbox); have n2_ := Aside0.mk ((by rw [hg]; exact (below_size (by repeat (first | (with_reducible first | exact HB.out | apply below_alloc | apply pw_below_drewN | apply below_drew1) | exact HB.out))) : w.heap.size ≤ gb139)); have n3_ := Aside0.mk ((by rw [hg]; exact (below_size (by repeat (first | (with_reducible first | exact HB.out | apply below_alloc | apply pw_below_drewN | apply below_drew1) | exact HB.out))) : w.heap.size ≤ gb139)); clear HB; have HB := n0_; have BK139 := n1_; have GW139 := n2_; have GE139 := n3_; clear n0_ n1_ n2_ n3_; clear hb hbox hg; have hcz34_0 : w33.cell? ⟨gb139, 0, none⟩ = some (.slice A0_0 l0_0.length c0_0) := (blk_cell BK139.out 0).trans rfl; have hcz34_1 : w33.cell? ⟨gb139, 1, none⟩ = some (.slice A0_1 l0_1.length c0_1) := (blk_cell BK139.out 1).trans rfl; have hfz34_0 := blk_frozen BK139.out 0; have hfz34_1 := blk_frozen BK139.out 1) | ((with_reducible refine gate_callee (f := 27) rfl ?_); refine goesL_ (some 18) rfl rfl Tryd.func27 (by kernel_rfl) rfl #[.agg #[.slice A0_0 l0_0.length c0_0, .slice A0_1 l0_1.length c0_1], .string a1] rfl (by (try simp only [List.map_toArray, List.map_cons, List.map_nil]); first | done | rfl | (simp only [List.length_drop, List.length_take]; rfl)) ?_; (with_reducible refine (word_Letters.calls _ _ l0_0 _ _ l0_1 a1 t140 t143 _ ?side1 ?side2 ?side3 ?side4 ?side5 A4.out).mono ?_); (case side1 => repeat (first | exact (Kd.C_below HR0_0.out HB.out) | (with_reducible refine Kd.C_alloc ?_ _) | (with_reducible refine Kd.C_drewN ?_ _) | (with_reducible refine Kd.C_drew ?_))); (case side2 => exact HC0_0.out); (case side3 => repeat (first | exact (Kd.C_below HR0_1.out HB.out) | (with_reducible refine Kd.C_alloc ?_ _) | (with_reducible refine Kd.C_drewN ?_ _) | (with_reducible refine Kd.C_drew ?_))); (case side4 => exact HC0_1.out); (case side5 => exact Tabs.below HT.out (by repeat (first | (with_reducible first | exact HB.out | apply below_alloc | apply pw_below_drewN | apply below_drew1 | refine below_set ?_ GE139.out) | exact HB.out))); rintro e w35 ⟨v141, rfl, ho0, hb⟩; refine ⟨_, rfl, ?_⟩; have n0_ := Aside0.mk (Kd.R_lower ho0 (below_size (by repeat (first | (with_reducible first | exact HB.out | apply below_alloc | apply pw_below_drewN | apply below_drew1 | refine below_set ?_ GE139.out) | exact HB.out)))); have n1_ := Aside0.mk (blk_below (g := gb139) (o := .cells #[.slice A0_0 l0_0.length c0_0, .slice A0_1 l0_1.length c0_1] 25 (0, 0)) (by (with_reducible repeat (first | refine blk_drewN ?_ _ | refine blk_drew ?_ | refine blk_alloc ?_ _)); exact BK139.out) hb); have n2_ := Aside0.mk (below_step (by repeat (first | (with_reducible first | exact HB.out | apply below_alloc | apply pw_below_drewN | apply below_drew1 | refine below_set ?_ GE139.out) | exact HB.out)) hb); clear BK139; clear HB; have HO142 := n0_; have BK139 := n1_; have HB := n2_; clear n0_ n1_ n2_; (try clear hb); (try clear hb2); (try clear hk); (try clear hi); (try clear ho0); have hcz36_0 : w35.cell? ⟨gb139, 0, none⟩ = some (.slice A0_0 l0_0.length c0_0) := (blk_cell BK139.out 0).trans rfl; have hcz36_1 : w35.cell? ⟨gb139, 1, none⟩ = some (.slice A0_1 l0_1.length c0_1) := (blk_cell BK139.out 1).trans rfl; have hfz36_0 := blk_frozen BK139.out 0; have hfz36_1 := blk_frozen BK139.out 1) | ((with_reducible refine gate_callee (f := 27) rfl ?_); refine goesL_ (some 27) rfl rfl Tryd.func27 (by kernel_rfl) rfl #[.agg #[.slice A0_0 l0_0.length c0_0, .slice A0_1 l0_1.length c0_1], .string a2] rfl (by (try simp only [List.map_toArray, List.map_cons, List.map_nil]); first | done | rfl | (simp only [List.length_drop, List.length_take]; rfl)) ?_; (with_reducible refine (word_Letters.calls _ _ l0_0 _ _ l0_1 a2 t144 t147 _ ?side1 ?side2 ?side3 ?side4 ?side5 A6.out).mono ?_); (case side1 => repeat (first | exact (Kd.C_below HR0_0.out HB.out) | (with_reducible refine Kd.C_alloc ?_ _) | (with_reducible refine Kd.C_drewN ?_ _) | (with_reducible refine Kd.C_drew ?_))); (case side2 => exact HC0_0.out); (case side3 => repeat (first | exact (Kd.C_below HR0_1.out HB.out) | (with_reducible refine Kd.C_alloc ?_ _) | (with_reducible refine Kd.C_drewN ?_ _) | (with_reducible refine Kd.C_drew ?_))); (case side4 => exact HC0_1.out); (case side5 => exact Tabs.below HT.out (by repeat (first | (with_reducible first | exact HB.out | apply below_alloc | apply pw_below_drewN | apply below_drew1 | refine below_set ?_ GE139.out) | exact HB.out))); rintro e w37 ⟨v145, rfl, ho0, hb⟩; refine ⟨_, rfl, ?_⟩; have n0_ := Aside0.mk (Kd.R_elder' (by (with_reducible repeat (first | apply Kd.R_alloc | apply Kd.R_drewN | apply Kd.R_drew)); exact HO142.out) (Kd.R_base ho0) hb); have n1_ := Aside0.mk (Kd.R_lower (Kd.R_new' ho0 (Kd.R_lt (by (with_reducible repeat (first | apply Kd.R_alloc | apply Kd.R_drewN | apply Kd.R_drew)); exact HO142.out))) (below_size (by repeat (first | (with_reducible first | exact HB.out | apply below_alloc | apply pw_below_drewN | apply below_drew1 | refine below_set ?_ GE139.out) | exact HB.out)))); have n2_ := Aside0.mk (blk_below (g := gb139) (o := .cells #[.slice A0_0 l0_0.length c0_0, .slice A0_1 l0_1.length c0_1] 25 (0, 0)) (by (with_reducible repeat (first | refine blk_drewN ?_ _ | refine blk_drew ?_ | refine blk_alloc ?_ _)); exact BK139.out) hb); have n3_ := Aside0.mk (below_step (by repeat (first | (with_reducible first | exact HB.out | apply below_alloc | apply pw_below_drewN | apply below_drew1 | refine below_set ?_ GE139.out) | exact HB.out)) hb); clear HO142; clear BK139; clear HB; have HO142 := n0_; have HO146 := n1_; have BK139 := n2_; have HB := n3_; clear n0_ n1_ n2_ n3_; (try clear hb); (try clear hb2); (try clear hk); (try clear hi); (try clear ho0)))
      go_ret3
      exact ⟨_, by first | rfl | (simp [errW_none, errW_some] <;> rfl) | (simp [*, errW_none, errW_some] <;> rfl), by first | exact Kd.R_nil _ _ _ _ _ | exact Kd.N_nil _ _ _ _ _ | exact Kd.V_nil _ _ _ _ _ | exact Kd.Q_nil _ _ _ _ _ | exact Kd.S_nil _ _ _ _ _, by repeat (first | (with_reducible first | exact HB.out | apply below_alloc | apply pw_below_drewN | apply below_drew1 | refine below_set ?_ GE139.out) | exact HB.out)⟩
  · rw [if_neg c5] at H
    have c5b0 : (t143 == 0) = false := beq_eq_false_iff_ne.mpr c5
    have c5b1 : (t143 != 0) = true := bne_iff_ne.mpr c5
    simp only [Option.some.injEq, Prod.mk.injEq] at H
    obtain ⟨rfl, rfl, rfl⟩ := H
    go_enter Tryd.func12, Tryd.ntmps12
    go_wp2_with (first | ((with_reducible refine gate_dst (N := 3) rfl ?_); (try (refine gate_guard (by rfl) ?_; dsimp only)); refine box_event ?hg (N := 3) ?hd (cs := #[.slice A0_0 l0_0.length c0_0, .slice A0_1 l0_1.length c0_1]) (t := 25) ?hr ?_; (case hd => rfl); (case hg => rfl); (case hr => first | (go_simp; done) | (go_simp; rfl)); intro gb139 hg w38 hbox hb; have n0_ := Aside0.mk (below_step (by repeat (first | (with_reducible first | exact HB.out | apply below_alloc | apply pw_below_drewN | apply below_drew1) | exact HB.out)) hb); have n1_ := Aside0.mk (hbox); have n2_ := Aside0.mk ((by rw [hg]; exact (below_size (by repeat (first | (with_reducible first | exact HB.out | apply below_alloc | apply pw_below_drewN | apply below_drew1) | exact HB.out))) : w.heap.size ≤ gb139)); have n3_ := Aside0.mk ((by rw [hg]; exact (below_size (by repeat (first | (with_reducible first | exact HB.out | apply below_alloc | apply pw_below_drewN | apply below_drew1) | exact HB.out))) : w.heap.size ≤ gb139)); clear HB; have HB := n0_; have BK139 := n1_; have GW139 := n2_; have GE139 := n3_; clear n0_ n1_ n2_ n3_; clear hb hbox hg; have hcz39_0 : w38.cell? ⟨gb139, 0, none⟩ = some (.slice A0_0 l0_0.length c0_0) := (blk_cell BK139.out 0).trans rfl; have hcz39_1 : w38.cell? ⟨gb139, 1, none⟩ = some (.slice A0_1 l0_1.length c0_1) := (blk_cell BK139.out 1).trans rfl; have hfz39_0 := blk_frozen BK139.out 0; have hfz39_1 := blk_frozen BK139.out 1) | ((with_reducible refine gate_callee (f := 27) rfl ?_); refine goesL_ (some 18) rfl rfl Tryd.func27 (by kernel_rfl) rfl #[.agg #[.slice A0_0 l0_0.length c0_0, .slice A0_1 l0_1.length c0_1], .string a1] rfl (by (try simp only [List.map_toArray, List.map_cons, List.map_nil]); first | done | rfl | (simp only [List.length_drop, List.length_take]; rfl)) ?_; (with_reducible refine (word_Letters.calls _ _ l0_0 _ _ l0_1 a1 t140 t143 _ ?side1 ?side2 ?side3 ?side4 ?side5 A4.out).mono ?_); (case side1 => repeat (first | exact (Kd.C_below HR0_0.out HB.out) | (with_reducible refine Kd.C_alloc ?_ _) | (with_reducible refine Kd.C_drewN ?_ _) | (with_reducible refine Kd.C_drew ?_))); (case side2 => exact HC0_0.out); (case side3 => repeat (first | exact (Kd.C_below HR0_1.out HB.out) | (with_reducible refine Kd.C_alloc ?_ _) | (with_reducible refine Kd.C_drewN ?_ _) | (with_reducible refine Kd.C_drew ?_))); (case side4 => exact HC0_1.out); (case side5 => exact Tabs.below HT.out (by repeat (first | (with_reducible first | exact HB.out | apply below_alloc | apply pw_below_drewN | apply below_drew1 | refine below_set ?_ GE139.out) | exact HB.out))); rintro e w40 ⟨v141, rfl, ho0, hb⟩; refine ⟨_, rfl, ?_⟩; have n0_ := Aside0.mk (Kd.R_lower ho0 (below_size (by repeat (first | (with_reducible first | exact HB.out | apply below_alloc | apply pw_below_drewN | apply below_drew1 | refine below_set ?_ GE139.out) | exact HB.out)))); have n1_ := Aside0.mk (blk_below (g := gb139) (o := .cells #[.slice A0_0 l0_0.length c0_0, .slice A0_1 l0_1.length c0_1] 25 (0, 0)) (by (with_reducible repeat (first | refine blk_drewN ?_ _ | refine blk_drew ?_ | refine blk_alloc ?_ _)); exact BK139.out) hb); have n2_ := Aside0.mk (below_step (by repeat (first | (with_reducible first | exact HB.out | apply below_alloc | apply pw_below_drewN | apply below_drew1 | refine below_set ?_ GE139.out) | exact HB.out)) hb); clear BK139; clear HB; have HO142 := n0_; have BK139 := n1_; have HB := n2_; clear n0_ n1_ n2_; (try clear hb); (try clear hb2); (try clear hk); (try clear hi); (try clear ho0)))
    go_ret3
    exact ⟨_, by first | rfl | (simp [errW_none, errW_some] <;> rfl) | (simp [*, errW_none, errW_some] <;> rfl), by first | exact Kd.R_nil _ _ _ _ _ | exact Kd.N_nil _ _ _ _ _ | exact Kd.V_nil _ _ _ _ _ | exact Kd.Q_nil _ _ _ _ _ | exact Kd.S_nil _ _ _ _ _, by repeat (first | (with_reducible first | exact HB.out | apply below_alloc | apply pw_below_drewN | apply below_drew1 | refine below_set ?_ GE139.out) | exact HB.out)⟩

/-! ### cognateref13_Skip: function 13 -/
/-! ### cognatelaw13_RadicalWords: function 3 -/
end Go.Proofs.YtdeichibnnbjdaaDoor.RRw
end
section
/-
  The plain law of RadicalWords: what the printed statement computes is true.
-/
set_option linter.unusedSimpArgs false
set_option linter.unusedVariables false
namespace Go.Proofs.YtdeichibnnbjdaaDoor
open Go.RowKit Go.Proofs.YtdeichibnnbjdaaDoorW.PrintWords Go.Proofs.YtdeichibnnbjdaaDoorW.PrintLast Go.Proofs.YtdeichibnnbjdaaDoorW.PrintMore Go.Proofs.YtdeichibnnbjdaaDoor.Ext

/-! ### skipped through -/
def skipG : List Int → List Int → Nat → List Int
  | [], _, _ => []
  | _ :: _, [], _ => []
  | r :: rs, x :: xs, i => if r = x then (i : Int) :: skipG rs xs (i + 1) else skipG (r :: rs) xs (i + 1)
theorem skipG_nil (w : List Int) (i : Nat) : skipG [] w i = [] := by cases w <;> rfl
def fin (l m : List Int) : List Int × Bool × Int := if m.length < l.length then ([], false, 0) else (m, true, 0)
theorem Skip_loop (l w : List Int) (hl : l.length ≤ 64) (hw : w.length ≤ 64) : ∀ (n i k : Nat) (acc : List Int), i + n = w.length → n + 1 ≤ k → acc.length ≤ l.length →
    RRw.radical_Skip.l0 k l acc w (w.length : Int) (i : Int) = some (fin l (acc ++ skipG (l.drop acc.length) (w.drop i) i))
  | 0, i, k, acc, hi, hk, ha => by
    obtain ⟨k, rfl⟩ : ∃ q, k = q + 1 := ⟨k - 1, by omega⟩
    unfold RRw.radical_Skip.l0
    rw [if_neg (by omega), List.drop_of_length_le (by omega : w.length ≤ i)]
    have : skipG (l.drop acc.length) [] i = [] := by cases l.drop acc.length <;> rfl
    rw [this, List.append_nil]
    unfold fin
    by_cases h : acc.length < l.length
    · rw [if_pos (by omega), if_pos h]
    · rw [if_neg (by omega), if_neg h]
  | n + 1, i, k, acc, hi, hk, ha => by
    obtain ⟨k, rfl⟩ : ∃ q, k = q + 1 := ⟨k - 1, by omega⟩
    have hlt : i < w.length := by omega
    have e : (i : Int) + 1 = ((i + 1 : Nat) : Int) := by omega
    unfold RRw.radical_Skip.l0
    rw [if_pos (by omega), if_pos (by omega), if_pos (by omega), rd_at w i hlt, wrap_succ (by omega) (by omega), e, List.drop_eq_getElem_cons hlt]
    by_cases h : acc.length < l.length
    · rw [if_pos (by omega), if_pos (by omega), rd_at l acc.length h, List.drop_eq_getElem_cons h]
      generalize hx : w.drop (i + 1) = t
      generalize hy : l.drop (acc.length + 1) = u
      unfold skipG
      by_cases hq : l[acc.length] = w[i]
      · rw [if_pos hq, if_pos (by omega), if_pos hq, Skip_loop l w hl hw n (i + 1) k _ (by omega) (by omega) (by simp; omega), hx]
        have : (acc ++ [(i : Int)]).length = acc.length + 1 := by simp
        rw [this, hy, List.append_assoc]
        rfl
      · rw [if_neg hq, if_neg hq, Skip_loop l w hl hw n (i + 1) k _ (by omega) (by omega) ha, hx, List.drop_eq_getElem_cons h, hy]
    · rw [if_neg (by omega), Skip_loop l w hl hw n (i + 1) k _ (by omega) (by omega) ha]
      rw [List.drop_of_length_le (by omega : l.length ≤ acc.length), skipG_nil, skipG_nil]
def skipOf (l0 : List ByteArray) (l1 : List Letter) (r s : ByteArray) : List Int × Bool × Int :=
  if (lettersOf l0 l1 r).2 = 0 then (if (lettersOf l0 l1 s).2 = 0 then fin (lettersOf l0 l1 r).1 (skipG (lettersOf l0 l1 r).1 (lettersOf l0 l1 s).1 0) else ([], false, (lettersOf l0 l1 s).2)) else ([], false, (lettersOf l0 l1 r).2)
theorem Skip_eq (l0 : List ByteArray) (l1 : List Letter) (r s : ByteArray) (k : Nat) (hk : 200 ≤ k) : RRw.radical_Skip.f k l0 l1 r s = some (skipOf l0 l1 r s) := by
  unfold RRw.radical_Skip.f word_Letters.f skipOf
  rw [Option.bind_some, Option.bind_some]
  have h1 := lettersOf_len l0 l1 r
  have h2 := lettersOf_len l0 l1 s
  by_cases a : (lettersOf l0 l1 r).2 = 0
  · rw [if_pos a, if_pos a]
    by_cases b : (lettersOf l0 l1 s).2 = 0
    · rw [if_pos b, if_pos b]
      have := Skip_loop _ _ h1 h2 (lettersOf l0 l1 s).1.length 0 k [] (by omega) (by omega) (by simp)
      simpa using this
    · rw [if_neg b, if_neg b]
  · rw [if_neg a, if_neg a]
/-! ### parted -/
end Go.Proofs.YtdeichibnnbjdaaDoor
end
section
/-
  Roots in shapes, in plain words: merged, split, skipped through. No program in sight.
-/
set_option linter.unusedSimpArgs false
set_option linter.unusedVariables false
namespace Go.Proofs.YtdeichibnnbjdaaDoor
open Go.RowKit Go.Proofs.YtdeichibnnbjdaaDoorW.PrintWords Go.Proofs.YtdeichibnnbjdaaDoorW.PrintLast Go.Proofs.YtdeichibnnbjdaaDoorW.PrintMore Go.Proofs.YtdeichibnnbjdaaDoor.Ext

/-- Letters put into a shape's holes. -/
def fillH : List Int → List Int → List Int
  | [], _ => []
  | x :: xs, [] => x :: fillH xs []
  | x :: xs, r :: rs => if x = 95 then r :: fillH xs rs else x :: fillH xs (r :: rs)
/-- What stands at a shape's holes. -/
def pickH : List Int → List Int → Option (List Int)
  | [], [] => some []
  | x :: xs, y :: ys => if y = 95 then (pickH xs ys).map (x :: ·) else if y = x then pickH xs ys else none
  | _, _ => none
abbrev noB : ByteArray := ⟨#[]⟩
def mergeOf (l0 : List ByteArray) (l1 : List Letter) (root n f : ByteArray) : ByteArray × Int :=
  if (lettersOf l0 l1 root).2 = 0 then (if chkS l0 l1 n f = 0 ∧ f.data.toList.count 95 = (lettersOf l0 l1 root).1.length then (runesBytes (fillH (runesOf f) (lettersOf l0 l1 root).1), 0) else (noB, 130)) else (noB, (lettersOf l0 l1 root).2)
def pickB (l f : List Int) : ByteArray × Bool := match pickH l f with | some q => (runesBytes q, true) | none => (noB, false)
def splitOf (l0 : List ByteArray) (l1 : List Letter) (w n f : ByteArray) : ByteArray × Bool × Int :=
  if (lettersOf l0 l1 w).2 = 0 then (if chkS l0 l1 n f = 0 then ((pickB (lettersOf l0 l1 w).1 (runesOf f)).1, (pickB (lettersOf l0 l1 w).1 (runesOf f)).2, 0) else (noB, false, chkS l0 l1 n f)) else (noB, false, (lettersOf l0 l1 w).2)

theorem fill_nil : ∀ f : List Int, fillH f [] = f
  | [] => rfl
  | x :: xs => by rw [fillH, fill_nil xs]
theorem fill_len : ∀ (f l : List Int), (fillH f l).length = f.length
  | [], _ => by simp [fillH]
  | x :: xs, [] => by simp [fill_nil]
  | x :: xs, r :: rs => by
    unfold fillH
    split <;> simp [fill_len xs]
theorem fill_pick : ∀ (w f l : List Int), pickH w f = some l → fillH f l = w ∧ f.count 95 = l.length ∧ (∀ x ∈ l, x ∈ w) ∧ w.length = f.length
  | [], [], l, h => by
    simp only [pickH, Option.some.injEq] at h
    subst h
    simp [fillH]
  | [], y :: ys, l, h => by simp [pickH] at h
  | x :: xs, [], l, h => by simp [pickH] at h
  | x :: xs, y :: ys, l, h => by
    unfold pickH at h
    by_cases hy : y = 95
    · rw [if_pos hy] at h
      cases hq : pickH xs ys with
      | none => rw [hq] at h; cases h
      | some q =>
        rw [hq] at h
        obtain rfl : x :: q = l := by simpa using h
        have ih := fill_pick xs ys q hq
        unfold fillH
        rw [if_pos hy, ih.1, List.count_cons]
        refine ⟨rfl, by simp [hy, ih.2.1], fun z hz => ?_, by simp [ih.2.2.2]⟩
        rcases List.mem_cons.1 hz with rfl | hz
        · exact List.mem_cons_self ..
        · exact List.mem_cons_of_mem _ (ih.2.2.1 z hz)
    · rw [if_neg hy] at h
      by_cases he : y = x
      · rw [if_pos he] at h
        have ih := fill_pick xs ys l h
        subst he
        refine ⟨?_, by rw [List.count_cons]; simp [hy, ih.2.1], fun z hz => List.mem_cons_of_mem _ (ih.2.2.1 z hz), by simp [ih.2.2.2]⟩
        cases l with
        | nil => rw [fill_nil] at ih ⊢; rw [ih.1]
        | cons r rs =>
          unfold fillH
          rw [if_neg hy, ih.1]
      · rw [if_neg he] at h
        cases h
/-! ### shapes that may be -/
theorem chkS_zero {l0 : List ByteArray} {l1 : List Letter} {n f : ByteArray} (h : chkS l0 l1 n f = 0) : chk l0 l1 = 0 ∧ nameS n = true ∧ formS (kindsOf l1) f = true := by
  unfold chkS at h
  by_cases hk : chk l0 l1 = 0
  · rw [if_pos hk] at h
    by_cases hs : (nameS n && formS (kindsOf l1) f) = true
    · simp only [Bool.and_eq_true] at hs
      exact ⟨hk, hs.1, hs.2⟩
    · rw [if_neg hs] at h
      cases h
  · rw [if_neg hk] at h
    exact absurd h hk
theorem formS_ok {ks : List Int} {f : ByteArray} (h : formS ks f = true) : (pieces f).all (fun p => !p.f3) = true ∧ (runesOf f).length ≤ 64 ∧ ∀ x ∈ runesOf f, ks.contains x = true ∨ x = 95 := by
  unfold formS at h
  simp only [Bool.and_eq_true, decide_eq_true_eq] at h
  rw [runesOf_pieces]
  refine ⟨h.1.1, by simpa using h.1.2, fun x hx => ?_⟩
  obtain ⟨p, hp, rfl⟩ := List.mem_map.1 hx
  have := List.all_eq_true.1 h.2 p hp
  simpa using this
/-! ### merged and split, split and merged -/
/-! ### a word's radicals in its shape -/
end Go.Proofs.YtdeichibnnbjdaaDoor
end
section
/-
  radical.Merge by a walk.
-/
set_option linter.unusedSimpArgs false
set_option linter.unusedVariables false
namespace Go.Proofs.YtdeichibnnbjdaaDoor
open Go.RowKit Go.Proofs.YtdeichibnnbjdaaDoorW.PrintWords Go.Proofs.YtdeichibnnbjdaaDoorW.PrintLast Go.Proofs.YtdeichibnnbjdaaDoorW.PrintMore Go.Proofs.YtdeichibnnbjdaaDoor.Ext

theorem fill_at : ∀ (f l : List Int) (i : Nat) (h : i < f.length), f.count 95 = l.length → (fillH f l)[i]? = some (if f[i] = 95 then l.getD ((f.take i).count 95) 0 else f[i])
  | [], l, i, h, _ => by simp at h
  | x :: xs, [], i, h, hc => by
    rw [fill_nil, List.getElem?_eq_getElem h]
    congr 1
    rw [if_neg]
    intro e
    have : 0 < (x :: xs).count 95 := List.count_pos_iff.2 (e ▸ List.getElem_mem h)
    simp at hc
    omega
  | x :: xs, r :: rs, 0, h, hc => by
    unfold fillH
    by_cases hx : x = 95
    · rw [if_pos hx]
      simp [hx]
    · rw [if_neg hx]
      simp [hx]
  | x :: xs, r :: rs, i + 1, h, hc => by
    rw [List.count_cons] at hc
    have hi : i < xs.length := by simpa using h
    unfold fillH
    by_cases hx : x = 95
    · rw [if_pos hx, List.getElem?_cons_succ, fill_at xs rs i hi (by simp [hx] at hc; exact hc)]
      subst hx
      simp
    · rw [if_neg hx, List.getElem?_cons_succ, fill_at xs (r :: rs) i hi (by simp [hx] at hc; simp [hc])]
      simp [hx]
def fillN (f l : List Int) (i : Nat) : List Int := (fillH f l).take i ++ f.drop i
theorem fillN_len (f l : List Int) (i : Nat) : (fillN f l i).length = f.length := by
  unfold fillN
  simp [fill_len]
  omega
theorem fillN_at (f l : List Int) (i : Nat) (h : i < f.length) : (fillN f l i)[i]'(by rw [fillN_len]; exact h) = f[i] := by
  unfold fillN
  rw [List.getElem_append_right (by simp [fill_len]; omega)]
  simp [fill_len, Nat.min_eq_left (Nat.le_of_lt h)]
theorem fillN_step (f l : List Int) (i : Nat) (h : i < f.length) (hc : f.count 95 = l.length) : fillN f l (i + 1) = if f[i] = 95 then (fillN f l i).set i (l.getD ((f.take i).count 95) 0) else fillN f l i := by
  have ha := fill_at f l i h hc
  have hi : i < (fillH f l).length := by rw [fill_len]; exact h
  rw [List.getElem?_eq_getElem hi] at ha
  have ha := Option.some.inj ha
  unfold fillN
  rw [List.take_succ_eq_append_getElem hi, ha, List.drop_eq_getElem_cons h]
  have hl : ((fillH f l).take i).length = i := by simp; omega
  by_cases e : f[i] = 95
  · rw [if_pos e, if_pos e, List.set_append_right _ _ (by omega), hl, Nat.sub_self, List.set_cons_zero, List.append_assoc]
    rfl
  · rw [if_neg e, if_neg e, List.append_assoc]
    rfl
theorem count_step (f : List Int) (i : Nat) (h : i < f.length) : (f.take (i + 1)).count 95 = (f.take i).count 95 + if f[i] = 95 then 1 else 0 := by
  rw [List.take_succ_eq_append_getElem h, List.count_append, List.count_singleton]
  simp only [beq_iff_eq]
theorem count_lt (f : List Int) (i : Nat) (h : i < f.length) (e : f[i] = 95) : (f.take i).count 95 < f.count 95 := by
  have h1 := count_step f i h
  rw [if_pos e] at h1
  have h2 : (f.take (i + 1)).count 95 ≤ f.count 95 := List.Sublist.count_le 95 (List.take_sublist _ _)
  omega
theorem count_le' (f : List Int) (i : Nat) : (f.take i).count 95 ≤ f.length := Nat.le_trans List.count_le_length (by simp; omega)

namespace Ext
def radical_Merge.f (l0 : List ByteArray) (l1 : List Letter) (root n f : ByteArray) : Option (ByteArray × Int) := if n.size ≤ 9223372036854775807 ∧ f.size ≤ 1000000 then some (mergeOf l0 l1 root n f) else none
set_option maxHeartbeats 4000000 in
set_option maxRecDepth 100000 in
theorem radical_Merge.calls (A0 : Option Addr) (c0 : Nat) (l0 : List ByteArray) (A1 : Option Addr) (c1 : Nat) (l1 : List Letter) (root n f : ByteArray) (r1 : ByteArray) (r2 : Int) (w : World) (hF : Kd.C Kd.string w A0 l0.length l0) (hcF : l0.length ≤ c0) (hL : Kd.C kLetter w A1 l1.length l1) (hcL : l1.length ≤ c1) (hT : Tabs w)
    (h : radical_Merge.f l0 l1 root n f = some (r1, r2)) :
    Calls Tryd.prog 15 #[.agg #[.slice A0 l0.length c0, .slice A1 l1.length c1], .string root, .agg #[.string n, .string f]] w fun e w' => e = .returned (.tuple #[.string r1, .int .i64 r2]) ∧ Below w.heap.size w w' := by
  unfold radical_Merge.f at h
  split at h
  case isFalse => cases h
  case isTrue hsz =>
  have h := Option.some.inj h
  obtain ⟨l, e, hl⟩ : ∃ l e, lettersOf l0 l1 root = (l, e) := ⟨_, _, rfl⟩
  have h64 := lettersOf_len l0 l1 root
  rw [hl] at h64
  dsimp only at h64
  have hle := fun W (hb : Below w.heap.size w W) => word_Letters.calls A0 c0 l0 A1 c1 l1 root l e W (Kd.C_below hF hb) hcF (Kd.C_below hL hb) hcL (hT.below hb) (by unfold word_Letters.f; rw [hl])
  have hch := fun W (hb : Below w.heap.size w W) => radical_Check.calls A0 c0 l0 A1 c1 l1 n f (chkS l0 l1 n f) W (Kd.C_below hF hb) hcF (Kd.C_below hL hb) hcL (hT.below hb) (by unfold radical_Check.f; rw [if_pos ⟨hsz.1, by omega⟩])
  have hho := fun W => RF1.radical_Holes.calls n f ((f.data.toList.count 95 : Nat) : Int) W rfl
  have HB := Lib.hid (boxes2 w (.cells #[.slice A0 l0.length c0, .slice A1 l1.length c1] 25) (.cells #[.string n, .string f] 32))
  clear hF hL hT
  unfold mergeOf at h
  rw [hl] at h
  dsimp only at h
  by_cases he : e = 0
  · subst he
    rw [if_pos rfl] at h
    by_cases hk : chkS l0 l1 n f = 0
    · rw [hk] at hch
      by_cases hc : f.data.toList.count 95 = l.length
      · rw [if_pos ⟨hk, hc⟩] at h
        simp only [Prod.mk.injEq] at h
        obtain ⟨hr, rfl⟩ := h
        have hcz := chkS_zero hk
        have hfo := formS_ok hcz.2.2
        obtain ⟨F, hFd⟩ : ∃ F, F = runesOf f := ⟨_, rfl⟩
        have hcF2 : F.count 95 = l.length := by rw [hFd, ← holes_runes f hfo.1]; exact hc
        have hF64 : F.length ≤ 64 := by rw [hFd]; exact hfo.2.1
        rw [← hFd] at hr
        have Hr := Lib.hid hr
        have HF := Lib.hid hFd
        have HcF := Lib.hid hcF2
        have hq1 : (((f.data.toList.count 95 : Nat) : Int) != (l.length : Int)) = false := by simp [hc]
        have hq2 : (((f.data.toList.count 95 : Nat) : Int) == (l.length : Int)) = true := by simp [hc]
        obtain ⟨nh, hnh⟩ : ∃ nh, nh = ((f.data.toList.count 95 : Nat) : Int) := ⟨_, rfl⟩
        rw [← hnh] at hq1 hq2 hho
        clear hr hFd hk hcz hfo hcF2 hl hc hnh
        go_enter Tryd.func15, Tryd.ntmps15
        go_wp2_with (first | (go_at_call 27; refine (hle _ HB.out.1).mono ?_; rintro e w1 ⟨v1, rfl, HR1, hb1⟩; have hB1 := Lib.hid (below_step HB.out.1 hb1); have hx1 := Lib.hid (blk_below HB.out.2.2 hb1); have hy1 := Lib.hid (blk_below HB.out.2.1 hb1); have hc10 := (blk_cell hx1.out 0).trans rfl; have hc11 := (blk_cell hx1.out 1).trans rfl; have hd10 := (blk_cell hy1.out 0).trans rfl; have hd11 := (blk_cell hy1.out 1).trans rfl; obtain ⟨A, c, rfl, hlc, hC⟩ := Kd.R_reads HR1; have HC1 := Lib.hid hC; clear HR1 hC) | (go_at_call 22; refine (hch _ hB1.out).mono ?_; rintro e w2 ⟨rfl, hb2⟩; have hB2 := Lib.hid (below_step hB1.out hb2); have hx2 := Lib.hid (blk_below hx1.out hb2); have hc20 := (blk_cell hx2.out 0).trans rfl; have hc21 := (blk_cell hx2.out 1).trans rfl; have HC2 := Lib.hid (Kd.C_below HC1.out hb2)) | (go_at_call 24; refine (hho _).mono ?_; rintro e w3 ⟨rfl, hb3⟩; have hB3 := Lib.hid (below_step hB2.out hb3); have hx3 := Lib.hid (blk_below hx2.out hb3); have hc31 := (blk_cell hx3.out 1).trans rfl; have HC3 := Lib.hid (Kd.C_below HC2.out hb3)) | ((with_reducible refine gate_dst (N := 36) rfl ?_); refine R_runes (w0 := w3) w3.heap.size 21 rfl (N := 36) rfl 9 51 _ rfl f rfl Tryd.underlying9 Tryd.underlying51 Tryd.underlying21 (by omega) (Below.refl _ _) (Nat.le_refl _) ?_; intro v4 w4 HR4 hb4 hg4 hat4; rw [← HF.out] at HR4; have HR4' := Lib.hid HR4; obtain ⟨A4, c4, rfl⟩ := Kd.R_slice HR4; have Hb4 := Lib.hid hb4; clear HR4 hb4 hg4 hat4))
        go_loopw [11, 39] (fun kk i wr => ∃ k : Nat, k ≤ F.length ∧ i = .int .i64 k ∧ kk = .int .i64 ((F.take k).count 95 : Nat) ∧ Hid (Below w3.heap.size w3 wr) ∧ Hid (Kd.R (Kd.int .i32) 21 wr w3.heap.size (fun _ => True) (.slice A4 F.length c4) (fillN F l k)))
          (fun _ i _ => F.length - (intOf i).toNat)
        case atStart => exact ⟨0, Nat.zero_le _, rfl, rfl, Hb4.out, by have := HR4'.out; simpa [fillN, Hid] using this⟩
        case round =>
          obtain ⟨k, hk, rfl, rfl, hb, hR⟩ := hrel
          by_cases hlt : k < F.length
          · have hfl := fillN_len F l k
            obtain ⟨g, co, hv, hge, hgl, cells, hgc⟩ := Kd.R_form hR.out (by omega)
            injection hv with ha hn2 hco
            subst ha
            subst hco
            clear hn2
            obtain ⟨hx0, hf0⟩ := Kd.R_celln 0 hR.out (k : Int) (by omega) (by omega)
            have hrd : rdOf 0 (fillN F l k) (k : Int) = F[k] := by
              unfold rdOf
              rw [Int.toNat_natCast, List.getD_eq_getElem?_getD, List.getElem?_eq_getElem (by omega), ← fillN_at F l k hlt]
              rfl
            rw [hrd, Int.toNat_natCast] at hx0
            rw [Int.toNat_natCast] at hf0
            have Hst := Lib.hid (fillN_step F l k hlt HcF.out)
            have Hcs := Lib.hid (count_step F k hlt)
            clear hfl hrd hgc cells
            by_cases h95 : F[k] = 95
            · have hcl := count_lt F k hlt h95
              have hck := count_le' F k
              rw [HcF.out] at hcl
              rw [h95] at hx0
              have Hst2 : Hid (fillN F l (k + 1) = (fillN F l k).set k (l.getD ((F.take k).count 95) 0)) := by have := Hst.out; rw [if_pos h95] at this; exact this
              have Hcs2 : Hid ((F.take (k + 1)).count 95 = (F.take k).count 95 + 1) := by have := Hcs.out; rw [if_pos h95] at this; exact this
              clear h95 Hst Hcs
              obtain ⟨q, hq⟩ : ∃ q, q = (F.take k).count 95 := ⟨_, rfl⟩
              rw [← hq] at hcl hck
              rw [← hq] at Hst2 Hcs2
              obtain ⟨ad, hA, hy0⟩ := Kd.at_int (Kd.C_below HC3.out hb.out) q (by omega) (by omega)
              subst hA
              rw [Int.toNat_natCast] at hy0
              have hyr : YtdeichibnnbjdaaDoorW.PrintWords.rd l (q : Int) = l.getD q 0 := by unfold YtdeichibnnbjdaaDoorW.PrintWords.rd; rw [Int.toNat_natCast]
              rw [hyr] at hy0
              obtain ⟨y, hy⟩ : ∃ y, y = l.getD q 0 := ⟨_, rfl⟩
              rw [← hy] at hy0 Hst2
              have HP := Lib.hid (Kd.R_putg hR.out (k : Int) y)
              rw [Int.toNat_natCast] at HP
              rw [← hq]
              clear hq hyr hy
              go_wp2_with fail
              go_roundw
              case rel => exact ⟨k + 1, by omega, by go_num, by rw [Hcs2.out]; go_num, below_set hb.out hge, by show Kd.R _ _ _ _ _ _ _; rw [Hst2.out]; exact HP.out.1⟩
              case measure => simp [intOf]; omega
            · have Hst2 : Hid (fillN F l (k + 1) = fillN F l k) := by have := Hst.out; rw [if_neg h95] at this; exact this
              have Hcs2 : Hid ((F.take (k + 1)).count 95 = (F.take k).count 95) := by have := Hcs.out; rw [if_neg h95] at this; exact this
              have he1 : ((F[k] : Int) == 95) = false := by simpa using h95
              clear h95 Hst Hcs
              go_wp2_with fail
              go_roundw
              case rel => exact ⟨k + 1, by omega, by go_num, by rw [Hcs2.out], hb.out, by show Kd.R _ _ _ _ _ _ _; rw [Hst2.out]; exact hR.out⟩
              case measure => simp [intOf]; omega
          · obtain rfl : k = F.length := by omega
            have hcv := conv_runes (c := c4) (Kd.R_reads' hR.out).2.2
            have hfin : fillN F l F.length = fillH F l := by unfold fillN; rw [List.drop_length, List.append_nil, List.take_of_length_le (by rw [fill_len]; omega)]
            have hln := fillN_len F l F.length
            rw [hln, hfin, Hr.out] at hcv
            have Hb3 := Lib.hid (hB3.out.trans (hb.out.mono hB3.out.size))
            clear hln hfin
            go_wp2_with fail
            go_ret2
            exact ⟨rfl, Hb3.out⟩
      · rw [if_neg (fun hh => hc hh.2)] at h
        simp only [Prod.mk.injEq] at h
        obtain ⟨rfl, rfl⟩ := h
        have hq1 : (((f.data.toList.count 95 : Nat) : Int) != (l.length : Int)) = true := bne_iff_ne.mpr (by omega)
        have hq2 : (((f.data.toList.count 95 : Nat) : Int) == (l.length : Int)) = false := beq_eq_false_iff_ne.mpr (by omega)
        obtain ⟨nh, hnh⟩ : ∃ nh, nh = ((f.data.toList.count 95 : Nat) : Int) := ⟨_, rfl⟩
        rw [← hnh] at hq1 hq2 hho
        clear hk hl hc hnh
        go_enter Tryd.func15, Tryd.ntmps15
        go_wp2_with (first | (go_at_call 27; refine (hle _ HB.out.1).mono ?_; rintro e w1 ⟨v1, rfl, HR1, hb1⟩; have hB1 := Lib.hid (below_step HB.out.1 hb1); have hx1 := Lib.hid (blk_below HB.out.2.2 hb1); have hy1 := Lib.hid (blk_below HB.out.2.1 hb1); have hc10 := (blk_cell hx1.out 0).trans rfl; have hc11 := (blk_cell hx1.out 1).trans rfl; have hd10 := (blk_cell hy1.out 0).trans rfl; have hd11 := (blk_cell hy1.out 1).trans rfl; obtain ⟨A, c, rfl, hlc, hC⟩ := Kd.R_reads HR1; have HC1 := Lib.hid hC; clear HR1 hC) | (go_at_call 22; refine (hch _ hB1.out).mono ?_; rintro e w2 ⟨rfl, hb2⟩; have hB2 := Lib.hid (below_step hB1.out hb2); have hx2 := Lib.hid (blk_below hx1.out hb2); have hc20 := (blk_cell hx2.out 0).trans rfl; have hc21 := (blk_cell hx2.out 1).trans rfl; have HC2 := Lib.hid (Kd.C_below HC1.out hb2)) | (go_at_call 24; refine (hho _).mono ?_; rintro e w3 ⟨rfl, hb3⟩; have hB3 := Lib.hid (below_step hB2.out hb3)))
        go_ret2
        exact ⟨rfl, hB3.out⟩
    · rw [if_neg (fun hh => hk hh.1)] at h
      simp only [Prod.mk.injEq] at h
      obtain ⟨rfl, rfl⟩ := h
      have heb : (chkS l0 l1 n f == 0) = false := beq_eq_false_iff_ne.mpr hk
      have heb2 : (chkS l0 l1 n f != 0) = true := bne_iff_ne.mpr hk
      clear hk hl
      go_enter Tryd.func15, Tryd.ntmps15
      go_wp2_with (first | (go_at_call 27; refine (hle _ HB.out.1).mono ?_; rintro e w1 ⟨v1, rfl, HR1, hb1⟩; have hB1 := Lib.hid (below_step HB.out.1 hb1); have hx1 := Lib.hid (blk_below HB.out.2.2 hb1); have hy1 := Lib.hid (blk_below HB.out.2.1 hb1); have hc10 := (blk_cell hx1.out 0).trans rfl; have hc11 := (blk_cell hx1.out 1).trans rfl; have hd10 := (blk_cell hy1.out 0).trans rfl; have hd11 := (blk_cell hy1.out 1).trans rfl; obtain ⟨A, c, rfl, hlc, hC⟩ := Kd.R_reads HR1; have HC1 := Lib.hid hC; clear HR1 hC) | (go_at_call 22; refine (hch _ hB1.out).mono ?_; rintro e w2 ⟨rfl, hb2⟩; have hB2 := Lib.hid (below_step hB1.out hb2)))
      go_ret2
      exact ⟨rfl, hB2.out⟩
  · rw [if_neg he] at h
    simp only [Prod.mk.injEq] at h
    obtain ⟨rfl, rfl⟩ := h
    have heb : (e == 0) = false := beq_eq_false_iff_ne.mpr he
    have heb2 : (e != 0) = true := bne_iff_ne.mpr he
    clear he hl
    go_enter Tryd.func15, Tryd.ntmps15
    go_wp2_with (first | (go_at_call 27; refine (hle _ HB.out.1).mono ?_; rintro e' w1 ⟨v1, rfl, HR1, hb1⟩; have hB1 := Lib.hid (below_step HB.out.1 hb1); obtain ⟨A, c, rfl, hlc, hC⟩ := Kd.R_reads HR1; clear HR1 hC))
    go_ret2
    exact ⟨rfl, hB1.out⟩
end Ext
end Go.Proofs.YtdeichibnnbjdaaDoor
end
section
-- printed by a program of this session (wip/tools/prx.sh: a turned copy of the kit's print, with functions given from outside)
namespace Go.Proofs.YtdeichibnnbjdaaDoor.RRm
open Go.RowKit Go.Proofs.YtdeichibnnbjdaaDoor Go.Proofs.YtdeichibnnbjdaaDoor.Ext Go.Proofs.YtdeichibnnbjdaaDoorW.PrintWords Go.Proofs.YtdeichibnnbjdaaDoorW.PrintLast Go.Proofs.YtdeichibnnbjdaaDoorW.PrintMore
attribute [local go_sem] max2_int min2_int max_two min_two max_three min_three max_four min_four   -- for this text's walks alone
set_option linter.unusedVariables false
set_option linter.unusedSimpArgs false



end Go.Proofs.YtdeichibnnbjdaaDoor.RRm
end
section
-- printed by a program of this session (wip/tools/prx.sh: a turned copy of the kit's print, with functions given from outside)
namespace Go.Proofs.YtdeichibnnbjdaaDoor.RRm
open Go.RowKit Go.Proofs.YtdeichibnnbjdaaDoor Go.Proofs.YtdeichibnnbjdaaDoor.Ext Go.Proofs.YtdeichibnnbjdaaDoorW.PrintWords Go.Proofs.YtdeichibnnbjdaaDoorW.PrintLast Go.Proofs.YtdeichibnnbjdaaDoorW.PrintMore
attribute [local go_sem] max2_int min2_int max_two min_two max_three min_three max_four min_four   -- for this text's walks alone
set_option linter.unusedVariables false
set_option linter.unusedSimpArgs false

/-! ### radical_split: function 35 -/
def radical_split.l0 : Nat → List Int → ByteArray → List Int → Int → Int → Option (ByteArray × Bool)
  | 0, _, _, _, _, _ => none
  | k + 1, x0, x6, x14, x15, x16 => if x16 < x15 then (if 0 ≤ x16 then (if x16 < (x14.length : Int) then (if (rd x14 x16) = 95 then (if x16 < (x0.length : Int) then (if x6.size + (Utf8.encode (rd x0 x16)).size ≤ 9223372036854775807 then (radical_split.l0 k x0 (x6 ++ (Utf8.encode (rd x0 x16))) x14 x15 (wrap64 (x16 + 1))) else (none)) else (none)) else (if x16 < (x0.length : Int) then (if (rd x14 x16) = (rd x0 x16) then (radical_split.l0 k x0 x6 x14 x15 (wrap64 (x16 + 1))) else (some ((⟨#[]⟩ : ByteArray), false))) else (none))) else (none)) else (none)) else (some (x6, true))
def radical_split.f (k : Nat) (l0 : List Int) (l1 : List Int) : Option (ByteArray × Bool) := if (l0.length : Int) = (l1.length : Int) then (radical_split.l0 k l0 (⟨#[]⟩ : ByteArray) l1 (l1.length : Int) 0) else (some ((⟨#[]⟩ : ByteArray), false))
set_option maxHeartbeats 8000000 in
set_option maxRecDepth 100000 in
theorem radical_split.calls (k : Nat) (A0 : Option Addr) (c0 : Nat) (l0 : List Int) (A1 : Option Addr) (c1 : Nat) (l1 : List Int) (r1 : ByteArray) (r2 : Bool) (w : World) (hr0 : Kd.C (Kd.int .i32) w A0 l0.length l0) (hc0 : l0.length ≤ c0) (hr1 : Kd.C (Kd.int .i32) w A1 l1.length l1) (hc1 : l1.length ≤ c1) (h : radical_split.f k l0 l1 = some (r1, r2)) :
    Calls Tryd.prog 35 #[.slice A0 l0.length c0, .slice A1 l1.length c1] w fun e w' => e = .returned (.tuple #[.string r1, .bool r2]) ∧ Drawn0 w w' := by
  have HR0 := Aside0.mk hr0
  have HC0 := Aside0.mk hc0
  clear hr0 hc0
  have HR1 := Aside0.mk hr1
  have HC1 := Aside0.mk hc1
  clear hr1 hc1
  have H : (if (l0.length : Int) = (l1.length : Int) then (radical_split.l0 k l0 (⟨#[]⟩ : ByteArray) l1 (l1.length : Int) 0) else (some ((⟨#[]⟩ : ByteArray), false))) = some (r1, r2) := h
  clear h
  by_cases c3 : (l0.length : Int) = (l1.length : Int)
  · rw [if_pos c3] at H
    have c3b0 : ((l0.length : Int) == (l1.length : Int)) = true := beq_iff_eq.mpr c3
    have c3b1 : ((l0.length : Int) != (l1.length : Int)) = false := bne_eq_false_iff_eq.mpr c3
    have c3b2 : (l0.length == l1.length) = true := by first | simpa using c3 | (simp at c3 ⊢; omega)
    clear c3
    have H' := Aside0.mk H
    clear H
    go_enter Tryd.func35, Tryd.ntmps35
    go_wp2
    go_loopg [6, 16] k (fun kq v6 v16 w' => ∃ (x6_1 : ByteArray) (x16_1 : Int), v6 = .string x6_1 ∧ v16 = .int .i64 x16_1 ∧ Aside0 (radical_split.l0 kq l0 x6_1 l1 (l1.length : Int) x16_1 = some (r1, r2)) ∧ Aside0 (kq ≤ k) ∧ Drawn0 w w')
    case atStart => exact ⟨((⟨#[]⟩ : ByteArray)), (0), (by first | rfl | (simp; done) | (simp [*]; done)), (by first | rfl | (simp; done) | (simp [*]; done)), H', ⟨Nat.le_refl _⟩, by repeat (first | exact Drawn0.refl _ | apply Drawn0.step)⟩
    case round =>
      clear H'
      try clear c1
      try clear p2
      try clear c3
      try clear c3b0
      try clear c3b1
      try clear c3b2
      obtain ⟨x6_1, x16_1, rfl, rfl, HA, HK1, ⟨m1, rfl⟩⟩ := hrel
      cases gk with
      | zero => exact absurd HA.out (by simp [radical_split.l0])
      | succ k1 =>
        have H := HA.out
        clear HA
        simp only [radical_split.l0] at H
        by_cases c4 : x16_1 < (l1.length : Int)
        · rw [if_pos c4] at H
          have c4b0 : decide (x16_1 < (l1.length : Int)) = true := decide_eq_true c4
          clear c4
          by_cases c5 : 0 ≤ x16_1
          · rw [if_pos c5] at H
            have c5b0 : decide (0 ≤ x16_1) = true := decide_eq_true c5
            clear c5
            by_cases c6 : x16_1 < (l1.length : Int)
            · rw [if_pos c6] at H
              have c6b0 : decide (x16_1 < (l1.length : Int)) = true := decide_eq_true c6
              clear c6
              by_cases c7 : (rd l1 x16_1) = 95
              · rw [if_pos c7] at H
                have c7b0 : ((rd l1 x16_1) == 95) = true := beq_iff_eq.mpr c7
                have c7b1 : ((rd l1 x16_1) != 95) = false := bne_eq_false_iff_eq.mpr c7
                clear c7
                by_cases c8 : x16_1 < (l0.length : Int)
                · rw [if_pos c8] at H
                  have c8b0 : decide (x16_1 < (l0.length : Int)) = true := decide_eq_true c8
                  clear c8
                  by_cases c9 : x6_1.size + (Utf8.encode (rd l0 x16_1)).size ≤ 9223372036854775807
                  · rw [if_pos c9] at H
                    have c9b0 := eq_true c9
                    have c9b1 : decide (x6_1.size + (Utf8.encode (rd l0 x16_1)).size ≤ 9223372036854775807) = true := decide_eq_true c9
                    try have c9b2 : (9223372036854775807 < x6_1.size + (Utf8.encode (rd l0 x16_1)).size) = False := eq_false (Nat.not_lt.2 c9)
                    have H' := Aside0.mk H
                    clear H
                    have p101 : 0 ≤ (x16_1 : Int) := of_decide_eq_true (by first | (with_reducible assumption) | assumption)
                    have q101 : x16_1 < (l1.length : Int) := of_decide_eq_true (by first | (with_reducible assumption) | assumption)
                    obtain ⟨ad101, e101, hx101_0⟩ := Kd.at_int HR1.out x16_1 p101 q101
                    cases e101
                    replace p101 := eq_true p101
                    replace q101 := eq_true q101
                    have p102 : 0 ≤ (x16_1 : Int) := of_decide_eq_true (by first | (with_reducible assumption) | assumption)
                    have q102 : x16_1 < (l0.length : Int) := of_decide_eq_true (by first | (with_reducible assumption) | assumption)
                    obtain ⟨ad102, e102, hx102_0⟩ := Kd.at_int HR0.out x16_1 p102 q102
                    cases e102
                    replace p102 := eq_true p102
                    replace q102 := eq_true q102
                    go_wp2
                    go_roundg k1
                    case measure => have := HK1.out; omega
                    case rel => exact ⟨(x6_1 ++ (Utf8.encode (rd l0 x16_1))), (wrap64 (x16_1 + 1)), (by first | rfl | (simp; done) | (simp [*]; done)), (by first | rfl | (simp; done) | (simp [*]; done)), H', ⟨by have := HK1.out; omega⟩, by repeat (first | exact Drawn0.refl _ | apply Drawn0.step)⟩
                  · rw [if_neg c9] at H
                    exact absurd H (by simp)
                · rw [if_neg c8] at H
                  exact absurd H (by simp)
              · rw [if_neg c7] at H
                have c7b0 : ((rd l1 x16_1) == 95) = false := beq_eq_false_iff_ne.mpr c7
                have c7b1 : ((rd l1 x16_1) != 95) = true := bne_iff_ne.mpr c7
                by_cases c10 : x16_1 < (l0.length : Int)
                · rw [if_pos c10] at H
                  have c10b0 : decide (x16_1 < (l0.length : Int)) = true := decide_eq_true c10
                  clear c10
                  by_cases c11 : (rd l1 x16_1) = (rd l0 x16_1)
                  · rw [if_pos c11] at H
                    have c11b0 : ((rd l1 x16_1) == (rd l0 x16_1)) = true := beq_iff_eq.mpr c11
                    have c11b1 : ((rd l1 x16_1) != (rd l0 x16_1)) = false := bne_eq_false_iff_eq.mpr c11
                    clear c11
                    have H' := Aside0.mk H
                    clear H
                    have p101 : 0 ≤ (x16_1 : Int) := of_decide_eq_true (by first | (with_reducible assumption) | assumption)
                    have q101 : x16_1 < (l1.length : Int) := of_decide_eq_true (by first | (with_reducible assumption) | assumption)
                    obtain ⟨ad101, e101, hx101_0⟩ := Kd.at_int HR1.out x16_1 p101 q101
                    cases e101
                    replace p101 := eq_true p101
                    replace q101 := eq_true q101
                    have p103 : 0 ≤ (x16_1 : Int) := of_decide_eq_true (by first | (with_reducible assumption) | assumption)
                    have q103 : x16_1 < (l0.length : Int) := of_decide_eq_true (by first | (with_reducible assumption) | assumption)
                    obtain ⟨ad103, e103, hx103_0⟩ := Kd.at_int HR0.out x16_1 p103 q103
                    cases e103
                    replace p103 := eq_true p103
                    replace q103 := eq_true q103
                    go_wp2
                    go_roundg k1
                    case measure => have := HK1.out; omega
                    case rel => exact ⟨(x6_1), (wrap64 (x16_1 + 1)), (by first | rfl | (simp; done) | (simp [*]; done)), (by first | rfl | (simp; done) | (simp [*]; done)), H', ⟨by have := HK1.out; omega⟩, by repeat (first | exact Drawn0.refl _ | apply Drawn0.step)⟩
                  · rw [if_neg c11] at H
                    have c11b0 : ((rd l1 x16_1) == (rd l0 x16_1)) = false := beq_eq_false_iff_ne.mpr c11
                    have c11b1 : ((rd l1 x16_1) != (rd l0 x16_1)) = true := bne_iff_ne.mpr c11
                    simp only [Option.some.injEq, Prod.mk.injEq] at H
                    obtain ⟨rfl, rfl⟩ := H
                    have p101 : 0 ≤ (x16_1 : Int) := of_decide_eq_true (by first | (with_reducible assumption) | assumption)
                    have q101 : x16_1 < (l1.length : Int) := of_decide_eq_true (by first | (with_reducible assumption) | assumption)
                    obtain ⟨ad101, e101, hx101_0⟩ := Kd.at_int HR1.out x16_1 p101 q101
                    cases e101
                    replace p101 := eq_true p101
                    replace q101 := eq_true q101
                    have p103 : 0 ≤ (x16_1 : Int) := of_decide_eq_true (by first | (with_reducible assumption) | assumption)
                    have q103 : x16_1 < (l0.length : Int) := of_decide_eq_true (by first | (with_reducible assumption) | assumption)
                    obtain ⟨ad103, e103, hx103_0⟩ := Kd.at_int HR0.out x16_1 p103 q103
                    cases e103
                    replace p103 := eq_true p103
                    replace q103 := eq_true q103
                    go_wp2
                    go_ret2
                    exact ⟨by first | rfl | (simp; done) | (simp [*]; done), by repeat (first | exact Drawn0.refl _ | apply Drawn0.step)⟩
                · rw [if_neg c10] at H
                  exact absurd H (by simp)
            · rw [if_neg c6] at H
              exact absurd H (by simp)
          · rw [if_neg c5] at H
            exact absurd H (by simp)
        · rw [if_neg c4] at H
          have c4b0 : decide (x16_1 < (l1.length : Int)) = false := decide_eq_false c4
          clear c4
          simp only [Option.some.injEq, Prod.mk.injEq] at H
          obtain ⟨rfl, rfl⟩ := H
          go_wp2
          go_ret2
          exact ⟨by first | rfl | (simp; done) | (simp [*]; done), by repeat (first | exact Drawn0.refl _ | apply Drawn0.step)⟩
  · rw [if_neg c3] at H
    have c3b0 : ((l0.length : Int) == (l1.length : Int)) = false := beq_eq_false_iff_ne.mpr c3
    have c3b1 : ((l0.length : Int) != (l1.length : Int)) = true := bne_iff_ne.mpr c3
    have c3b2 : (l0.length == l1.length) = false := by first | simpa using c3 | (simp at c3 ⊢; omega)
    simp only [Option.some.injEq, Prod.mk.injEq] at H
    obtain ⟨rfl, rfl⟩ := H
    go_enter Tryd.func35, Tryd.ntmps35
    go_wp2
    go_ret2
    exact ⟨by first | rfl | (simp; done) | (simp [*]; done), by repeat (first | exact Drawn0.refl _ | apply Drawn0.step)⟩

/-! ### radical_Split: function 17 -/
def radical_Split.f (k : Nat) (l0_0 : List ByteArray) (l0_1 : List (S74)) (a1 : ByteArray) (a2_0 : ByteArray) (a2_1 : ByteArray) : Option (ByteArray × Bool × Int) := (word_Letters.f l0_0 l0_1 a1).bind fun bt106 => (if bt106.2 = 0 then ((radical_Check.f l0_0 l0_1 a2_0 a2_1).bind fun t110 => (if t110 = 0 then (if (a2_1.size : Int) ≤ 70368744177664 then ((radical_split.f k bt106.1 (runesOf a2_1)).bind fun bt114 => (some (bt114.1, bt114.2, 0))) else (none)) else (some ((⟨#[]⟩ : ByteArray), false, t110)))) else (some ((⟨#[]⟩ : ByteArray), false, bt106.2)))
set_option maxHeartbeats 8000000 in
set_option maxRecDepth 100000 in
theorem radical_Split.calls (k : Nat) (A0_0 : Option Addr) (c0_0 : Nat) (l0_0 : List ByteArray) (A0_1 : Option Addr) (c0_1 : Nat) (l0_1 : List (S74)) (a1 : ByteArray) (a2_0 : ByteArray) (a2_1 : ByteArray) (r1 : ByteArray) (r2 : Bool) (r3 : Int) (w : World) (hr0_0 : Kd.C Kd.string w A0_0 l0_0.length l0_0) (hc0_0 : l0_0.length ≤ c0_0) (hr0_1 : Kd.C k74 w A0_1 l0_1.length l0_1) (hc0_1 : l0_1.length ≤ c0_1) (hT : Tabs w) (h : radical_Split.f k l0_0 l0_1 a1 a2_0 a2_1 = some (r1, r2, r3)) :
    Calls Tryd.prog 17 #[.agg #[.slice A0_0 l0_0.length c0_0, .slice A0_1 l0_1.length c0_1], .string a1, .agg #[.string a2_0, .string a2_1]] w fun e w' => e = .returned (.tuple #[.string r1, .bool r2, .int .i64 r3]) ∧ Below w.heap.size w w' := by
  have hu25 := Tryd.underlying25
  have hu32 := Tryd.underlying32
  have HR0_0 := Aside0.mk hr0_0
  have HC0_0 := Aside0.mk hc0_0
  clear hr0_0 hc0_0
  have HR0_1 := Aside0.mk hr0_1
  have HC0_1 := Aside0.mk hc0_1
  clear hr0_1 hc0_1
  have HB := Aside0.mk (Below.refl w.heap.size w)
  have HT := Aside0.mk hT
  clear hT
  have H : ((word_Letters.f l0_0 l0_1 a1).bind fun bt106 => (if bt106.2 = 0 then ((radical_Check.f l0_0 l0_1 a2_0 a2_1).bind fun t110 => (if t110 = 0 then (if (a2_1.size : Int) ≤ 70368744177664 then ((radical_split.f k bt106.1 (runesOf a2_1)).bind fun bt114 => (some (bt114.1, bt114.2, 0))) else (none)) else (some ((⟨#[]⟩ : ByteArray), false, t110)))) else (some ((⟨#[]⟩ : ByteArray), false, bt106.2)))) = some (r1, r2, r3) := h
  clear h
  replace H := Option.bind_eq_some_iff.mp H
  obtain ⟨⟨t106, t109⟩, A40, H⟩ := H
  replace H : (if t109 = 0 then ((radical_Check.f l0_0 l0_1 a2_0 a2_1).bind fun t110 => (if t110 = 0 then (if (a2_1.size : Int) ≤ 70368744177664 then ((radical_split.f k t106 (runesOf a2_1)).bind fun bt114 => (some (bt114.1, bt114.2, 0))) else (none)) else (some ((⟨#[]⟩ : ByteArray), false, t110)))) else (some ((⟨#[]⟩ : ByteArray), false, t109))) = some (r1, r2, r3) := H
  have A4 := Aside0.mk A40
  clear A40
  by_cases c5 : t109 = 0
  · rw [if_pos c5] at H
    have c5b0 : (t109 == 0) = true := beq_iff_eq.mpr c5
    have c5b1 : (t109 != 0) = false := bne_eq_false_iff_eq.mpr c5
    clear c5
    replace H := Option.bind_eq_some_iff.mp H
    obtain ⟨t110, A60, H⟩ := H
    replace H : (if t110 = 0 then (if (a2_1.size : Int) ≤ 70368744177664 then ((radical_split.f k t106 (runesOf a2_1)).bind fun bt114 => (some (bt114.1, bt114.2, 0))) else (none)) else (some ((⟨#[]⟩ : ByteArray), false, t110))) = some (r1, r2, r3) := H
    have A6 := Aside0.mk A60
    clear A60
    by_cases c7 : t110 = 0
    · rw [if_pos c7] at H
      have c7b0 : (t110 == 0) = true := beq_iff_eq.mpr c7
      have c7b1 : (t110 != 0) = false := bne_eq_false_iff_eq.mpr c7
      clear c7
      by_cases c8 : (a2_1.size : Int) ≤ 70368744177664
      · rw [if_pos c8] at H
        have c8b0 := eq_true c8
        have c8b1 : decide ((a2_1.size : Int) ≤ 70368744177664) = true := decide_eq_true c8
        clear c8
        obtain ⟨y111, hy111⟩ : ∃ y_ : List Int, y_ = (runesOf a2_1) := ⟨_, rfl⟩
        replace H : ((radical_split.f k t106 y111).bind fun bt114 => (some (bt114.1, bt114.2, 0))) = some (r1, r2, r3) := by first | (rw [hy111]; with_reducible exact H) | (have H2_ := (Option.bind_some _ _).symm.trans H; rw [hy111]; with_reducible exact H2_) | (have H2_ := (Option.bind_some _ _).symm.trans H; with_reducible exact H2_) | with_reducible exact H | (rw [hy111]; exact H) | exact H
        have Ny111 := Aside0.mk hy111
        clear hy111
        replace H := Option.bind_eq_some_iff.mp H
        obtain ⟨⟨t114, t115⟩, A90, H⟩ := H
        replace H : (some (t114, t115, 0)) = some (r1, r2, r3) := H
        have A9 := Aside0.mk A90
        clear A90
        simp only [Option.some.injEq, Prod.mk.injEq] at H
        obtain ⟨rfl, rfl, rfl⟩ := H
        go_enter Tryd.func17, Tryd.ntmps17
        go_wp2_with (first | ((with_reducible refine gate_dst (N := 3) rfl ?_); refine box_event ?hg (N := 3) ?hd (cs := #[.slice A0_0 l0_0.length c0_0, .slice A0_1 l0_1.length c0_1]) (t := 25) ?hr ?_; (case hd => rfl); (case hg => rfl); (case hr => first | (go_simp; done) | (go_simp; rfl)); intro gb104 hg w10 hbox hb; have n0_ := Aside0.mk (below_step (by repeat (first | (with_reducible first | exact HB.out | apply below_alloc | apply pw_below_drewN | apply below_drew1) | exact HB.out)) hb); have n1_ := Aside0.mk (hbox); have n2_ := Aside0.mk ((by rw [hg]; exact (below_size (by repeat (first | (with_reducible first | exact HB.out | apply below_alloc | apply pw_below_drewN | apply below_drew1) | exact HB.out))) : w.heap.size ≤ gb104)); have n3_ := Aside0.mk ((by rw [hg]; exact (below_size (by repeat (first | (with_reducible first | exact HB.out | apply below_alloc | apply pw_below_drewN | apply below_drew1) | exact HB.out))) : w.heap.size ≤ gb104)); clear HB; have HB := n0_; have BK104 := n1_; have GW104 := n2_; have GE104 := n3_; clear n0_ n1_ n2_ n3_; clear hb hbox hg) | ((with_reducible refine gate_dst (N := 5) rfl ?_); refine box_event ?hg (N := 5) ?hd (cs := #[.string a2_0, .string a2_1]) (t := 32) ?hr ?_; (case hd => rfl); (case hg => rfl); (case hr => first | (go_simp; done) | (go_simp; rfl)); intro gb105 hg w11 hbox hb; have n0_ := Aside0.mk (blk_below (g := gb104) (o := .cells #[.slice A0_0 l0_0.length c0_0, .slice A0_1 l0_1.length c0_1] 25 (0, 0)) (by (with_reducible repeat (first | refine blk_drewN ?_ _ | refine blk_drew ?_ | refine blk_alloc ?_ _)); exact BK104.out) hb); have n1_ := Aside0.mk (below_step (by repeat (first | (with_reducible first | exact HB.out | apply below_alloc | apply pw_below_drewN | apply below_drew1 | refine below_set ?_ GE104.out) | exact HB.out)) hb); have n2_ := Aside0.mk (hbox); have n3_ := Aside0.mk ((by rw [hg]; exact (below_size (by repeat (first | (with_reducible first | exact HB.out | apply below_alloc | apply pw_below_drewN | apply below_drew1 | refine below_set ?_ GE104.out) | exact HB.out))) : w.heap.size ≤ gb105)); have n4_ := Aside0.mk ((by rw [hg]; exact (below_size (by repeat (first | (with_reducible first | exact HB.out | apply below_alloc | apply pw_below_drewN | apply below_drew1 | refine below_set ?_ GE104.out) | exact HB.out))) : w.heap.size ≤ gb105)); have n5_ := Aside0.mk ((by rw [hg]; exact Nat.ne_of_lt (blk_lt (g := gb104) (o := .cells #[.slice A0_0 l0_0.length c0_0, .slice A0_1 l0_1.length c0_1] 25 (0, 0)) (by (with_reducible repeat (first | refine blk_drewN ?_ _ | refine blk_drew ?_ | refine blk_alloc ?_ _)); exact BK104.out)) : gb104 ≠ gb105)); have n6_ := Aside0.mk ((by rw [hg]; exact Nat.ne_of_gt (blk_lt (g := gb104) (o := .cells #[.slice A0_0 l0_0.length c0_0, .slice A0_1 l0_1.length c0_1] 25 (0, 0)) (by (with_reducible repeat (first | refine blk_drewN ?_ _ | refine blk_drew ?_ | refine blk_alloc ?_ _)); exact BK104.out)) : gb105 ≠ gb104)); clear BK104; clear HB; have BK104 := n0_; have HB := n1_; have BK105 := n2_; have GW105 := n3_; have GE105 := n4_; have NB104_105 := n5_; have NB105_104 := n6_; clear n0_ n1_ n2_ n3_ n4_ n5_ n6_; clear hb hbox hg; have hnb12 := NB104_105.out; have hnc12 := NB105_104.out; have hcz13_0 : w11.cell? ⟨gb104, 0, none⟩ = some (.slice A0_0 l0_0.length c0_0) := (blk_cell BK104.out 0).trans rfl; have hcz13_1 : w11.cell? ⟨gb104, 1, none⟩ = some (.slice A0_1 l0_1.length c0_1) := (blk_cell BK104.out 1).trans rfl; have hfz13_0 := blk_frozen BK104.out 0; have hfz13_1 := blk_frozen BK104.out 1) | ((with_reducible refine gate_callee (f := 27) rfl ?_); refine goesL_ (some 17) rfl rfl Tryd.func27 (by kernel_rfl) rfl #[.agg #[.slice A0_0 l0_0.length c0_0, .slice A0_1 l0_1.length c0_1], .string a1] rfl (by (try simp only [List.map_toArray, List.map_cons, List.map_nil]); first | done | rfl | (simp only [List.length_drop, List.length_take]; rfl)) ?_; (with_reducible refine (word_Letters.calls _ _ l0_0 _ _ l0_1 a1 t106 t109 _ ?side1 ?side2 ?side3 ?side4 ?side5 A4.out).mono ?_); (case side1 => repeat (first | exact (Kd.C_below HR0_0.out HB.out) | (with_reducible refine Kd.C_alloc ?_ _) | (with_reducible refine Kd.C_drewN ?_ _) | (with_reducible refine Kd.C_drew ?_))); (case side2 => exact HC0_0.out); (case side3 => repeat (first | exact (Kd.C_below HR0_1.out HB.out) | (with_reducible refine Kd.C_alloc ?_ _) | (with_reducible refine Kd.C_drewN ?_ _) | (with_reducible refine Kd.C_drew ?_))); (case side4 => exact HC0_1.out); (case side5 => exact Tabs.below HT.out (by repeat (first | (with_reducible first | exact HB.out | apply below_alloc | apply pw_below_drewN | apply below_drew1 | refine below_set ?_ GE104.out | refine below_set ?_ GE105.out) | exact HB.out))); rintro e w14 ⟨v107, rfl, ho0, hb⟩; refine ⟨_, rfl, ?_⟩; have n0_ := Aside0.mk (Kd.R_lower ho0 (below_size (by repeat (first | (with_reducible first | exact HB.out | apply below_alloc | apply pw_below_drewN | apply below_drew1 | refine below_set ?_ GE104.out | refine below_set ?_ GE105.out) | exact HB.out)))); have n1_ := Aside0.mk (blk_below (g := gb104) (o := .cells #[.slice A0_0 l0_0.length c0_0, .slice A0_1 l0_1.length c0_1] 25 (0, 0)) (by (with_reducible repeat (first | refine blk_drewN ?_ _ | refine blk_drew ?_ | refine blk_alloc ?_ _)); exact BK104.out) hb); have n2_ := Aside0.mk (blk_below (g := gb105) (o := .cells #[.string a2_0, .string a2_1] 32 (0, 0)) (by (with_reducible repeat (first | refine blk_drewN ?_ _ | refine blk_drew ?_ | refine blk_alloc ?_ _)); exact BK105.out) hb); have n3_ := Aside0.mk (below_step (by repeat (first | (with_reducible first | exact HB.out | apply below_alloc | apply pw_below_drewN | apply below_drew1 | refine below_set ?_ GE104.out | refine below_set ?_ GE105.out) | exact HB.out)) hb); clear BK104; clear BK105; clear HB; have HO108 := n0_; have BK104 := n1_; have BK105 := n2_; have HB := n3_; clear n0_ n1_ n2_ n3_; (try clear hb); (try clear hb2); (try clear hk); (try clear hi); (try clear ho0); have hcz15_0 : w14.cell? ⟨gb104, 0, none⟩ = some (.slice A0_0 l0_0.length c0_0) := (blk_cell BK104.out 0).trans rfl; have hcz15_1 : w14.cell? ⟨gb104, 1, none⟩ = some (.slice A0_1 l0_1.length c0_1) := (blk_cell BK104.out 1).trans rfl; have hfz15_0 := blk_frozen BK104.out 0; have hfz15_1 := blk_frozen BK104.out 1; have hcz16_0 : w14.cell? ⟨gb105, 0, none⟩ = some (.string a2_0) := (blk_cell BK105.out 0).trans rfl; have hcz16_1 : w14.cell? ⟨gb105, 1, none⟩ = some (.string a2_1) := (blk_cell BK105.out 1).trans rfl; have hfz16_0 := blk_frozen BK105.out 0; have hfz16_1 := blk_frozen BK105.out 1) | ((with_reducible refine gate_callee (f := 22) rfl ?_); refine goesL_ (some 25) rfl rfl Tryd.func22 (by kernel_rfl) rfl #[.agg #[.slice A0_0 l0_0.length c0_0, .slice A0_1 l0_1.length c0_1], .agg #[.string a2_0, .string a2_1]] rfl (by (try simp only [List.map_toArray, List.map_cons, List.map_nil]); first | done | rfl | (simp only [List.length_drop, List.length_take]; rfl)) ?_; (with_reducible refine (radical_Check.calls _ _ l0_0 _ _ l0_1 a2_0 a2_1 t110 _ ?side1 ?side2 ?side3 ?side4 ?side5 A6.out).mono ?_); (case side1 => repeat (first | exact (Kd.C_below HR0_0.out HB.out) | (with_reducible refine Kd.C_alloc ?_ _) | (with_reducible refine Kd.C_drewN ?_ _) | (with_reducible refine Kd.C_drew ?_))); (case side2 => exact HC0_0.out); (case side3 => repeat (first | exact (Kd.C_below HR0_1.out HB.out) | (with_reducible refine Kd.C_alloc ?_ _) | (with_reducible refine Kd.C_drewN ?_ _) | (with_reducible refine Kd.C_drew ?_))); (case side4 => exact HC0_1.out); (case side5 => exact Tabs.below HT.out (by repeat (first | (with_reducible first | exact HB.out | apply below_alloc | apply pw_below_drewN | apply below_drew1 | refine below_set ?_ GE104.out | refine below_set ?_ GE105.out) | exact HB.out))); rintro e w17 ⟨rfl, hb⟩; refine ⟨_, rfl, ?_⟩; have n0_ := Aside0.mk (Kd.R_below (by (with_reducible repeat (first | apply Kd.R_alloc | apply Kd.R_drewN | apply Kd.R_drew)); exact HO108.out) hb); have n1_ := Aside0.mk (blk_below (g := gb104) (o := .cells #[.slice A0_0 l0_0.length c0_0, .slice A0_1 l0_1.length c0_1] 25 (0, 0)) (by (with_reducible repeat (first | refine blk_drewN ?_ _ | refine blk_drew ?_ | refine blk_alloc ?_ _)); exact BK104.out) hb); have n2_ := Aside0.mk (blk_below (g := gb105) (o := .cells #[.string a2_0, .string a2_1] 32 (0, 0)) (by (with_reducible repeat (first | refine blk_drewN ?_ _ | refine blk_drew ?_ | refine blk_alloc ?_ _)); exact BK105.out) hb); have n3_ := Aside0.mk (below_step (by repeat (first | (with_reducible first | exact HB.out | apply below_alloc | apply pw_below_drewN | apply below_drew1 | refine below_set ?_ GE104.out | refine below_set ?_ GE105.out) | exact HB.out)) hb); clear HO108; clear BK104; clear BK105; clear HB; have HO108 := n0_; have BK104 := n1_; have BK105 := n2_; have HB := n3_; clear n0_ n1_ n2_ n3_; (try clear hb); (try clear hb2); (try clear hk); (try clear hi); have hcz18_0 : w17.cell? ⟨gb105, 0, none⟩ = some (.string a2_0) := (blk_cell BK105.out 0).trans rfl; have hcz18_1 : w17.cell? ⟨gb105, 1, none⟩ = some (.string a2_1) := (blk_cell BK105.out 1).trans rfl; have hfz18_0 := blk_frozen BK105.out 0; have hfz18_1 := blk_frozen BK105.out 1) | ((with_reducible refine gate_dst (N := 33) rfl ?_); refine R_runes _ 21 rfl (N := 33) rfl 9 51 _ rfl a2_1 rfl Tryd.underlying9 Tryd.underlying51 Tryd.underlying21 (of_decide_eq_true (by first | (with_reducible assumption) | assumption)) (Below.refl _ _) (Nat.le_refl _) ?_; intro v112 w19 ho20 hb hg_ hnew_; clear hg_ hnew_; (first | rw [← Ny111.out] at ho20 | (simp only [Int.reduceToNat] at ho20; rw [← Ny111.out] at ho20)); have n0_ := Aside0.mk (Kd.R_elder' (by (with_reducible repeat (first | apply Kd.R_alloc | apply Kd.R_drewN | apply Kd.R_drew)); exact HO108.out) (Kd.R_base ho20) hb); have n1_ := Aside0.mk (Kd.R_lower (Kd.R_new' ho20 (Kd.R_lt (by (with_reducible repeat (first | apply Kd.R_alloc | apply Kd.R_drewN | apply Kd.R_drew)); exact HO108.out))) (below_size (by repeat (first | (with_reducible first | exact HB.out | apply below_alloc | apply pw_below_drewN | apply below_drew1 | refine below_set ?_ GE104.out | refine below_set ?_ GE105.out) | exact HB.out)))); have n2_ := Aside0.mk (blk_below (g := gb104) (o := .cells #[.slice A0_0 l0_0.length c0_0, .slice A0_1 l0_1.length c0_1] 25 (0, 0)) (by (with_reducible repeat (first | refine blk_drewN ?_ _ | refine blk_drew ?_ | refine blk_alloc ?_ _)); exact BK104.out) hb); have n3_ := Aside0.mk (blk_below (g := gb105) (o := .cells #[.string a2_0, .string a2_1] 32 (0, 0)) (by (with_reducible repeat (first | refine blk_drewN ?_ _ | refine blk_drew ?_ | refine blk_alloc ?_ _)); exact BK105.out) hb); have n4_ := Aside0.mk (below_step (by repeat (first | (with_reducible first | exact HB.out | apply below_alloc | apply pw_below_drewN | apply below_drew1 | refine below_set ?_ GE104.out | refine below_set ?_ GE105.out) | exact HB.out)) hb); clear HO108; clear BK104; clear BK105; clear HB; have HO108 := n0_; have HO113 := n1_; have BK104 := n2_; have BK105 := n3_; have HB := n4_; clear n0_ n1_ n2_ n3_ n4_; clear hb ho20; obtain ⟨Ao21, co21, eo21⟩ := Kd.R_slice HO108.out; subst eo21; obtain ⟨Ao22, co22, eo22⟩ := Kd.R_slice HO113.out; subst eo22) | ((with_reducible refine gate_callee (f := 35) rfl ?_); refine goesL_ (some 34) rfl rfl Tryd.func35 (by kernel_rfl) rfl #[.slice Ao21 t106.length co21, .slice Ao22 y111.length co22] rfl (by (try simp only [List.map_toArray, List.map_cons, List.map_nil]); first | done | rfl | (simp only [List.length_drop, List.length_take]; rfl)) ?_; (with_reducible refine (radical_split.calls k _ _ t106 _ _ y111 t114 t115 _ ?side1 ?side2 ?side3 ?side4 A9.out).mono ?_); (case side1 => repeat (first | exact (Kd.R_reads' HO108.out).2.2 | (with_reducible refine Kd.C_alloc ?_ _) | (with_reducible refine Kd.C_drewN ?_ _) | (with_reducible refine Kd.C_drew ?_))); (case side2 => exact (Kd.R_reads' HO108.out).2.1); (case side3 => repeat (first | exact (Kd.R_reads' HO113.out).2.2 | (with_reducible refine Kd.C_alloc ?_ _) | (with_reducible refine Kd.C_drewN ?_ _) | (with_reducible refine Kd.C_drew ?_))); (case side4 => exact (Kd.R_reads' HO113.out).2.1); rintro e w' ⟨rfl, ⟨nd, rfl⟩⟩; refine ⟨_, rfl, ?_⟩))
        go_ret3
        exact ⟨by first | rfl | (simp [errW_none, errW_some] <;> rfl) | (simp [*, errW_none, errW_some] <;> rfl), by repeat (first | (with_reducible first | exact HB.out | apply below_alloc | apply pw_below_drewN | apply below_drew1 | refine below_set ?_ GE104.out | refine below_set ?_ GE105.out) | exact HB.out)⟩
      · rw [if_neg c8] at H
        exact absurd H (by simp)
    · rw [if_neg c7] at H
      have c7b0 : (t110 == 0) = false := beq_eq_false_iff_ne.mpr c7
      have c7b1 : (t110 != 0) = true := bne_iff_ne.mpr c7
      simp only [Option.some.injEq, Prod.mk.injEq] at H
      obtain ⟨rfl, rfl, rfl⟩ := H
      go_enter Tryd.func17, Tryd.ntmps17
      go_wp2_with (first | ((with_reducible refine gate_dst (N := 3) rfl ?_); refine box_event ?hg (N := 3) ?hd (cs := #[.slice A0_0 l0_0.length c0_0, .slice A0_1 l0_1.length c0_1]) (t := 25) ?hr ?_; (case hd => rfl); (case hg => rfl); (case hr => first | (go_simp; done) | (go_simp; rfl)); intro gb104 hg w23 hbox hb; have n0_ := Aside0.mk (below_step (by repeat (first | (with_reducible first | exact HB.out | apply below_alloc | apply pw_below_drewN | apply below_drew1) | exact HB.out)) hb); have n1_ := Aside0.mk (hbox); have n2_ := Aside0.mk ((by rw [hg]; exact (below_size (by repeat (first | (with_reducible first | exact HB.out | apply below_alloc | apply pw_below_drewN | apply below_drew1) | exact HB.out))) : w.heap.size ≤ gb104)); have n3_ := Aside0.mk ((by rw [hg]; exact (below_size (by repeat (first | (with_reducible first | exact HB.out | apply below_alloc | apply pw_below_drewN | apply below_drew1) | exact HB.out))) : w.heap.size ≤ gb104)); clear HB; have HB := n0_; have BK104 := n1_; have GW104 := n2_; have GE104 := n3_; clear n0_ n1_ n2_ n3_; clear hb hbox hg) | ((with_reducible refine gate_dst (N := 5) rfl ?_); refine box_event ?hg (N := 5) ?hd (cs := #[.string a2_0, .string a2_1]) (t := 32) ?hr ?_; (case hd => rfl); (case hg => rfl); (case hr => first | (go_simp; done) | (go_simp; rfl)); intro gb105 hg w24 hbox hb; have n0_ := Aside0.mk (blk_below (g := gb104) (o := .cells #[.slice A0_0 l0_0.length c0_0, .slice A0_1 l0_1.length c0_1] 25 (0, 0)) (by (with_reducible repeat (first | refine blk_drewN ?_ _ | refine blk_drew ?_ | refine blk_alloc ?_ _)); exact BK104.out) hb); have n1_ := Aside0.mk (below_step (by repeat (first | (with_reducible first | exact HB.out | apply below_alloc | apply pw_below_drewN | apply below_drew1 | refine below_set ?_ GE104.out) | exact HB.out)) hb); have n2_ := Aside0.mk (hbox); have n3_ := Aside0.mk ((by rw [hg]; exact (below_size (by repeat (first | (with_reducible first | exact HB.out | apply below_alloc | apply pw_below_drewN | apply below_drew1 | refine below_set ?_ GE104.out) | exact HB.out))) : w.heap.size ≤ gb105)); have n4_ := Aside0.mk ((by rw [hg]; exact (below_size (by repeat (first | (with_reducible first | exact HB.out | apply below_alloc | apply pw_below_drewN | apply below_drew1 | refine below_set ?_ GE104.out) | exact HB.out))) : w.heap.size ≤ gb105)); have n5_ := Aside0.mk ((by rw [hg]; exact Nat.ne_of_lt (blk_lt (g := gb104) (o := .cells #[.slice A0_0 l0_0.length c0_0, .slice A0_1 l0_1.length c0_1] 25 (0, 0)) (by (with_reducible repeat (first | refine blk_drewN ?_ _ | refine blk_drew ?_ | refine blk_alloc ?_ _)); exact BK104.out)) : gb104 ≠ gb105)); have n6_ := Aside0.mk ((by rw [hg]; exact Nat.ne_of_gt (blk_lt (g := gb104) (o := .cells #[.slice A0_0 l0_0.length c0_0, .slice A0_1 l0_1.length c0_1] 25 (0, 0)) (by (with_reducible repeat (first | refine blk_drewN ?_ _ | refine blk_drew ?_ | refine blk_alloc ?_ _)); exact BK104.out)) : gb105 ≠ gb104)); clear BK104; clear HB; have BK104 := n0_; have HB := n1_; have BK105 := n2_; have GW105 := n3_; have GE105 := n4_; have NB104_105 := n5_; have NB105_104 := n6_; clear n0_ n1_ n2_ n3_ n4_ n5_ n6_; clear hb hbox hg; have hnb25 := NB104_105.out; have hnc25 := NB105_104.out; have hcz26_0 : w24.cell? ⟨gb104, 0, none⟩ = some (.slice A0_0 l0_0.length c0_0) := (blk_cell BK104.out 0).trans rfl; have hcz26_1 : w24.cell? ⟨gb104, 1, none⟩ = some (.slice A0_1 l0_1.length c0_1) := (blk_cell BK104.out 1).trans rfl; have hfz26_0 := blk_frozen BK104.out 0; have hfz26_1 := blk_frozen BK104.out 1) | ((with_reducible refine gate_callee (f := 27) rfl ?_); refine goesL_ (some 17) rfl rfl Tryd.func27 (by kernel_rfl) rfl #[.agg #[.slice A0_0 l0_0.length c0_0, .slice A0_1 l0_1.length c0_1], .string a1] rfl (by (try simp only [List.map_toArray, List.map_cons, List.map_nil]); first | done | rfl | (simp only [List.length_drop, List.length_take]; rfl)) ?_; (with_reducible refine (word_Letters.calls _ _ l0_0 _ _ l0_1 a1 t106 t109 _ ?side1 ?side2 ?side3 ?side4 ?side5 A4.out).mono ?_); (case side1 => repeat (first | exact (Kd.C_below HR0_0.out HB.out) | (with_reducible refine Kd.C_alloc ?_ _) | (with_reducible refine Kd.C_drewN ?_ _) | (with_reducible refine Kd.C_drew ?_))); (case side2 => exact HC0_0.out); (case side3 => repeat (first | exact (Kd.C_below HR0_1.out HB.out) | (with_reducible refine Kd.C_alloc ?_ _) | (with_reducible refine Kd.C_drewN ?_ _) | (with_reducible refine Kd.C_drew ?_))); (case side4 => exact HC0_1.out); (case side5 => exact Tabs.below HT.out (by repeat (first | (with_reducible first | exact HB.out | apply below_alloc | apply pw_below_drewN | apply below_drew1 | refine below_set ?_ GE104.out | refine below_set ?_ GE105.out) | exact HB.out))); rintro e w27 ⟨v107, rfl, ho0, hb⟩; refine ⟨_, rfl, ?_⟩; have n0_ := Aside0.mk (Kd.R_lower ho0 (below_size (by repeat (first | (with_reducible first | exact HB.out | apply below_alloc | apply pw_below_drewN | apply below_drew1 | refine below_set ?_ GE104.out | refine below_set ?_ GE105.out) | exact HB.out)))); have n1_ := Aside0.mk (blk_below (g := gb104) (o := .cells #[.slice A0_0 l0_0.length c0_0, .slice A0_1 l0_1.length c0_1] 25 (0, 0)) (by (with_reducible repeat (first | refine blk_drewN ?_ _ | refine blk_drew ?_ | refine blk_alloc ?_ _)); exact BK104.out) hb); have n2_ := Aside0.mk (blk_below (g := gb105) (o := .cells #[.string a2_0, .string a2_1] 32 (0, 0)) (by (with_reducible repeat (first | refine blk_drewN ?_ _ | refine blk_drew ?_ | refine blk_alloc ?_ _)); exact BK105.out) hb); have n3_ := Aside0.mk (below_step (by repeat (first | (with_reducible first | exact HB.out | apply below_alloc | apply pw_below_drewN | apply below_drew1 | refine below_set ?_ GE104.out | refine below_set ?_ GE105.out) | exact HB.out)) hb); clear BK104; clear BK105; clear HB; have HO108 := n0_; have BK104 := n1_; have BK105 := n2_; have HB := n3_; clear n0_ n1_ n2_ n3_; (try clear hb); (try clear hb2); (try clear hk); (try clear hi); (try clear ho0); have hcz28_0 : w27.cell? ⟨gb104, 0, none⟩ = some (.slice A0_0 l0_0.length c0_0) := (blk_cell BK104.out 0).trans rfl; have hcz28_1 : w27.cell? ⟨gb104, 1, none⟩ = some (.slice A0_1 l0_1.length c0_1) := (blk_cell BK104.out 1).trans rfl; have hfz28_0 := blk_frozen BK104.out 0; have hfz28_1 := blk_frozen BK104.out 1; have hcz29_0 : w27.cell? ⟨gb105, 0, none⟩ = some (.string a2_0) := (blk_cell BK105.out 0).trans rfl; have hcz29_1 : w27.cell? ⟨gb105, 1, none⟩ = some (.string a2_1) := (blk_cell BK105.out 1).trans rfl; have hfz29_0 := blk_frozen BK105.out 0; have hfz29_1 := blk_frozen BK105.out 1) | ((with_reducible refine gate_callee (f := 22) rfl ?_); refine goesL_ (some 25) rfl rfl Tryd.func22 (by kernel_rfl) rfl #[.agg #[.slice A0_0 l0_0.length c0_0, .slice A0_1 l0_1.length c0_1], .agg #[.string a2_0, .string a2_1]] rfl (by (try simp only [List.map_toArray, List.map_cons, List.map_nil]); first | done | rfl | (simp only [List.length_drop, List.length_take]; rfl)) ?_; (with_reducible refine (radical_Check.calls _ _ l0_0 _ _ l0_1 a2_0 a2_1 t110 _ ?side1 ?side2 ?side3 ?side4 ?side5 A6.out).mono ?_); (case side1 => repeat (first | exact (Kd.C_below HR0_0.out HB.out) | (with_reducible refine Kd.C_alloc ?_ _) | (with_reducible refine Kd.C_drewN ?_ _) | (with_reducible refine Kd.C_drew ?_))); (case side2 => exact HC0_0.out); (case side3 => repeat (first | exact (Kd.C_below HR0_1.out HB.out) | (with_reducible refine Kd.C_alloc ?_ _) | (with_reducible refine Kd.C_drewN ?_ _) | (with_reducible refine Kd.C_drew ?_))); (case side4 => exact HC0_1.out); (case side5 => exact Tabs.below HT.out (by repeat (first | (with_reducible first | exact HB.out | apply below_alloc | apply pw_below_drewN | apply below_drew1 | refine below_set ?_ GE104.out | refine below_set ?_ GE105.out) | exact HB.out))); rintro e w30 ⟨rfl, hb⟩; refine ⟨_, rfl, ?_⟩; have n0_ := Aside0.mk (Kd.R_below (by (with_reducible repeat (first | apply Kd.R_alloc | apply Kd.R_drewN | apply Kd.R_drew)); exact HO108.out) hb); have n1_ := Aside0.mk (blk_below (g := gb104) (o := .cells #[.slice A0_0 l0_0.length c0_0, .slice A0_1 l0_1.length c0_1] 25 (0, 0)) (by (with_reducible repeat (first | refine blk_drewN ?_ _ | refine blk_drew ?_ | refine blk_alloc ?_ _)); exact BK104.out) hb); have n2_ := Aside0.mk (blk_below (g := gb105) (o := .cells #[.string a2_0, .string a2_1] 32 (0, 0)) (by (with_reducible repeat (first | refine blk_drewN ?_ _ | refine blk_drew ?_ | refine blk_alloc ?_ _)); exact BK105.out) hb); have n3_ := Aside0.mk (below_step (by repeat (first | (with_reducible first | exact HB.out | apply below_alloc | apply pw_below_drewN | apply below_drew1 | refine below_set ?_ GE104.out | refine below_set ?_ GE105.out) | exact HB.out)) hb); clear HO108; clear BK104; clear BK105; clear HB; have HO108 := n0_; have BK104 := n1_; have BK105 := n2_; have HB := n3_; clear n0_ n1_ n2_ n3_; (try clear hb); (try clear hb2); (try clear hk); (try clear hi)))
      go_ret3
      exact ⟨by first | rfl | (simp [errW_none, errW_some] <;> rfl) | (simp [*, errW_none, errW_some] <;> rfl), by repeat (first | (with_reducible first | exact HB.out | apply below_alloc | apply pw_below_drewN | apply below_drew1 | refine below_set ?_ GE104.out | refine below_set ?_ GE105.out) | exact HB.out)⟩
  · rw [if_neg c5] at H
    have c5b0 : (t109 == 0) = false := beq_eq_false_iff_ne.mpr c5
    have c5b1 : (t109 != 0) = true := bne_iff_ne.mpr c5
    simp only [Option.some.injEq, Prod.mk.injEq] at H
    obtain ⟨rfl, rfl, rfl⟩ := H
    go_enter Tryd.func17, Tryd.ntmps17
    go_wp2_with (first | ((with_reducible refine gate_dst (N := 3) rfl ?_); refine box_event ?hg (N := 3) ?hd (cs := #[.slice A0_0 l0_0.length c0_0, .slice A0_1 l0_1.length c0_1]) (t := 25) ?hr ?_; (case hd => rfl); (case hg => rfl); (case hr => first | (go_simp; done) | (go_simp; rfl)); intro gb104 hg w31 hbox hb; have n0_ := Aside0.mk (below_step (by repeat (first | (with_reducible first | exact HB.out | apply below_alloc | apply pw_below_drewN | apply below_drew1) | exact HB.out)) hb); have n1_ := Aside0.mk (hbox); have n2_ := Aside0.mk ((by rw [hg]; exact (below_size (by repeat (first | (with_reducible first | exact HB.out | apply below_alloc | apply pw_below_drewN | apply below_drew1) | exact HB.out))) : w.heap.size ≤ gb104)); have n3_ := Aside0.mk ((by rw [hg]; exact (below_size (by repeat (first | (with_reducible first | exact HB.out | apply below_alloc | apply pw_below_drewN | apply below_drew1) | exact HB.out))) : w.heap.size ≤ gb104)); clear HB; have HB := n0_; have BK104 := n1_; have GW104 := n2_; have GE104 := n3_; clear n0_ n1_ n2_ n3_; clear hb hbox hg) | ((with_reducible refine gate_dst (N := 5) rfl ?_); refine box_event ?hg (N := 5) ?hd (cs := #[.string a2_0, .string a2_1]) (t := 32) ?hr ?_; (case hd => rfl); (case hg => rfl); (case hr => first | (go_simp; done) | (go_simp; rfl)); intro gb105 hg w32 hbox hb; have n0_ := Aside0.mk (blk_below (g := gb104) (o := .cells #[.slice A0_0 l0_0.length c0_0, .slice A0_1 l0_1.length c0_1] 25 (0, 0)) (by (with_reducible repeat (first | refine blk_drewN ?_ _ | refine blk_drew ?_ | refine blk_alloc ?_ _)); exact BK104.out) hb); have n1_ := Aside0.mk (below_step (by repeat (first | (with_reducible first | exact HB.out | apply below_alloc | apply pw_below_drewN | apply below_drew1 | refine below_set ?_ GE104.out) | exact HB.out)) hb); have n2_ := Aside0.mk (hbox); have n3_ := Aside0.mk ((by rw [hg]; exact (below_size (by repeat (first | (with_reducible first | exact HB.out | apply below_alloc | apply pw_below_drewN | apply below_drew1 | refine below_set ?_ GE104.out) | exact HB.out))) : w.heap.size ≤ gb105)); have n4_ := Aside0.mk ((by rw [hg]; exact (below_size (by repeat (first | (with_reducible first | exact HB.out | apply below_alloc | apply pw_below_drewN | apply below_drew1 | refine below_set ?_ GE104.out) | exact HB.out))) : w.heap.size ≤ gb105)); have n5_ := Aside0.mk ((by rw [hg]; exact Nat.ne_of_lt (blk_lt (g := gb104) (o := .cells #[.slice A0_0 l0_0.length c0_0, .slice A0_1 l0_1.length c0_1] 25 (0, 0)) (by (with_reducible repeat (first | refine blk_drewN ?_ _ | refine blk_drew ?_ | refine blk_alloc ?_ _)); exact BK104.out)) : gb104 ≠ gb105)); have n6_ := Aside0.mk ((by rw [hg]; exact Nat.ne_of_gt (blk_lt (g := gb104) (o := .cells #[.slice A0_0 l0_0.length c0_0, .slice A0_1 l0_1.length c0_1] 25 (0, 0)) (by (with_reducible repeat (first | refine blk_drewN ?_ _ | refine blk_drew ?_ | refine blk_alloc ?_ _)); exact BK104.out)) : gb105 ≠ gb104)); clear BK104; clear HB; have BK104 := n0_; have HB := n1_; have BK105 := n2_; have GW105 := n3_; have GE105 := n4_; have NB104_105 := n5_; have NB105_104 := n6_; clear n0_ n1_ n2_ n3_ n4_ n5_ n6_; clear hb hbox hg; have hnb33 := NB104_105.out; have hnc33 := NB105_104.out; have hcz34_0 : w32.cell? ⟨gb104, 0, none⟩ = some (.slice A0_0 l0_0.length c0_0) := (blk_cell BK104.out 0).trans rfl; have hcz34_1 : w32.cell? ⟨gb104, 1, none⟩ = some (.slice A0_1 l0_1.length c0_1) := (blk_cell BK104.out 1).trans rfl; have hfz34_0 := blk_frozen BK104.out 0; have hfz34_1 := blk_frozen BK104.out 1) | ((with_reducible refine gate_callee (f := 27) rfl ?_); refine goesL_ (some 17) rfl rfl Tryd.func27 (by kernel_rfl) rfl #[.agg #[.slice A0_0 l0_0.length c0_0, .slice A0_1 l0_1.length c0_1], .string a1] rfl (by (try simp only [List.map_toArray, List.map_cons, List.map_nil]); first | done | rfl | (simp only [List.length_drop, List.length_take]; rfl)) ?_; (with_reducible refine (word_Letters.calls _ _ l0_0 _ _ l0_1 a1 t106 t109 _ ?side1 ?side2 ?side3 ?side4 ?side5 A4.out).mono ?_); (case side1 => repeat (first | exact (Kd.C_below HR0_0.out HB.out) | (with_reducible refine Kd.C_alloc ?_ _) | (with_reducible refine Kd.C_drewN ?_ _) | (with_reducible refine Kd.C_drew ?_))); (case side2 => exact HC0_0.out); (case side3 => repeat (first | exact (Kd.C_below HR0_1.out HB.out) | (with_reducible refine Kd.C_alloc ?_ _) | (with_reducible refine Kd.C_drewN ?_ _) | (with_reducible refine Kd.C_drew ?_))); (case side4 => exact HC0_1.out); (case side5 => exact Tabs.below HT.out (by repeat (first | (with_reducible first | exact HB.out | apply below_alloc | apply pw_below_drewN | apply below_drew1 | refine below_set ?_ GE104.out | refine below_set ?_ GE105.out) | exact HB.out))); rintro e w35 ⟨v107, rfl, ho0, hb⟩; refine ⟨_, rfl, ?_⟩; have n0_ := Aside0.mk (Kd.R_lower ho0 (below_size (by repeat (first | (with_reducible first | exact HB.out | apply below_alloc | apply pw_below_drewN | apply below_drew1 | refine below_set ?_ GE104.out | refine below_set ?_ GE105.out) | exact HB.out)))); have n1_ := Aside0.mk (blk_below (g := gb104) (o := .cells #[.slice A0_0 l0_0.length c0_0, .slice A0_1 l0_1.length c0_1] 25 (0, 0)) (by (with_reducible repeat (first | refine blk_drewN ?_ _ | refine blk_drew ?_ | refine blk_alloc ?_ _)); exact BK104.out) hb); have n2_ := Aside0.mk (blk_below (g := gb105) (o := .cells #[.string a2_0, .string a2_1] 32 (0, 0)) (by (with_reducible repeat (first | refine blk_drewN ?_ _ | refine blk_drew ?_ | refine blk_alloc ?_ _)); exact BK105.out) hb); have n3_ := Aside0.mk (below_step (by repeat (first | (with_reducible first | exact HB.out | apply below_alloc | apply pw_below_drewN | apply below_drew1 | refine below_set ?_ GE104.out | refine below_set ?_ GE105.out) | exact HB.out)) hb); clear BK104; clear BK105; clear HB; have HO108 := n0_; have BK104 := n1_; have BK105 := n2_; have HB := n3_; clear n0_ n1_ n2_ n3_; (try clear hb); (try clear hb2); (try clear hk); (try clear hi); (try clear ho0)))
    go_ret3
    exact ⟨by first | rfl | (simp [errW_none, errW_some] <;> rfl) | (simp [*, errW_none, errW_some] <;> rfl), by repeat (first | (with_reducible first | exact HB.out | apply below_alloc | apply pw_below_drewN | apply below_drew1 | refine below_set ?_ GE104.out | refine below_set ?_ GE105.out) | exact HB.out)⟩

/-! ### radical_All: function 19 -/
def radical_All.l0 : Nat → List ByteArray → List Int → List Int → List (S32) → Int → Int → List ByteArray → List (S74) → Option (List ByteArray × List Int × Int)
  | 0, _, _, _, _, _, _, _, _ => none
  | k + 1, x6, x7, x9, x27, x28, x29, x117000, x117001 => if x29 < x28 then (if 0 ≤ x29 then (if x29 < (x27.length : Int) then ((radical_Check.f x117000 x117001 ((rd_T32 x27 x29).f0) ((rd_T32 x27 x29).f1)).bind fun t123 => (if t123 = 0 then (if (((rd_T32 x27 x29).f1).size : Int) ≤ 70368744177664 then ((radical_split.f k x9 (runesOf ((rd_T32 x27 x29).f1))).bind fun bt127 => (if bt127.2 = true then (if x6.length < 8796093022208 then (if x7.length < 17592186044416 then (radical_All.l0 k (x6 ++ [bt127.1]) (x7 ++ [x29]) x9 x27 x28 (wrap64 (x29 + 1)) x117000 x117001) else (none)) else (none)) else (radical_All.l0 k x6 x7 x9 x27 x28 (wrap64 (x29 + 1)) x117000 x117001))) else (none)) else (some (([] : List ByteArray), ([] : List Int), t123)))) else (none)) else (none)) else (some (x6, x7, 0))
def radical_All.f (k : Nat) (l0_0 : List ByteArray) (l0_1 : List (S74)) (a1 : ByteArray) (l2 : List (S32)) : Option (List ByteArray × List Int × Int) := (word_Letters.f l0_0 l0_1 a1).bind fun bt117 => (if bt117.2 = 0 then (if (l2.length : Int) > 4096 then (some (([] : List ByteArray), ([] : List Int), 4)) else (radical_All.l0 k ([] : List ByteArray) ([] : List Int) bt117.1 l2 (l2.length : Int) 0 l0_0 l0_1)) else (some (([] : List ByteArray), ([] : List Int), bt117.2)))
set_option maxHeartbeats 8000000 in
set_option maxRecDepth 100000 in
theorem radical_All.calls (k : Nat) (A0_0 : Option Addr) (c0_0 : Nat) (l0_0 : List ByteArray) (A0_1 : Option Addr) (c0_1 : Nat) (l0_1 : List (S74)) (a1 : ByteArray) (A2 : Option Addr) (c2 : Nat) (l2 : List (S32)) (r1 : List ByteArray) (r2 : List Int) (r3 : Int) (w : World) (hr0_0 : Kd.C Kd.string w A0_0 l0_0.length l0_0) (hc0_0 : l0_0.length ≤ c0_0) (hr0_1 : Kd.C k74 w A0_1 l0_1.length l0_1) (hc0_1 : l0_1.length ≤ c0_1) (hr2 : Kd.C k32 w A2 l2.length l2) (hc2 : l2.length ≤ c2) (hT : Tabs w) (h : radical_All.f k l0_0 l0_1 a1 l2 = some (r1, r2, r3)) :
    Calls Tryd.prog 19 #[.agg #[.slice A0_0 l0_0.length c0_0, .slice A0_1 l0_1.length c0_1], .string a1, .slice A2 l2.length c2] w fun e w' => ∃ v0_ v1_ : Value, e = .returned (.tuple #[v0_, v1_, .int .i64 r3]) ∧ Kd.R Kd.string 9 w' w.heap.size (fun _ => True) v0_ r1 ∧ Kd.R (Kd.int .i64) 3 w' w.heap.size (fun _ => True) v1_ r2 ∧ Below w.heap.size w w' := by
  have hu25 := Tryd.underlying25
  have hu32 := Tryd.underlying32
  have HR0_0 := Aside0.mk hr0_0
  have HC0_0 := Aside0.mk hc0_0
  clear hr0_0 hc0_0
  have HR0_1 := Aside0.mk hr0_1
  have HC0_1 := Aside0.mk hc0_1
  clear hr0_1 hc0_1
  have HR2 := Aside0.mk hr2
  have HC2 := Aside0.mk hc2
  clear hr2 hc2
  have HB := Aside0.mk (Below.refl w.heap.size w)
  have HT := Aside0.mk hT
  clear hT
  have H : ((word_Letters.f l0_0 l0_1 a1).bind fun bt117 => (if bt117.2 = 0 then (if (l2.length : Int) > 4096 then (some (([] : List ByteArray), ([] : List Int), 4)) else (radical_All.l0 k ([] : List ByteArray) ([] : List Int) bt117.1 l2 (l2.length : Int) 0 l0_0 l0_1)) else (some (([] : List ByteArray), ([] : List Int), bt117.2)))) = some (r1, r2, r3) := h
  clear h
  replace H := Option.bind_eq_some_iff.mp H
  obtain ⟨⟨t117, t120⟩, A40, H⟩ := H
  replace H : (if t120 = 0 then (if (l2.length : Int) > 4096 then (some (([] : List ByteArray), ([] : List Int), 4)) else (radical_All.l0 k ([] : List ByteArray) ([] : List Int) t117 l2 (l2.length : Int) 0 l0_0 l0_1)) else (some (([] : List ByteArray), ([] : List Int), t120))) = some (r1, r2, r3) := H
  have A4 := Aside0.mk A40
  clear A40
  by_cases c5 : t120 = 0
  · rw [if_pos c5] at H
    have c5b0 : (t120 == 0) = true := beq_iff_eq.mpr c5
    have c5b1 : (t120 != 0) = false := bne_eq_false_iff_eq.mpr c5
    clear c5
    by_cases c6 : (l2.length : Int) > 4096
    · rw [if_pos c6] at H
      have c6b0 : decide (4096 < (l2.length : Int)) = true := decide_eq_true c6
      have c6b1 : decide (4096 < l2.length) = true := decide_eq_true (by omega)
      clear c6
      simp only [Option.some.injEq, Prod.mk.injEq] at H
      obtain ⟨rfl, rfl, rfl⟩ := H
      go_enter Tryd.func19, Tryd.ntmps19
      go_wp2_with (first | ((with_reducible refine gate_dst (N := 3) rfl ?_); refine box_event ?hg (N := 3) ?hd (cs := #[.slice A0_0 l0_0.length c0_0, .slice A0_1 l0_1.length c0_1]) (t := 25) ?hr ?_; (case hd => rfl); (case hg => rfl); (case hr => first | (go_simp; done) | (go_simp; rfl)); intro gb116 hg w7 hbox hb; have n0_ := Aside0.mk (below_step (by repeat (first | (with_reducible first | exact HB.out | apply below_alloc | apply pw_below_drewN | apply below_drew1) | exact HB.out)) hb); have n1_ := Aside0.mk (hbox); have n2_ := Aside0.mk ((by rw [hg]; exact (below_size (by repeat (first | (with_reducible first | exact HB.out | apply below_alloc | apply pw_below_drewN | apply below_drew1) | exact HB.out))) : w.heap.size ≤ gb116)); have n3_ := Aside0.mk ((by rw [hg]; exact (below_size (by repeat (first | (with_reducible first | exact HB.out | apply below_alloc | apply pw_below_drewN | apply below_drew1) | exact HB.out))) : w.heap.size ≤ gb116)); clear HB; have HB := n0_; have BK116 := n1_; have GW116 := n2_; have GE116 := n3_; clear n0_ n1_ n2_ n3_; clear hb hbox hg; have hcz8_0 : w7.cell? ⟨gb116, 0, none⟩ = some (.slice A0_0 l0_0.length c0_0) := (blk_cell BK116.out 0).trans rfl; have hcz8_1 : w7.cell? ⟨gb116, 1, none⟩ = some (.slice A0_1 l0_1.length c0_1) := (blk_cell BK116.out 1).trans rfl; have hfz8_0 := blk_frozen BK116.out 0; have hfz8_1 := blk_frozen BK116.out 1) | ((with_reducible refine gate_callee (f := 27) rfl ?_); refine goesL_ (some 18) rfl rfl Tryd.func27 (by kernel_rfl) rfl #[.agg #[.slice A0_0 l0_0.length c0_0, .slice A0_1 l0_1.length c0_1], .string a1] rfl (by (try simp only [List.map_toArray, List.map_cons, List.map_nil]); first | done | rfl | (simp only [List.length_drop, List.length_take]; rfl)) ?_; (with_reducible refine (word_Letters.calls _ _ l0_0 _ _ l0_1 a1 t117 t120 _ ?side1 ?side2 ?side3 ?side4 ?side5 A4.out).mono ?_); (case side1 => repeat (first | exact (Kd.C_below HR0_0.out HB.out) | (with_reducible refine Kd.C_alloc ?_ _) | (with_reducible refine Kd.C_drewN ?_ _) | (with_reducible refine Kd.C_drew ?_))); (case side2 => exact HC0_0.out); (case side3 => repeat (first | exact (Kd.C_below HR0_1.out HB.out) | (with_reducible refine Kd.C_alloc ?_ _) | (with_reducible refine Kd.C_drewN ?_ _) | (with_reducible refine Kd.C_drew ?_))); (case side4 => exact HC0_1.out); (case side5 => exact Tabs.below HT.out (by repeat (first | (with_reducible first | exact HB.out | apply below_alloc | apply pw_below_drewN | apply below_drew1 | refine below_set ?_ GE116.out) | exact HB.out))); rintro e w9 ⟨v118, rfl, ho0, hb⟩; refine ⟨_, rfl, ?_⟩; have n0_ := Aside0.mk (Kd.R_lower ho0 (below_size (by repeat (first | (with_reducible first | exact HB.out | apply below_alloc | apply pw_below_drewN | apply below_drew1 | refine below_set ?_ GE116.out) | exact HB.out)))); have n1_ := Aside0.mk (blk_below (g := gb116) (o := .cells #[.slice A0_0 l0_0.length c0_0, .slice A0_1 l0_1.length c0_1] 25 (0, 0)) (by (with_reducible repeat (first | refine blk_drewN ?_ _ | refine blk_drew ?_ | refine blk_alloc ?_ _)); exact BK116.out) hb); have n2_ := Aside0.mk (below_step (by repeat (first | (with_reducible first | exact HB.out | apply below_alloc | apply pw_below_drewN | apply below_drew1 | refine below_set ?_ GE116.out) | exact HB.out)) hb); clear BK116; clear HB; have HO119 := n0_; have BK116 := n1_; have HB := n2_; clear n0_ n1_ n2_; (try clear hb); (try clear hb2); (try clear hk); (try clear hi); (try clear ho0)))
      go_ret3
      exact ⟨_, _, by first | rfl | (simp [errW_none, errW_some] <;> rfl) | (simp [*, errW_none, errW_some] <;> rfl), by first | exact Kd.R_nil _ _ _ _ _ | exact Kd.N_nil _ _ _ _ _ | exact Kd.V_nil _ _ _ _ _ | exact Kd.Q_nil _ _ _ _ _ | exact Kd.S_nil _ _ _ _ _, by first | exact Kd.R_nil _ _ _ _ _ | exact Kd.N_nil _ _ _ _ _ | exact Kd.V_nil _ _ _ _ _ | exact Kd.Q_nil _ _ _ _ _ | exact Kd.S_nil _ _ _ _ _, by repeat (first | (with_reducible first | exact HB.out | apply below_alloc | apply pw_below_drewN | apply below_drew1 | refine below_set ?_ GE116.out) | exact HB.out)⟩
    · rw [if_neg c6] at H
      have c6b0 : decide (4096 < (l2.length : Int)) = false := decide_eq_false c6
      have c6b1 : decide (4096 < l2.length) = false := decide_eq_false (by omega)
      clear c6
      have H' := Aside0.mk H
      clear H
      go_enter Tryd.func19, Tryd.ntmps19
      go_wp2_with (first | ((with_reducible refine gate_dst (N := 3) rfl ?_); refine box_event ?hg (N := 3) ?hd (cs := #[.slice A0_0 l0_0.length c0_0, .slice A0_1 l0_1.length c0_1]) (t := 25) ?hr ?_; (case hd => rfl); (case hg => rfl); (case hr => first | (go_simp; done) | (go_simp; rfl)); intro gb116 hg w10 hbox hb; have n0_ := Aside0.mk (below_step (by repeat (first | (with_reducible first | exact HB.out | apply below_alloc | apply pw_below_drewN | apply below_drew1) | exact HB.out)) hb); have n1_ := Aside0.mk (hbox); have n2_ := Aside0.mk ((by rw [hg]; exact (below_size (by repeat (first | (with_reducible first | exact HB.out | apply below_alloc | apply pw_below_drewN | apply below_drew1) | exact HB.out))) : w.heap.size ≤ gb116)); have n3_ := Aside0.mk ((by rw [hg]; exact (below_size (by repeat (first | (with_reducible first | exact HB.out | apply below_alloc | apply pw_below_drewN | apply below_drew1) | exact HB.out))) : w.heap.size ≤ gb116)); clear HB; have HB := n0_; have BK116 := n1_; have GW116 := n2_; have GE116 := n3_; clear n0_ n1_ n2_ n3_; clear hb hbox hg; have hcz11_0 : w10.cell? ⟨gb116, 0, none⟩ = some (.slice A0_0 l0_0.length c0_0) := (blk_cell BK116.out 0).trans rfl; have hcz11_1 : w10.cell? ⟨gb116, 1, none⟩ = some (.slice A0_1 l0_1.length c0_1) := (blk_cell BK116.out 1).trans rfl; have hfz11_0 := blk_frozen BK116.out 0; have hfz11_1 := blk_frozen BK116.out 1) | ((with_reducible refine gate_callee (f := 27) rfl ?_); refine goesL_ (some 18) rfl rfl Tryd.func27 (by kernel_rfl) rfl #[.agg #[.slice A0_0 l0_0.length c0_0, .slice A0_1 l0_1.length c0_1], .string a1] rfl (by (try simp only [List.map_toArray, List.map_cons, List.map_nil]); first | done | rfl | (simp only [List.length_drop, List.length_take]; rfl)) ?_; (with_reducible refine (word_Letters.calls _ _ l0_0 _ _ l0_1 a1 t117 t120 _ ?side1 ?side2 ?side3 ?side4 ?side5 A4.out).mono ?_); (case side1 => repeat (first | exact (Kd.C_below HR0_0.out HB.out) | (with_reducible refine Kd.C_alloc ?_ _) | (with_reducible refine Kd.C_drewN ?_ _) | (with_reducible refine Kd.C_drew ?_))); (case side2 => exact HC0_0.out); (case side3 => repeat (first | exact (Kd.C_below HR0_1.out HB.out) | (with_reducible refine Kd.C_alloc ?_ _) | (with_reducible refine Kd.C_drewN ?_ _) | (with_reducible refine Kd.C_drew ?_))); (case side4 => exact HC0_1.out); (case side5 => exact Tabs.below HT.out (by repeat (first | (with_reducible first | exact HB.out | apply below_alloc | apply pw_below_drewN | apply below_drew1 | refine below_set ?_ GE116.out) | exact HB.out))); rintro e w12 ⟨v118, rfl, ho0, hb⟩; refine ⟨_, rfl, ?_⟩; have n0_ := Aside0.mk (Kd.R_lower ho0 (below_size (by repeat (first | (with_reducible first | exact HB.out | apply below_alloc | apply pw_below_drewN | apply below_drew1 | refine below_set ?_ GE116.out) | exact HB.out)))); have n1_ := Aside0.mk (blk_below (g := gb116) (o := .cells #[.slice A0_0 l0_0.length c0_0, .slice A0_1 l0_1.length c0_1] 25 (0, 0)) (by (with_reducible repeat (first | refine blk_drewN ?_ _ | refine blk_drew ?_ | refine blk_alloc ?_ _)); exact BK116.out) hb); have n2_ := Aside0.mk (below_step (by repeat (first | (with_reducible first | exact HB.out | apply below_alloc | apply pw_below_drewN | apply below_drew1 | refine below_set ?_ GE116.out) | exact HB.out)) hb); clear BK116; clear HB; have HO119 := n0_; have BK116 := n1_; have HB := n2_; clear n0_ n1_ n2_; (try clear hb); (try clear hb2); (try clear hk); (try clear hi); (try clear ho0)))
      go_loopg [6, 7, 29] k (fun kq v6 v7 v29 w' => ∃ (x6_1 : List ByteArray) (x7_1 : List Int) (x29_1 : Int), v29 = .int .i64 x29_1 ∧ Aside0 (radical_All.l0 kq x6_1 x7_1 t117 l2 (l2.length : Int) x29_1 l0_0 l0_1 = some (r1, r2, r3)) ∧ Aside0 (kq ≤ k) ∧ Aside0 (Kd.R Kd.string 9 w' w.heap.size (fun _ => True) v6 x6_1) ∧ Aside0 (Kd.R (Kd.int .i64) 3 w' w.heap.size (fun _ => True) v7 x7_1) ∧ Aside0 (Kd.R (Kd.int .i32) 21 w' w.heap.size (fun _ => True) v118 t117) ∧ Aside0 (w'.heap[gb116]? = some (.cells #[(.slice A0_0 l0_0.length c0_0), (.slice A0_1 l0_1.length c0_1)] 25 (0, 0))) ∧ Aside0 (Below w.heap.size w w'))
      case atStart => exact ⟨(([] : List ByteArray)), (([] : List Int)), (0), (by first | rfl | (simp; done) | (simp [*]; done)), H', ⟨Nat.le_refl _⟩, ⟨by first | exact Kd.R_nil _ _ _ _ _ | exact Kd.N_nil _ _ _ _ _ | exact Kd.V_nil _ _ _ _ _ | exact Kd.Q_nil _ _ _ _ _ | exact Kd.S_nil _ _ _ _ _⟩, ⟨by first | exact Kd.R_nil _ _ _ _ _ | exact Kd.N_nil _ _ _ _ _ | exact Kd.V_nil _ _ _ _ _ | exact Kd.Q_nil _ _ _ _ _ | exact Kd.S_nil _ _ _ _ _⟩, ⟨by (with_reducible repeat (first | apply Kd.R_alloc | apply Kd.R_drewN | apply Kd.R_drew)); exact HO119.out⟩, ⟨by (with_reducible repeat (first | refine blk_drewN ?_ _ | refine blk_drew ?_ | refine blk_alloc ?_ _)); exact BK116.out⟩, ⟨by repeat (first | (with_reducible first | exact HB.out | apply below_alloc | apply pw_below_drewN | apply below_drew1 | refine below_set ?_ GE116.out) | exact HB.out)⟩⟩
      case round =>
        clear H'
        try clear c1
        try clear c2
        try clear p2
        try clear c5
        try clear c5b0
        try clear c5b1
        try clear c6
        try clear c6b0
        try clear c6b1
        try clear hcz11_0
        try clear hcz11_1
        try clear hcz8_0
        try clear hcz8_1
        try clear hfz11_0
        try clear hfz11_1
        try clear hfz8_0
        try clear hfz8_1
        obtain ⟨x6_1, x7_1, x29_1, rfl, HA, HK1, HO_6, HO_7, HO_9, BK116, HB⟩ := hrel
        cases gk with
        | zero => exact absurd HA.out (by simp [radical_All.l0])
        | succ k1 =>
          have H := HA.out
          clear HA
          simp only [radical_All.l0] at H
          by_cases c13 : x29_1 < (l2.length : Int)
          · rw [if_pos c13] at H
            have c13b0 : decide (x29_1 < (l2.length : Int)) = true := decide_eq_true c13
            clear c13
            by_cases c14 : 0 ≤ x29_1
            · rw [if_pos c14] at H
              have c14b0 : decide (0 ≤ x29_1) = true := decide_eq_true c14
              clear c14
              by_cases c15 : x29_1 < (l2.length : Int)
              · rw [if_pos c15] at H
                have c15b0 : decide (x29_1 < (l2.length : Int)) = true := decide_eq_true c15
                clear c15
                replace H := Option.bind_eq_some_iff.mp H
                obtain ⟨t123, A160, H⟩ := H
                replace H : (if t123 = 0 then (if (((rd_T32 l2 x29_1).f1).size : Int) ≤ 70368744177664 then ((radical_split.f k1 t117 (runesOf ((rd_T32 l2 x29_1).f1))).bind fun bt127 => (if bt127.2 = true then (if x6_1.length < 8796093022208 then (if x7_1.length < 17592186044416 then (radical_All.l0 k1 (x6_1 ++ [bt127.1]) (x7_1 ++ [x29_1]) t117 l2 (l2.length : Int) (wrap64 (x29_1 + 1)) l0_0 l0_1) else (none)) else (none)) else (radical_All.l0 k1 x6_1 x7_1 t117 l2 (l2.length : Int) (wrap64 (x29_1 + 1)) l0_0 l0_1))) else (none)) else (some (([] : List ByteArray), ([] : List Int), t123))) = some (r1, r2, r3) := H
                have A16 := Aside0.mk A160
                clear A160
                by_cases c17 : t123 = 0
                · rw [if_pos c17] at H
                  have c17b0 : (t123 == 0) = true := beq_iff_eq.mpr c17
                  have c17b1 : (t123 != 0) = false := bne_eq_false_iff_eq.mpr c17
                  clear c17
                  by_cases c18 : (((rd_T32 l2 x29_1).f1).size : Int) ≤ 70368744177664
                  · rw [if_pos c18] at H
                    have c18b0 := eq_true c18
                    have c18b1 : decide ((((rd_T32 l2 x29_1).f1).size : Int) ≤ 70368744177664) = true := decide_eq_true c18
                    clear c18
                    obtain ⟨y124, hy124⟩ : ∃ y_ : List Int, y_ = (runesOf ((rd_T32 l2 x29_1).f1)) := ⟨_, rfl⟩
                    replace H : ((radical_split.f k1 t117 y124).bind fun bt127 => (if bt127.2 = true then (if x6_1.length < 8796093022208 then (if x7_1.length < 17592186044416 then (radical_All.l0 k1 (x6_1 ++ [bt127.1]) (x7_1 ++ [x29_1]) t117 l2 (l2.length : Int) (wrap64 (x29_1 + 1)) l0_0 l0_1) else (none)) else (none)) else (radical_All.l0 k1 x6_1 x7_1 t117 l2 (l2.length : Int) (wrap64 (x29_1 + 1)) l0_0 l0_1))) = some (r1, r2, r3) := by first | (rw [hy124]; with_reducible exact H) | (have H2_ := (Option.bind_some _ _).symm.trans H; rw [hy124]; with_reducible exact H2_) | (have H2_ := (Option.bind_some _ _).symm.trans H; with_reducible exact H2_) | with_reducible exact H | (rw [hy124]; exact H) | exact H
                    have Ny124 := Aside0.mk hy124
                    clear hy124
                    replace H := Option.bind_eq_some_iff.mp H
                    obtain ⟨⟨t127, t128⟩, A190, H⟩ := H
                    replace H : (if t128 = true then (if x6_1.length < 8796093022208 then (if x7_1.length < 17592186044416 then (radical_All.l0 k1 (x6_1 ++ [t127]) (x7_1 ++ [x29_1]) t117 l2 (l2.length : Int) (wrap64 (x29_1 + 1)) l0_0 l0_1) else (none)) else (none)) else (radical_All.l0 k1 x6_1 x7_1 t117 l2 (l2.length : Int) (wrap64 (x29_1 + 1)) l0_0 l0_1)) = some (r1, r2, r3) := H
                    have A19 := Aside0.mk A190
                    clear A190
                    by_cases c20 : t128 = true
                    · subst c20
                      have H1 : (if x6_1.length < 8796093022208 then (if x7_1.length < 17592186044416 then (radical_All.l0 k1 (x6_1 ++ [t127]) (x7_1 ++ [x29_1]) t117 l2 (l2.length : Int) (wrap64 (x29_1 + 1)) l0_0 l0_1) else (none)) else (none)) = some (r1, r2, r3) := by rw [if_pos rfl] at H; exact H
                      clear H
                      have H := H1
                      clear H1
                      by_cases c21 : x6_1.length < 8796093022208
                      · rw [if_pos c21] at H
                        have LMc21 := Aside0.mk c21
                        clear c21
                        obtain ⟨y129, hy129⟩ : ∃ y_ : List ByteArray, y_ = (x6_1 ++ [t127]) := ⟨_, rfl⟩
                        replace H : (if x7_1.length < 17592186044416 then (radical_All.l0 k1 y129 (x7_1 ++ [x29_1]) t117 l2 (l2.length : Int) (wrap64 (x29_1 + 1)) l0_0 l0_1) else (none)) = some (r1, r2, r3) := by first | (rw [hy129]; with_reducible exact H) | (have H2_ := (Option.bind_some _ _).symm.trans H; rw [hy129]; with_reducible exact H2_) | (have H2_ := (Option.bind_some _ _).symm.trans H; with_reducible exact H2_) | with_reducible exact H | (rw [hy129]; exact H) | exact H
                        have Ny129 := Aside0.mk hy129
                        clear hy129
                        by_cases c22 : x7_1.length < 17592186044416
                        · rw [if_pos c22] at H
                          have LMc22 := Aside0.mk c22
                          clear c22
                          obtain ⟨y132, hy132⟩ : ∃ y_ : List Int, y_ = (x7_1 ++ [x29_1]) := ⟨_, rfl⟩
                          replace H : (radical_All.l0 k1 y129 y132 t117 l2 (l2.length : Int) (wrap64 (x29_1 + 1)) l0_0 l0_1) = some (r1, r2, r3) := by first | (rw [hy132]; with_reducible exact H) | (have H2_ := (Option.bind_some _ _).symm.trans H; rw [hy132]; with_reducible exact H2_) | (have H2_ := (Option.bind_some _ _).symm.trans H; with_reducible exact H2_) | with_reducible exact H | (rw [hy132]; exact H) | exact H
                          have Ny132 := Aside0.mk hy132
                          clear hy132
                          have H' := Aside0.mk H
                          clear H
                          have p121 : 0 ≤ (x29_1 : Int) := of_decide_eq_true (by first | (with_reducible assumption) | assumption)
                          have q121 : x29_1 < (l2.length : Int) := of_decide_eq_true (by first | (with_reducible assumption) | assumption)
                          obtain ⟨ad121, e121, hx121_0, hx121_1⟩ := at_T32 HR2.out x29_1 p121 q121
                          cases e121
                          replace hx121_0 := (HB.out.cell (World.block_lt_of_cell? w _ hx121_0)).trans hx121_0
                          replace hx121_1 := (HB.out.cell (World.block_lt_of_cell? w _ hx121_1)).trans hx121_1
                          replace p121 := eq_true p121
                          replace q121 := eq_true q121
                          go_wp2_with (first | ((with_reducible refine gate_dst (N := 11) rfl ?_); refine box_event ?hg (N := 11) ?hd (cs := #[.string (⟨#[]⟩ : ByteArray), .string (⟨#[]⟩ : ByteArray)]) (t := 32) ?hr ?_; (case hd => rfl); (case hg => rfl); (case hr => first | (go_simp; done) | (go_simp; rfl)); intro gb122 hg w23 hbox hb; have n0_ := Aside0.mk (Kd.R_below (by (with_reducible repeat (first | apply Kd.R_alloc | apply Kd.R_drewN | apply Kd.R_drew)); exact HO_6.out) hb); have n1_ := Aside0.mk (Kd.R_below (by (with_reducible repeat (first | apply Kd.R_alloc | apply Kd.R_drewN | apply Kd.R_drew)); exact HO_7.out) hb); have n2_ := Aside0.mk (Kd.R_below (by (with_reducible repeat (first | apply Kd.R_alloc | apply Kd.R_drewN | apply Kd.R_drew)); exact HO_9.out) hb); have n3_ := Aside0.mk (blk_below (g := gb116) (o := .cells #[.slice A0_0 l0_0.length c0_0, .slice A0_1 l0_1.length c0_1] 25 (0, 0)) (by (with_reducible repeat (first | refine blk_drewN ?_ _ | refine blk_drew ?_ | refine blk_alloc ?_ _)); exact BK116.out) hb); have n4_ := Aside0.mk (below_step (by repeat (first | (with_reducible first | exact HB.out | apply below_alloc | apply pw_below_drewN | apply below_drew1 | refine below_set ?_ GE116.out) | exact HB.out)) hb); have n5_ := Aside0.mk (hbox); have n6_ := Aside0.mk ((by rw [hg]; exact (below_size (by repeat (first | (with_reducible first | exact HB.out | apply below_alloc | apply pw_below_drewN | apply below_drew1 | refine below_set ?_ GE116.out) | exact HB.out))) : w.heap.size ≤ gb122)); have n7_ := Aside0.mk ((by rw [hg]; exact (below_size (by repeat (first | (with_reducible first | exact HB.out | apply below_alloc | apply pw_below_drewN | apply below_drew1 | refine below_set ?_ GE116.out) | exact HB.out))) : w.heap.size ≤ gb122)); have n8_ := Aside0.mk ((by rw [hg]; exact Nat.ne_of_lt (blk_lt (g := gb116) (o := .cells #[.slice A0_0 l0_0.length c0_0, .slice A0_1 l0_1.length c0_1] 25 (0, 0)) (by (with_reducible repeat (first | refine blk_drewN ?_ _ | refine blk_drew ?_ | refine blk_alloc ?_ _)); exact BK116.out)) : gb116 ≠ gb122)); have n9_ := Aside0.mk ((by rw [hg]; exact Nat.ne_of_gt (blk_lt (g := gb116) (o := .cells #[.slice A0_0 l0_0.length c0_0, .slice A0_1 l0_1.length c0_1] 25 (0, 0)) (by (with_reducible repeat (first | refine blk_drewN ?_ _ | refine blk_drew ?_ | refine blk_alloc ?_ _)); exact BK116.out)) : gb122 ≠ gb116)); clear HO_6; clear HO_7; clear HO_9; clear BK116; clear HB; have HO_6 := n0_; have HO_7 := n1_; have HO_9 := n2_; have BK116 := n3_; have HB := n4_; have BK122 := n5_; have GW122 := n6_; have GE122 := n7_; have NB116_122 := n8_; have NB122_116 := n9_; clear n0_ n1_ n2_ n3_ n4_ n5_ n6_ n7_ n8_ n9_; clear hb hbox hg; have hnb24 := NB122_116.out; have hnc24 := NB116_122.out; have hcz25_0 : w23.cell? ⟨gb122, 0, none⟩ = some (.string (⟨#[]⟩ : ByteArray)) := (blk_cell BK122.out 0).trans rfl; have hcz25_1 : w23.cell? ⟨gb122, 1, none⟩ = some (.string (⟨#[]⟩ : ByteArray)) := (blk_cell BK122.out 1).trans rfl; have hfz25_0 := blk_frozen BK122.out 0; have hfz25_1 := blk_frozen BK122.out 1; have hcz26_0 : w23.cell? ⟨gb116, 0, none⟩ = some (.slice A0_0 l0_0.length c0_0) := (blk_cell BK116.out 0).trans rfl; have hcz26_1 : w23.cell? ⟨gb116, 1, none⟩ = some (.slice A0_1 l0_1.length c0_1) := (blk_cell BK116.out 1).trans rfl; have hfz26_0 := blk_frozen BK116.out 0; have hfz26_1 := blk_frozen BK116.out 1) | ((with_reducible refine gate_callee (f := 22) rfl ?_); refine goesL_ (some 36) rfl rfl Tryd.func22 (by kernel_rfl) rfl #[.agg #[.slice A0_0 l0_0.length c0_0, .slice A0_1 l0_1.length c0_1], .agg #[.string ((rd_T32 l2 x29_1).f0), .string ((rd_T32 l2 x29_1).f1)]] rfl (by (try simp only [List.map_toArray, List.map_cons, List.map_nil]); first | done | rfl | (simp only [List.length_drop, List.length_take]; rfl)) ?_; (with_reducible refine (radical_Check.calls _ _ l0_0 _ _ l0_1 ((rd_T32 l2 x29_1).f0) ((rd_T32 l2 x29_1).f1) t123 _ ?side1 ?side2 ?side3 ?side4 ?side5 A16.out).mono ?_); (case side1 => exact Kd.C_below HR0_0.out (by repeat (first | (with_reducible first | exact HB.out | apply below_alloc | apply pw_below_drewN | apply below_drew1 | refine below_set ?_ GE116.out | refine below_set ?_ GE122.out) | exact HB.out))); (case side2 => exact HC0_0.out); (case side3 => exact Kd.C_below HR0_1.out (by repeat (first | (with_reducible first | exact HB.out | apply below_alloc | apply pw_below_drewN | apply below_drew1 | refine below_set ?_ GE116.out | refine below_set ?_ GE122.out) | exact HB.out))); (case side4 => exact HC0_1.out); (case side5 => exact Tabs.below HT.out (by repeat (first | (with_reducible first | exact HB.out | apply below_alloc | apply pw_below_drewN | apply below_drew1 | refine below_set ?_ GE116.out | refine below_set ?_ GE122.out) | exact HB.out))); rintro e w27 ⟨rfl, hb⟩; refine ⟨_, rfl, ?_⟩; have n0_ := Aside0.mk (Kd.R_below (by (with_reducible repeat (first | apply Kd.R_alloc | apply Kd.R_drewN | apply Kd.R_drew)); exact (Kd.R_mono (Kd.R_far (p := ⟨gb122, 1, none⟩) (Kd.R_far (p := ⟨gb122, 0, none⟩) (Kd.R_types HO_6.out BK122.out (by decide)) (fun _ hk => hk.2) (.string ((rd_T32 l2 x29_1).f0))) (fun _ hk => hk.2) (.string ((rd_T32 l2 x29_1).f1))) (fun _ h_ => h_.1))) hb); have n1_ := Aside0.mk (Kd.R_below (by (with_reducible repeat (first | apply Kd.R_alloc | apply Kd.R_drewN | apply Kd.R_drew)); exact (Kd.R_mono (Kd.R_far (p := ⟨gb122, 1, none⟩) (Kd.R_far (p := ⟨gb122, 0, none⟩) (Kd.R_types HO_7.out BK122.out (by decide)) (fun _ hk => hk.2) (.string ((rd_T32 l2 x29_1).f0))) (fun _ hk => hk.2) (.string ((rd_T32 l2 x29_1).f1))) (fun _ h_ => h_.1))) hb); have n2_ := Aside0.mk (Kd.R_below (by (with_reducible repeat (first | apply Kd.R_alloc | apply Kd.R_drewN | apply Kd.R_drew)); exact (Kd.R_mono (Kd.R_far (p := ⟨gb122, 1, none⟩) (Kd.R_far (p := ⟨gb122, 0, none⟩) (Kd.R_types HO_9.out BK122.out (by decide)) (fun _ hk => hk.2) (.string ((rd_T32 l2 x29_1).f0))) (fun _ hk => hk.2) (.string ((rd_T32 l2 x29_1).f1))) (fun _ h_ => h_.1))) hb); have n3_ := Aside0.mk (blk_below (g := gb116) (o := .cells #[.slice A0_0 l0_0.length c0_0, .slice A0_1 l0_1.length c0_1] 25 (0, 0)) (by (with_reducible repeat (first | refine blk_drewN ?_ _ | refine blk_drew ?_ | refine blk_alloc ?_ _)); refine blk_far ?_ NB116_122.out _; (with_reducible repeat (first | refine blk_drewN ?_ _ | refine blk_drew ?_ | refine blk_alloc ?_ _)); refine blk_far ?_ NB116_122.out _; (with_reducible repeat (first | refine blk_drewN ?_ _ | refine blk_drew ?_ | refine blk_alloc ?_ _)); exact BK116.out) hb); have n4_ := Aside0.mk (blk_below (g := gb122) (o := .cells #[.string ((rd_T32 l2 x29_1).f0), .string ((rd_T32 l2 x29_1).f1)] 32 (0, 0)) (by (with_reducible repeat (first | refine blk_drewN ?_ _ | refine blk_drew ?_ | refine blk_alloc ?_ _)); refine blk_put (cs := #[.string ((rd_T32 l2 x29_1).f0), .string (⟨#[]⟩ : ByteArray)]) ?_ 1 _ rfl; (with_reducible repeat (first | refine blk_drewN ?_ _ | refine blk_drew ?_ | refine blk_alloc ?_ _)); refine blk_put (cs := #[.string (⟨#[]⟩ : ByteArray), .string (⟨#[]⟩ : ByteArray)]) ?_ 0 _ rfl; (with_reducible repeat (first | refine blk_drewN ?_ _ | refine blk_drew ?_ | refine blk_alloc ?_ _)); exact BK122.out) hb); have n5_ := Aside0.mk (below_step (by repeat (first | (with_reducible first | exact HB.out | apply below_alloc | apply pw_below_drewN | apply below_drew1 | refine below_set ?_ GE116.out | refine below_set ?_ GE122.out) | exact HB.out)) hb); clear HO_6; clear HO_7; clear HO_9; clear BK116; clear BK122; clear HB; have HO_6 := n0_; have HO_7 := n1_; have HO_9 := n2_; have BK116 := n3_; have BK122 := n4_; have HB := n5_; clear n0_ n1_ n2_ n3_ n4_ n5_; (try clear hb); (try clear hb2); (try clear hk); (try clear hi); have hcz28_0 : w27.cell? ⟨gb122, 0, none⟩ = some (.string ((rd_T32 l2 x29_1).f0)) := (blk_cell BK122.out 0).trans rfl; have hcz28_1 : w27.cell? ⟨gb122, 1, none⟩ = some (.string ((rd_T32 l2 x29_1).f1)) := (blk_cell BK122.out 1).trans rfl; have hfz28_0 := blk_frozen BK122.out 0; have hfz28_1 := blk_frozen BK122.out 1) | ((with_reducible refine gate_dst (N := 44) rfl ?_); refine R_runes _ 21 rfl (N := 44) rfl 9 51 _ rfl ((rd_T32 l2 x29_1).f1) rfl Tryd.underlying9 Tryd.underlying51 Tryd.underlying21 (of_decide_eq_true (by first | (with_reducible assumption) | assumption)) (Below.refl _ _) (Nat.le_refl _) ?_; intro v125 w29 ho30 hb hg_ hnew_; clear hg_ hnew_; (first | rw [← Ny124.out] at ho30 | (simp only [Int.reduceToNat] at ho30; rw [← Ny124.out] at ho30)); have n0_ := Aside0.mk (Kd.R_below (by (with_reducible repeat (first | apply Kd.R_alloc | apply Kd.R_drewN | apply Kd.R_drew)); exact HO_6.out) hb); have n1_ := Aside0.mk (Kd.R_below (by (with_reducible repeat (first | apply Kd.R_alloc | apply Kd.R_drewN | apply Kd.R_drew)); exact HO_7.out) hb); have n2_ := Aside0.mk (Kd.R_elder' (by (with_reducible repeat (first | apply Kd.R_alloc | apply Kd.R_drewN | apply Kd.R_drew)); exact HO_9.out) (Kd.R_base ho30) hb); have n3_ := Aside0.mk (Kd.R_lower (Kd.R_new' ho30 (Kd.R_lt (by (with_reducible repeat (first | apply Kd.R_alloc | apply Kd.R_drewN | apply Kd.R_drew)); exact HO_9.out))) (below_size (by repeat (first | (with_reducible first | exact HB.out | apply below_alloc | apply pw_below_drewN | apply below_drew1 | refine below_set ?_ GE116.out | refine below_set ?_ GE122.out) | exact HB.out)))); have n4_ := Aside0.mk (blk_below (g := gb116) (o := .cells #[.slice A0_0 l0_0.length c0_0, .slice A0_1 l0_1.length c0_1] 25 (0, 0)) (by (with_reducible repeat (first | refine blk_drewN ?_ _ | refine blk_drew ?_ | refine blk_alloc ?_ _)); exact BK116.out) hb); have n5_ := Aside0.mk (blk_below (g := gb122) (o := .cells #[.string ((rd_T32 l2 x29_1).f0), .string ((rd_T32 l2 x29_1).f1)] 32 (0, 0)) (by (with_reducible repeat (first | refine blk_drewN ?_ _ | refine blk_drew ?_ | refine blk_alloc ?_ _)); exact BK122.out) hb); have n6_ := Aside0.mk (below_step (by repeat (first | (with_reducible first | exact HB.out | apply below_alloc | apply pw_below_drewN | apply below_drew1 | refine below_set ?_ GE116.out | refine below_set ?_ GE122.out) | exact HB.out)) hb); clear HO_6; clear HO_7; clear HO_9; clear BK116; clear BK122; clear HB; have HO_6 := n0_; have HO_7 := n1_; have HO_9 := n2_; have HO126 := n3_; have BK116 := n4_; have BK122 := n5_; have HB := n6_; clear n0_ n1_ n2_ n3_ n4_ n5_ n6_; clear hb ho30; obtain ⟨Ao31, co31, eo31⟩ := Kd.R_slice HO_9.out; subst eo31; obtain ⟨Ao32, co32, eo32⟩ := Kd.R_slice HO126.out; subst eo32) | ((with_reducible refine gate_callee (f := 35) rfl ?_); refine goesL_ (some 45) rfl rfl Tryd.func35 (by kernel_rfl) rfl #[.slice Ao31 t117.length co31, .slice Ao32 y124.length co32] rfl (by (try simp only [List.map_toArray, List.map_cons, List.map_nil]); first | done | rfl | (simp only [List.length_drop, List.length_take]; rfl)) ?_; (with_reducible refine (radical_split.calls k1 _ _ t117 _ _ y124 t127 true _ ?side1 ?side2 ?side3 ?side4 A19.out).mono ?_); (case side1 => repeat (first | exact (Kd.R_reads' HO_9.out).2.2 | (with_reducible refine Kd.C_alloc ?_ _) | (with_reducible refine Kd.C_drewN ?_ _) | (with_reducible refine Kd.C_drew ?_))); (case side2 => exact (Kd.R_reads' HO_9.out).2.1); (case side3 => repeat (first | exact (Kd.R_reads' HO126.out).2.2 | (with_reducible refine Kd.C_alloc ?_ _) | (with_reducible refine Kd.C_drewN ?_ _) | (with_reducible refine Kd.C_drew ?_))); (case side4 => exact (Kd.R_reads' HO126.out).2.1); rintro e w' ⟨rfl, ⟨nd, rfl⟩⟩; refine ⟨_, rfl, ?_⟩) | ((with_reducible refine gate_builtin (b := .append) (xs := #[.tmp 49, .tmp 51]) rfl ?_); at_builtin; refine Kd.R_append Kd.string (w0 := w) w.heap.size rfl (.tmp 49) (.tmp 51) 22 9 (.string ⟨#[]⟩) 16 rfl Tryd.underlying22 info9 rfl (by decide) (by omega) u6 x6_1 t127 [.string t127] (fun _ => True) (fun _ => False) rfl rfl ?aP (fun _ hk => hk.elim) ?aF ?aO ?aB ?aS ?aL ?_; (case aP => exact rfl); (case aB => exact (by repeat (first | (with_reducible first | exact HB.out | apply below_alloc | apply pw_below_drewN | apply below_drew1 | refine below_set ?_ GE116.out | refine below_set ?_ GE122.out) | exact HB.out))); (case aF => exact (fun _ _ => trivial)); (case aO => exact (by (with_reducible repeat (first | apply Kd.R_alloc | apply Kd.R_drewN | apply Kd.R_drew)); exact HO_6.out)); (case aS => exact (below_size (by repeat (first | (with_reducible first | exact HB.out | apply below_alloc | apply pw_below_drewN | apply below_drew1 | refine below_set ?_ GE116.out | refine below_set ?_ GE122.out) | exact HB.out)))); (case aL => have := LMc21.out; omega); intro v130 w33 ho hb hg hat; rw [← Ny129.out] at ho; have n0_ := Aside0.mk (Kd.R_over' (by (with_reducible repeat (first | apply Kd.R_alloc | apply Kd.R_drewN | apply Kd.R_drew)); exact HO_7.out) (Kd.R_typed (by (with_reducible repeat (first | apply Kd.R_alloc | apply Kd.R_drewN | apply Kd.R_drew)); exact HO_6.out)) (by decide) hg); have n1_ := Aside0.mk (Kd.R_over' (by (with_reducible repeat (first | apply Kd.R_alloc | apply Kd.R_drewN | apply Kd.R_drew)); exact HO_9.out) (Kd.R_typed (by (with_reducible repeat (first | apply Kd.R_alloc | apply Kd.R_drewN | apply Kd.R_drew)); exact HO_6.out)) (by decide) hg); have n2_ := Aside0.mk (blk_grown (g := gb116) (o := .cells #[.slice A0_0 l0_0.length c0_0, .slice A0_1 l0_1.length c0_1] 25 (0, 0)) (by (with_reducible repeat (first | refine blk_drewN ?_ _ | refine blk_drew ?_ | refine blk_alloc ?_ _)); exact BK116.out) hg (Kd.R_ne HO_6.out BK116.out (by decide))); have n3_ := Aside0.mk (blk_grown (g := gb122) (o := .cells #[.string ((rd_T32 l2 x29_1).f0), .string ((rd_T32 l2 x29_1).f1)] 32 (0, 0)) (by (with_reducible repeat (first | refine blk_drewN ?_ _ | refine blk_drew ?_ | refine blk_alloc ?_ _)); exact BK122.out) hg (Kd.R_ne HO_6.out BK122.out (by decide))); have n4_ := Aside0.mk (Kd.R_over' (by (with_reducible repeat (first | apply Kd.R_alloc | apply Kd.R_drewN | apply Kd.R_drew)); exact HO126.out) (Kd.R_typed (by (with_reducible repeat (first | apply Kd.R_alloc | apply Kd.R_drewN | apply Kd.R_drew)); exact HO_6.out)) (by decide) hg); have n5_ := Aside0.mk (hb); have n6_ := Aside0.mk (ho); clear HO_7; clear HO_9; clear BK116; clear BK122; clear HO126; clear HB; clear HO_6; have HO_7 := n0_; have HO_9 := n1_; have BK116 := n2_; have BK122 := n3_; have HO126 := n4_; have HB := n5_; have HO131 := n6_; clear n0_ n1_ n2_ n3_ n4_ n5_ n6_; clear ho hb hg hat) | ((with_reducible refine gate_builtin (b := .append) (xs := #[.tmp 53, .tmp 55]) rfl ?_); at_builtin; refine Kd.R_append (Kd.int .i64) (w0 := w) w.heap.size rfl (.tmp 53) (.tmp 55) 35 3 (.int .i64 0) 8 rfl Tryd.underlying35 info3 rfl (by decide) (by omega) u7 x7_1 x29_1 [.int .i64 x29_1] (fun _ => True) (fun _ => False) rfl rfl ?aP (fun _ hk => hk.elim) ?aF ?aO ?aB ?aS ?aL ?_; (case aP => exact rfl); (case aB => exact (by repeat (first | (with_reducible first | exact HB.out | apply below_alloc | apply pw_below_drewN | apply below_drew1 | refine below_set ?_ GE116.out | refine below_set ?_ GE122.out) | exact HB.out))); (case aF => exact (fun _ _ => trivial)); (case aO => exact (by (with_reducible repeat (first | apply Kd.R_alloc | apply Kd.R_drewN | apply Kd.R_drew)); exact HO_7.out)); (case aS => exact (below_size (by repeat (first | (with_reducible first | exact HB.out | apply below_alloc | apply pw_below_drewN | apply below_drew1 | refine below_set ?_ GE116.out | refine below_set ?_ GE122.out) | exact HB.out)))); (case aL => have := LMc22.out; omega); intro v133 w34 ho hb hg hat; rw [← Ny132.out] at ho; have n0_ := Aside0.mk (Kd.R_over' (by (with_reducible repeat (first | apply Kd.R_alloc | apply Kd.R_drewN | apply Kd.R_drew)); exact HO_9.out) (Kd.R_typed (by (with_reducible repeat (first | apply Kd.R_alloc | apply Kd.R_drewN | apply Kd.R_drew)); exact HO_7.out)) (by decide) hg); have n1_ := Aside0.mk (blk_grown (g := gb116) (o := .cells #[.slice A0_0 l0_0.length c0_0, .slice A0_1 l0_1.length c0_1] 25 (0, 0)) (by (with_reducible repeat (first | refine blk_drewN ?_ _ | refine blk_drew ?_ | refine blk_alloc ?_ _)); exact BK116.out) hg (Kd.R_ne HO_7.out BK116.out (by decide))); have n2_ := Aside0.mk (blk_grown (g := gb122) (o := .cells #[.string ((rd_T32 l2 x29_1).f0), .string ((rd_T32 l2 x29_1).f1)] 32 (0, 0)) (by (with_reducible repeat (first | refine blk_drewN ?_ _ | refine blk_drew ?_ | refine blk_alloc ?_ _)); exact BK122.out) hg (Kd.R_ne HO_7.out BK122.out (by decide))); have n3_ := Aside0.mk (Kd.R_over' (by (with_reducible repeat (first | apply Kd.R_alloc | apply Kd.R_drewN | apply Kd.R_drew)); exact HO126.out) (Kd.R_typed (by (with_reducible repeat (first | apply Kd.R_alloc | apply Kd.R_drewN | apply Kd.R_drew)); exact HO_7.out)) (by decide) hg); have n4_ := Aside0.mk (Kd.R_over' (by (with_reducible repeat (first | apply Kd.R_alloc | apply Kd.R_drewN | apply Kd.R_drew)); exact HO131.out) (Kd.R_typed (by (with_reducible repeat (first | apply Kd.R_alloc | apply Kd.R_drewN | apply Kd.R_drew)); exact HO_7.out)) (by decide) hg); have n5_ := Aside0.mk (hb); have n6_ := Aside0.mk (ho); clear HO_9; clear BK116; clear BK122; clear HO126; clear HO131; clear HB; clear HO_7; have HO_9 := n0_; have BK116 := n1_; have BK122 := n2_; have HO126 := n3_; have HO131 := n4_; have HB := n5_; have HO134 := n6_; clear n0_ n1_ n2_ n3_ n4_ n5_ n6_; clear ho hb hg hat))
                          go_roundg k1
                          case measure => have := HK1.out; omega
                          case rel => exact ⟨(y129), (y132), (wrap64 (x29_1 + 1)), (by first | rfl | (simp; done) | (simp [*]; done)), H', ⟨by have := HK1.out; omega⟩, ⟨by (with_reducible repeat (first | apply Kd.R_alloc | apply Kd.R_drewN | apply Kd.R_drew)); exact HO131.out⟩, ⟨by (with_reducible repeat (first | apply Kd.R_alloc | apply Kd.R_drewN | apply Kd.R_drew)); exact HO134.out⟩, ⟨by (with_reducible repeat (first | apply Kd.R_alloc | apply Kd.R_drewN | apply Kd.R_drew)); exact Kd.R_mono HO_9.out (fun _ hk => trivial)⟩, ⟨by (with_reducible repeat (first | refine blk_drewN ?_ _ | refine blk_drew ?_ | refine blk_alloc ?_ _)); exact BK116.out⟩, ⟨by repeat (first | (with_reducible first | exact HB.out | apply below_alloc | apply pw_below_drewN | apply below_drew1 | refine below_set ?_ GE116.out | refine below_set ?_ GE122.out) | exact HB.out)⟩⟩
                        · rw [if_neg c22] at H
                          exact absurd H (by simp)
                      · rw [if_neg c21] at H
                        exact absurd H (by simp)
                    · replace c20 := Bool.eq_false_iff.mpr c20
                      subst c20
                      have H1 : (radical_All.l0 k1 x6_1 x7_1 t117 l2 (l2.length : Int) (wrap64 (x29_1 + 1)) l0_0 l0_1) = some (r1, r2, r3) := by rw [if_neg (show ¬ (false = true) by decide)] at H; exact H
                      clear H
                      have H := H1
                      clear H1
                      have H' := Aside0.mk H
                      clear H
                      have p121 : 0 ≤ (x29_1 : Int) := of_decide_eq_true (by first | (with_reducible assumption) | assumption)
                      have q121 : x29_1 < (l2.length : Int) := of_decide_eq_true (by first | (with_reducible assumption) | assumption)
                      obtain ⟨ad121, e121, hx121_0, hx121_1⟩ := at_T32 HR2.out x29_1 p121 q121
                      cases e121
                      replace hx121_0 := (HB.out.cell (World.block_lt_of_cell? w _ hx121_0)).trans hx121_0
                      replace hx121_1 := (HB.out.cell (World.block_lt_of_cell? w _ hx121_1)).trans hx121_1
                      replace p121 := eq_true p121
                      replace q121 := eq_true q121
                      go_wp2_with (first | ((with_reducible refine gate_dst (N := 11) rfl ?_); refine box_event ?hg (N := 11) ?hd (cs := #[.string (⟨#[]⟩ : ByteArray), .string (⟨#[]⟩ : ByteArray)]) (t := 32) ?hr ?_; (case hd => rfl); (case hg => rfl); (case hr => first | (go_simp; done) | (go_simp; rfl)); intro gb122 hg w35 hbox hb; have n0_ := Aside0.mk (Kd.R_below (by (with_reducible repeat (first | apply Kd.R_alloc | apply Kd.R_drewN | apply Kd.R_drew)); exact HO_6.out) hb); have n1_ := Aside0.mk (Kd.R_below (by (with_reducible repeat (first | apply Kd.R_alloc | apply Kd.R_drewN | apply Kd.R_drew)); exact HO_7.out) hb); have n2_ := Aside0.mk (Kd.R_below (by (with_reducible repeat (first | apply Kd.R_alloc | apply Kd.R_drewN | apply Kd.R_drew)); exact HO_9.out) hb); have n3_ := Aside0.mk (blk_below (g := gb116) (o := .cells #[.slice A0_0 l0_0.length c0_0, .slice A0_1 l0_1.length c0_1] 25 (0, 0)) (by (with_reducible repeat (first | refine blk_drewN ?_ _ | refine blk_drew ?_ | refine blk_alloc ?_ _)); exact BK116.out) hb); have n4_ := Aside0.mk (below_step (by repeat (first | (with_reducible first | exact HB.out | apply below_alloc | apply pw_below_drewN | apply below_drew1 | refine below_set ?_ GE116.out) | exact HB.out)) hb); have n5_ := Aside0.mk (hbox); have n6_ := Aside0.mk ((by rw [hg]; exact (below_size (by repeat (first | (with_reducible first | exact HB.out | apply below_alloc | apply pw_below_drewN | apply below_drew1 | refine below_set ?_ GE116.out) | exact HB.out))) : w.heap.size ≤ gb122)); have n7_ := Aside0.mk ((by rw [hg]; exact (below_size (by repeat (first | (with_reducible first | exact HB.out | apply below_alloc | apply pw_below_drewN | apply below_drew1 | refine below_set ?_ GE116.out) | exact HB.out))) : w.heap.size ≤ gb122)); have n8_ := Aside0.mk ((by rw [hg]; exact Nat.ne_of_lt (blk_lt (g := gb116) (o := .cells #[.slice A0_0 l0_0.length c0_0, .slice A0_1 l0_1.length c0_1] 25 (0, 0)) (by (with_reducible repeat (first | refine blk_drewN ?_ _ | refine blk_drew ?_ | refine blk_alloc ?_ _)); exact BK116.out)) : gb116 ≠ gb122)); have n9_ := Aside0.mk ((by rw [hg]; exact Nat.ne_of_gt (blk_lt (g := gb116) (o := .cells #[.slice A0_0 l0_0.length c0_0, .slice A0_1 l0_1.length c0_1] 25 (0, 0)) (by (with_reducible repeat (first | refine blk_drewN ?_ _ | refine blk_drew ?_ | refine blk_alloc ?_ _)); exact BK116.out)) : gb122 ≠ gb116)); clear HO_6; clear HO_7; clear HO_9; clear BK116; clear HB; have HO_6 := n0_; have HO_7 := n1_; have HO_9 := n2_; have BK116 := n3_; have HB := n4_; have BK122 := n5_; have GW122 := n6_; have GE122 := n7_; have NB116_122 := n8_; have NB122_116 := n9_; clear n0_ n1_ n2_ n3_ n4_ n5_ n6_ n7_ n8_ n9_; clear hb hbox hg; have hnb36 := NB122_116.out; have hnc36 := NB116_122.out; have hcz37_0 : w35.cell? ⟨gb122, 0, none⟩ = some (.string (⟨#[]⟩ : ByteArray)) := (blk_cell BK122.out 0).trans rfl; have hcz37_1 : w35.cell? ⟨gb122, 1, none⟩ = some (.string (⟨#[]⟩ : ByteArray)) := (blk_cell BK122.out 1).trans rfl; have hfz37_0 := blk_frozen BK122.out 0; have hfz37_1 := blk_frozen BK122.out 1; have hcz38_0 : w35.cell? ⟨gb116, 0, none⟩ = some (.slice A0_0 l0_0.length c0_0) := (blk_cell BK116.out 0).trans rfl; have hcz38_1 : w35.cell? ⟨gb116, 1, none⟩ = some (.slice A0_1 l0_1.length c0_1) := (blk_cell BK116.out 1).trans rfl; have hfz38_0 := blk_frozen BK116.out 0; have hfz38_1 := blk_frozen BK116.out 1) | ((with_reducible refine gate_callee (f := 22) rfl ?_); refine goesL_ (some 36) rfl rfl Tryd.func22 (by kernel_rfl) rfl #[.agg #[.slice A0_0 l0_0.length c0_0, .slice A0_1 l0_1.length c0_1], .agg #[.string ((rd_T32 l2 x29_1).f0), .string ((rd_T32 l2 x29_1).f1)]] rfl (by (try simp only [List.map_toArray, List.map_cons, List.map_nil]); first | done | rfl | (simp only [List.length_drop, List.length_take]; rfl)) ?_; (with_reducible refine (radical_Check.calls _ _ l0_0 _ _ l0_1 ((rd_T32 l2 x29_1).f0) ((rd_T32 l2 x29_1).f1) t123 _ ?side1 ?side2 ?side3 ?side4 ?side5 A16.out).mono ?_); (case side1 => exact Kd.C_below HR0_0.out (by repeat (first | (with_reducible first | exact HB.out | apply below_alloc | apply pw_below_drewN | apply below_drew1 | refine below_set ?_ GE116.out | refine below_set ?_ GE122.out) | exact HB.out))); (case side2 => exact HC0_0.out); (case side3 => exact Kd.C_below HR0_1.out (by repeat (first | (with_reducible first | exact HB.out | apply below_alloc | apply pw_below_drewN | apply below_drew1 | refine below_set ?_ GE116.out | refine below_set ?_ GE122.out) | exact HB.out))); (case side4 => exact HC0_1.out); (case side5 => exact Tabs.below HT.out (by repeat (first | (with_reducible first | exact HB.out | apply below_alloc | apply pw_below_drewN | apply below_drew1 | refine below_set ?_ GE116.out | refine below_set ?_ GE122.out) | exact HB.out))); rintro e w39 ⟨rfl, hb⟩; refine ⟨_, rfl, ?_⟩; have n0_ := Aside0.mk (Kd.R_below (by (with_reducible repeat (first | apply Kd.R_alloc | apply Kd.R_drewN | apply Kd.R_drew)); exact (Kd.R_mono (Kd.R_far (p := ⟨gb122, 1, none⟩) (Kd.R_far (p := ⟨gb122, 0, none⟩) (Kd.R_types HO_6.out BK122.out (by decide)) (fun _ hk => hk.2) (.string ((rd_T32 l2 x29_1).f0))) (fun _ hk => hk.2) (.string ((rd_T32 l2 x29_1).f1))) (fun _ h_ => h_.1))) hb); have n1_ := Aside0.mk (Kd.R_below (by (with_reducible repeat (first | apply Kd.R_alloc | apply Kd.R_drewN | apply Kd.R_drew)); exact (Kd.R_mono (Kd.R_far (p := ⟨gb122, 1, none⟩) (Kd.R_far (p := ⟨gb122, 0, none⟩) (Kd.R_types HO_7.out BK122.out (by decide)) (fun _ hk => hk.2) (.string ((rd_T32 l2 x29_1).f0))) (fun _ hk => hk.2) (.string ((rd_T32 l2 x29_1).f1))) (fun _ h_ => h_.1))) hb); have n2_ := Aside0.mk (Kd.R_below (by (with_reducible repeat (first | apply Kd.R_alloc | apply Kd.R_drewN | apply Kd.R_drew)); exact (Kd.R_mono (Kd.R_far (p := ⟨gb122, 1, none⟩) (Kd.R_far (p := ⟨gb122, 0, none⟩) (Kd.R_types HO_9.out BK122.out (by decide)) (fun _ hk => hk.2) (.string ((rd_T32 l2 x29_1).f0))) (fun _ hk => hk.2) (.string ((rd_T32 l2 x29_1).f1))) (fun _ h_ => h_.1))) hb); have n3_ := Aside0.mk (blk_below (g := gb116) (o := .cells #[.slice A0_0 l0_0.length c0_0, .slice A0_1 l0_1.length c0_1] 25 (0, 0)) (by (with_reducible repeat (first | refine blk_drewN ?_ _ | refine blk_drew ?_ | refine blk_alloc ?_ _)); refine blk_far ?_ NB116_122.out _; (with_reducible repeat (first | refine blk_drewN ?_ _ | refine blk_drew ?_ | refine blk_alloc ?_ _)); refine blk_far ?_ NB116_122.out _; (with_reducible repeat (first | refine blk_drewN ?_ _ | refine blk_drew ?_ | refine blk_alloc ?_ _)); exact BK116.out) hb); have n4_ := Aside0.mk (blk_below (g := gb122) (o := .cells #[.string ((rd_T32 l2 x29_1).f0), .string ((rd_T32 l2 x29_1).f1)] 32 (0, 0)) (by (with_reducible repeat (first | refine blk_drewN ?_ _ | refine blk_drew ?_ | refine blk_alloc ?_ _)); refine blk_put (cs := #[.string ((rd_T32 l2 x29_1).f0), .string (⟨#[]⟩ : ByteArray)]) ?_ 1 _ rfl; (with_reducible repeat (first | refine blk_drewN ?_ _ | refine blk_drew ?_ | refine blk_alloc ?_ _)); refine blk_put (cs := #[.string (⟨#[]⟩ : ByteArray), .string (⟨#[]⟩ : ByteArray)]) ?_ 0 _ rfl; (with_reducible repeat (first | refine blk_drewN ?_ _ | refine blk_drew ?_ | refine blk_alloc ?_ _)); exact BK122.out) hb); have n5_ := Aside0.mk (below_step (by repeat (first | (with_reducible first | exact HB.out | apply below_alloc | apply pw_below_drewN | apply below_drew1 | refine below_set ?_ GE116.out | refine below_set ?_ GE122.out) | exact HB.out)) hb); clear HO_6; clear HO_7; clear HO_9; clear BK116; clear BK122; clear HB; have HO_6 := n0_; have HO_7 := n1_; have HO_9 := n2_; have BK116 := n3_; have BK122 := n4_; have HB := n5_; clear n0_ n1_ n2_ n3_ n4_ n5_; (try clear hb); (try clear hb2); (try clear hk); (try clear hi); have hcz40_0 : w39.cell? ⟨gb122, 0, none⟩ = some (.string ((rd_T32 l2 x29_1).f0)) := (blk_cell BK122.out 0).trans rfl; have hcz40_1 : w39.cell? ⟨gb122, 1, none⟩ = some (.string ((rd_T32 l2 x29_1).f1)) := (blk_cell BK122.out 1).trans rfl; have hfz40_0 := blk_frozen BK122.out 0; have hfz40_1 := blk_frozen BK122.out 1) | ((with_reducible refine gate_dst (N := 44) rfl ?_); refine R_runes _ 21 rfl (N := 44) rfl 9 51 _ rfl ((rd_T32 l2 x29_1).f1) rfl Tryd.underlying9 Tryd.underlying51 Tryd.underlying21 (of_decide_eq_true (by first | (with_reducible assumption) | assumption)) (Below.refl _ _) (Nat.le_refl _) ?_; intro v125 w41 ho42 hb hg_ hnew_; clear hg_ hnew_; (first | rw [← Ny124.out] at ho42 | (simp only [Int.reduceToNat] at ho42; rw [← Ny124.out] at ho42)); have n0_ := Aside0.mk (Kd.R_below (by (with_reducible repeat (first | apply Kd.R_alloc | apply Kd.R_drewN | apply Kd.R_drew)); exact HO_6.out) hb); have n1_ := Aside0.mk (Kd.R_below (by (with_reducible repeat (first | apply Kd.R_alloc | apply Kd.R_drewN | apply Kd.R_drew)); exact HO_7.out) hb); have n2_ := Aside0.mk (Kd.R_elder' (by (with_reducible repeat (first | apply Kd.R_alloc | apply Kd.R_drewN | apply Kd.R_drew)); exact HO_9.out) (Kd.R_base ho42) hb); have n3_ := Aside0.mk (Kd.R_lower (Kd.R_new' ho42 (Kd.R_lt (by (with_reducible repeat (first | apply Kd.R_alloc | apply Kd.R_drewN | apply Kd.R_drew)); exact HO_9.out))) (below_size (by repeat (first | (with_reducible first | exact HB.out | apply below_alloc | apply pw_below_drewN | apply below_drew1 | refine below_set ?_ GE116.out | refine below_set ?_ GE122.out) | exact HB.out)))); have n4_ := Aside0.mk (blk_below (g := gb116) (o := .cells #[.slice A0_0 l0_0.length c0_0, .slice A0_1 l0_1.length c0_1] 25 (0, 0)) (by (with_reducible repeat (first | refine blk_drewN ?_ _ | refine blk_drew ?_ | refine blk_alloc ?_ _)); exact BK116.out) hb); have n5_ := Aside0.mk (blk_below (g := gb122) (o := .cells #[.string ((rd_T32 l2 x29_1).f0), .string ((rd_T32 l2 x29_1).f1)] 32 (0, 0)) (by (with_reducible repeat (first | refine blk_drewN ?_ _ | refine blk_drew ?_ | refine blk_alloc ?_ _)); exact BK122.out) hb); have n6_ := Aside0.mk (below_step (by repeat (first | (with_reducible first | exact HB.out | apply below_alloc | apply pw_below_drewN | apply below_drew1 | refine below_set ?_ GE116.out | refine below_set ?_ GE122.out) | exact HB.out)) hb); clear HO_6; clear HO_7; clear HO_9; clear BK116; clear BK122; clear HB; have HO_6 := n0_; have HO_7 := n1_; have HO_9 := n2_; have HO126 := n3_; have BK116 := n4_; have BK122 := n5_; have HB := n6_; clear n0_ n1_ n2_ n3_ n4_ n5_ n6_; clear hb ho42; obtain ⟨Ao43, co43, eo43⟩ := Kd.R_slice HO_9.out; subst eo43; obtain ⟨Ao44, co44, eo44⟩ := Kd.R_slice HO126.out; subst eo44) | ((with_reducible refine gate_callee (f := 35) rfl ?_); refine goesL_ (some 45) rfl rfl Tryd.func35 (by kernel_rfl) rfl #[.slice Ao43 t117.length co43, .slice Ao44 y124.length co44] rfl (by (try simp only [List.map_toArray, List.map_cons, List.map_nil]); first | done | rfl | (simp only [List.length_drop, List.length_take]; rfl)) ?_; (with_reducible refine (radical_split.calls k1 _ _ t117 _ _ y124 t127 false _ ?side1 ?side2 ?side3 ?side4 A19.out).mono ?_); (case side1 => repeat (first | exact (Kd.R_reads' HO_9.out).2.2 | (with_reducible refine Kd.C_alloc ?_ _) | (with_reducible refine Kd.C_drewN ?_ _) | (with_reducible refine Kd.C_drew ?_))); (case side2 => exact (Kd.R_reads' HO_9.out).2.1); (case side3 => repeat (first | exact (Kd.R_reads' HO126.out).2.2 | (with_reducible refine Kd.C_alloc ?_ _) | (with_reducible refine Kd.C_drewN ?_ _) | (with_reducible refine Kd.C_drew ?_))); (case side4 => exact (Kd.R_reads' HO126.out).2.1); rintro e w' ⟨rfl, ⟨nd, rfl⟩⟩; refine ⟨_, rfl, ?_⟩))
                      go_roundg k1
                      case measure => have := HK1.out; omega
                      case rel => exact ⟨(x6_1), (x7_1), (wrap64 (x29_1 + 1)), (by first | rfl | (simp; done) | (simp [*]; done)), H', ⟨by have := HK1.out; omega⟩, ⟨by (with_reducible repeat (first | apply Kd.R_alloc | apply Kd.R_drewN | apply Kd.R_drew)); exact HO_6.out⟩, ⟨by (with_reducible repeat (first | apply Kd.R_alloc | apply Kd.R_drewN | apply Kd.R_drew)); exact HO_7.out⟩, ⟨by (with_reducible repeat (first | apply Kd.R_alloc | apply Kd.R_drewN | apply Kd.R_drew)); exact Kd.R_mono HO_9.out (fun _ hk => trivial)⟩, ⟨by (with_reducible repeat (first | refine blk_drewN ?_ _ | refine blk_drew ?_ | refine blk_alloc ?_ _)); exact BK116.out⟩, ⟨by repeat (first | (with_reducible first | exact HB.out | apply below_alloc | apply pw_below_drewN | apply below_drew1 | refine below_set ?_ GE116.out | refine below_set ?_ GE122.out) | exact HB.out)⟩⟩
                  · rw [if_neg c18] at H
                    exact absurd H (by simp)
                · rw [if_neg c17] at H
                  have c17b0 : (t123 == 0) = false := beq_eq_false_iff_ne.mpr c17
                  have c17b1 : (t123 != 0) = true := bne_iff_ne.mpr c17
                  simp only [Option.some.injEq, Prod.mk.injEq] at H
                  obtain ⟨rfl, rfl, rfl⟩ := H
                  have p121 : 0 ≤ (x29_1 : Int) := of_decide_eq_true (by first | (with_reducible assumption) | assumption)
                  have q121 : x29_1 < (l2.length : Int) := of_decide_eq_true (by first | (with_reducible assumption) | assumption)
                  obtain ⟨ad121, e121, hx121_0, hx121_1⟩ := at_T32 HR2.out x29_1 p121 q121
                  cases e121
                  replace hx121_0 := (HB.out.cell (World.block_lt_of_cell? w _ hx121_0)).trans hx121_0
                  replace hx121_1 := (HB.out.cell (World.block_lt_of_cell? w _ hx121_1)).trans hx121_1
                  replace p121 := eq_true p121
                  replace q121 := eq_true q121
                  go_wp2_with (first | ((with_reducible refine gate_dst (N := 11) rfl ?_); refine box_event ?hg (N := 11) ?hd (cs := #[.string (⟨#[]⟩ : ByteArray), .string (⟨#[]⟩ : ByteArray)]) (t := 32) ?hr ?_; (case hd => rfl); (case hg => rfl); (case hr => first | (go_simp; done) | (go_simp; rfl)); intro gb122 hg w45 hbox hb; have n0_ := Aside0.mk (Kd.R_below (by (with_reducible repeat (first | apply Kd.R_alloc | apply Kd.R_drewN | apply Kd.R_drew)); exact HO_6.out) hb); have n1_ := Aside0.mk (Kd.R_below (by (with_reducible repeat (first | apply Kd.R_alloc | apply Kd.R_drewN | apply Kd.R_drew)); exact HO_7.out) hb); have n2_ := Aside0.mk (Kd.R_below (by (with_reducible repeat (first | apply Kd.R_alloc | apply Kd.R_drewN | apply Kd.R_drew)); exact HO_9.out) hb); have n3_ := Aside0.mk (blk_below (g := gb116) (o := .cells #[.slice A0_0 l0_0.length c0_0, .slice A0_1 l0_1.length c0_1] 25 (0, 0)) (by (with_reducible repeat (first | refine blk_drewN ?_ _ | refine blk_drew ?_ | refine blk_alloc ?_ _)); exact BK116.out) hb); have n4_ := Aside0.mk (below_step (by repeat (first | (with_reducible first | exact HB.out | apply below_alloc | apply pw_below_drewN | apply below_drew1 | refine below_set ?_ GE116.out) | exact HB.out)) hb); have n5_ := Aside0.mk (hbox); have n6_ := Aside0.mk ((by rw [hg]; exact (below_size (by repeat (first | (with_reducible first | exact HB.out | apply below_alloc | apply pw_below_drewN | apply below_drew1 | refine below_set ?_ GE116.out) | exact HB.out))) : w.heap.size ≤ gb122)); have n7_ := Aside0.mk ((by rw [hg]; exact (below_size (by repeat (first | (with_reducible first | exact HB.out | apply below_alloc | apply pw_below_drewN | apply below_drew1 | refine below_set ?_ GE116.out) | exact HB.out))) : w.heap.size ≤ gb122)); have n8_ := Aside0.mk ((by rw [hg]; exact Nat.ne_of_lt (blk_lt (g := gb116) (o := .cells #[.slice A0_0 l0_0.length c0_0, .slice A0_1 l0_1.length c0_1] 25 (0, 0)) (by (with_reducible repeat (first | refine blk_drewN ?_ _ | refine blk_drew ?_ | refine blk_alloc ?_ _)); exact BK116.out)) : gb116 ≠ gb122)); have n9_ := Aside0.mk ((by rw [hg]; exact Nat.ne_of_gt (blk_lt (g := gb116) (o := .cells #[.slice A0_0 l0_0.length c0_0, .slice A0_1 l0_1.length c0_1] 25 (0, 0)) (by (with_reducible repeat (first | refine blk_drewN ?_ _ | refine blk_drew ?_ | refine blk_alloc ?_ _)); exact BK116.out)) : gb122 ≠ gb116)); clear HO_6; clear HO_7; clear HO_9; clear BK116; clear HB; have HO_6 := n0_; have HO_7 := n1_; have HO_9 := n2_; have BK116 := n3_; have HB := n4_; have BK122 := n5_; have GW122 := n6_; have GE122 := n7_; have NB116_122 := n8_; have NB122_116 := n9_; clear n0_ n1_ n2_ n3_ n4_ n5_ n6_ n7_ n8_ n9_; clear hb hbox hg; have hnb46 := NB122_116.out; have hnc46 := NB116_122.out; have hcz47_0 : w45.cell? ⟨gb122, 0, none⟩ = some (.string (⟨#[]⟩ : ByteArray)) := (blk_cell BK122.out 0).trans rfl; have hcz47_1 : w45.cell? ⟨gb122, 1, none⟩ = some (.string (⟨#[]⟩ : ByteArray)) := (blk_cell BK122.out 1).trans rfl; have hfz47_0 := blk_frozen BK122.out 0; have hfz47_1 := blk_frozen BK122.out 1; have hcz48_0 : w45.cell? ⟨gb116, 0, none⟩ = some (.slice A0_0 l0_0.length c0_0) := (blk_cell BK116.out 0).trans rfl; have hcz48_1 : w45.cell? ⟨gb116, 1, none⟩ = some (.slice A0_1 l0_1.length c0_1) := (blk_cell BK116.out 1).trans rfl; have hfz48_0 := blk_frozen BK116.out 0; have hfz48_1 := blk_frozen BK116.out 1) | ((with_reducible refine gate_callee (f := 22) rfl ?_); refine goesL_ (some 36) rfl rfl Tryd.func22 (by kernel_rfl) rfl #[.agg #[.slice A0_0 l0_0.length c0_0, .slice A0_1 l0_1.length c0_1], .agg #[.string ((rd_T32 l2 x29_1).f0), .string ((rd_T32 l2 x29_1).f1)]] rfl (by (try simp only [List.map_toArray, List.map_cons, List.map_nil]); first | done | rfl | (simp only [List.length_drop, List.length_take]; rfl)) ?_; (with_reducible refine (radical_Check.calls _ _ l0_0 _ _ l0_1 ((rd_T32 l2 x29_1).f0) ((rd_T32 l2 x29_1).f1) t123 _ ?side1 ?side2 ?side3 ?side4 ?side5 A16.out).mono ?_); (case side1 => exact Kd.C_below HR0_0.out (by repeat (first | (with_reducible first | exact HB.out | apply below_alloc | apply pw_below_drewN | apply below_drew1 | refine below_set ?_ GE116.out | refine below_set ?_ GE122.out) | exact HB.out))); (case side2 => exact HC0_0.out); (case side3 => exact Kd.C_below HR0_1.out (by repeat (first | (with_reducible first | exact HB.out | apply below_alloc | apply pw_below_drewN | apply below_drew1 | refine below_set ?_ GE116.out | refine below_set ?_ GE122.out) | exact HB.out))); (case side4 => exact HC0_1.out); (case side5 => exact Tabs.below HT.out (by repeat (first | (with_reducible first | exact HB.out | apply below_alloc | apply pw_below_drewN | apply below_drew1 | refine below_set ?_ GE116.out | refine below_set ?_ GE122.out) | exact HB.out))); rintro e w49 ⟨rfl, hb⟩; refine ⟨_, rfl, ?_⟩; have n0_ := Aside0.mk (Kd.R_below (by (with_reducible repeat (first | apply Kd.R_alloc | apply Kd.R_drewN | apply Kd.R_drew)); exact (Kd.R_mono (Kd.R_far (p := ⟨gb122, 1, none⟩) (Kd.R_far (p := ⟨gb122, 0, none⟩) (Kd.R_types HO_6.out BK122.out (by decide)) (fun _ hk => hk.2) (.string ((rd_T32 l2 x29_1).f0))) (fun _ hk => hk.2) (.string ((rd_T32 l2 x29_1).f1))) (fun _ h_ => h_.1))) hb); have n1_ := Aside0.mk (Kd.R_below (by (with_reducible repeat (first | apply Kd.R_alloc | apply Kd.R_drewN | apply Kd.R_drew)); exact (Kd.R_mono (Kd.R_far (p := ⟨gb122, 1, none⟩) (Kd.R_far (p := ⟨gb122, 0, none⟩) (Kd.R_types HO_7.out BK122.out (by decide)) (fun _ hk => hk.2) (.string ((rd_T32 l2 x29_1).f0))) (fun _ hk => hk.2) (.string ((rd_T32 l2 x29_1).f1))) (fun _ h_ => h_.1))) hb); have n2_ := Aside0.mk (Kd.R_below (by (with_reducible repeat (first | apply Kd.R_alloc | apply Kd.R_drewN | apply Kd.R_drew)); exact (Kd.R_mono (Kd.R_far (p := ⟨gb122, 1, none⟩) (Kd.R_far (p := ⟨gb122, 0, none⟩) (Kd.R_types HO_9.out BK122.out (by decide)) (fun _ hk => hk.2) (.string ((rd_T32 l2 x29_1).f0))) (fun _ hk => hk.2) (.string ((rd_T32 l2 x29_1).f1))) (fun _ h_ => h_.1))) hb); have n3_ := Aside0.mk (blk_below (g := gb116) (o := .cells #[.slice A0_0 l0_0.length c0_0, .slice A0_1 l0_1.length c0_1] 25 (0, 0)) (by (with_reducible repeat (first | refine blk_drewN ?_ _ | refine blk_drew ?_ | refine blk_alloc ?_ _)); refine blk_far ?_ NB116_122.out _; (with_reducible repeat (first | refine blk_drewN ?_ _ | refine blk_drew ?_ | refine blk_alloc ?_ _)); refine blk_far ?_ NB116_122.out _; (with_reducible repeat (first | refine blk_drewN ?_ _ | refine blk_drew ?_ | refine blk_alloc ?_ _)); exact BK116.out) hb); have n4_ := Aside0.mk (blk_below (g := gb122) (o := .cells #[.string ((rd_T32 l2 x29_1).f0), .string ((rd_T32 l2 x29_1).f1)] 32 (0, 0)) (by (with_reducible repeat (first | refine blk_drewN ?_ _ | refine blk_drew ?_ | refine blk_alloc ?_ _)); refine blk_put (cs := #[.string ((rd_T32 l2 x29_1).f0), .string (⟨#[]⟩ : ByteArray)]) ?_ 1 _ rfl; (with_reducible repeat (first | refine blk_drewN ?_ _ | refine blk_drew ?_ | refine blk_alloc ?_ _)); refine blk_put (cs := #[.string (⟨#[]⟩ : ByteArray), .string (⟨#[]⟩ : ByteArray)]) ?_ 0 _ rfl; (with_reducible repeat (first | refine blk_drewN ?_ _ | refine blk_drew ?_ | refine blk_alloc ?_ _)); exact BK122.out) hb); have n5_ := Aside0.mk (below_step (by repeat (first | (with_reducible first | exact HB.out | apply below_alloc | apply pw_below_drewN | apply below_drew1 | refine below_set ?_ GE116.out | refine below_set ?_ GE122.out) | exact HB.out)) hb); clear HO_6; clear HO_7; clear HO_9; clear BK116; clear BK122; clear HB; have HO_6 := n0_; have HO_7 := n1_; have HO_9 := n2_; have BK116 := n3_; have BK122 := n4_; have HB := n5_; clear n0_ n1_ n2_ n3_ n4_ n5_; (try clear hb); (try clear hb2); (try clear hk); (try clear hi)))
                  go_ret3
                  exact ⟨_, _, by first | rfl | (simp [errW_none, errW_some] <;> rfl) | (simp [*, errW_none, errW_some] <;> rfl), by first | exact Kd.R_nil _ _ _ _ _ | exact Kd.N_nil _ _ _ _ _ | exact Kd.V_nil _ _ _ _ _ | exact Kd.Q_nil _ _ _ _ _ | exact Kd.S_nil _ _ _ _ _, by first | exact Kd.R_nil _ _ _ _ _ | exact Kd.N_nil _ _ _ _ _ | exact Kd.V_nil _ _ _ _ _ | exact Kd.Q_nil _ _ _ _ _ | exact Kd.S_nil _ _ _ _ _, by repeat (first | (with_reducible first | exact HB.out | apply below_alloc | apply pw_below_drewN | apply below_drew1 | refine below_set ?_ GE116.out | refine below_set ?_ GE122.out) | exact HB.out)⟩
              · rw [if_neg c15] at H
                exact absurd H (by simp)
            · rw [if_neg c14] at H
              exact absurd H (by simp)
          · rw [if_neg c13] at H
            have c13b0 : decide (x29_1 < (l2.length : Int)) = false := decide_eq_false c13
            clear c13
            simp only [Option.some.injEq, Prod.mk.injEq] at H
            obtain ⟨rfl, rfl, rfl⟩ := H
            go_wp2
            go_ret3
            exact ⟨_, _, by first | rfl | (simp [errW_none, errW_some] <;> rfl) | (simp [*, errW_none, errW_some] <;> rfl), by (with_reducible repeat (first | apply Kd.R_alloc | apply Kd.R_drewN | apply Kd.R_drew)); exact HO_6.out, by (with_reducible repeat (first | apply Kd.R_alloc | apply Kd.R_drewN | apply Kd.R_drew)); exact HO_7.out, by repeat (first | (with_reducible first | exact HB.out | apply below_alloc | apply pw_below_drewN | apply below_drew1 | refine below_set ?_ GE116.out) | exact HB.out)⟩
  · rw [if_neg c5] at H
    have c5b0 : (t120 == 0) = false := beq_eq_false_iff_ne.mpr c5
    have c5b1 : (t120 != 0) = true := bne_iff_ne.mpr c5
    simp only [Option.some.injEq, Prod.mk.injEq] at H
    obtain ⟨rfl, rfl, rfl⟩ := H
    go_enter Tryd.func19, Tryd.ntmps19
    go_wp2_with (first | ((with_reducible refine gate_dst (N := 3) rfl ?_); refine box_event ?hg (N := 3) ?hd (cs := #[.slice A0_0 l0_0.length c0_0, .slice A0_1 l0_1.length c0_1]) (t := 25) ?hr ?_; (case hd => rfl); (case hg => rfl); (case hr => first | (go_simp; done) | (go_simp; rfl)); intro gb116 hg w50 hbox hb; have n0_ := Aside0.mk (below_step (by repeat (first | (with_reducible first | exact HB.out | apply below_alloc | apply pw_below_drewN | apply below_drew1) | exact HB.out)) hb); have n1_ := Aside0.mk (hbox); have n2_ := Aside0.mk ((by rw [hg]; exact (below_size (by repeat (first | (with_reducible first | exact HB.out | apply below_alloc | apply pw_below_drewN | apply below_drew1) | exact HB.out))) : w.heap.size ≤ gb116)); have n3_ := Aside0.mk ((by rw [hg]; exact (below_size (by repeat (first | (with_reducible first | exact HB.out | apply below_alloc | apply pw_below_drewN | apply below_drew1) | exact HB.out))) : w.heap.size ≤ gb116)); clear HB; have HB := n0_; have BK116 := n1_; have GW116 := n2_; have GE116 := n3_; clear n0_ n1_ n2_ n3_; clear hb hbox hg; have hcz51_0 : w50.cell? ⟨gb116, 0, none⟩ = some (.slice A0_0 l0_0.length c0_0) := (blk_cell BK116.out 0).trans rfl; have hcz51_1 : w50.cell? ⟨gb116, 1, none⟩ = some (.slice A0_1 l0_1.length c0_1) := (blk_cell BK116.out 1).trans rfl; have hfz51_0 := blk_frozen BK116.out 0; have hfz51_1 := blk_frozen BK116.out 1) | ((with_reducible refine gate_callee (f := 27) rfl ?_); refine goesL_ (some 18) rfl rfl Tryd.func27 (by kernel_rfl) rfl #[.agg #[.slice A0_0 l0_0.length c0_0, .slice A0_1 l0_1.length c0_1], .string a1] rfl (by (try simp only [List.map_toArray, List.map_cons, List.map_nil]); first | done | rfl | (simp only [List.length_drop, List.length_take]; rfl)) ?_; (with_reducible refine (word_Letters.calls _ _ l0_0 _ _ l0_1 a1 t117 t120 _ ?side1 ?side2 ?side3 ?side4 ?side5 A4.out).mono ?_); (case side1 => repeat (first | exact (Kd.C_below HR0_0.out HB.out) | (with_reducible refine Kd.C_alloc ?_ _) | (with_reducible refine Kd.C_drewN ?_ _) | (with_reducible refine Kd.C_drew ?_))); (case side2 => exact HC0_0.out); (case side3 => repeat (first | exact (Kd.C_below HR0_1.out HB.out) | (with_reducible refine Kd.C_alloc ?_ _) | (with_reducible refine Kd.C_drewN ?_ _) | (with_reducible refine Kd.C_drew ?_))); (case side4 => exact HC0_1.out); (case side5 => exact Tabs.below HT.out (by repeat (first | (with_reducible first | exact HB.out | apply below_alloc | apply pw_below_drewN | apply below_drew1 | refine below_set ?_ GE116.out) | exact HB.out))); rintro e w52 ⟨v118, rfl, ho0, hb⟩; refine ⟨_, rfl, ?_⟩; have n0_ := Aside0.mk (Kd.R_lower ho0 (below_size (by repeat (first | (with_reducible first | exact HB.out | apply below_alloc | apply pw_below_drewN | apply below_drew1 | refine below_set ?_ GE116.out) | exact HB.out)))); have n1_ := Aside0.mk (blk_below (g := gb116) (o := .cells #[.slice A0_0 l0_0.length c0_0, .slice A0_1 l0_1.length c0_1] 25 (0, 0)) (by (with_reducible repeat (first | refine blk_drewN ?_ _ | refine blk_drew ?_ | refine blk_alloc ?_ _)); exact BK116.out) hb); have n2_ := Aside0.mk (below_step (by repeat (first | (with_reducible first | exact HB.out | apply below_alloc | apply pw_below_drewN | apply below_drew1 | refine below_set ?_ GE116.out) | exact HB.out)) hb); clear BK116; clear HB; have HO119 := n0_; have BK116 := n1_; have HB := n2_; clear n0_ n1_ n2_; (try clear hb); (try clear hb2); (try clear hk); (try clear hi); (try clear ho0)))
    go_ret3
    exact ⟨_, _, by first | rfl | (simp [errW_none, errW_some] <;> rfl) | (simp [*, errW_none, errW_some] <;> rfl), by first | exact Kd.R_nil _ _ _ _ _ | exact Kd.N_nil _ _ _ _ _ | exact Kd.V_nil _ _ _ _ _ | exact Kd.Q_nil _ _ _ _ _ | exact Kd.S_nil _ _ _ _ _, by first | exact Kd.R_nil _ _ _ _ _ | exact Kd.N_nil _ _ _ _ _ | exact Kd.V_nil _ _ _ _ _ | exact Kd.Q_nil _ _ _ _ _ | exact Kd.S_nil _ _ _ _ _, by repeat (first | (with_reducible first | exact HB.out | apply below_alloc | apply pw_below_drewN | apply below_drew1 | refine below_set ?_ GE116.out) | exact HB.out)⟩

end Go.Proofs.YtdeichibnnbjdaaDoor.RRm
end
section
/-
  radical.Split, All, Skip: what the printed functions compute, in plain words; contracts.
-/
set_option linter.unusedSimpArgs false
set_option linter.unusedVariables false
namespace Go.Proofs.YtdeichibnnbjdaaDoor
open Go.RowKit Go.Proofs.YtdeichibnnbjdaaDoorW.PrintWords Go.Proofs.YtdeichibnnbjdaaDoorW.PrintLast Go.Proofs.YtdeichibnnbjdaaDoorW.PrintMore Go.Proofs.YtdeichibnnbjdaaDoor.Ext

theorem runesBytes_cons (x : Int) (l : List Int) : runesBytes (x :: l) = Utf8.encode x ++ runesBytes l := by
  rw [← runesBytes_one, ← runesBytes_append]
  rfl
theorem bytes_assoc (a b c : ByteArray) : (a ++ b) ++ c = a ++ (b ++ c) := by
  apply bytes_ext
  simp
theorem bytes_nil (a : ByteArray) : a ++ noB = a := by
  apply bytes_ext
  simp
theorem nil_bytes (a : ByteArray) : noB ++ a = a := by
  apply bytes_ext
  simp
theorem pickH_cons (x y : Int) (xs ys : List Int) : pickH (x :: xs) (y :: ys) = if y = 95 then (pickH xs ys).map (x :: ·) else if y = x then pickH xs ys else none := by rw [pickH]
def pickO (a : ByteArray) (o : Option (List Int)) : ByteArray × Bool := match o with | some q => (a ++ runesBytes q, true) | none => (noB, false)
theorem split_loop (l f : List Int) (hl : l.length = f.length) (h64 : l.length ≤ 100000) : ∀ (n i k : Nat) (a : ByteArray), i + n = f.length → n + 1 ≤ k → a.size ≤ 4 * i →
    RRm.radical_split.l0 k l a f (f.length : Int) (i : Int) = some (pickO a (pickH (l.drop i) (f.drop i)))
  | 0, i, k, a, hi, hk, ha => by
    obtain ⟨k, rfl⟩ : ∃ q, k = q + 1 := ⟨k - 1, by omega⟩
    unfold RRm.radical_split.l0
    rw [if_neg (by omega), List.drop_of_length_le (by omega), List.drop_of_length_le (by omega)]
    unfold pickH pickO
    dsimp only
    rw [runesBytes_nil, bytes_nil]
  | n + 1, i, k, a, hi, hk, ha => by
    obtain ⟨k, rfl⟩ : ∃ q, k = q + 1 := ⟨k - 1, by omega⟩
    have hlt : i < f.length := by omega
    have hlt2 : i < l.length := by omega
    have e : (i : Int) + 1 = ((i + 1 : Nat) : Int) := by omega
    have h4 := encode_size_le l[i]
    unfold RRm.radical_split.l0
    rw [if_pos (by omega), if_pos (by omega), if_pos (by omega), rd_at f i hlt, rd_at l i hlt2, wrap_succ (by omega) (by omega), e, List.drop_eq_getElem_cons hlt, List.drop_eq_getElem_cons hlt2]
    by_cases hc : f[i] = 95
    · rw [if_pos hc, if_pos (by omega), if_pos (by omega), split_loop l f hl h64 n (i + 1) k _ (by omega) (by omega) (by rw [ByteArray.size_append]; omega)]
      generalize l.drop (i + 1) = t
      generalize f.drop (i + 1) = u
      rw [pickH_cons, if_pos hc]
      cases pickH t u with
      | none => rfl
      | some q =>
        show some (_, _) = some (_, _)
        rw [runesBytes_cons, bytes_assoc]
    · rw [if_neg hc, if_pos (by omega)]
      by_cases hd : f[i] = l[i]
      · rw [if_pos hd, split_loop l f hl h64 n (i + 1) k a (by omega) (by omega) (by omega)]
        generalize l.drop (i + 1) = t
        generalize f.drop (i + 1) = u
        rw [pickH_cons, if_neg hc, if_pos hd]
      · rw [if_neg hd]
        generalize l.drop (i + 1) = t
        generalize f.drop (i + 1) = u
        rw [pickH_cons, if_neg hc, if_neg hd]
        rfl
theorem pick_len {w f l : List Int} (h : pickH w f = some l) : w.length = f.length := (fill_pick w f l h).2.2.2
theorem split_eq (l f : List Int) (h64 : l.length ≤ 100000) (k : Nat) (hk : l.length + 1 ≤ k) : RRm.radical_split.f k l f = some (pickB l f) := by
  unfold RRm.radical_split.f
  by_cases hl : l.length = f.length
  · rw [if_pos (by omega)]
    have := split_loop l f hl h64 f.length 0 k noB (by omega) (by omega) (by show (0 : Nat) ≤ _; omega)
    rw [List.drop_zero, List.drop_zero] at this
    have e0 : ((0 : Nat) : Int) = 0 := rfl
    rw [e0] at this
    rw [this]
    unfold pickO pickB
    cases pickH l f with
    | none => rfl
    | some q =>
      show some (_, _) = some (_, _)
      rw [nil_bytes]
  · rw [if_neg (by omega)]
    congr 1
    unfold pickB
    cases hp : pickH l f with
    | none => rfl
    | some q => exact absurd (pick_len hp) hl
theorem form_size {ks : List Int} {f : ByteArray} (h : formS ks f = true) : f.size ≤ 256 := by
  have hf := formS_ok h
  have h1 := runes_back f hf.1
  have h2 := runesBytes_size (runesOf f) (runes_valid f hf.1)
  rw [h1] at h2
  omega
def sizedS (n f : ByteArray) : Prop := n.size ≤ 9223372036854775807 ∧ f.size < 9223372036854775807
instance (n f : ByteArray) : Decidable (sizedS n f) := by unfold sizedS; infer_instance
theorem rcheck_eq (l0 : List ByteArray) (l1 : List Letter) {n f : ByteArray} (hs : sizedS n f) : radical_Check.f l0 l1 n f = some (chkS l0 l1 n f) := if_pos hs
theorem Split_eq (l0 : List ByteArray) (l1 : List Letter) (w n f : ByteArray) (hs : sizedS n f) (k : Nat) (hk : 200 ≤ k) : RRm.radical_Split.f k l0 l1 w n f = some (splitOf l0 l1 w n f) := by
  unfold RRm.radical_Split.f word_Letters.f splitOf
  rw [Option.bind_some]
  by_cases h : (lettersOf l0 l1 w).2 = 0
  · rw [if_pos h, if_pos h, rcheck_eq l0 l1 hs, Option.bind_some]
    by_cases hc : chkS l0 l1 n f = 0
    · have := form_size (chkS_zero hc).2.2
      have h64 := lettersOf_len l0 l1 w
      rw [if_pos hc, if_pos hc, if_pos (by omega), split_eq _ _ (by omega) k (by omega), Option.bind_some]
    · rw [if_neg hc, if_neg hc]
  · rw [if_neg h, if_neg h]
/-- All shapes that make a word's letters. -/
def allG (l0 : List ByteArray) (l1 : List Letter) (x : List Int) : List Shape → Nat → List ByteArray → List Int → List ByteArray × List Int × Int
  | [], _, rs, ns => (rs, ns, 0)
  | s :: ss, i, rs, ns => if chkS l0 l1 s.f0 s.f1 = 0 then (match pickH x (runesOf s.f1) with | some q => allG l0 l1 x ss (i + 1) (rs ++ [runesBytes q]) (ns ++ [(i : Int)]) | none => allG l0 l1 x ss (i + 1) rs ns) else ([], [], chkS l0 l1 s.f0 s.f1)
def allOf (l0 : List ByteArray) (l1 : List Letter) (w : ByteArray) (L : List Shape) : List ByteArray × List Int × Int :=
  if (lettersOf l0 l1 w).2 = 0 then (if (L.length : Int) > 4096 then ([], [], 4) else allG l0 l1 (lettersOf l0 l1 w).1 L 0 [] []) else ([], [], (lettersOf l0 l1 w).2)
theorem rdS (L : List Shape) (i : Nat) (h : i < L.length) : rd_T32 L (i : Int) = L[i] := by
  simp [rd_T32, List.getD_eq_getElem?_getD, List.getElem?_eq_getElem h]
theorem All_loop (l0 : List ByteArray) (l1 : List Letter) (x : List Int) (hx : x.length ≤ 64) (L : List Shape) (hL : L.length ≤ 4096) (hs : ∀ s ∈ L, sizedS s.f0 s.f1) : ∀ (n i k : Nat) (rs : List ByteArray) (ns : List Int), i + n = L.length → n + 100 ≤ k → rs.length ≤ i → ns.length ≤ i →
    RRm.radical_All.l0 k rs ns x L (L.length : Int) (i : Int) l0 l1 = some (allG l0 l1 x (L.drop i) i rs ns)
  | 0, i, k, rs, ns, hi, hk, hr, hn => by
    obtain ⟨k, rfl⟩ : ∃ q, k = q + 1 := ⟨k - 1, by omega⟩
    unfold RRm.radical_All.l0
    rw [if_neg (by omega), List.drop_of_length_le (by omega)]
    rfl
  | n + 1, i, k, rs, ns, hi, hk, hr, hn => by
    obtain ⟨k, rfl⟩ : ∃ q, k = q + 1 := ⟨k - 1, by omega⟩
    have hlt : i < L.length := by omega
    have e : (i : Int) + 1 = ((i + 1 : Nat) : Int) := by omega
    unfold RRm.radical_All.l0
    rw [if_pos (by omega), if_pos (by omega), if_pos (by omega), rdS L i hlt, rcheck_eq l0 l1 (hs _ (List.getElem_mem hlt)), Option.bind_some, List.drop_eq_getElem_cons hlt, wrap_succ (by omega) (by omega), e]
    have ih := fun rs ns hr hn => All_loop l0 l1 x hx L hL hs n (i + 1) k rs ns (by omega) (by omega) hr hn
    generalize L.drop (i + 1) = t at ih ⊢
    unfold allG
    by_cases hc : chkS l0 l1 L[i].f0 L[i].f1 = 0
    · have := form_size (chkS_zero hc).2.2
      rw [if_pos hc, if_pos hc, if_pos (by omega), split_eq x _ (by omega) k (by omega), Option.bind_some]
      unfold pickB
      cases pickH x (runesOf L[i].f1) with
      | none =>
        dsimp only
        rw [if_neg (by simp)]
        exact ih rs ns (by omega) (by omega)
      | some q =>
        dsimp only
        rw [if_pos rfl, if_pos (by omega), if_pos (by omega)]
        exact ih _ _ (by simp; omega) (by simp; omega)
    · rw [if_neg hc, if_neg hc]
theorem All_eq (l0 : List ByteArray) (l1 : List Letter) (w : ByteArray) (L : List Shape) (hs : ∀ s ∈ L, sizedS s.f0 s.f1) (k : Nat) (hk : 5000 ≤ k) : RRm.radical_All.f k l0 l1 w L = some (allOf l0 l1 w L) := by
  unfold RRm.radical_All.f word_Letters.f allOf
  rw [Option.bind_some]
  by_cases h : (lettersOf l0 l1 w).2 = 0
  · rw [if_pos h, if_pos h]
    by_cases hL : (L.length : Int) > 4096
    · rw [if_pos hL, if_pos hL]
    · rw [if_neg hL, if_neg hL]
      have := All_loop l0 l1 _ (lettersOf_len l0 l1 w) L (by omega) hs L.length 0 k [] [] (by omega) (by omega) (by simp) (by simp)
      simpa using this
  · rw [if_neg h, if_neg h]

/-! ### skipped through (the text of another printing) -/
theorem Skip1_loop (l w : List Int) (hl : l.length ≤ 64) (hw : w.length ≤ 64) : ∀ (n i k : Nat) (acc : List Int), i + n = w.length → n + 1 ≤ k → acc.length ≤ l.length →
    RF1.radical_Skip.l0 k l acc w (w.length : Int) (i : Int) = RRw.radical_Skip.l0 k l acc w (w.length : Int) (i : Int)
  | 0, i, k, acc, hi, hk, ha => by
    obtain ⟨k, rfl⟩ : ∃ q, k = q + 1 := ⟨k - 1, by omega⟩
    have h1 : ¬ ((i : Int) < (w.length : Int)) := by omega
    unfold RF1.radical_Skip.l0 RRw.radical_Skip.l0
    rw [if_neg h1, if_neg h1]
  | n + 1, i, k, acc, hi, hk, ha => by
    obtain ⟨k, rfl⟩ : ∃ q, k = q + 1 := ⟨k - 1, by omega⟩
    have e : wrap64 ((i : Int) + 1) = ((i + 1 : Nat) : Int) := by rw [wrap_succ (by omega) (by omega)]; omega
    unfold RF1.radical_Skip.l0 RRw.radical_Skip.l0
    rw [e]
    have ih := fun acc h => Skip1_loop l w hl hw n (i + 1) k acc (by omega) (by omega) h
    by_cases hq : acc.length < l.length
    · rw [ih acc ha, ih (acc ++ [(i : Int)]) (by simp; omega)]
    · have h1 : ¬ ((acc.length : Int) < (l.length : Int)) := by omega
      simp only [h1, if_false]
      rw [ih acc ha]
theorem Skip1_eq (l0 : List ByteArray) (l1 : List Letter) (r s : ByteArray) (k : Nat) (hk : 200 ≤ k) : RF1.radical_Skip.f k l0 l1 r s = some (skipOf l0 l1 r s) := by
  rw [← Skip_eq l0 l1 r s k hk]
  unfold RF1.radical_Skip.f RRw.radical_Skip.f word_Letters.f
  rw [Option.bind_some, Option.bind_some]
  have h1 := lettersOf_len l0 l1 r
  have h2 := lettersOf_len l0 l1 s
  have := Skip1_loop _ _ h1 h2 (lettersOf l0 l1 s).1.length 0 k [] (by omega) (by omega) (by simp)
  have e0 : ((0 : Nat) : Int) = 0 := rfl
  rw [e0] at this
  rw [this]
  rfl

namespace Ext
def radical_Split.f (l0 : List ByteArray) (l1 : List Letter) (w n f : ByteArray) : Option (ByteArray × Bool × Int) := if sizedS n f then some (splitOf l0 l1 w n f) else none
theorem radical_Split.calls (A0 : Option Addr) (c0 : Nat) (l0 : List ByteArray) (A1 : Option Addr) (c1 : Nat) (l1 : List Letter) (s n f : ByteArray) (r1 : ByteArray) (r2 : Bool) (r3 : Int) (w : World) (hF : Kd.C Kd.string w A0 l0.length l0) (hcF : l0.length ≤ c0) (hL : Kd.C kLetter w A1 l1.length l1) (hcL : l1.length ≤ c1) (hT : Tabs w)
    (h : radical_Split.f l0 l1 s n f = some (r1, r2, r3)) :
    Calls Tryd.prog 17 #[.agg #[.slice A0 l0.length c0, .slice A1 l1.length c1], .string s, .agg #[.string n, .string f]] w fun e w' => e = .returned (.tuple #[.string r1, .bool r2, .int .i64 r3]) ∧ Below w.heap.size w w' := by
  unfold radical_Split.f at h
  split at h
  · rename_i hs
    exact RRm.radical_Split.calls 200 A0 c0 l0 A1 c1 l1 s n f r1 r2 r3 w hF hcF hL hcL hT ((Split_eq l0 l1 s n f hs 200 (Nat.le_refl _)).trans h)
  · cases h
instance (L : List Shape) : Decidable (∀ s ∈ L, sizedS s.f0 s.f1) := List.decidableBAll _ _
def radical_All.f (l0 : List ByteArray) (l1 : List Letter) (w : ByteArray) (L : List Shape) : Option (List ByteArray × List Int × Int) := if ∀ s ∈ L, sizedS s.f0 s.f1 then some (allOf l0 l1 w L) else none
theorem radical_All.calls (A0 : Option Addr) (c0 : Nat) (l0 : List ByteArray) (A1 : Option Addr) (c1 : Nat) (l1 : List Letter) (s : ByteArray) (A2 : Option Addr) (c2 : Nat) (L : List Shape) (r1 : List ByteArray) (r2 : List Int) (r3 : Int) (w : World) (hF : Kd.C Kd.string w A0 l0.length l0) (hcF : l0.length ≤ c0) (hL : Kd.C kLetter w A1 l1.length l1) (hcL : l1.length ≤ c1) (hS : Kd.C kShape w A2 L.length L) (hcS : L.length ≤ c2) (hT : Tabs w)
    (h : radical_All.f l0 l1 s L = some (r1, r2, r3)) :
    Calls Tryd.prog 19 #[.agg #[.slice A0 l0.length c0, .slice A1 l1.length c1], .string s, .slice A2 L.length c2] w fun e w' => ∃ v0_ v1_ : Value, e = .returned (.tuple #[v0_, v1_, .int .i64 r3]) ∧ Kd.R Kd.string 9 w' w.heap.size (fun _ => True) v0_ r1 ∧ Kd.R (Kd.int .i64) 3 w' w.heap.size (fun _ => True) v1_ r2 ∧ Below w.heap.size w w' := by
  unfold radical_All.f at h
  split at h
  · rename_i hs
    exact RRm.radical_All.calls 5000 A0 c0 l0 A1 c1 l1 s A2 c2 L r1 r2 r3 w hF hcF hL hcL hS hcS hT ((All_eq l0 l1 s L hs 5000 (Nat.le_refl _)).trans h)
  · cases h
def radical_Skip.f (l0 : List ByteArray) (l1 : List Letter) (r s : ByteArray) : Option (List Int × Bool × Int) := some (skipOf l0 l1 r s)
theorem radical_Skip.calls (A0 : Option Addr) (c0 : Nat) (l0 : List ByteArray) (A1 : Option Addr) (c1 : Nat) (l1 : List Letter) (a1 a2 : ByteArray) (r1 : List Int) (r2 : Bool) (r3 : Int) (w : World) (hF : Kd.C Kd.string w A0 l0.length l0) (hcF : l0.length ≤ c0) (hL : Kd.C kLetter w A1 l1.length l1) (hcL : l1.length ≤ c1) (hT : Tabs w)
    (h : radical_Skip.f l0 l1 a1 a2 = some (r1, r2, r3)) :
    Calls Tryd.prog 12 #[.agg #[.slice A0 l0.length c0, .slice A1 l1.length c1], .string a1, .string a2] w fun e w' => ∃ v0_ : Value, e = .returned (.tuple #[v0_, .bool r2, .int .i64 r3]) ∧ Kd.R (Kd.int .i64) 3 w' w.heap.size (fun _ => True) v0_ r1 ∧ Below w.heap.size w w' :=
  RF1.radical_Skip.calls 200 A0 c0 l0 A1 c1 l1 a1 a2 r1 r2 r3 w hF hcF hL hcL hT ((Skip1_eq l0 l1 a1 a2 200 (Nat.le_refl _)).trans h)
def radical_Holes.f (n f : ByteArray) : Option Int := some ((f.data.toList.count 95 : Nat) : Int)
theorem radical_Holes.calls (n f : ByteArray) (r : Int) (w : World) (h : radical_Holes.f n f = some r) :
    Calls Tryd.prog 24 #[.agg #[.string n, .string f]] w fun e w' => e = .returned (.int .i64 r) ∧ Below w.heap.size w w' := RF1.radical_Holes.calls n f r w h
end Ext
end Go.Proofs.YtdeichibnnbjdaaDoor
end
section
-- printed by a program of this session (wip/tools/prx.sh: a turned copy of the kit's print, with functions given from outside)
namespace Go.Proofs.YtdeichibnnbjdaaDoor.RRb
open Go.RowKit Go.Proofs.YtdeichibnnbjdaaDoor Go.Proofs.YtdeichibnnbjdaaDoor.Ext Go.Proofs.YtdeichibnnbjdaaDoorW.PrintWords Go.Proofs.YtdeichibnnbjdaaDoorW.PrintLast Go.Proofs.YtdeichibnnbjdaaDoorW.PrintMore
attribute [local go_sem] max2_int min2_int max_two min_two max_three min_three max_four min_four   -- for this text's walks alone
set_option linter.unusedVariables false
set_option linter.unusedSimpArgs false



end Go.Proofs.YtdeichibnnbjdaaDoor.RRb
end
section
-- printed by a program of this session (wip/tools/prx.sh: a turned copy of the kit's print, with functions given from outside)
namespace Go.Proofs.YtdeichibnnbjdaaDoor.RRb
open Go.RowKit Go.Proofs.YtdeichibnnbjdaaDoor Go.Proofs.YtdeichibnnbjdaaDoor.Ext Go.Proofs.YtdeichibnnbjdaaDoorW.PrintWords Go.Proofs.YtdeichibnnbjdaaDoorW.PrintLast Go.Proofs.YtdeichibnnbjdaaDoorW.PrintMore
attribute [local go_sem] max2_int min2_int max_two min_two max_three min_three max_four min_four   -- for this text's walks alone
set_option linter.unusedVariables false
set_option linter.unusedSimpArgs false

theorem eqA32 (d : Nat) (w : World) (x0 y0 : ByteArray) (x1 y1 : ByteArray) :
    (Op.equalIn (d + 2) 32 (.agg #[.string x0, .string x1]) (.agg #[.string y0, .string y1])).run Tryd.prog w = .ok (x0.toList == y0.toList && (x1.toList == y1.toList)) w := by
  refine eqA_of Tryd.underlying32 (by kernel_rfl) ?_
  refine eqf_cons (by rfl) (by go_simp; rfl) (by go_simp; rfl) (by go_simp) ?_
  exact eqf_last (by rfl) (by go_simp; rfl) (by go_simp; rfl) (by go_simp)
end Go.Proofs.YtdeichibnnbjdaaDoor.RRb
end
