/-
  ParadigmFind: of any paradigm just the cells with all tags, rising; no condition but that the tables of utf8 stand as their text lays them.
-/
import Derived.Test.YthmjheclhcdinaaDoorClP2
import Derived.Outline
import Derived.Laws.IdiomStrings
import Derived.Test.YthmjheclhcdinaaDoorProg
import Derived.Below
import Derived.Deep.Draws
import Derived.Deep.AppendLies
import Derived.Maps.AppendAt
import Derived.OwnWalk
import Derived.Laws.BytesArg
import Derived.Laws.MakeOwn
import Derived.Laws.OwnMore
import Derived.Deep.OwnRows
import Derived.Tactics
import Derived.Lib.ConvBytes
import Derived.Laws.Slices
import Derived.WalkKit
import Derived.KernelRfl
import Derived.RowKit3
import Derived.Deep.LoopGhost
import Derived.Deep.QuietTactic
import Derived.BigQuiet
import Derived.WideLaws
import Derived.Deep.DeepCutAuto
import Derived.Deep.CutBlock
import Derived.Deep.RegionHeld3
import Derived.Laws.Rows
import Derived.Lib.AppendStr
import Derived.ArgAppend
import Derived.Laws.IdiomCopy
import Derived.OrdersHeld
import Derived.Laws.BitsLemmas
import Derived.RowKit
import Derived.RangeFuncNested
import Derived.RangeFuncBound
import Derived.RangeFuncCalls
import Derived.RangeFuncLeaves
import Derived.RangeFuncBox
import Derived.Shelf.Abstract
import Derived.OwnWalkIn
import Derived.TacticsInMore
import Derived.LoopNIn
import Derived.LoopIn
section
/-
  paradigm.begun by a walk.
-/
set_option linter.unusedSimpArgs false
set_option linter.unusedVariables false
namespace Go.Proofs.YthmjheclhcdinaaDoor.Ext
open Go.RowKit Go.Maps Go.Proofs.YthmjheclhcdinaaDoor Go.Proofs.YthmjheclhcdinaaDoorW.PrintWords Go.Proofs.YthmjheclhcdinaaDoorW.PrintLast Go.Proofs.YthmjheclhcdinaaDoorW.PrintMore
/-- The map D says of each rune what f says. -/
structure FunIs (D : DataW Unit) (f : Int → Bool) : Prop where
  isMap : IsMap D
  at_ : ∀ r, D.atKey (.int .i32 r) (.lit (.bool false)) = .lit (.bool (f r))
theorem FunIs.empty : FunIs (.map []) (fun _ => false) := ⟨isMap_empty, fun r => atKey_of_not_has (k := .int .i32 r) rfl _⟩
theorem FunIs.put {D : DataW Unit} {f : Int → Bool} (h : FunIs D f) (x : Int) (b : Bool) : FunIs (D.put (.int .i32 x) (.lit (.bool b))) (fun r => if r = x then b else f r) := by
  refine ⟨h.isMap.put _ _, fun r => ?_⟩
  by_cases e : r = x
  · subst e
    rw [if_pos rfl]
    exact atKey_put_same h.isMap (show WideAt.IsKeyLit (.int .i32 r) from trivial) _ _
  · rw [atKey_put_other (fun he => e (by injection he)), if_neg e]
    exact h.at_ r
theorem FunIs.congr {D : DataW Unit} {f g : Int → Bool} (h : FunIs D f) (e : ∀ r, f r = g r) : FunIs D g := ⟨h.isMap, fun r => by rw [h.at_ r, e r]⟩
/-- The letters so far that are no vowels. -/
def consK (l1 : List Letter) (cls : List Int) (k : Nat) (r : Int) : Bool := (kindsOf (l1.take k)).contains r && !cls.contains r
theorem consK_succ (l1 : List Letter) (cls : List Int) (k : Nat) (h : k < l1.length) (r : Int) : (if r = l1[k].f0 then !cls.contains l1[k].f0 else consK l1 cls k r) = consK l1 cls (k + 1) r := by
  unfold consK kindsOf
  rw [List.take_succ_eq_append_getElem h, List.map_append, List.contains_append]
  by_cases e : r = l1[k].f0
  · subst e
    simp
  · simp [e]
def BegunPost (A0 A1 : Option Addr) (c0 c1 : Nat) (l0 : List ByteArray) (l1 : List Letter) (v : Int) (w w' : World) (e : Ending) : Prop :=
  Below w.heap.size w w' ∧
  (if (classOf l0 l1 v 0).2 = 0 then ∃ bm, e = .returned (.tuple #[SV (.slice A0 l0.length c0) (.slice A1 l1.length c1) (.map (some bm)), .int .i64 0]) ∧ ConsAt w' bm (consB (kindsOf l1) (classOf l0 l1 v 0).1)
    else e = .returned (.tuple #[SV (.slice none 0 0) (.slice none 0 0) (.map none), .int .i64 (classOf l0 l1 v 0).2]))
theorem grown_set (W : World) (g j : Nat) (v : Value) : W.grownBy (W.setCell ⟨g, j, none⟩ v) (some g) := ⟨rfl, rfl, rfl, by simp, fun i _ hi => Below.heap_setCell W ⟨g, j, none⟩ v i (fun e => hi (by rw [e]))⟩
theorem put3 {w : World} {g : Nat} {t : TypeId} {a b c x y z : Value} (h : w.heap[g]? = some (.cells #[a, b, c] t (0, 0))) : (((w.setCell ⟨g, 0, none⟩ x).setCell ⟨g, 1, none⟩ y).setCell ⟨g, 2, none⟩ z).heap[g]? = some (.cells #[x, y, z] t (0, 0)) :=
  blk_put (cs := #[x, y, c]) (blk_put (cs := #[x, b, c]) (blk_put (cs := #[a, b, c]) h 0 x rfl) 1 y rfl) 2 z rfl
set_option maxHeartbeats 4000000 in
set_option maxRecDepth 100000 in
theorem begun.bad (A0 A1 : Option Addr) (c0 c1 : Nat) (l0 : List ByteArray) (l1 : List Letter) (v : Int) (w : World) (hF : Kd.C Kd.string w A0 l0.length l0) (hcF : l0.length ≤ c0) (hL : Kd.C kLetter w A1 l1.length l1) (hcL : l1.length ≤ c1)
    (cls : List Int) (e : Int) (hc : classOf l0 l1 v 0 = (cls, e)) (he : e ≠ 0) :
    Calls Tryd.prog 62 #[.agg #[.slice A0 l0.length c0, .slice A1 l1.length c1], .int .u32 v] w fun e w' => BegunPost A0 A1 c0 c1 l0 l1 v w w' e := by
  have hcl := fun W (hb : Below w.heap.size w W) => RF1.feature_Class.calls 200 A0 c0 l0 A1 c1 l1 v 0 cls e W (Kd.C_below hF hb) hcF (Kd.C_below hL hb) hcL (by rw [Class_eq _ _ _ _ _ (by omega), hc])
  have HB0 := boxes2 w (.cells #[.slice A0 l0.length c0, .slice A1 l1.length c1] 25) (.cells #[.slice none 0 0, .slice none 0 0, .map none] 94)
  have HB := Lib.hid HB0.1
  have B1 := Lib.hid HB0.2.2
  have Hc := Lib.hid hc
  have heb : (e != 0) = true := bne_iff_ne.mpr he
  have He := Lib.hid he
  clear hF hL hc he HB0
  go_enter Tryd.func62, Tryd.ntmps62
  go_wp2_with (first | (go_at_call 67; refine (hcl _ HB.out).mono ?_; rintro e w1 ⟨v1, rfl, hR1, hb1⟩; have hB1 := Lib.hid (below_step HB.out hb1); have B2 := Lib.hid (blk_below B1.out hb1); have hq0 := (blk_cell B2.out 0).trans rfl; have hq1 := (blk_cell B2.out 1).trans rfl; have hq2 := (blk_cell B2.out 2).trans rfl; have hqf := fun i => blk_frozen B2.out i; obtain ⟨A, c, rfl⟩ := Kd.R_slice hR1; clear hR1 hb1))
  refine bodyPost_ret (results_ct rfl _ _ (w.heap.size + 1) 94 _ (0, 0) _ rfl (put3 B2.out) Tryd.underlying94 rfl (by kernel_rfl)) rfl ?_
  refine ⟨below_set (below_set (below_set hB1.out (by omega)) (by omega)) (by omega), ?_⟩
  rw [Hc.out, if_neg He.out]
  rfl
set_option maxHeartbeats 4000000 in
set_option maxRecDepth 100000 in
theorem begun.good (A0 A1 : Option Addr) (c0 c1 : Nat) (l0 : List ByteArray) (l1 : List Letter) (v : Int) (w : World) (hF : Kd.C Kd.string w A0 l0.length l0) (hcF : l0.length ≤ c0) (hL : Kd.C kLetter w A1 l1.length l1) (hcL : l1.length ≤ c1)
    (cls : List Int) (hc : classOf l0 l1 v 0 = (cls, 0)) (hn1 : l1.length ≤ 128) (hwf : ∀ x ∈ l1, (Lit.int .i32 x.f0).wf = true) :
    Calls Tryd.prog 62 #[.agg #[.slice A0 l0.length c0, .slice A1 l1.length c1], .int .u32 v] w fun e w' => BegunPost A0 A1 c0 c1 l0 l1 v w w' e := by
  have hmm := @run_makeMap Tryd.prog
  have hcl := fun W (hb : Below w.heap.size w W) => RF1.feature_Class.calls 200 A0 c0 l0 A1 c1 l1 v 0 cls 0 W (Kd.C_below hF hb) hcF (Kd.C_below hL hb) hcL (by rw [Class_eq _ _ _ _ _ (by omega), hc])
  have HB0 := boxes2 w (.cells #[.slice A0 l0.length c0, .slice A1 l1.length c1] 25) (.cells #[.slice none 0 0, .slice none 0 0, .map none] 94)
  have HB := Lib.hid HB0.1
  have B0 := Lib.hid HB0.2.1
  have B1 := Lib.hid HB0.2.2
  have Hc := Lib.hid hc
  have Hwf := Lib.hid hwf
  have HL := Lib.hid hL
  have hcls := classOf_len l0 l1 v 0
  rw [hc] at hcls
  dsimp only at hcls
  clear hF hL hc HB0 hwf
  go_enter Tryd.func62, Tryd.ntmps62
  go_wp2_with (first | (go_at_call 67; refine (hcl _ HB.out).mono ?_; rintro e w1 ⟨v1, rfl, hR1, hb1⟩; have hB1 := Lib.hid (below_step HB.out hb1); have B2 := Lib.hid (blk_below B1.out hb1); have B3 := Lib.hid (blk_below B0.out hb1); have hq0 := (blk_cell B3.out 0).trans rfl; have hq1 := (blk_cell B3.out 1).trans rfl; have hq2 : ∀ o o2, ((w1.alloc o).alloc o2).cell? ⟨w.heap.size, 1, none⟩ = some (.slice A1 l1.length c1) := fun o o2 => (blk_cell (blk_alloc (blk_alloc B3.out o) o2) 1).trans rfl; obtain ⟨A, c, rfl, hcc, hCC⟩ := Kd.R_reads hR1; have HCC := Lib.hid hCC; clear hR1 hb1 hCC hcl))
  go_loopw [27] (fun i wr => ∃ k : Nat, k ≤ l1.length ∧ i = .int .i64 k ∧ Hid (Below w1.heap.size w1 wr) ∧ Hid (wr.heap[w1.heap.size + 1]? = some (.cells #[.slice A0 l0.length c0, .slice A1 l1.length c1, .map (some w1.heap.size)] 94 (0, 0))) ∧
      ∃ D, wr.ownsMap Tryd.prog 21 (plainElem (H := Unit) Tryd.prog 4) w1.heap.size k D ∧ Hid (FunIs D (consK l1 cls k)))
    (fun i _ => l1.length - (intOf i).toNat)
  case atStart => 
    refine ⟨0, Nat.zero_le _, rfl, (B_alloc w1 _).alloc (by simp) _, blk_new2 _ _ _, _, World.ownsMap.alloc (World.ownsMap_made _ _ _ _) _, FunIs.empty.congr (fun r => ?_)⟩
    simp [consK, kindsOf]
  case round =>
    obtain ⟨k, hk, rfl, hb, hbs, D, hown, hS⟩ := hrel
    by_cases hlt : k < l1.length
    · obtain ⟨ad, hA, hx0, hx1, hx2⟩ := at_T84 (Kd.C_below HL.out (below_step hB1.out hb.out)) k (by omega) (by omega)
      subst hA
      rw [Int.toNat_natCast] at hx0 hx1 hx2
      have hrd : rd_T84 l1 k = l1[k] := by simp [rd_T84, List.getD_eq_getElem?_getD, List.getElem?_eq_getElem hlt]
      rw [hrd] at hx0 hx1 hx2
      have hyw := Hwf.out l1[k] (List.getElem_mem hlt)
      have Hst := Lib.hid (consK_succ l1 cls k hlt)
      obtain ⟨x, hx⟩ : ∃ x, x = l1[k] := ⟨_, rfl⟩
      rw [← hx] at hx0 hx1 hx2 hyw Hst
      clear hx hrd
      obtain ⟨x0, x1, x2⟩ := x
      dsimp only at hx0 hx1 hx2 hyw Hst
      have hkey : keyOf Tryd.prog 21 (.int .i32 x0) = some (.int .i32 x0) := keyOf_int_mk Tryd.underlying21 hyw
      go_upto_region 8 with (fail)
      obtain ⟨wx, hwx⟩ : ∃ wx, wx = wr.alloc (.cells #[.int .i32 x0, .int .u32 x1, .int .u32 x2] 84) := ⟨_, rfl⟩
      have hs1 := hb.out.size
      have hs2 := blk_lt hbs.out
      have hz0 : wx.cell? ⟨wr.heap.size, 0, none⟩ = some (.int .i32 x0) := by rw [hwx]; exact (blk_cell (blk_new _ _) 0).trans rfl
      have hz1 : wx.cell? ⟨w1.heap.size + 1, 1, none⟩ = some (.slice (some ad) l1.length c1) := by rw [hwx]; exact (blk_cell (blk_alloc hbs.out _) 1).trans rfl
      have hz2 : wx.cell? ⟨w1.heap.size + 1, 2, none⟩ = some (.map (some w1.heap.size)) := by rw [hwx]; exact (blk_cell (blk_alloc hbs.out _) 2).trans rfl
      have hownx : wx.ownsMap Tryd.prog 21 (plainElem (H := Unit) Tryd.prog 4) w1.heap.size k D := by rw [hwx]; exact hown.alloc _
      have hbx : Below w1.heap.size w1 wx := by rw [hwx]; exact hb.out.alloc hs1 _
      have hbsx : wx.heap[w1.heap.size + 1]? = some (.cells #[.slice A0 l0.length c0, .slice (some ad) l1.length c1, .map (some w1.heap.size)] 94 (0, 0)) := by rw [hwx]; exact blk_alloc hbs.out _
      have hlx : wx.heap[wr.heap.size]? = some (.cells #[.int .i32 x0, .int .u32 x1, .int .u32 x2] 84 (0, 0)) := by rw [hwx]; exact blk_new _ _
      rw [← hwx]
      have hsz : wr.heap.size < wx.heap.size := by rw [hwx]; simp
      have hup := fun W (hW : W = wx ∨ True) (h : W.ownsMap Tryd.prog 21 (plainElem (H := Unit) Tryd.prog 4) w1.heap.size k D) => h.update (int_keyed Tryd.underlying21) Tryd.underlying92 (by unfold maxLen; omega) hkey (plainElem_bool Tryd.underlying4 (!cls.contains x0))
      have hct := fun W (hW : Below w1.heap.size w1 W) => RF1.slices_Contains_rune_rune.calls 200 A c cls x0 (cls.contains x0) W (Kd.C_below HCC.out hW) hcc (Contains_eq cls x0 (by omega) 200 (by omega))
      obtain ⟨bb, hbb⟩ : ∃ bb, bb = cls.contains x0 := ⟨_, rfl⟩
      rw [← hbb] at hct hup Hst
      have hG : ∃ G : Nat → World, ∀ m, (Instr.mapUpdate 92 (.map (some w1.heap.size)) (.int .i32 x0) (.bool !bb)).run Tryd.prog (wx.drewN m) = .ok () (G m) ∧ (G m).ownsMap Tryd.prog 21 (plainElem (H := Unit) Tryd.prog 4) w1.heap.size (k + 1) (D.put (.int .i32 x0) (.lit (.bool !bb))) ∧ (wx.drewN m).grownBy (G m) (some w1.heap.size) :=
        ⟨fun m => Classical.choose (hup (wx.drewN m) (.inr trivial) hownx), fun m => Classical.choose_spec (hup (wx.drewN m) (.inr trivial) hownx)⟩
      obtain ⟨G, hG⟩ := hG
      have hrun := fun m => (hG m).1
      have HG := Lib.hid (fun m => (hG m).2)
      have hg0 : ∀ m, (G m).cell? ⟨wr.heap.size, 0, none⟩ = some (.int .i32 x0) := fun m => (blk_cell (blk_grown (blk_drewN hlx m) (hG m).2.2 (by simp; omega)) 0).trans rfl
      have hg2 : ∀ m, (G m).cell? ⟨w1.heap.size + 1, 2, none⟩ = some (.map (some w1.heap.size)) := fun m => (blk_cell (blk_grown (blk_drewN hbsx m) (hG m).2.2 (by simp)) 2).trans rfl
      have Hbx := Lib.hid hbx
      have Hbsx := Lib.hid hbsx
      clear hG hup hownx hown hbb hwx hkey hbx hbsx hmm hb hbs hx0 hx1 hx2 hlx
      go_region_held3 (fun w' => w'.cell? ⟨wr.heap.size, 0, none⟩ = some (.int .i32 x0) ∧ w'.cell? ⟨w1.heap.size + 1, 2, none⟩ = some (.map (some w1.heap.size))) (go_keep) (first | (go_at_call 68; refine (hct _ (by first | exact Hbx.out | exact below_drew1 Hbx.out | exact pw_below_drewN Hbx.out _)).mono ?_; rintro e w2 ⟨rfl, ⟨nd, rfl⟩⟩))
      go_wp2_with fail
      go_roundw
      case rel =>
        refine ⟨k + 1, hlt, by go_num, ?_, ?_, _, (HG.out _).1, ?_⟩
        · exact (pw_below_drewN Hbx.out _).grown (HG.out _).2 (by have := Hbx.out.size; simpa using this) (fun j hj => by cases hj; exact Nat.le_refl _)
        · exact blk_grown (blk_drewN Hbsx.out _) (HG.out _).2 (by simp)
        · exact (hS.out.put x0 (!bb)).congr (fun r => by rw [← Hst.out])
      case measure => simp [intOf]; omega
    · obtain rfl : k = l1.length := by omega
      have HB9 := Lib.hid (below_step hB1.out hb.out)
      have B9 := Lib.hid (blk_below B2.out hb.out)
      have hown' := Lib.hid hown
      have hg0 := (blk_cell hbs.out 0).trans rfl
      have hg1 := (blk_cell hbs.out 1).trans rfl
      have hg2 := (blk_cell hbs.out 2).trans rfl
      have hqf := fun i => blk_frozen B9.out i
      have hs2 := blk_lt hbs.out
      have hy0 := (blk_cell B9.out 0).trans rfl
      have hy1 := (blk_cell B9.out 1).trans rfl
      have hy2 := (blk_cell B9.out 2).trans rfl
      clear hown
      go_wp2_with fail
      refine bodyPost_ret (results_ct rfl _ _ (w.heap.size + 1) 94 _ (0, 0) _ rfl (put3 B9.out) Tryd.underlying94 rfl (by kernel_rfl)) rfl ?_
      have hle := hB1.out.size
      have hlt1 := blk_lt B2.out
      refine ⟨below_set (below_set (below_set HB9.out (by omega)) (by omega)) (by omega), ?_⟩
      rw [Hc.out, if_pos rfl]
      refine ⟨w1.heap.size, rfl, l1.length, D, ?_, ?_, ?_⟩
      · exact hown'.out.kept (((grown_set _ (w.heap.size + 1) 0 _).trans (grown_set _ _ 1 _)).trans (grown_set _ _ 2 _)) (by simp; omega)
      · simp
        omega
      · intro r c hc
        rw [hS.out.at_ r] at hc
        injection hc with hc
        injection hc with hc
        rw [← hc]
        unfold consK consB
        rw [List.take_length]
end Go.Proofs.YthmjheclhcdinaaDoor.Ext
end
section
/-
  paradigm.named by a walk.
-/
set_option linter.unusedSimpArgs false
set_option linter.unusedVariables false
namespace Go.Proofs.YthmjheclhcdinaaDoor.Ext
open Go.RowKit Go.Maps Go.Proofs.YthmjheclhcdinaaDoor Go.Proofs.YthmjheclhcdinaaDoorW.PrintWords Go.Proofs.YthmjheclhcdinaaDoorW.PrintLast Go.Proofs.YthmjheclhcdinaaDoorW.PrintMore
def nameY (y : Int) : Bool := (decide (97 ≤ y) && decide (y ≤ 122)) || (decide (48 ≤ y) && decide (y ≤ 57)) || decide (y = 45)
theorem nameY_byte (b : UInt8) : nameY (b.toNat : Int) = nameC b := by
  unfold nameY nameC az
  rw [Bool.eq_iff_iff]
  simp
  omega
theorem name_step (s : ByteArray) (k : Nat) (h : k < s.data.size) : (s.data.toList.drop k).all nameC = (nameY (s.data[k].toNat : Int) && (s.data.toList.drop (k + 1)).all nameC) := by
  rw [List.drop_eq_getElem_cons (by simpa using h), List.all_cons, nameY_byte]
  rfl
set_option maxHeartbeats 4000000 in
set_option maxRecDepth 100000 in
theorem named.calls (s : ByteArray) (w : World) (hs : s.size ≤ 140737488351232) :
    Calls Tryd.prog 40 #[.string s] w fun e w' => e = .returned (.bool (nameS s)) ∧ Below w.heap.size w w' := by
  have hsz : s.data.size = s.size := rfl
  have hcv := run_bytes_of_string (P := Tryd.prog) w 9 91 5 s Tryd.underlying9 Tryd.underlying91 Tryd.underlying5
  obtain ⟨q, hq⟩ : ∃ q, q = nameS s := ⟨_, rfl⟩
  rw [← hq]
  have Hq := Lib.hid hq
  have Hsz := Lib.hid hsz
  clear hq hsz
  obtain ⟨W1, hW1⟩ : ∃ W1, W1 = (w.drew.alloc (.cells (bytesRow s (grownCap w s.size 0 5)) 5 ((bytesRow s (grownCap w s.size 0 5)).size, (bytesRow s (grownCap w s.size 0 5)).size + 1))) := ⟨_, rfl⟩
  obtain ⟨cp, hcp⟩ : ∃ cp, cp = grownCap w s.size 0 5 := ⟨_, rfl⟩
  have hB : Hid (Below w.heap.size w W1) := by rw [hW1]; exact (Below.refl _ w).drew.alloc (Nat.le_refl _) _
  have hcell : Hid (∀ (j : Nat) (h : j < s.data.size), W1.cell? ⟨w.heap.size, j, none⟩ = some (.int .u8 (s.data[j].toNat : Int))) := by
    intro j h
    rw [hW1]
    exact (cell_of_row _ w.heap.size j _ _ _ (heap_alloc_new w.drew _)).trans (bytesRow_at s _ j h)
  rw [← hW1] at hcv
  rw [← hcp] at hcv
  clear hW1 hcp
  go_enter Tryd.func40, Tryd.ntmps40
  go_wp2_with fail
  go_loop [8] (fun i => ∃ k : Nat, k ≤ s.size ∧ i = .int .i64 k ∧ Hid (s.data.toList.all nameC = (s.data.toList.drop k).all nameC)) (fun i => s.size - (intOf i).toNat)
  case atStart => exact ⟨0, Nat.zero_le _, rfl, rfl⟩
  case round =>
    obtain ⟨k, hk, rfl, hn⟩ := hrel
    by_cases hlt : k < s.size
    · have hc := hcell.out k (by rw [Hsz.out]; exact hlt)
      have hst := name_step s k (by rw [Hsz.out]; exact hlt)
      have hy2 := UInt8.toNat_lt (s.data[k]'(by rw [Hsz.out]; exact hlt))
      obtain ⟨y, hy⟩ : ∃ y : Int, y = ((s.data[k]'(by rw [Hsz.out]; exact hlt)).toNat : Int) := ⟨_, rfl⟩
      rw [← hy] at hc hst
      have hy0 : 0 ≤ y := by omega
      have hy1 : y ≤ 255 := by omega
      have Hst := Lib.hid hst
      clear hst hy hy2
      cases hok : nameY y with
      | false =>
        have Hr : Hid (q = false) := by
          have := Hq.out
          unfold nameS at this
          rw [hn.out, Hst.out, hok] at this
          show q = false
          simpa using this
        have hne : (y != 45) = true := by
          rw [bne_iff_ne]
          intro e
          subst e
          simp [nameY] at hok
        unfold nameY at hok
        simp at hok
        by_cases a1 : y < 97 <;> by_cases a2 : 122 < y <;> by_cases a3 : y < 48 <;> by_cases a4 : 57 < y
        all_goals first
          | (exfalso; omega)
          | (clear hok; go_wp2_with fail; go_ret; exact ⟨by rw [Hr.out]; rfl, hB.out⟩)
      | true =>
        have Hn : Hid (s.data.toList.all nameC = (s.data.toList.drop (k + 1)).all nameC) := by
          have := hn.out
          rw [Hst.out, hok, Bool.true_and] at this
          exact this
        unfold nameY at hok
        simp at hok
        by_cases a1 : y < 97 <;> by_cases a2 : 122 < y <;> by_cases a3 : y < 48 <;> by_cases a4 : 57 < y <;> by_cases a5 : y = 45
        all_goals first
          | (exfalso; omega)
          | (clear hok; (first | (have a6 : (y != 45) = true := bne_iff_ne.mpr a5) | (have a6 : (y != 45) = false := by simp [a5])); clear a5; go_wp2_with fail; go_round; (case rel => exact ⟨k + 1, hlt, by go_num, Hn⟩); (case measure => simp [intOf]; omega))
    · obtain rfl : k = s.size := by omega
      have Hr : Hid (q = decide ((s.size : Int) ≤ 32)) := by
        have := Hq.out
        unfold nameS at this
        rw [hn.out, List.drop_of_length_le (by simp [Hsz.out])] at this
        rw [Hid, this, Bool.eq_iff_iff]
        simp
        omega
      by_cases h32 : (s.size : Int) ≤ 32
      · go_wp2_with fail
        go_ret
        exact ⟨by rw [Hr.out, decide_eq_true (show (s.size : Int) ≤ 32 by omega)]; rfl, hB.out⟩
      · go_wp2_with fail
        go_ret
        exact ⟨by rw [Hr.out, decide_eq_false (show ¬ (s.size : Int) ≤ 32 by omega)]; rfl, hB.out⟩
end Go.Proofs.YthmjheclhcdinaaDoor.Ext
end
section
-- printed by a program of this session (wip/tools/prx.sh: a turned copy of the kit's print, with functions given from outside)
namespace Go.Proofs.YthmjheclhcdinaaDoor.RRm
open Go.RowKit Go.Proofs.YthmjheclhcdinaaDoor Go.Proofs.YthmjheclhcdinaaDoor.Ext Go.Proofs.YthmjheclhcdinaaDoorW.PrintWords Go.Proofs.YthmjheclhcdinaaDoorW.PrintLast Go.Proofs.YthmjheclhcdinaaDoorW.PrintMore
attribute [local go_sem] max2_int min2_int max_two min_two max_three min_three max_four min_four   -- for this text's walks alone
set_option linter.unusedVariables false
set_option linter.unusedSimpArgs false



end Go.Proofs.YthmjheclhcdinaaDoor.RRm
end
section
-- printed by a program of this session (wip/tools/prx.sh: a turned copy of the kit's print, with functions given from outside)
namespace Go.Proofs.YthmjheclhcdinaaDoor.RRm
open Go.RowKit Go.Proofs.YthmjheclhcdinaaDoor Go.Proofs.YthmjheclhcdinaaDoor.Ext Go.Proofs.YthmjheclhcdinaaDoorW.PrintWords Go.Proofs.YthmjheclhcdinaaDoorW.PrintLast Go.Proofs.YthmjheclhcdinaaDoorW.PrintMore
attribute [local go_sem] max2_int min2_int max_two min_two max_three min_three max_four min_four   -- for this text's walks alone
set_option linter.unusedVariables false
set_option linter.unusedSimpArgs false

/-! ### radical_split: function 66 -/
/-! ### radical_Split: function 49 -/
end Go.Proofs.YthmjheclhcdinaaDoor.RRm
end
section
/-
  radical.Split, All, Skip: what the printed functions compute, in plain words; contracts.
-/
set_option linter.unusedSimpArgs false
set_option linter.unusedVariables false
namespace Go.Proofs.YthmjheclhcdinaaDoor
open Go.RowKit Go.Proofs.YthmjheclhcdinaaDoorW.PrintWords Go.Proofs.YthmjheclhcdinaaDoorW.PrintLast Go.Proofs.YthmjheclhcdinaaDoorW.PrintMore Go.Proofs.YthmjheclhcdinaaDoor.Ext

theorem form_size {ks : List Int} {f : ByteArray} (h : formS ks f = true) : f.size ≤ 256 := by
  have hf := formS_ok h
  have h1 := runes_back f hf.1
  have h2 := runesBytes_size (runesOf f) (runes_valid f hf.1)
  rw [h1] at h2
  omega
def sizedS (n f : ByteArray) : Prop := n.size ≤ 9223372036854775807 ∧ f.size < 9223372036854775807
instance (n f : ByteArray) : Decidable (sizedS n f) := by unfold sizedS; infer_instance
/-! ### skipped through (the text of another printing) -/
namespace Ext
instance (L : List Shape) : Decidable (∀ s ∈ L, sizedS s.f0 s.f1) := List.decidableBAll _ _
end Ext
end Go.Proofs.YthmjheclhcdinaaDoor
end
section
/-
  stemmed.put by a walk.
-/
set_option linter.unusedSimpArgs false
set_option linter.unusedVariables false
namespace Go.Proofs.YthmjheclhcdinaaDoor.Ext
open Go.RowKit Go.Maps Go.Proofs.YthmjheclhcdinaaDoor Go.Proofs.YthmjheclhcdinaaDoorW.PrintWords Go.Proofs.YthmjheclhcdinaaDoorW.PrintLast Go.Proofs.YthmjheclhcdinaaDoorW.PrintMore
abbrev kAffix : Kd Affix := k49
theorem affOk_sizes {l0 : List ByteArray} {l1 : List Letter} {x : Affix} (h : affOk l0 l1 x = true) : x.f1.size ≤ 256 ∧ x.f2.size ≤ 256 := by
  unfold affOk at h
  by_cases h12 : x.f0 = 1 ∨ x.f0 = 2
  · rw [if_pos h12] at h
    simp only [Bool.and_eq_true, decide_eq_true_eq] at h
    exact ⟨letters_size (of_decide_eq_true h.1.1), by omega⟩
  · rw [if_neg h12] at h
    by_cases h3 : x.f0 = 3
    · rw [if_pos h3] at h
      simp only [Bool.and_eq_true, decide_eq_true_eq] at h
      exact ⟨letters_size (of_decide_eq_true h.1.1), letters_size (of_decide_eq_true h.1.2)⟩
    · rw [if_neg h3] at h
      by_cases h4 : x.f0 = 4
      · rw [if_pos h4] at h
        simp only [Bool.and_eq_true, decide_eq_true_eq] at h
        exact ⟨letters_size (of_decide_eq_true h.1.1), by omega⟩
      · rw [if_neg h4] at h
        by_cases h5 : x.f0 = 5
        · rw [if_pos h5] at h
          simp only [Bool.and_eq_true, decide_eq_true_eq] at h
          exact ⟨form_size (chkS_zero h.1.1).2.2, by omega⟩
        · rw [if_neg h5] at h
          by_cases h6 : x.f0 = 6
          · rw [if_pos h6] at h
            simp only [Bool.and_eq_true, decide_eq_true_eq] at h
            omega
          · rw [if_neg h6] at h
            cases h
theorem put1 (ks cls : List Int) (x : Aff) (l : List Int) (f b : List Int) (hk : x.kind = 1 ∨ x.kind = 2 ∨ x.kind = 3) (hf : f = if x.kind = 2 then [] else x.form) (hb : b = if x.kind = 1 then [] else if x.kind = 2 then x.form else x.other) : putL ks cls x l = (f ++ l ++ b, 0) := by
  subst hf
  subst hb
  unfold putL
  rcases hk with h | h | h
  · rw [if_pos h, if_neg (by omega), if_pos h, List.append_nil]
  · rw [if_neg (by omega), if_pos h, if_pos h, if_neg (by omega), if_pos h]
    rfl
  · rw [if_neg (by omega), if_neg (by omega), if_pos h, if_neg (by omega), if_neg (by omega), if_neg (by omega)]
theorem off1 (ks cls : List Int) (x : Aff) (l : List Int) (f b : List Int) (hk : x.kind = 1 ∨ x.kind = 2 ∨ x.kind = 3) (hf : f = if x.kind = 2 then [] else x.form) (hb : b = if x.kind = 1 then [] else if x.kind = 2 then x.form else x.other) : offL ks cls x l = if l.length < f.length + b.length then none else some ((l.drop f.length).take (l.length - f.length - b.length)) := by
  subst hf
  subst hb
  unfold offL
  rcases hk with h | h | h
  · rw [if_pos h, if_neg (show ¬ x.kind = 2 by omega), if_pos h]
    simp only [List.length_nil, Nat.add_zero, Nat.sub_zero]
    split
    · rfl
    · rw [List.take_of_length_le (by simp)]
  · have h1 : ¬ x.kind = 1 := by omega
    simp only [if_neg h1, if_pos h, List.length_nil, Nat.zero_add, List.drop_zero, Nat.sub_zero]
  · rw [if_neg (by omega), if_neg (by omega), if_pos h, if_neg (show ¬ x.kind = 2 by omega), if_neg (show ¬ x.kind = 1 by omega), if_neg (show ¬ x.kind = 2 by omega)]
theorem put4 (ks cls : List Int) (x : Aff) (l : List Int) (h : x.kind = 4) : putL ks cls x l = (l.take (min x.place l.length) ++ x.form ++ l.drop (min x.place l.length), 0) := by
  unfold putL
  rw [if_neg (by omega), if_neg (by omega), if_neg (by omega), if_pos h]
theorem put5 (ks cls : List Int) (x : Aff) (l : List Int) (h : x.kind = 5) : putL ks cls x l = if x.form.count 95 = (l.filter (consB ks cls)).length then (fillH x.form (l.filter (consB ks cls)), 0) else ([], 130) := by
  unfold putL
  rw [if_neg (by omega), if_neg (by omega), if_neg (by omega), if_neg (by omega), if_pos h]
theorem put6 (ks cls : List Int) (x : Aff) (l : List Int) (h : x.kind = 6) : putL ks cls x l = if l.length < x.place then ([], 150) else (l.take (if x.place = 0 then l.length else x.place) ++ l, 0) := by
  unfold putL
  rw [if_neg (by omega), if_neg (by omega), if_neg (by omega), if_neg (by omega), if_neg (by omega)]
theorem off4 (ks cls : List Int) (x : Aff) (l : List Int) (h : x.kind = 4) : offL ks cls x l = if l.length < x.form.length then none else some (l.take (min x.place (l.length - x.form.length)) ++ l.drop (min x.place (l.length - x.form.length) + x.form.length)) := by
  unfold offL
  rw [if_neg (by omega), if_neg (by omega), if_neg (by omega), if_pos h]
theorem off5 (ks cls : List Int) (x : Aff) (l : List Int) (h : x.kind = 5) : offL ks cls x l = if l.length = x.form.length then pickC (consB ks cls) l x.form else none := by
  unfold offL
  rw [if_neg (by omega), if_neg (by omega), if_neg (by omega), if_neg (by omega), if_pos h]
theorem off6 (ks cls : List Int) (x : Aff) (l : List Int) (h : x.kind = 6) : offL ks cls x l = if l.length < 2 * (if x.place = 0 then l.length / 2 else x.place) then none else some (l.drop (if x.place = 0 then l.length / 2 else x.place)) := by
  unfold offL
  rw [if_neg (by omega), if_neg (by omega), if_neg (by omega), if_neg (by omega), if_neg (by omega)]
/-- The four kinds' own put, off. -/
abbrev PutIs (K : FuncId) (v : Value) (ks cls : List Int) (x : Aff) (l : List Int) (A0 A1 Al : Option Addr) (n0 c0 n1 c1 cl bm : Nat) (w : World) : Prop :=
  Calls Tryd.prog K #[v, SV (.slice A0 n0 c0) (.slice A1 n1 c1) (.map (some bm)), .slice Al l.length cl] w fun e w' => putPost w w' e (putL ks cls x l)
theorem putIs_a {w : World} (x : Aff) (ks cls l : List Int) (A1 A2 : Option Addr) (c1 c2 : Nat) (f b : List Int) (A0 A1' Al : Option Addr) (n0 c0 n1 c1' cl bm : Nat) (hk : x.kind = 1 ∨ x.kind = 2 ∨ x.kind = 3) (hf : f = if x.kind = 2 then [] else x.form) (hb : b = if x.kind = 1 then [] else if x.kind = 2 then x.form else x.other)
    (h1 : Kd.C (Kd.int .i32) w A1 f.length f) (h2 : Kd.C (Kd.int .i32) w A2 b.length b) (hl : Kd.C (Kd.int .i32) w Al l.length l) (hn : f.length + l.length + b.length ≤ 1000000) :
    PutIs 132 (.agg #[.slice A1 f.length c1, .slice A2 b.length c2]) ks cls x l A0 A1' Al n0 c0 n1 c1' cl bm w := by
  refine (around_put.calls A1 A2 Al c1 c2 cl f b l _ _ _ w h1 h2 hl hn).mono ?_
  rintro e w' ⟨v, rfl, hR, hB⟩
  rw [put1 ks cls x l f b hk hf hb]
  exact ⟨v, rfl, hR, hB⟩
theorem putIs_w {w : World} (x : Aff) (ks cls l : List Int) (A1 : Option Addr) (c1 : Nat) (A0 A1' Al : Option Addr) (n0 c0 n1 c1' cl bm : Nat) (hk : x.kind = 4) (h1 : Kd.C (Kd.int .i32) w A1 x.form.length x.form) (hl : Kd.C (Kd.int .i32) w Al l.length l) (hcl : l.length ≤ cl) (hn : x.form.length + l.length ≤ 1000000) (hat : x.place ≤ 1000) :
    PutIs 136 (.agg #[.slice A1 x.form.length c1, .int .i64 (x.place : Int)]) ks cls x l A0 A1' Al n0 c0 n1 c1' cl bm w := by
  refine (within_put.calls A1 Al c1 cl x.form l x.place _ _ _ w h1 hl hcl hn hat).mono ?_
  rintro e w' ⟨v, rfl, hR, hB⟩
  rw [put4 ks cls x l hk]
  exact ⟨v, rfl, hR, hB⟩
theorem putIs_s {w : World} (x : Aff) (ks cls l : List Int) (A1 : Option Addr) (c1 : Nat) (A0 A1' Al : Option Addr) (n0 c0 n1 c1' cl bm : Nat) (hk : x.kind = 5) (h1 : Kd.C (Kd.int .i32) w A1 x.form.length x.form) (hl : Kd.C (Kd.int .i32) w Al l.length l) (hM : ConsAt w bm (consB ks cls)) (hw : ∀ y ∈ l, (Lit.int .i32 y).wf = true) (hn : x.form.length ≤ 100000) (hn2 : l.length ≤ 100000) :
    PutIs 138 (.agg #[.slice A1 x.form.length c1]) ks cls x l A0 A1' Al n0 c0 n1 c1' cl bm w := by
  refine (shaped_put.calls A1 Al c1 cl x.form l _ _ bm (consB ks cls) w h1 hl hM hw hn hn2).mono ?_
  intro e w' h
  rw [put5 ks cls x l hk]
  exact h
theorem putIs_d {w : World} (x : Aff) (ks cls l : List Int) (A0 A1' Al : Option Addr) (n0 c0 n1 c1' cl bm : Nat) (hk : x.kind = 6) (hl : Kd.C (Kd.int .i32) w Al l.length l) (hcl : l.length ≤ cl) (hn : l.length ≤ 100000) (hat : x.place ≤ 1000) :
    PutIs 141 (.agg #[.int .i64 (x.place : Int)]) ks cls x l A0 A1' Al n0 c0 n1 c1' cl bm w := by
  refine (doubled_put.calls Al cl l x.place _ _ _ w hl hcl hn hat).mono ?_
  intro e w' h
  rw [put6 ks cls x l hk]
  exact h
theorem meth_a_put (v : Value) (n : Nat) (W : World) : (method (n + 1) 117 v "cognate/paradigm.put").run Tryd.prog W = .ok (132, v) W := by kernel_rfl
theorem meth_a_off (v : Value) (n : Nat) (W : World) : (method (n + 1) 117 v "cognate/paradigm.off").run Tryd.prog W = .ok (131, v) W := by kernel_rfl
theorem meth_w_put (v : Value) (n : Nat) (W : World) : (method (n + 1) 119 v "cognate/paradigm.put").run Tryd.prog W = .ok (136, v) W := by kernel_rfl
theorem meth_w_off (v : Value) (n : Nat) (W : World) : (method (n + 1) 119 v "cognate/paradigm.off").run Tryd.prog W = .ok (135, v) W := by kernel_rfl
theorem meth_s_put (v : Value) (n : Nat) (W : World) : (method (n + 1) 121 v "cognate/paradigm.put").run Tryd.prog W = .ok (138, v) W := by kernel_rfl
theorem meth_s_off (v : Value) (n : Nat) (W : World) : (method (n + 1) 121 v "cognate/paradigm.off").run Tryd.prog W = .ok (137, v) W := by kernel_rfl
theorem meth_d_put (v : Value) (n : Nat) (W : World) : (method (n + 1) 124 v "cognate/paradigm.put").run Tryd.prog W = .ok (141, v) W := by kernel_rfl
theorem meth_d_off (v : Value) (n : Nat) (W : World) : (method (n + 1) 124 v "cognate/paradigm.off").run Tryd.prog W = .ok (140, v) W := by kernel_rfl
/-- A slice value reads as letters. -/
def ViewAt (w : World) (v : Value) (l : List Int) : Prop := ∃ A c, v = .slice A l.length c ∧ l.length ≤ c ∧ Kd.C (Kd.int .i32) w A l.length l
/-- What a loop over affixes knows. -/
def PutRel (l0 : List ByteArray) (l1 : List Letter) (cls : List Int) (L : List Aff) (l : List Int) (w : World) (k : Nat) (lv : Value) (wr : World) : Prop :=
  ∃ A c l', lv = .slice A l'.length c ∧ l'.length ≤ c ∧ Kd.C (Kd.int .i32) wr A l'.length l' ∧ putC (kindsOf l1) cls L l = putC (kindsOf l1) cls (L.drop k) l' ∧ l'.length ≤ 256 ∧ (∀ y ∈ l', (kindsOf l1).contains y = true) ∧ Below w.heap.size w wr
theorem rdA (xs : List Affix) (k : Nat) (h : k < xs.length) : rd_T49 xs (k : Int) = xs[k] := by
  simp [rd_T49, List.getD_eq_getElem?_getD, List.getElem?_eq_getElem h]
set_option maxHeartbeats 4000000 in
set_option maxRecDepth 100000 in
theorem stemmed_put.calls (A0 A1 : Option Addr) (c0 c1 : Nat) (l0 : List ByteArray) (l1 : List Letter) (cls : List Int) (bm : Nat) (Al : Option Addr) (cl : Nat) (l : List Int) (Ax : Option Addr) (cx : Nat) (xs : List Affix) (w : World)
    (hF : Kd.C Kd.string w A0 l0.length l0) (hcF : l0.length ≤ c0) (hL : Kd.C kLetter w A1 l1.length l1) (hcL : l1.length ≤ c1) (hT : Tabs w) (hM : ConsAt w bm (consB (kindsOf l1) cls)) (hl : Kd.C (Kd.int .i32) w Al l.length l) (hcl : l.length ≤ cl) (hX : Kd.C kAffix w Ax xs.length xs) (hcx : xs.length ≤ cx)
    (hok : ∀ x ∈ xs, affOk l0 l1 x = true) (hlk : ∀ y ∈ l, (kindsOf l1).contains y = true) (hck : chk l0 l1 = 0) (hn : l.length ≤ 256) (hxn : xs.length ≤ 1000) :
    Calls Tryd.prog 43 #[SV (.slice A0 l0.length c0) (.slice A1 l1.length c1) (.map (some bm)), .slice Al l.length cl, .slice Ax xs.length cx] w fun e w' =>
      e = .returned (.tuple #[.string (toText (putC (kindsOf l1) cls (xs.map affOf) l)).1, .int .i64 (toText (putC (kindsOf l1) cls (xs.map affOf) l)).2]) ∧ Below w.heap.size w w' := by
  have HB0 : Below w.heap.size w (w.alloc (.cells #[.slice A0 l0.length c0, .slice A1 l1.length c1, .map (some bm)] 94)) := B_alloc w _
  have B0 := Lib.hid (blk_new w (.cells #[.slice A0 l0.length c0, .slice A1 l1.length c1, .map (some bm)] 94))
  have HB := Lib.hid HB0
  have HF := Lib.hid hF
  have HL := Lib.hid hL
  have HM := Lib.hid hM
  have HX := Lib.hid hX
  have HT := Lib.hid hT
  have Hok := Lib.hid hok
  have Hck := Lib.hid hck
  have Hl0 : Hid (Kd.C (Kd.int .i32) (w.alloc (.cells #[.slice A0 l0.length c0, .slice A1 l1.length c1, .map (some bm)] 94)) Al l.length l) := Kd.C_below hl HB0
  have Hlk := Lib.hid hlk
  obtain ⟨p, hp⟩ : ∃ p, p = putC (kindsOf l1) cls (xs.map affOf) l := ⟨_, rfl⟩
  rw [← hp]
  have Hp := Lib.hid hp
  clear hF hL hM hX hT hok hl hp HB0 hck hlk
  go_enter Tryd.func43, Tryd.ntmps43
  go_wp2_with fail
  go_loopw [1, 16] (fun lv i wr => ∃ k : Nat, k ≤ xs.length ∧ i = .int .i64 k ∧ Hid (PutRel l0 l1 cls (xs.map affOf) l w k lv wr) ∧ Hid (wr.heap[w.heap.size]? = some (.cells #[.slice A0 l0.length c0, .slice A1 l1.length c1, .map (some bm)] 94 (0, 0)))) (fun _ i _ => xs.length - (intOf i).toNat)
  case atStart => exact ⟨0, Nat.zero_le _, rfl, ⟨Al, cl, l, rfl, hcl, Hl0.out, rfl, hn, Hlk.out, HB.out⟩, B0⟩
  case round =>
    obtain ⟨k, hk, rfl, hR, hbs⟩ := hrel
    obtain ⟨A, c, l', rfl, hc, hC, he, hl', hlk', hb⟩ := hR.out
    have HC := Lib.hid hC
    have He := Lib.hid he
    have Hlk' := Lib.hid hlk'
    have Hb := Lib.hid hb
    clear hR hC he hlk' hb
    by_cases hlt : k < xs.length
    · obtain ⟨ad, hA, hx0, hx1, hx2, hx3⟩ := at_T49 (Kd.C_below HX.out Hb.out) k (by omega) (by omega)
      subst hA
      rw [Int.toNat_natCast] at hx0 hx1 hx2 hx3
      rw [rdA xs k hlt] at hx0 hx1 hx2 hx3
      have hok := Hok.out xs[k] (List.getElem_mem hlt)
      have hdr : (xs.map affOf).drop k = affOf xs[k] :: (xs.map affOf).drop (k + 1) := by rw [List.drop_eq_getElem_cons (by simpa using hlt)]; simp
      obtain ⟨x, hx⟩ : ∃ x, x = xs[k] := ⟨_, rfl⟩
      rw [← hx] at hx0 hx1 hx2 hx3 hok hdr
      have Hdr := Lib.hid hdr
      have Hokx := Lib.hid hok
      have hsz := affOk_sizes hok
      have hkd := affOk_kinds hok
      have hmd := fun W (hb : Below w.heap.size w W) => made.calls A0 A1 c0 c1 l0 l1 x W (Kd.C_below HF.out hb) hcF (Kd.C_below HL.out hb) hcL (HT.out.below hb) (by omega) (by omega)
      have Hkd := Lib.hid hkd
      clear hx hdr hok hkd
      obtain ⟨kd, f1, f2, at_⟩ := x
      dsimp only at hx0 hx1 hx2 hx3 hmd hsz
      have hb0 := (blk_cell hbs.out 0).trans rfl
      have hq0 := fun o => (blk_cell (blk_alloc hbs.out o) 0).trans rfl
      have hq1 := fun o => (blk_cell (blk_alloc hbs.out o) 1).trans rfl
      have HBx := Lib.hid (Hb.out.alloc Hb.out.size (.cells #[.int .u8 kd, .string f1, .string f2, .int .i64 at_] 49))
      go_upto_region 5 with (go_at_call 41; refine (hmd _ HBx.out).mono ?_; rintro e w2 ⟨v2, rfl, hA2, hb2⟩; have HB2 := Lib.hid (below_step HBx.out hb2); have Hw2 := Lib.hid (below_step (B_alloc wr _) hb2); have Hs2 := Lib.hid (blk_below (blk_alloc hbs.out _) hb2); have hs0 := (blk_cell Hs2.out 0).trans rfl; have hs1 := (blk_cell Hs2.out 1).trans rfl; have hs2 := (blk_cell Hs2.out 2).trans rfl; clear hmd hq0 hq1 hb0 hx0 hx1 hx2 hx3)
      have hAI := Lib.hid (hA2 Hokx.out)
      have HC2 := Lib.hid (Kd.C_below HC.out Hw2.out)
      have HM2 := Lib.hid (HM.out.below HB2.out)
      obtain ⟨x, hx⟩ : ∃ x, x = affOf ⟨kd, f1, f2, at_⟩ := ⟨_, rfl⟩
      rw [← hx] at hAI Hdr Hkd
      have hkl := Hkd.out.2.2.2
      have hfl := hkl.1
      have hol := hkl.2.1
      have hpl := hkl.2.2
      clear hx hA2 hkl hsz
      have hmem := fun m e (h : putL (kindsOf l1) cls x l' = (m, e)) (he : e = 0) => put_mem (m := m) (by rw [h, he]) Hlk'.out Hkd.out.2.1 Hkd.out.2.2.1
      obtain ⟨m, e, hme⟩ : ∃ m e, putL (kindsOf l1) cls x l' = (m, e) := ⟨_, _, rfl⟩
      have hmem := hmem m e hme
      have Hme := Lib.hid hme
      have Hmem := Lib.hid hmem
      have Hwf : Hid (∀ y ∈ l', (Lit.int .i32 y).wf = true) := fun y hy => rune_wf (kinds_valid Hck.out (Hlk'.out y hy))
      clear hmem hme
      go_cut [12, 13] (fun s12 s13 wc => s13 = .int .i64 e ∧ Hid (ViewAt wc s12 m) ∧ Hid (Below w2.heap.size w2 wc))
      case first =>
        rcases hAI.out with ⟨hk, A1', c1', f, A2', c2', b, rfl, hC1, hC2, hf, hb'⟩ | ⟨hk, A1', c1', rfl, hC1⟩ | ⟨hk, A1', c1', rfl, hC1⟩ | ⟨hk, rfl⟩
        · have hlf : f.length ≤ 64 := by rw [hf]; split <;> (try simp) <;> omega
          have hlb : b.length ≤ 64 := by rw [hb']; split <;> (try split) <;> (try simp) <;> omega
          have hpi := putIs_a x (kindsOf l1) cls l' A1' A2' c1' c2' f b A0 A1 A l0.length c0 l1.length c1 c bm hk hf hb' hC1 hC2 HC2.out (by omega)
          unfold PutIs at hpi
          rw [Hme.out] at hpi
          have hmt := fun n W => meth_a_put (.agg #[.slice A1' f.length c1', .slice A2' b.length c2']) n W
          clear hk hf hb' hC1 hC2 hAI
          go_wp2_with (go_at_call 132; refine hpi.mono ?_; rintro e w3 ⟨v3, rfl, hR3, hb3⟩; have HR3 := Lib.hid hR3; have Hb3 := Lib.hid hb3; clear hR3 hb3)
          go_meet
          exact ⟨rfl, Kd.R_reads HR3.out, Hb3.out⟩
        · have hpi := putIs_w x (kindsOf l1) cls l' A1' c1' A0 A1 A l0.length c0 l1.length c1 c bm hk hC1 HC2.out hc (by omega) (by omega)
          unfold PutIs at hpi
          rw [Hme.out] at hpi
          have hmt := fun n W => meth_w_put (.agg #[.slice A1' x.form.length c1', .int .i64 (x.place : Int)]) n W
          clear hk hC1 hAI
          go_wp2_with (go_at_call 136; refine hpi.mono ?_; rintro e w3 ⟨v3, rfl, hR3, hb3⟩; have HR3 := Lib.hid hR3; have Hb3 := Lib.hid hb3; clear hR3 hb3)
          go_meet
          exact ⟨rfl, Kd.R_reads HR3.out, Hb3.out⟩
        · have hpi := putIs_s x (kindsOf l1) cls l' A1' c1' A0 A1 A l0.length c0 l1.length c1 c bm hk hC1 HC2.out HM2.out Hwf.out (by omega) (by omega)
          unfold PutIs at hpi
          rw [Hme.out] at hpi
          have hmt := fun n W => meth_s_put (.agg #[.slice A1' x.form.length c1']) n W
          clear hk hC1 hAI
          go_wp2_with (go_at_call 138; refine hpi.mono ?_; rintro e w3 ⟨v3, rfl, hR3, hb3⟩; have HR3 := Lib.hid hR3; have Hb3 := Lib.hid hb3; clear hR3 hb3)
          go_meet
          exact ⟨rfl, Kd.R_reads HR3.out, Hb3.out⟩
        · have hpi := putIs_d x (kindsOf l1) cls l' A0 A1 A l0.length c0 l1.length c1 c bm hk HC2.out hc (by omega) (by omega)
          unfold PutIs at hpi
          rw [Hme.out] at hpi
          have hmt := fun n W => meth_d_put (.agg #[.int .i64 (x.place : Int)]) n W
          clear hk hAI
          go_wp2_with (go_at_call 141; refine hpi.mono ?_; rintro e w3 ⟨v3, rfl, hR3, hb3⟩; have HR3 := Lib.hid hR3; have Hb3 := Lib.hid hb3; clear hR3 hb3)
          go_meet
          exact ⟨rfl, Kd.R_reads HR3.out, Hb3.out⟩
      case rest =>
        obtain ⟨rfl, HV, HB3⟩ := hcut
        obtain ⟨wt, rfl⟩ : ∃ wt : World, wt = wc := ⟨_, rfl⟩
        obtain ⟨A3, c3, rfl, hc3, hC3⟩ := HV.out
        have HC3 := Lib.hid hC3
        have HBt := Lib.hid (below_step HB2.out HB3.out)
        have Hst := Lib.hid (blk_below Hs2.out HB3.out)
        clear hC3 HV HB3 hs0 hs1 hs2
        by_cases he0 : e = 0
        · subst he0
          by_cases h256 : m.length ≤ 256
          · have Hn : Hid (putC (kindsOf l1) cls (xs.map affOf) l = putC (kindsOf l1) cls ((xs.map affOf).drop (k + 1)) m) := by
              show _ = _
              rw [He.out, Hdr.out]
              simp only [putC]
              rw [Hme.out, capped_mk h256, if_pos rfl]
            have h256' : ¬ (256 : Int) < (m.length : Int) := by omega
            go_wp2_with fail
            go_roundw
            case rel => exact ⟨k + 1, hlt, by go_num, ⟨A3, c3, m, rfl, hc3, HC3.out, Hn.out, h256, Hmem.out rfl, HBt.out⟩, Hst⟩
            case measure => simp [intOf]; omega
          · have hq : Hid (p = ([], 9)) := by
              show _ = _
              rw [Hp.out, He.out, Hdr.out]
              simp only [putC]
              rw [Hme.out]
              unfold capped
              rw [if_pos rfl, if_neg h256, if_neg (by decide)]
            have h256' : (256 : Int) < (m.length : Int) := by omega
            go_wp2_with fail
            go_ret2
            exact ⟨by rw [hq.out]; rfl, HBt.out⟩
        · have heb : (e != 0) = true := bne_iff_ne.mpr he0
          have hq : Hid (p = ([], e)) := by
            show _ = _
            rw [Hp.out, He.out, Hdr.out]
            simp only [putC]
            rw [Hme.out]
            unfold capped
            rw [if_neg he0, if_neg he0]
          have Hne : Hid (toText ([], e) = (noB, e)) := by
            show _ = _
            unfold toText
            rw [if_neg he0]
          clear he0
          go_wp2_with fail
          go_ret2
          exact ⟨by rw [hq.out, Hne.out]; rfl, HBt.out⟩
    · obtain rfl : k = xs.length := by omega
      have hq : Hid (p = (l', 0)) := by
        show _ = _
        rw [Hp.out, He.out, List.drop_of_length_le (by simp)]
        rfl
      have hcv := conv_runes (c := c) HC.out
      go_wp2_with fail
      go_ret2
      exact ⟨by rw [hq.out]; rfl, Hb.out⟩
end Go.Proofs.YthmjheclhcdinaaDoor.Ext
end
section
/-
  paradigm.Check by a walk; one, cell.
-/
set_option linter.unusedSimpArgs false
set_option linter.unusedVariables false
namespace Go.Proofs.YthmjheclhcdinaaDoor.Ext
open Go.RowKit Go.Maps Go.Proofs.YthmjheclhcdinaaDoor Go.Proofs.YthmjheclhcdinaaDoorW.PrintWords Go.Proofs.YthmjheclhcdinaaDoorW.PrintLast Go.Proofs.YthmjheclhcdinaaDoorW.PrintMore
abbrev Cell := S56
abbrev kCell : Kd Cell := k56
def cellOk (l0 : List ByteArray) (l1 : List Letter) (c : Cell) : Bool := decide (c.f1.length ≤ 8) && c.f1.all (affOk l0 l1)
/-- May a paradigm be? (Of an alphabet that may be.) -/
def parOk (l0 : List ByteArray) (l1 : List Letter) (n : ByteArray) (C : List Cell) : Bool := nameS n && decide (1 ≤ C.length) && decide (C.length ≤ 256) && C.all (cellOk l0 l1)
def chkP (l0 : List ByteArray) (l1 : List Letter) (n : ByteArray) (C : List Cell) : Int := if chk l0 l1 = 0 then (if parOk l0 l1 n C = true then 0 else 170) else chk l0 l1
/-- No text of a cell is too long for the model. -/
def sizedC (C : List Cell) : Prop := ∀ c ∈ C, ∀ x ∈ c.f1, (x.f1.size : Int) ≤ 140737488351232 ∧ (x.f2.size : Int) ≤ 140737488351232
theorem rdC (xs : List Cell) (k : Nat) (h : k < xs.length) : rd_T56 xs (k : Int) = xs[k] := by
  simp [rd_T56, List.getD_eq_getElem?_getD, List.getElem?_eq_getElem h]
theorem feature_chk (A0 A1 : Option Addr) (c0 c1 : Nat) (l0 : List ByteArray) (l1 : List Letter) (w W : World) (hb : Below w.heap.size w W) (hF : Kd.C Kd.string w A0 l0.length l0) (hcF : l0.length ≤ c0) (hL : Kd.C kLetter w A1 l1.length l1) (hcL : l1.length ≤ c1) :
    Calls Tryd.prog 39 #[.agg #[.slice A0 l0.length c0, .slice A1 l1.length c1]] W fun e w' => e = .returned (.int .i64 (chk l0 l1)) ∧ Below W.heap.size W w' :=
  feature_Check.calls A0 c0 l0 A1 c1 l1 (chk l0 l1) W (Kd.C_below hF hb) hcF (Kd.C_below hL hb) hcL rfl
theorem chkP_bad {l0 : List ByteArray} {l1 : List Letter} {n : ByteArray} {C : List Cell} (hk : chk l0 l1 = 0) (h : parOk l0 l1 n C = false) : chkP l0 l1 n C = 170 := by
  unfold chkP
  rw [if_pos hk, h]
  rfl
theorem chkP_ok {l0 : List ByteArray} {l1 : List Letter} {n : ByteArray} {C : List Cell} (hk : chk l0 l1 = 0) (h : parOk l0 l1 n C = true) : chkP l0 l1 n C = 0 := by
  unfold chkP
  rw [if_pos hk, if_pos h]
theorem cells_step {l0 : List ByteArray} {l1 : List Letter} {C : List Cell} {k : Nat} (h : k < C.length) (hr : C.all (cellOk l0 l1) = (C.drop k).all (cellOk l0 l1)) : C.all (cellOk l0 l1) = (cellOk l0 l1 C[k] && (C.drop (k + 1)).all (cellOk l0 l1)) := by
  rw [hr, List.drop_eq_getElem_cons h, List.all_cons]
theorem affs_step {l0 : List ByteArray} {l1 : List Letter} {X : List Affix} {k : Nat} (h : k < X.length) (hr : X.all (affOk l0 l1) = (X.drop k).all (affOk l0 l1)) : X.all (affOk l0 l1) = (affOk l0 l1 X[k] && (X.drop (k + 1)).all (affOk l0 l1)) := by
  rw [hr, List.drop_eq_getElem_cons h, List.all_cons]
set_option maxHeartbeats 10000000 in
set_option maxRecDepth 100000 in
theorem pcheck_walk (A0 A1 : Option Addr) (c0 c1 : Nat) (l0 : List ByteArray) (l1 : List Letter) (n : ByteArray) (Ac : Option Addr) (cc : Nat) (C : List Cell) (w : World) (hF : Kd.C Kd.string w A0 l0.length l0) (hcF : l0.length ≤ c0) (hL : Kd.C kLetter w A1 l1.length l1) (hcL : l1.length ≤ c1) (hC : Kd.C kCell w Ac C.length C) (hcC : C.length ≤ cc) (hT : Tabs w)
    (hs : sizedC C) (hk : chk l0 l1 = 0) (hn : nameS n = true) (h1 : 1 ≤ C.length) (h2 : C.length ≤ 256) (hns : n.size ≤ 140737488351232) :
    Calls Tryd.prog 19 #[.agg #[.slice A0 l0.length c0, .slice A1 l1.length c1], .agg #[.string n, .slice Ac C.length cc]] w fun e w' => e = .returned (.int .i64 (chkP l0 l1 n C)) ∧ Below w.heap.size w w' := by
  have HB0 := boxes2 w (.cells #[.slice A0 l0.length c0, .slice A1 l1.length c1] 25) (.cells #[.string n, .slice Ac C.length cc] 45)
  have hch := fun W hb => feature_chk A0 A1 c0 c1 l0 l1 w W hb hF hcF hL hcL
  rw [hk] at hch
  have hnm := fun W => named.calls n W hns
  rw [hn] at hnm
  have hmd := fun x W (hb : Below w.heap.size w W) h1 h2 => made.calls A0 A1 c0 c1 l0 l1 x W (Kd.C_below hF hb) hcF (Kd.C_below hL hb) hcL (hT.below hb) h1 h2
  have Hpar : Hid (parOk l0 l1 n C = C.all (cellOk l0 l1)) := by
    rw [Hid]
    unfold parOk
    rw [hn]
    simp [h1, h2]
  have HC := Lib.hid hC
  have Hs := Lib.hid hs
  have Hk := Lib.hid hk
  have HB := Lib.hid HB0.1
  have B2 := Lib.hid HB0.2.1
  have B3 := Lib.hid HB0.2.2
  obtain ⟨r, hr⟩ : ∃ r, r = chkP l0 l1 n C := ⟨_, rfl⟩
  rw [← hr]
  have Hr := Lib.hid hr
  have hd1 : decide (C.length < 1) = false := decide_eq_false (by omega)
  have hd2 : decide (256 < C.length) = false := decide_eq_false (by omega)
  clear hF hL hC hT hs hk hn HB0 hr
  go_enter Tryd.func19, Tryd.ntmps19
  go_wp2_with (first | (go_at_call 39; refine (hch _ HB.out).mono ?_; rintro e w1 ⟨rfl, hb1⟩; have HB1 := Lib.hid (below_step HB.out hb1); have B21 := Lib.hid (blk_below B2.out hb1); have B31 := Lib.hid (blk_below B3.out hb1); clear hb1 hch; have ha0 := (blk_cell B31.out 0).trans rfl; have ha1 := (blk_cell B31.out 1).trans rfl) | (go_at_call 40; refine (hnm _).mono ?_; rintro e w2 ⟨rfl, hb2⟩; have HB2 := Lib.hid (below_step HB1.out hb2); have B22 := Lib.hid (blk_below B21.out hb2); have B32 := Lib.hid (blk_below B31.out hb2); clear hb2 hnm; have hc0 := (blk_cell B32.out 0).trans rfl; have hc1 := (blk_cell B32.out 1).trans rfl))
  go_loopw [36] (fun i wr => ∃ k : Nat, k ≤ C.length ∧ i = .int .i64 k ∧ Hid (Below w.heap.size w wr) ∧ Hid (wr.heap[w.heap.size]? = some (.cells #[.slice A0 l0.length c0, .slice A1 l1.length c1] 25 (0, 0))) ∧ Hid (C.all (cellOk l0 l1) = (C.drop k).all (cellOk l0 l1))) (fun i _ => C.length - (intOf i).toNat)
  case atStart => exact ⟨0, Nat.zero_le _, rfl, HB2, B22, rfl⟩
  case round =>
    obtain ⟨k, hk, rfl, hb, hbs, hrel⟩ := hrel
    by_cases hlt : k < C.length
    · obtain ⟨ad, Ax, cx, hA, hx0, hx1, hcx, hX⟩ := at_T56 (Kd.C_below HC.out hb.out) k (by omega) (by omega)
      subst hA
      rw [Int.toNat_natCast] at hx0 hx1
      rw [rdC C k hlt] at hx0 hx1 hcx hX
      have hss := Hs.out C[k] (List.getElem_mem hlt)
      have hst := cells_step hlt hrel.out
      obtain ⟨x, hx⟩ : ∃ x, x = C[k] := ⟨_, rfl⟩
      rw [← hx] at hx0 hx1 hcx hX hss hst
      clear hx
      obtain ⟨tg, X⟩ := x
      dsimp only at hx0 hx1 hcx hX hss
      have Hst := Lib.hid hst
      have Hss := Lib.hid hss
      have HX := Lib.hid hX
      have B4 := Lib.hid (blk_alloc hbs.out (.cells #[.int .u64 tg, .slice Ax X.length cx] 56))
      have HB4 := Lib.hid (hb.out.alloc hb.out.size (.cells #[.int .u64 tg, .slice Ax X.length cx] 56))
      have HX4 := Lib.hid (C_alloc HX.out (.cells #[.int .u64 tg, .slice Ax X.length cx] 56))
      clear hst hss hX hrel hbs hb
      by_cases h8 : X.length ≤ 8
      · have h8' : ¬ (8 : Int) < (X.length : Int) := by omega
        have Hcok : Hid (∀ b, X.all (affOk l0 l1) = b → cellOk l0 l1 ⟨tg, X⟩ = b) := by
          intro b hb
          unfold cellOk
          rw [hb, decide_eq_true h8, Bool.true_and]
        go_wp2_with fail
        obtain ⟨wo, hwo⟩ : ∃ wo : World, wo = wr := ⟨_, rfl⟩
        subst hwo
        go_loopw [47] (fun i wi => ∃ j : Nat, j ≤ X.length ∧ i = .int .i64 j ∧ Hid (Below w.heap.size w wi) ∧ Hid (wi.heap[w.heap.size]? = some (.cells #[.slice A0 l0.length c0, .slice A1 l1.length c1] 25 (0, 0))) ∧ Hid (kAffix.C wi Ax X.length X) ∧ Hid (X.all (affOk l0 l1) = (X.drop j).all (affOk l0 l1))) (fun i _ => X.length - (intOf i).toNat)
        case atStart => exact ⟨0, Nat.zero_le _, rfl, HB4, B4, HX4, rfl⟩
        case round =>
          obtain ⟨j, hj, rfl, hb, hbs, hXi, hra⟩ := hrel
          by_cases hjl : j < X.length
          · obtain ⟨ae, hA, hy0, hy1, hy2, hy3⟩ := at_T49 hXi.out j (by omega) (by omega)
            subst hA
            rw [Int.toNat_natCast] at hy0 hy1 hy2 hy3
            rw [rdA X j hjl] at hy0 hy1 hy2 hy3
            have hsx := Hss.out X[j] (List.getElem_mem hjl)
            have hsa := affs_step hjl hra.out
            obtain ⟨y, hy⟩ : ∃ y, y = X[j] := ⟨_, rfl⟩
            rw [← hy] at hy0 hy1 hy2 hy3 hsx hsa
            have Hsa := Lib.hid hsa
            have hmy := fun W hb => hmd y W hb hsx.1 hsx.2
            clear hy hsa hsx
            obtain ⟨kd, f1, f2, at_⟩ := y
            dsimp only at hy0 hy1 hy2 hy3 hmy
            have B5 := Lib.hid (blk_alloc hbs.out (.cells #[.int .u8 kd, .string f1, .string f2, .int .i64 at_] 49))
            have HB5 := Lib.hid (hb.out.alloc hb.out.size (.cells #[.int .u8 kd, .string f1, .string f2, .int .i64 at_] 49))
            have HX5 := Lib.hid (C_alloc hXi.out (.cells #[.int .u8 kd, .string f1, .string f2, .int .i64 at_] 49))
            have hq0 := (blk_cell B5.out 0).trans rfl
            have hq1 := (blk_cell B5.out 1).trans rfl
            clear hb hbs hXi hra
            cases hok : affOk l0 l1 ⟨kd, f1, f2, at_⟩ with
            | true =>
              have Hn : Hid (X.all (affOk l0 l1) = (X.drop (j + 1)).all (affOk l0 l1)) := by
                rw [Hid, Hsa.out, hok, Bool.true_and]
              have Hok := Lib.hid hok
              clear hok
              go_wp2_with (go_at_call 41; refine (hmy _ HB5.out).mono ?_; rintro e w4 ⟨v4, rfl, hA4, hb4⟩; rw [Hok.out]; have HB6 := Lib.hid (below_step HB5.out hb4); have B6 := Lib.hid (blk_below B5.out hb4); have HX6 := Lib.hid (Kd.C_below HX5.out hb4); clear hb4 hA4)
              go_roundw
              case rel => exact ⟨j + 1, hjl, by go_num, HB6, B6, HX6, Hn⟩
              case measure => simp [intOf]; omega
            | false =>
              have hbad : Hid (r = 170) := by
                rw [Hid, Hr.out]
                refine chkP_bad Hk.out ?_
                rw [Hpar.out, Hst.out, Hcok.out false (by rw [Hsa.out, hok]; rfl)]
                rfl
              have Hok := Lib.hid hok
              clear hok
              go_wp2_with (go_at_call 41; refine (hmy _ HB5.out).mono ?_; rintro e w4 ⟨v4, rfl, hA4, hb4⟩; rw [Hok.out]; have HB6 := Lib.hid (below_step HB5.out hb4); clear hb4 hA4)
              go_ret
              exact ⟨by rw [hbad.out]; rfl, HB6.out⟩
          · obtain rfl : j = X.length := by omega
            have Hn : Hid (C.all (cellOk l0 l1) = (C.drop (k + 1)).all (cellOk l0 l1)) := by
              rw [Hid, Hst.out, Hcok.out true (by rw [hra.out, List.drop_length]; rfl), Bool.true_and]
            go_wp2_with fail
            go_roundw
            case rel => exact ⟨k + 1, hlt, by go_num, hb, hbs, Hn⟩
            case measure => simp [intOf]; omega
      · have hbad : Hid (r = 170) := by
          rw [Hid, Hr.out]
          refine chkP_bad Hk.out ?_
          rw [Hpar.out, Hst.out]
          unfold cellOk
          rw [decide_eq_false h8]
          rfl
        have h8' : (8 : Int) < (X.length : Int) := by omega
        go_wp2_with fail
        go_ret
        exact ⟨by rw [hbad.out]; rfl, HB4.out⟩
    · obtain rfl : k = C.length := by omega
      have hgood : Hid (r = 0) := by
        rw [Hid, Hr.out]
        refine chkP_ok Hk.out ?_
        rw [Hpar.out, hrel.out, List.drop_length]
        rfl
      go_wp2_with fail
      go_ret
      exact ⟨by rw [hgood.out]; rfl, hb.out⟩
set_option maxHeartbeats 10000000 in
set_option maxRecDepth 100000 in
theorem pcheck_bad (A0 A1 : Option Addr) (c0 c1 : Nat) (l0 : List ByteArray) (l1 : List Letter) (n : ByteArray) (Ac : Option Addr) (cc : Nat) (C : List Cell) (w : World) (hF : Kd.C Kd.string w A0 l0.length l0) (hcF : l0.length ≤ c0) (hL : Kd.C kLetter w A1 l1.length l1) (hcL : l1.length ≤ c1)
    (hk : chk l0 l1 = 0) (hbad : (nameS n && decide (1 ≤ C.length) && decide (C.length ≤ 256)) = false) (hns : n.size ≤ 140737488351232) :
    Calls Tryd.prog 19 #[.agg #[.slice A0 l0.length c0, .slice A1 l1.length c1], .agg #[.string n, .slice Ac C.length cc]] w fun e w' => e = .returned (.int .i64 (chkP l0 l1 n C)) ∧ Below w.heap.size w w' := by
  have HB0 := boxes2 w (.cells #[.slice A0 l0.length c0, .slice A1 l1.length c1] 25) (.cells #[.string n, .slice Ac C.length cc] 45)
  have hch := fun W hb => feature_chk A0 A1 c0 c1 l0 l1 w W hb hF hcF hL hcL
  rw [hk] at hch
  have hnm := fun W => named.calls n W hns
  have HB := Lib.hid HB0.1
  have B3 := Lib.hid HB0.2.2
  obtain ⟨r, hr⟩ : ∃ r, r = chkP l0 l1 n C := ⟨_, rfl⟩
  rw [← hr]
  have Hr : Hid (r = 170) := by
    rw [Hid, hr]
    refine chkP_bad hk ?_
    unfold parOk
    rw [hbad]
    rfl
  clear hF hL hk HB0 hr
  cases hn : nameS n with
  | false =>
    rw [hn] at hnm
    clear hbad hn
    go_enter Tryd.func19, Tryd.ntmps19
    go_wp2_with (first | (go_at_call 39; refine (hch _ HB.out).mono ?_; rintro e w1 ⟨rfl, hb1⟩; have HB1 := Lib.hid (below_step HB.out hb1); have B31 := Lib.hid (blk_below B3.out hb1); clear hb1 hch; have ha0 := (blk_cell B31.out 0).trans rfl; have ha1 := (blk_cell B31.out 1).trans rfl) | (go_at_call 40; refine (hnm _).mono ?_; rintro e w2 ⟨rfl, hb2⟩; have HB2 := Lib.hid (below_step HB1.out hb2); clear hb2 hnm))
    go_ret
    exact ⟨by rw [Hr.out]; rfl, HB2.out⟩
  | true =>
    rw [hn] at hnm hbad
    by_cases h1 : C.length < 1
    · have h1' : (C.length : Int) < 1 := by omega
      clear hbad hn
      go_enter Tryd.func19, Tryd.ntmps19
      go_wp2_with (first | (go_at_call 39; refine (hch _ HB.out).mono ?_; rintro e w1 ⟨rfl, hb1⟩; have HB1 := Lib.hid (below_step HB.out hb1); have B31 := Lib.hid (blk_below B3.out hb1); clear hb1 hch; have ha0 := (blk_cell B31.out 0).trans rfl; have ha1 := (blk_cell B31.out 1).trans rfl) | (go_at_call 40; refine (hnm _).mono ?_; rintro e w2 ⟨rfl, hb2⟩; have HB2 := Lib.hid (below_step HB1.out hb2); have B32 := Lib.hid (blk_below B31.out hb2); clear hb2 hnm; have hc0 := (blk_cell B32.out 0).trans rfl; have hc1 := (blk_cell B32.out 1).trans rfl))
      go_ret
      exact ⟨by rw [Hr.out]; rfl, HB2.out⟩
    · have h2 : (256 : Int) < (C.length : Int) := by
        simp at hbad
        omega
      have h1' : ¬ (C.length : Int) < 1 := by omega
      clear hbad hn
      go_enter Tryd.func19, Tryd.ntmps19
      go_wp2_with (first | (go_at_call 39; refine (hch _ HB.out).mono ?_; rintro e w1 ⟨rfl, hb1⟩; have HB1 := Lib.hid (below_step HB.out hb1); have B31 := Lib.hid (blk_below B3.out hb1); clear hb1 hch; have ha0 := (blk_cell B31.out 0).trans rfl; have ha1 := (blk_cell B31.out 1).trans rfl) | (go_at_call 40; refine (hnm _).mono ?_; rintro e w2 ⟨rfl, hb2⟩; have HB2 := Lib.hid (below_step HB1.out hb2); have B32 := Lib.hid (blk_below B31.out hb2); clear hb2 hnm; have hc0 := (blk_cell B32.out 0).trans rfl; have hc1 := (blk_cell B32.out 1).trans rfl))
      go_ret
      exact ⟨by rw [Hr.out]; rfl, HB2.out⟩
set_option maxHeartbeats 10000000 in
set_option maxRecDepth 100000 in
theorem pcheck_alph (A0 A1 : Option Addr) (c0 c1 : Nat) (l0 : List ByteArray) (l1 : List Letter) (n : ByteArray) (Ac : Option Addr) (cc : Nat) (C : List Cell) (w : World) (hF : Kd.C Kd.string w A0 l0.length l0) (hcF : l0.length ≤ c0) (hL : Kd.C kLetter w A1 l1.length l1) (hcL : l1.length ≤ c1)
    (hk : chk l0 l1 ≠ 0) :
    Calls Tryd.prog 19 #[.agg #[.slice A0 l0.length c0, .slice A1 l1.length c1], .agg #[.string n, .slice Ac C.length cc]] w fun e w' => e = .returned (.int .i64 (chkP l0 l1 n C)) ∧ Below w.heap.size w w' := by
  have HB0 := boxes2 w (.cells #[.slice A0 l0.length c0, .slice A1 l1.length c1] 25) (.cells #[.string n, .slice Ac C.length cc] 45)
  have hch := fun W hb => feature_chk A0 A1 c0 c1 l0 l1 w W hb hF hcF hL hcL
  have HB := Lib.hid HB0.1
  have hr : chkP l0 l1 n C = chk l0 l1 := by unfold chkP; rw [if_neg hk]
  rw [hr]
  have heb : (chk l0 l1 != 0) = true := bne_iff_ne.mpr hk
  obtain ⟨ck, hck⟩ : ∃ ck, ck = chk l0 l1 := ⟨_, rfl⟩
  rw [← hck] at heb hch ⊢
  clear hF hL hk HB0 hr hck
  go_enter Tryd.func19, Tryd.ntmps19
  go_wp2_with (go_at_call 39; refine (hch _ HB.out).mono ?_; rintro e w1 ⟨rfl, hb1⟩; have HB1 := Lib.hid (below_step HB.out hb1); clear hb1 hch)
  go_ret
  exact ⟨rfl, HB1.out⟩
theorem pcheck.calls (A0 A1 : Option Addr) (c0 c1 : Nat) (l0 : List ByteArray) (l1 : List Letter) (n : ByteArray) (Ac : Option Addr) (cc : Nat) (C : List Cell) (w : World) (hF : Kd.C Kd.string w A0 l0.length l0) (hcF : l0.length ≤ c0) (hL : Kd.C kLetter w A1 l1.length l1) (hcL : l1.length ≤ c1) (hC : Kd.C kCell w Ac C.length C) (hcC : C.length ≤ cc) (hT : Tabs w)
    (hs : sizedC C) (hns : n.size ≤ 140737488351232) :
    Calls Tryd.prog 19 #[.agg #[.slice A0 l0.length c0, .slice A1 l1.length c1], .agg #[.string n, .slice Ac C.length cc]] w fun e w' => e = .returned (.int .i64 (chkP l0 l1 n C)) ∧ Below w.heap.size w w' := by
  by_cases hk : chk l0 l1 = 0
  · cases hb : (nameS n && decide (1 ≤ C.length) && decide (C.length ≤ 256)) with
    | false => exact pcheck_bad A0 A1 c0 c1 l0 l1 n Ac cc C w hF hcF hL hcL hk hb hns
    | true =>
      simp only [Bool.and_eq_true, decide_eq_true_eq] at hb
      exact pcheck_walk A0 A1 c0 c1 l0 l1 n Ac cc C w hF hcF hL hcL hC hcC hT hs hk hb.1.1 hb.1.2 hb.2 hns
  · exact pcheck_alph A0 A1 c0 c1 l0 l1 n Ac cc C w hF hcF hL hcL hk
end Go.Proofs.YthmjheclhcdinaaDoor.Ext
end
section
/-
  paradigm.one, cell by walks.
-/
set_option linter.unusedSimpArgs false
set_option linter.unusedVariables false
namespace Go.Proofs.YthmjheclhcdinaaDoor.Ext
open Go.RowKit Go.Maps Go.Proofs.YthmjheclhcdinaaDoor Go.Proofs.YthmjheclhcdinaaDoorW.PrintWords Go.Proofs.YthmjheclhcdinaaDoorW.PrintLast Go.Proofs.YthmjheclhcdinaaDoorW.PrintMore
theorem classOf_chk {l0 : List ByteArray} {l1 : List Letter} {v : Int} (h : (classOf l0 l1 v 0).2 = 0) : chk l0 l1 = 0 := by
  unfold classOf at h
  by_cases hk : chk l0 l1 = 0
  · exact hk
  · rw [if_neg hk] at h
    exact h
theorem chk_facts {l0 : List ByteArray} {l1 : List Letter} (h : chk l0 l1 = 0) : l1.length ≤ 128 ∧ ∀ x ∈ l1, (Lit.int .i32 x.f0).wf = true := by
  have hk : okA l0 l1 = true := by
    unfold chk at h
    by_cases ho : okA l0 l1 = true
    · exact ho
    · rw [if_neg ho] at h
      cases h
  unfold okA at hk
  simp only [Bool.and_eq_true, decide_eq_true_eq] at hk
  refine ⟨by omega, fun x hx => rune_wf (kinds_valid h ?_)⟩
  unfold kindsOf
  simp only [List.contains_eq_mem, decide_eq_true_eq]
  exact List.mem_map.2 ⟨x, hx, rfl⟩
theorem begun.calls (A0 A1 : Option Addr) (c0 c1 : Nat) (l0 : List ByteArray) (l1 : List Letter) (v : Int) (w : World) (hF : Kd.C Kd.string w A0 l0.length l0) (hcF : l0.length ≤ c0) (hL : Kd.C kLetter w A1 l1.length l1) (hcL : l1.length ≤ c1) :
    Calls Tryd.prog 62 #[.agg #[.slice A0 l0.length c0, .slice A1 l1.length c1], .int .u32 v] w fun e w' => BegunPost A0 A1 c0 c1 l0 l1 v w w' e := by
  obtain ⟨cls, e, hc⟩ : ∃ cls e, classOf l0 l1 v 0 = (cls, e) := ⟨_, _, rfl⟩
  by_cases he : e = 0
  · subst he
    have hk := chk_facts (classOf_chk (show (classOf l0 l1 v 0).2 = 0 by rw [hc]))
    exact begun.good A0 A1 c0 c1 l0 l1 v w hF hcF hL hcL cls hc hk.1 hk.2
  · exact begun.bad A0 A1 c0 c1 l0 l1 v w hF hcF hL hcL cls e hc he
/-- An alphabet, its consonants and a word's letters, or an error's number. -/
def StemPost (A0 A1 : Option Addr) (c0 c1 : Nat) (l0 : List ByteArray) (l1 : List Letter) (v : Int) (s : ByteArray) (w w' : World) (e : Ending) (er : Int) : Prop :=
  Below w.heap.size w w' ∧
  (er = 0 → ∃ bm A c, e = .returned (.tuple #[SV (.slice A0 l0.length c0) (.slice A1 l1.length c1) (.map (some bm)), .slice A (lettersOf l0 l1 s).1.length c, .int .i64 0]) ∧ (lettersOf l0 l1 s).1.length ≤ c ∧ Kd.C (Kd.int .i32) w' A (lettersOf l0 l1 s).1.length (lettersOf l0 l1 s).1 ∧ ConsAt w' bm (consB (kindsOf l1) (classOf l0 l1 v 0).1)) ∧
  (er ≠ 0 → ∃ a n c a' n' c' m lv, e = .returned (.tuple #[SV (.slice a n c) (.slice a' n' c') (.map m), lv, .int .i64 er]))
theorem ConsAt.lt {w : World} {b : Nat} {cf : Int → Bool} (h : ConsAt w b cf) : b < w.heap.size := by
  obtain ⟨n, D, h1, h2, h3⟩ := h
  exact h2
theorem cons_set3 {w : World} {b g : Nat} {cf : Int → Bool} {t : TypeId} {cs : Array Value} {x y z : Value} (h : ConsAt w b cf) (hb : w.heap[g]? = some (.cells cs t (0, 0))) : ConsAt (((w.setCell ⟨g, 0, none⟩ x).setCell ⟨g, 1, none⟩ y).setCell ⟨g, 2, none⟩ z) b cf := by
  obtain ⟨n, D, hown, hlt, hat⟩ := h
  have hne : b ≠ g := by
    intro e
    subst e
    obtain ⟨es, clock, hb', _⟩ := hown
    rw [hb'] at hb
    cases hb
  exact ⟨n, D, hown.kept (((grown_set _ g 0 _).trans (grown_set _ _ 1 _)).trans (grown_set _ _ 2 _)) (fun e => hne (by cases e; rfl)), by simpa using hlt, hat⟩
theorem C_set3 {w : World} {A : Option Addr} {l : List Int} {g : Nat} {t : TypeId} {A0 A1 : Option Addr} {n0 c0 n1 c1 : Nat} {b : Option Nat} {x y z : Value} (h : Kd.C (Kd.int .i32) w A l.length l) (hb : w.heap[g]? = some (.cells #[.slice A0 n0 c0, .slice A1 n1 c1, .map b] t (0, 0))) : Kd.C (Kd.int .i32) (((w.setCell ⟨g, 0, none⟩ x).setCell ⟨g, 1, none⟩ y).setCell ⟨g, 2, none⟩ z) A l.length l := by
  have hr1 := Kd.reads_of_C (d := (0 : Int)) (h1 := fun _ => rfl) h
  refine Kd.C_of_reads (d := (0 : Int)) ⟨hr1.1, hr1.2.1, fun hn => ?_⟩
  obtain ⟨ad, e, hj⟩ := hr1.2.2 hn
  refine ⟨ad, e, fun j h => ?_⟩
  have hne : ∀ i, i < 3 → (⟨g, i, none⟩ : Addr) ≠ ad.add j := by
    intro i hi e2
    have h1 := hj j h
    rw [← e2, blk_cell hb i] at h1
    match i, hi with
    | 0, _ => cases h1
    | 1, _ => cases h1
    | 2, _ => cases h1
  rw [World.cell?_setCell_other _ _ _ _ (hne 2 (by omega)), World.cell?_setCell_other _ _ _ _ (hne 1 (by omega)), World.cell?_setCell_other _ _ _ _ (hne 0 (by omega))]
  exact hj j h
def oneE (l0 : List ByteArray) (l1 : List Letter) (v : Int) (s : ByteArray) (x : Affix) : Int := if (classOf l0 l1 v 0).2 = 0 then (if (lettersOf l0 l1 s).2 = 0 then (if affOk l0 l1 x = true then 0 else 170) else (lettersOf l0 l1 s).2) else (classOf l0 l1 v 0).2
set_option maxHeartbeats 10000000 in
set_option maxRecDepth 100000 in
theorem one_cls (A0 A1 : Option Addr) (c0 c1 : Nat) (l0 : List ByteArray) (l1 : List Letter) (v : Int) (s : ByteArray) (x : Affix) (w : World) (hF : Kd.C Kd.string w A0 l0.length l0) (hcF : l0.length ≤ c0) (hL : Kd.C kLetter w A1 l1.length l1) (hcL : l1.length ≤ c1) (hT : Tabs w) (hcl : ¬ (classOf l0 l1 v 0).2 = 0) :
    Calls Tryd.prog 42 #[.agg #[.slice A0 l0.length c0, .slice A1 l1.length c1], .int .u32 v, .string s, .agg #[.int .u8 x.f0, .string x.f1, .string x.f2, .int .i64 x.f3]] w fun e w' => StemPost A0 A1 c0 c1 l0 l1 v s w w' e (oneE l0 l1 v s x) := by
  have HB0 := boxes3 w (.cells #[.slice A0 l0.length c0, .slice A1 l1.length c1] 25) (.cells #[.int .u8 x.f0, .string x.f1, .string x.f2, .int .i64 x.f3] 49) (.cells #[.slice none 0 0, .slice none 0 0, .map none] 94)
  have HB := Lib.hid HB0.1
  have BA := Lib.hid HB0.2.1
  have BX := Lib.hid HB0.2.2.1
  have BR := Lib.hid HB0.2.2.2
  clear HB0
  have hbg := fun W (hb : Below w.heap.size w W) => begun.calls A0 A1 c0 c1 l0 l1 v W (Kd.C_below hF hb) hcF (Kd.C_below hL hb) hcL
  have hlt := fun W (hb : Below w.heap.size w W) => word_Letters.calls A0 c0 l0 A1 c1 l1 s (lettersOf l0 l1 s).1 (lettersOf l0 l1 s).2 W (Kd.C_below hF hb) hcF (Kd.C_below hL hb) hcL (hT.below hb) rfl
  have her : (classOf l0 l1 v 0).2 = oneE l0 l1 v s x := by unfold oneE; rw [if_neg hcl]
  obtain ⟨er, herr⟩ : ∃ er, er = oneE l0 l1 v s x := ⟨_, rfl⟩
  rw [← herr] at her ⊢
  have hne : er ≠ 0 := by rw [← her]; exact hcl
  have Hne := Lib.hid hne
  have Her := Lib.hid her
  have Hcl := Lib.hid hcl
  have hneb : (er != 0) = true := bne_iff_ne.mpr hne
  clear her herr hne hcl hlt
  clear hF hL hT
  go_enter Tryd.func42, Tryd.ntmps42
  go_upto_region 2 with (go_at_call 62; refine (hbg _ HB.out).mono ?_; rintro e w1 ⟨hb, hbe⟩; have HB' := Lib.hid (below_step HB.out hb); have BA' := Lib.hid (blk_below BA.out hb); have BX' := Lib.hid (blk_below BX.out hb); have BR' := Lib.hid (blk_below BR.out hb); clear HB BA BX BR; have HB := HB'; have BA := BA'; have BX := BX'; have BR := BR'; clear HB' BA' BX' BR'; (try clear ha0); (try clear ha1); (try clear hx0); (try clear hx1); (try clear hx2); (try clear hx3); (try clear hr0); (try clear hr1); (try clear hr2); have ha0 := (blk_cell BA.out 0).trans rfl; have ha1 := (blk_cell BA.out 1).trans rfl; have hx0 := (blk_cell BX.out 0).trans rfl; have hx1 := (blk_cell BX.out 1).trans rfl; have hx2 := (blk_cell BX.out 2).trans rfl; have hx3 := (blk_cell BX.out 3).trans rfl; have hr0 := (blk_cell BR.out 0).trans rfl; have hr1 := (blk_cell BR.out 1).trans rfl; have hr2 := (blk_cell BR.out 2).trans rfl; (try clear hrf); have hrf := fun i => blk_frozen BR.out i; clear hb hbg; rw [if_neg Hcl.out] at hbe; obtain rfl := hbe; rw [Her.out])
  have hb := B_alloc w1 (.cells #[.slice none 0 0, .slice none 0 0, .map none] 94)
  have HB' := Lib.hid (below_step HB.out hb)
  have BA' := Lib.hid (blk_below BA.out hb)
  have BX' := Lib.hid (blk_below BX.out hb)
  have BR' := Lib.hid (blk_below BR.out hb)
  clear HB BA BX BR
  have HB := HB'
  have BA := BA'
  have BX := BX'
  have BR := BR'
  clear HB' BA' BX' BR'
  (try clear ha0)
  (try clear ha1)
  (try clear hx0)
  (try clear hx1)
  (try clear hx2)
  (try clear hx3)
  (try clear hr0)
  (try clear hr1)
  (try clear hr2)
  have ha0 := (blk_cell BA.out 0).trans rfl
  have ha1 := (blk_cell BA.out 1).trans rfl
  have hx0 := (blk_cell BX.out 0).trans rfl
  have hx1 := (blk_cell BX.out 1).trans rfl
  have hx2 := (blk_cell BX.out 2).trans rfl
  have hx3 := (blk_cell BX.out 3).trans rfl
  have hr0 := (blk_cell BR.out 0).trans rfl
  have hr1 := (blk_cell BR.out 1).trans rfl
  have hr2 := (blk_cell BR.out 2).trans rfl
  (try clear hrf)
  have hrf := fun i => blk_frozen BR.out i
  clear hb
  go_wp2_with fail
  refine bodyPost_ret (results_ctt rfl _ _ (w.heap.size + 1 + 1) 94 _ (0, 0) _ rfl (put3 BR.out) Tryd.underlying94 rfl (by kernel_rfl)) rfl ?_
  exact ⟨below_set (below_set (below_set HB.out (by omega)) (by omega)) (by omega), fun h => absurd h Hne.out, fun _ => ⟨_, _, _, _, _, _, _, _, rfl⟩⟩
set_option maxHeartbeats 10000000 in
set_option maxRecDepth 100000 in
theorem one_let (A0 A1 : Option Addr) (c0 c1 : Nat) (l0 : List ByteArray) (l1 : List Letter) (v : Int) (s : ByteArray) (x : Affix) (w : World) (hF : Kd.C Kd.string w A0 l0.length l0) (hcF : l0.length ≤ c0) (hL : Kd.C kLetter w A1 l1.length l1) (hcL : l1.length ≤ c1) (hT : Tabs w) (hcl : (classOf l0 l1 v 0).2 = 0) (hle : ¬ (lettersOf l0 l1 s).2 = 0) :
    Calls Tryd.prog 42 #[.agg #[.slice A0 l0.length c0, .slice A1 l1.length c1], .int .u32 v, .string s, .agg #[.int .u8 x.f0, .string x.f1, .string x.f2, .int .i64 x.f3]] w fun e w' => StemPost A0 A1 c0 c1 l0 l1 v s w w' e (oneE l0 l1 v s x) := by
  have HB0 := boxes3 w (.cells #[.slice A0 l0.length c0, .slice A1 l1.length c1] 25) (.cells #[.int .u8 x.f0, .string x.f1, .string x.f2, .int .i64 x.f3] 49) (.cells #[.slice none 0 0, .slice none 0 0, .map none] 94)
  have HB := Lib.hid HB0.1
  have BA := Lib.hid HB0.2.1
  have BX := Lib.hid HB0.2.2.1
  have BR := Lib.hid HB0.2.2.2
  clear HB0
  have hbg := fun W (hb : Below w.heap.size w W) => begun.calls A0 A1 c0 c1 l0 l1 v W (Kd.C_below hF hb) hcF (Kd.C_below hL hb) hcL
  have hlt := fun W (hb : Below w.heap.size w W) => word_Letters.calls A0 c0 l0 A1 c1 l1 s (lettersOf l0 l1 s).1 (lettersOf l0 l1 s).2 W (Kd.C_below hF hb) hcF (Kd.C_below hL hb) hcL (hT.below hb) rfl
  have her : (lettersOf l0 l1 s).2 = oneE l0 l1 v s x := by unfold oneE; rw [if_pos hcl, if_neg hle]
  obtain ⟨er, herr⟩ : ∃ er, er = oneE l0 l1 v s x := ⟨_, rfl⟩
  rw [← herr] at her ⊢
  rw [her] at hlt
  have hne : er ≠ 0 := by rw [← her]; exact hle
  have Hne := Lib.hid hne
  have Hcl := Lib.hid hcl
  have hneb : (er != 0) = true := bne_iff_ne.mpr hne
  clear her herr hne hcl hle
  clear hF hL hT
  go_enter Tryd.func42, Tryd.ntmps42
  go_upto_region 2 with (go_at_call 62; refine (hbg _ HB.out).mono ?_; rintro e w1 ⟨hb, hbe⟩; have HB' := Lib.hid (below_step HB.out hb); have BA' := Lib.hid (blk_below BA.out hb); have BX' := Lib.hid (blk_below BX.out hb); have BR' := Lib.hid (blk_below BR.out hb); clear HB BA BX BR; have HB := HB'; have BA := BA'; have BX := BX'; have BR := BR'; clear HB' BA' BX' BR'; (try clear ha0); (try clear ha1); (try clear hx0); (try clear hx1); (try clear hx2); (try clear hx3); (try clear hr0); (try clear hr1); (try clear hr2); have ha0 := (blk_cell BA.out 0).trans rfl; have ha1 := (blk_cell BA.out 1).trans rfl; have hx0 := (blk_cell BX.out 0).trans rfl; have hx1 := (blk_cell BX.out 1).trans rfl; have hx2 := (blk_cell BX.out 2).trans rfl; have hx3 := (blk_cell BX.out 3).trans rfl; have hr0 := (blk_cell BR.out 0).trans rfl; have hr1 := (blk_cell BR.out 1).trans rfl; have hr2 := (blk_cell BR.out 2).trans rfl; (try clear hrf); have hrf := fun i => blk_frozen BR.out i; clear hb hbg; rw [if_pos Hcl.out] at hbe; obtain ⟨bm, rfl, hM⟩ := hbe; have HM := Lib.hid hM; clear hM)
  have HBM : Hid (bm < w1.heap.size) := HM.out.lt
  have BS := Lib.hid (blk_new w1 (.cells #[.slice A0 l0.length c0, .slice A1 l1.length c1, .map (some bm)] 94))
  have hb := B_alloc w1 (.cells #[.slice A0 l0.length c0, .slice A1 l1.length c1, .map (some bm)] 94)
  have HB' := Lib.hid (below_step HB.out hb)
  have BA' := Lib.hid (blk_below BA.out hb)
  have BX' := Lib.hid (blk_below BX.out hb)
  have BR' := Lib.hid (blk_below BR.out hb)
  have HM' := Lib.hid (ConsAt.below HM.out hb)
  clear HB BA BX BR HM
  have HB := HB'
  have BA := BA'
  have BX := BX'
  have BR := BR'
  have HM := HM'
  clear HB' BA' BX' BR' HM'
  (try clear ha0)
  (try clear ha1)
  (try clear hx0)
  (try clear hx1)
  (try clear hx2)
  (try clear hx3)
  (try clear hr0)
  (try clear hr1)
  (try clear hr2)
  have ha0 := (blk_cell BA.out 0).trans rfl
  have ha1 := (blk_cell BA.out 1).trans rfl
  have hx0 := (blk_cell BX.out 0).trans rfl
  have hx1 := (blk_cell BX.out 1).trans rfl
  have hx2 := (blk_cell BX.out 2).trans rfl
  have hx3 := (blk_cell BX.out 3).trans rfl
  have hr0 := (blk_cell BR.out 0).trans rfl
  have hr1 := (blk_cell BR.out 1).trans rfl
  have hr2 := (blk_cell BR.out 2).trans rfl
  (try clear hrf)
  have hrf := fun i => blk_frozen BR.out i
  clear hb
  have hs0 := (blk_cell BS.out 0).trans rfl
  have hs1 := (blk_cell BS.out 1).trans rfl
  have hs2 := (blk_cell BS.out 2).trans rfl
  go_wp2_with (go_at_call 37; refine (hlt _ HB.out).mono ?_; rintro e w3 ⟨v3, rfl, hR3, hb⟩; obtain ⟨Al, cl, rfl, hcl3, hCl3⟩ := Kd.R_reads hR3; have HC := Lib.hid hCl3; have HB' := Lib.hid (below_step HB.out hb); have BA' := Lib.hid (blk_below BA.out hb); have BX' := Lib.hid (blk_below BX.out hb); have BR' := Lib.hid (blk_below BR.out hb); have BS' := Lib.hid (blk_below BS.out hb); have HM' := Lib.hid (ConsAt.below HM.out hb); clear HB BA BX BR BS HM; have HB := HB'; have BA := BA'; have BX := BX'; have BR := BR'; have BS := BS'; have HM := HM'; clear HB' BA' BX' BR' BS' HM'; (try clear ha0); (try clear ha1); (try clear hx0); (try clear hx1); (try clear hx2); (try clear hx3); (try clear hr0); (try clear hr1); (try clear hr2); (try clear hs0); (try clear hs1); (try clear hs2); have ha0 := (blk_cell BA.out 0).trans rfl; have ha1 := (blk_cell BA.out 1).trans rfl; have hx0 := (blk_cell BX.out 0).trans rfl; have hx1 := (blk_cell BX.out 1).trans rfl; have hx2 := (blk_cell BX.out 2).trans rfl; have hx3 := (blk_cell BX.out 3).trans rfl; have hr0 := (blk_cell BR.out 0).trans rfl; have hr1 := (blk_cell BR.out 1).trans rfl; have hr2 := (blk_cell BR.out 2).trans rfl; (try clear hrf); have hrf := fun i => blk_frozen BR.out i; have hs0 := (blk_cell BS.out 0).trans rfl; have hs1 := (blk_cell BS.out 1).trans rfl; have hs2 := (blk_cell BS.out 2).trans rfl; clear hb hR3 hCl3 hlt)
  refine bodyPost_ret (results_ctt rfl _ _ (w.heap.size + 1 + 1) 94 _ (0, 0) _ rfl (put3 BR.out) Tryd.underlying94 rfl (by kernel_rfl)) rfl ?_
  exact ⟨below_set (below_set (below_set HB.out (by omega)) (by omega)) (by omega), fun h => absurd h Hne.out, fun _ => ⟨_, _, _, _, _, _, _, _, rfl⟩⟩
set_option maxHeartbeats 10000000 in
set_option maxRecDepth 100000 in
theorem one_aff (A0 A1 : Option Addr) (c0 c1 : Nat) (l0 : List ByteArray) (l1 : List Letter) (v : Int) (s : ByteArray) (x : Affix) (w : World) (hF : Kd.C Kd.string w A0 l0.length l0) (hcF : l0.length ≤ c0) (hL : Kd.C kLetter w A1 l1.length l1) (hcL : l1.length ≤ c1) (hT : Tabs w) (hcl : (classOf l0 l1 v 0).2 = 0) (hle : (lettersOf l0 l1 s).2 = 0) (hok : affOk l0 l1 x = false) (h1 : (x.f1.size : Int) ≤ 140737488351232) (h2 : (x.f2.size : Int) ≤ 140737488351232) :
    Calls Tryd.prog 42 #[.agg #[.slice A0 l0.length c0, .slice A1 l1.length c1], .int .u32 v, .string s, .agg #[.int .u8 x.f0, .string x.f1, .string x.f2, .int .i64 x.f3]] w fun e w' => StemPost A0 A1 c0 c1 l0 l1 v s w w' e (oneE l0 l1 v s x) := by
  have HB0 := boxes3 w (.cells #[.slice A0 l0.length c0, .slice A1 l1.length c1] 25) (.cells #[.int .u8 x.f0, .string x.f1, .string x.f2, .int .i64 x.f3] 49) (.cells #[.slice none 0 0, .slice none 0 0, .map none] 94)
  have HB := Lib.hid HB0.1
  have BA := Lib.hid HB0.2.1
  have BX := Lib.hid HB0.2.2.1
  have BR := Lib.hid HB0.2.2.2
  clear HB0
  have hbg := fun W (hb : Below w.heap.size w W) => begun.calls A0 A1 c0 c1 l0 l1 v W (Kd.C_below hF hb) hcF (Kd.C_below hL hb) hcL
  have hlt := fun W (hb : Below w.heap.size w W) => word_Letters.calls A0 c0 l0 A1 c1 l1 s (lettersOf l0 l1 s).1 (lettersOf l0 l1 s).2 W (Kd.C_below hF hb) hcF (Kd.C_below hL hb) hcL (hT.below hb) rfl
  have hmd := fun W (hb : Below w.heap.size w W) => made.calls A0 A1 c0 c1 l0 l1 x W (Kd.C_below hF hb) hcF (Kd.C_below hL hb) hcL (hT.below hb) h1 h2
  have her : oneE l0 l1 v s x = 170 := by unfold oneE; rw [if_pos hcl, if_pos hle, hok]; rfl
  rw [her]
  rw [hle] at hlt
  have Hne : Hid ((170 : Int) ≠ 0) := by simp [Hid]
  have Hcl := Lib.hid hcl
  have Hok := Lib.hid hok
  clear her hcl hle hok
  clear hF hL hT
  go_enter Tryd.func42, Tryd.ntmps42
  go_upto_region 2 with (go_at_call 62; refine (hbg _ HB.out).mono ?_; rintro e w1 ⟨hb, hbe⟩; have HB' := Lib.hid (below_step HB.out hb); have BA' := Lib.hid (blk_below BA.out hb); have BX' := Lib.hid (blk_below BX.out hb); have BR' := Lib.hid (blk_below BR.out hb); clear HB BA BX BR; have HB := HB'; have BA := BA'; have BX := BX'; have BR := BR'; clear HB' BA' BX' BR'; (try clear ha0); (try clear ha1); (try clear hx0); (try clear hx1); (try clear hx2); (try clear hx3); (try clear hr0); (try clear hr1); (try clear hr2); have ha0 := (blk_cell BA.out 0).trans rfl; have ha1 := (blk_cell BA.out 1).trans rfl; have hx0 := (blk_cell BX.out 0).trans rfl; have hx1 := (blk_cell BX.out 1).trans rfl; have hx2 := (blk_cell BX.out 2).trans rfl; have hx3 := (blk_cell BX.out 3).trans rfl; have hr0 := (blk_cell BR.out 0).trans rfl; have hr1 := (blk_cell BR.out 1).trans rfl; have hr2 := (blk_cell BR.out 2).trans rfl; (try clear hrf); have hrf := fun i => blk_frozen BR.out i; clear hb hbg; rw [if_pos Hcl.out] at hbe; obtain ⟨bm, rfl, hM⟩ := hbe; have HM := Lib.hid hM; clear hM)
  have HBM : Hid (bm < w1.heap.size) := HM.out.lt
  have BS := Lib.hid (blk_new w1 (.cells #[.slice A0 l0.length c0, .slice A1 l1.length c1, .map (some bm)] 94))
  have hb := B_alloc w1 (.cells #[.slice A0 l0.length c0, .slice A1 l1.length c1, .map (some bm)] 94)
  have HB' := Lib.hid (below_step HB.out hb)
  have BA' := Lib.hid (blk_below BA.out hb)
  have BX' := Lib.hid (blk_below BX.out hb)
  have BR' := Lib.hid (blk_below BR.out hb)
  have HM' := Lib.hid (ConsAt.below HM.out hb)
  clear HB BA BX BR HM
  have HB := HB'
  have BA := BA'
  have BX := BX'
  have BR := BR'
  have HM := HM'
  clear HB' BA' BX' BR' HM'
  (try clear ha0)
  (try clear ha1)
  (try clear hx0)
  (try clear hx1)
  (try clear hx2)
  (try clear hx3)
  (try clear hr0)
  (try clear hr1)
  (try clear hr2)
  have ha0 := (blk_cell BA.out 0).trans rfl
  have ha1 := (blk_cell BA.out 1).trans rfl
  have hx0 := (blk_cell BX.out 0).trans rfl
  have hx1 := (blk_cell BX.out 1).trans rfl
  have hx2 := (blk_cell BX.out 2).trans rfl
  have hx3 := (blk_cell BX.out 3).trans rfl
  have hr0 := (blk_cell BR.out 0).trans rfl
  have hr1 := (blk_cell BR.out 1).trans rfl
  have hr2 := (blk_cell BR.out 2).trans rfl
  (try clear hrf)
  have hrf := fun i => blk_frozen BR.out i
  clear hb
  have hs0 := (blk_cell BS.out 0).trans rfl
  have hs1 := (blk_cell BS.out 1).trans rfl
  have hs2 := (blk_cell BS.out 2).trans rfl
  go_upto_region 7 with (go_at_call 37; refine (hlt _ HB.out).mono ?_; rintro e w3 ⟨v3, rfl, hR3, hb⟩; obtain ⟨Al, cl, rfl, hcl3, hCl3⟩ := Kd.R_reads hR3; have HC := Lib.hid hCl3; have HB' := Lib.hid (below_step HB.out hb); have BA' := Lib.hid (blk_below BA.out hb); have BX' := Lib.hid (blk_below BX.out hb); have BR' := Lib.hid (blk_below BR.out hb); have BS' := Lib.hid (blk_below BS.out hb); have HM' := Lib.hid (ConsAt.below HM.out hb); clear HB BA BX BR BS HM; have HB := HB'; have BA := BA'; have BX := BX'; have BR := BR'; have BS := BS'; have HM := HM'; clear HB' BA' BX' BR' BS' HM'; (try clear ha0); (try clear ha1); (try clear hx0); (try clear hx1); (try clear hx2); (try clear hx3); (try clear hr0); (try clear hr1); (try clear hr2); (try clear hs0); (try clear hs1); (try clear hs2); have ha0 := (blk_cell BA.out 0).trans rfl; have ha1 := (blk_cell BA.out 1).trans rfl; have hx0 := (blk_cell BX.out 0).trans rfl; have hx1 := (blk_cell BX.out 1).trans rfl; have hx2 := (blk_cell BX.out 2).trans rfl; have hx3 := (blk_cell BX.out 3).trans rfl; have hr0 := (blk_cell BR.out 0).trans rfl; have hr1 := (blk_cell BR.out 1).trans rfl; have hr2 := (blk_cell BR.out 2).trans rfl; (try clear hrf); have hrf := fun i => blk_frozen BR.out i; have hs0 := (blk_cell BS.out 0).trans rfl; have hs1 := (blk_cell BS.out 1).trans rfl; have hs2 := (blk_cell BS.out 2).trans rfl; clear hb hR3 hCl3 hlt)
  go_wp2_with (go_at_call 41; refine (hmd _ HB.out).mono ?_; rintro e w4 ⟨v4, rfl, hA4, hb⟩; rw [Hok.out]; have HB' := Lib.hid (below_step HB.out hb); have BA' := Lib.hid (blk_below BA.out hb); have BX' := Lib.hid (blk_below BX.out hb); have BR' := Lib.hid (blk_below BR.out hb); have BS' := Lib.hid (blk_below BS.out hb); have HM' := Lib.hid (ConsAt.below HM.out hb); have HC' := Lib.hid (Kd.C_below HC.out hb); clear HB BA BX BR BS HM HC; have HB := HB'; have BA := BA'; have BX := BX'; have BR := BR'; have BS := BS'; have HM := HM'; have HC := HC'; clear HB' BA' BX' BR' BS' HM' HC'; (try clear ha0); (try clear ha1); (try clear hx0); (try clear hx1); (try clear hx2); (try clear hx3); (try clear hr0); (try clear hr1); (try clear hr2); (try clear hs0); (try clear hs1); (try clear hs2); have ha0 := (blk_cell BA.out 0).trans rfl; have ha1 := (blk_cell BA.out 1).trans rfl; have hx0 := (blk_cell BX.out 0).trans rfl; have hx1 := (blk_cell BX.out 1).trans rfl; have hx2 := (blk_cell BX.out 2).trans rfl; have hx3 := (blk_cell BX.out 3).trans rfl; have hr0 := (blk_cell BR.out 0).trans rfl; have hr1 := (blk_cell BR.out 1).trans rfl; have hr2 := (blk_cell BR.out 2).trans rfl; (try clear hrf); have hrf := fun i => blk_frozen BR.out i; have hs0 := (blk_cell BS.out 0).trans rfl; have hs1 := (blk_cell BS.out 1).trans rfl; have hs2 := (blk_cell BS.out 2).trans rfl; clear hb hA4 hmd)
  refine bodyPost_ret (results_ctt rfl _ _ (w.heap.size + 1 + 1) 94 _ (0, 0) _ rfl (put3 BR.out) Tryd.underlying94 rfl (by kernel_rfl)) rfl ?_
  exact ⟨below_set (below_set (below_set HB.out (by omega)) (by omega)) (by omega), fun h => absurd h Hne.out, fun _ => ⟨_, _, _, _, _, _, _, _, rfl⟩⟩
set_option maxHeartbeats 10000000 in
set_option maxRecDepth 100000 in
theorem one_ok (A0 A1 : Option Addr) (c0 c1 : Nat) (l0 : List ByteArray) (l1 : List Letter) (v : Int) (s : ByteArray) (x : Affix) (w : World) (hF : Kd.C Kd.string w A0 l0.length l0) (hcF : l0.length ≤ c0) (hL : Kd.C kLetter w A1 l1.length l1) (hcL : l1.length ≤ c1) (hT : Tabs w) (hcl : (classOf l0 l1 v 0).2 = 0) (hle : (lettersOf l0 l1 s).2 = 0) (hok : affOk l0 l1 x = true) (h1 : (x.f1.size : Int) ≤ 140737488351232) (h2 : (x.f2.size : Int) ≤ 140737488351232) :
    Calls Tryd.prog 42 #[.agg #[.slice A0 l0.length c0, .slice A1 l1.length c1], .int .u32 v, .string s, .agg #[.int .u8 x.f0, .string x.f1, .string x.f2, .int .i64 x.f3]] w fun e w' => StemPost A0 A1 c0 c1 l0 l1 v s w w' e (oneE l0 l1 v s x) := by
  have HB0 := boxes3 w (.cells #[.slice A0 l0.length c0, .slice A1 l1.length c1] 25) (.cells #[.int .u8 x.f0, .string x.f1, .string x.f2, .int .i64 x.f3] 49) (.cells #[.slice none 0 0, .slice none 0 0, .map none] 94)
  have HB := Lib.hid HB0.1
  have BA := Lib.hid HB0.2.1
  have BX := Lib.hid HB0.2.2.1
  have BR := Lib.hid HB0.2.2.2
  clear HB0
  have hbg := fun W (hb : Below w.heap.size w W) => begun.calls A0 A1 c0 c1 l0 l1 v W (Kd.C_below hF hb) hcF (Kd.C_below hL hb) hcL
  have hlt := fun W (hb : Below w.heap.size w W) => word_Letters.calls A0 c0 l0 A1 c1 l1 s (lettersOf l0 l1 s).1 (lettersOf l0 l1 s).2 W (Kd.C_below hF hb) hcF (Kd.C_below hL hb) hcL (hT.below hb) rfl
  have hmd := fun W (hb : Below w.heap.size w W) => made.calls A0 A1 c0 c1 l0 l1 x W (Kd.C_below hF hb) hcF (Kd.C_below hL hb) hcL (hT.below hb) h1 h2
  have her : oneE l0 l1 v s x = 0 := by unfold oneE; rw [if_pos hcl, if_pos hle, hok]; rfl
  rw [her]
  rw [hle] at hlt
  have Hcl := Lib.hid hcl
  have Hok := Lib.hid hok
  clear her hcl hle hok
  clear hF hL hT
  go_enter Tryd.func42, Tryd.ntmps42
  go_upto_region 2 with (go_at_call 62; refine (hbg _ HB.out).mono ?_; rintro e w1 ⟨hb, hbe⟩; have HB' := Lib.hid (below_step HB.out hb); have BA' := Lib.hid (blk_below BA.out hb); have BX' := Lib.hid (blk_below BX.out hb); have BR' := Lib.hid (blk_below BR.out hb); clear HB BA BX BR; have HB := HB'; have BA := BA'; have BX := BX'; have BR := BR'; clear HB' BA' BX' BR'; (try clear ha0); (try clear ha1); (try clear hx0); (try clear hx1); (try clear hx2); (try clear hx3); (try clear hr0); (try clear hr1); (try clear hr2); have ha0 := (blk_cell BA.out 0).trans rfl; have ha1 := (blk_cell BA.out 1).trans rfl; have hx0 := (blk_cell BX.out 0).trans rfl; have hx1 := (blk_cell BX.out 1).trans rfl; have hx2 := (blk_cell BX.out 2).trans rfl; have hx3 := (blk_cell BX.out 3).trans rfl; have hr0 := (blk_cell BR.out 0).trans rfl; have hr1 := (blk_cell BR.out 1).trans rfl; have hr2 := (blk_cell BR.out 2).trans rfl; (try clear hrf); have hrf := fun i => blk_frozen BR.out i; clear hb hbg; rw [if_pos Hcl.out] at hbe; obtain ⟨bm, rfl, hM⟩ := hbe; have HM := Lib.hid hM; clear hM)
  have HBM : Hid (bm < w1.heap.size) := HM.out.lt
  have BS := Lib.hid (blk_new w1 (.cells #[.slice A0 l0.length c0, .slice A1 l1.length c1, .map (some bm)] 94))
  have hb := B_alloc w1 (.cells #[.slice A0 l0.length c0, .slice A1 l1.length c1, .map (some bm)] 94)
  have HB' := Lib.hid (below_step HB.out hb)
  have BA' := Lib.hid (blk_below BA.out hb)
  have BX' := Lib.hid (blk_below BX.out hb)
  have BR' := Lib.hid (blk_below BR.out hb)
  have HM' := Lib.hid (ConsAt.below HM.out hb)
  clear HB BA BX BR HM
  have HB := HB'
  have BA := BA'
  have BX := BX'
  have BR := BR'
  have HM := HM'
  clear HB' BA' BX' BR' HM'
  (try clear ha0)
  (try clear ha1)
  (try clear hx0)
  (try clear hx1)
  (try clear hx2)
  (try clear hx3)
  (try clear hr0)
  (try clear hr1)
  (try clear hr2)
  have ha0 := (blk_cell BA.out 0).trans rfl
  have ha1 := (blk_cell BA.out 1).trans rfl
  have hx0 := (blk_cell BX.out 0).trans rfl
  have hx1 := (blk_cell BX.out 1).trans rfl
  have hx2 := (blk_cell BX.out 2).trans rfl
  have hx3 := (blk_cell BX.out 3).trans rfl
  have hr0 := (blk_cell BR.out 0).trans rfl
  have hr1 := (blk_cell BR.out 1).trans rfl
  have hr2 := (blk_cell BR.out 2).trans rfl
  (try clear hrf)
  have hrf := fun i => blk_frozen BR.out i
  clear hb
  have hs0 := (blk_cell BS.out 0).trans rfl
  have hs1 := (blk_cell BS.out 1).trans rfl
  have hs2 := (blk_cell BS.out 2).trans rfl
  go_upto_region 7 with (go_at_call 37; refine (hlt _ HB.out).mono ?_; rintro e w3 ⟨v3, rfl, hR3, hb⟩; obtain ⟨Al, cl, rfl, hcl3, hCl3⟩ := Kd.R_reads hR3; have HC := Lib.hid hCl3; have HB' := Lib.hid (below_step HB.out hb); have BA' := Lib.hid (blk_below BA.out hb); have BX' := Lib.hid (blk_below BX.out hb); have BR' := Lib.hid (blk_below BR.out hb); have BS' := Lib.hid (blk_below BS.out hb); have HM' := Lib.hid (ConsAt.below HM.out hb); clear HB BA BX BR BS HM; have HB := HB'; have BA := BA'; have BX := BX'; have BR := BR'; have BS := BS'; have HM := HM'; clear HB' BA' BX' BR' BS' HM'; (try clear ha0); (try clear ha1); (try clear hx0); (try clear hx1); (try clear hx2); (try clear hx3); (try clear hr0); (try clear hr1); (try clear hr2); (try clear hs0); (try clear hs1); (try clear hs2); have ha0 := (blk_cell BA.out 0).trans rfl; have ha1 := (blk_cell BA.out 1).trans rfl; have hx0 := (blk_cell BX.out 0).trans rfl; have hx1 := (blk_cell BX.out 1).trans rfl; have hx2 := (blk_cell BX.out 2).trans rfl; have hx3 := (blk_cell BX.out 3).trans rfl; have hr0 := (blk_cell BR.out 0).trans rfl; have hr1 := (blk_cell BR.out 1).trans rfl; have hr2 := (blk_cell BR.out 2).trans rfl; (try clear hrf); have hrf := fun i => blk_frozen BR.out i; have hs0 := (blk_cell BS.out 0).trans rfl; have hs1 := (blk_cell BS.out 1).trans rfl; have hs2 := (blk_cell BS.out 2).trans rfl; clear hb hR3 hCl3 hlt)
  go_wp2_with (go_at_call 41; refine (hmd _ HB.out).mono ?_; rintro e w4 ⟨v4, rfl, hA4, hb⟩; rw [Hok.out]; have HB' := Lib.hid (below_step HB.out hb); have BA' := Lib.hid (blk_below BA.out hb); have BX' := Lib.hid (blk_below BX.out hb); have BR' := Lib.hid (blk_below BR.out hb); have BS' := Lib.hid (blk_below BS.out hb); have HM' := Lib.hid (ConsAt.below HM.out hb); have HC' := Lib.hid (Kd.C_below HC.out hb); clear HB BA BX BR BS HM HC; have HB := HB'; have BA := BA'; have BX := BX'; have BR := BR'; have BS := BS'; have HM := HM'; have HC := HC'; clear HB' BA' BX' BR' BS' HM' HC'; (try clear ha0); (try clear ha1); (try clear hx0); (try clear hx1); (try clear hx2); (try clear hx3); (try clear hr0); (try clear hr1); (try clear hr2); (try clear hs0); (try clear hs1); (try clear hs2); have ha0 := (blk_cell BA.out 0).trans rfl; have ha1 := (blk_cell BA.out 1).trans rfl; have hx0 := (blk_cell BX.out 0).trans rfl; have hx1 := (blk_cell BX.out 1).trans rfl; have hx2 := (blk_cell BX.out 2).trans rfl; have hx3 := (blk_cell BX.out 3).trans rfl; have hr0 := (blk_cell BR.out 0).trans rfl; have hr1 := (blk_cell BR.out 1).trans rfl; have hr2 := (blk_cell BR.out 2).trans rfl; (try clear hrf); have hrf := fun i => blk_frozen BR.out i; have hs0 := (blk_cell BS.out 0).trans rfl; have hs1 := (blk_cell BS.out 1).trans rfl; have hs2 := (blk_cell BS.out 2).trans rfl; clear hb hA4 hmd)
  refine bodyPost_ret (results_ctt rfl _ _ (w.heap.size + 1 + 1) 94 _ (0, 0) _ rfl (put3 BR.out) Tryd.underlying94 rfl (by kernel_rfl)) rfl ?_
  exact ⟨below_set (below_set (below_set HB.out (by omega)) (by omega)) (by omega), fun _ => ⟨bm, Al, cl, rfl, hcl3, C_set3 HC.out BR.out, cons_set3 HM.out BR.out⟩, fun h => absurd rfl h⟩
end Go.Proofs.YthmjheclhcdinaaDoor.Ext
end
section
/-
  paradigm.cell by walks.
-/
set_option linter.unusedSimpArgs false
set_option linter.unusedVariables false
namespace Go.Proofs.YthmjheclhcdinaaDoor.Ext
open Go.RowKit Go.Maps Go.Proofs.YthmjheclhcdinaaDoor Go.Proofs.YthmjheclhcdinaaDoorW.PrintWords Go.Proofs.YthmjheclhcdinaaDoorW.PrintLast Go.Proofs.YthmjheclhcdinaaDoorW.PrintMore
theorem one.calls (A0 A1 : Option Addr) (c0 c1 : Nat) (l0 : List ByteArray) (l1 : List Letter) (v : Int) (s : ByteArray) (x : Affix) (w : World) (hF : Kd.C Kd.string w A0 l0.length l0) (hcF : l0.length ≤ c0) (hL : Kd.C kLetter w A1 l1.length l1) (hcL : l1.length ≤ c1) (hT : Tabs w) (h1 : (x.f1.size : Int) ≤ 140737488351232) (h2 : (x.f2.size : Int) ≤ 140737488351232) :
    Calls Tryd.prog 42 #[.agg #[.slice A0 l0.length c0, .slice A1 l1.length c1], .int .u32 v, .string s, .agg #[.int .u8 x.f0, .string x.f1, .string x.f2, .int .i64 x.f3]] w fun e w' => StemPost A0 A1 c0 c1 l0 l1 v s w w' e (oneE l0 l1 v s x) := by
  by_cases hc : (classOf l0 l1 v 0).2 = 0
  · by_cases hl : (lettersOf l0 l1 s).2 = 0
    · cases ho : affOk l0 l1 x with
      | true => exact one_ok A0 A1 c0 c1 l0 l1 v s x w hF hcF hL hcL hT hc hl ho h1 h2
      | false => exact one_aff A0 A1 c0 c1 l0 l1 v s x w hF hcF hL hcL hT hc hl ho h1 h2
    · exact one_let A0 A1 c0 c1 l0 l1 v s x w hF hcF hL hcL hT hc hl
  · exact one_cls A0 A1 c0 c1 l0 l1 v s x w hF hcF hL hcL hT hc
def cellE (l0 : List ByteArray) (l1 : List Letter) (v : Int) (n : ByteArray) (C : List Cell) (i : Int) (s : ByteArray) : Int :=
  if (classOf l0 l1 v 0).2 = 0 then (if chkP l0 l1 n C = 0 then (if 0 ≤ i ∧ i < C.length then (lettersOf l0 l1 s).2 else 8) else chkP l0 l1 n C) else (classOf l0 l1 v 0).2
set_option maxHeartbeats 10000000 in
set_option maxRecDepth 100000 in
theorem cell_cls (A0 A1 : Option Addr) (c0 c1 : Nat) (l0 : List ByteArray) (l1 : List Letter) (v : Int) (s : ByteArray) (n : ByteArray) (Ac : Option Addr) (cc : Nat) (C : List Cell) (i : Int) (w : World) (hF : Kd.C Kd.string w A0 l0.length l0) (hcF : l0.length ≤ c0) (hL : Kd.C kLetter w A1 l1.length l1) (hcL : l1.length ≤ c1) (hT : Tabs w) (hcl : ¬ (classOf l0 l1 v 0).2 = 0) :
    Calls Tryd.prog 45 #[.agg #[.slice A0 l0.length c0, .slice A1 l1.length c1], .int .u32 v, .agg #[.string n, .slice Ac C.length cc], .int .i64 i, .string s] w fun e w' => StemPost A0 A1 c0 c1 l0 l1 v s w w' e (cellE l0 l1 v n C i s) := by
  have HB0 := boxes3 w (.cells #[.slice A0 l0.length c0, .slice A1 l1.length c1] 25) (.cells #[.string n, .slice Ac C.length cc] 45) (.cells #[.slice none 0 0, .slice none 0 0, .map none] 94)
  have HB := Lib.hid HB0.1
  have BA := Lib.hid HB0.2.1
  have BX := Lib.hid HB0.2.2.1
  have BR := Lib.hid HB0.2.2.2
  clear HB0
  have hbg := fun W (hb : Below w.heap.size w W) => begun.calls A0 A1 c0 c1 l0 l1 v W (Kd.C_below hF hb) hcF (Kd.C_below hL hb) hcL
  have hlt := fun W (hb : Below w.heap.size w W) => word_Letters.calls A0 c0 l0 A1 c1 l1 s (lettersOf l0 l1 s).1 (lettersOf l0 l1 s).2 W (Kd.C_below hF hb) hcF (Kd.C_below hL hb) hcL (hT.below hb) rfl
  have her : (classOf l0 l1 v 0).2 = cellE l0 l1 v n C i s := by unfold cellE; rw [if_neg hcl]
  obtain ⟨er, herr⟩ : ∃ er, er = cellE l0 l1 v n C i s := ⟨_, rfl⟩
  rw [← herr] at her ⊢
  have hne : er ≠ 0 := by rw [← her]; exact hcl
  have Hne := Lib.hid hne
  have Her := Lib.hid her
  have Hcl := Lib.hid hcl
  have hneb : (er != 0) = true := bne_iff_ne.mpr hne
  clear her herr hne hcl hlt
  clear hF hL hT
  (try clear hC)
  go_enter Tryd.func45, Tryd.ntmps45
  go_upto_region 2 with (go_at_call 62; refine (hbg _ HB.out).mono ?_; rintro e w1 ⟨hb, hbe⟩; have HB' := Lib.hid (below_step HB.out hb); have BA' := Lib.hid (blk_below BA.out hb); have BX' := Lib.hid (blk_below BX.out hb); have BR' := Lib.hid (blk_below BR.out hb); clear HB BA BX BR; have HB := HB'; have BA := BA'; have BX := BX'; have BR := BR'; clear HB' BA' BX' BR'; (try clear ha0); (try clear ha1); (try clear hx0); (try clear hx1); (try clear hr0); (try clear hr1); (try clear hr2); have ha0 := (blk_cell BA.out 0).trans rfl; have ha1 := (blk_cell BA.out 1).trans rfl; have hx0 := (blk_cell BX.out 0).trans rfl; have hx1 := (blk_cell BX.out 1).trans rfl; have hr0 := (blk_cell BR.out 0).trans rfl; have hr1 := (blk_cell BR.out 1).trans rfl; have hr2 := (blk_cell BR.out 2).trans rfl; (try clear hrf); have hrf := fun i => blk_frozen BR.out i; clear hb hbg; rw [if_neg Hcl.out] at hbe; obtain rfl := hbe; rw [Her.out])
  have hb := B_alloc w1 (.cells #[.slice none 0 0, .slice none 0 0, .map none] 94)
  have HB' := Lib.hid (below_step HB.out hb)
  have BA' := Lib.hid (blk_below BA.out hb)
  have BX' := Lib.hid (blk_below BX.out hb)
  have BR' := Lib.hid (blk_below BR.out hb)
  clear HB BA BX BR
  have HB := HB'
  have BA := BA'
  have BX := BX'
  have BR := BR'
  clear HB' BA' BX' BR'
  (try clear ha0)
  (try clear ha1)
  (try clear hx0)
  (try clear hx1)
  (try clear hr0)
  (try clear hr1)
  (try clear hr2)
  have ha0 := (blk_cell BA.out 0).trans rfl
  have ha1 := (blk_cell BA.out 1).trans rfl
  have hx0 := (blk_cell BX.out 0).trans rfl
  have hx1 := (blk_cell BX.out 1).trans rfl
  have hr0 := (blk_cell BR.out 0).trans rfl
  have hr1 := (blk_cell BR.out 1).trans rfl
  have hr2 := (blk_cell BR.out 2).trans rfl
  (try clear hrf)
  have hrf := fun i => blk_frozen BR.out i
  clear hb
  go_wp2_with fail
  refine bodyPost_ret (results_ctt rfl _ _ (w.heap.size + 1 + 1) 94 _ (0, 0) _ rfl (put3 BR.out) Tryd.underlying94 rfl (by kernel_rfl)) rfl ?_
  exact ⟨below_set (below_set (below_set HB.out (by omega)) (by omega)) (by omega), fun h => absurd h Hne.out, fun _ => ⟨_, _, _, _, _, _, _, _, rfl⟩⟩
set_option maxHeartbeats 10000000 in
set_option maxRecDepth 100000 in
theorem cell_chk (A0 A1 : Option Addr) (c0 c1 : Nat) (l0 : List ByteArray) (l1 : List Letter) (v : Int) (s : ByteArray) (n : ByteArray) (Ac : Option Addr) (cc : Nat) (C : List Cell) (i : Int) (w : World) (hF : Kd.C Kd.string w A0 l0.length l0) (hcF : l0.length ≤ c0) (hL : Kd.C kLetter w A1 l1.length l1) (hcL : l1.length ≤ c1) (hT : Tabs w) (hcl : (classOf l0 l1 v 0).2 = 0) (hch : ¬ chkP l0 l1 n C = 0) (hC : Kd.C kCell w Ac C.length C) (hcC : C.length ≤ cc) (hs : sizedC C) (hns : n.size ≤ 140737488351232) :
    Calls Tryd.prog 45 #[.agg #[.slice A0 l0.length c0, .slice A1 l1.length c1], .int .u32 v, .agg #[.string n, .slice Ac C.length cc], .int .i64 i, .string s] w fun e w' => StemPost A0 A1 c0 c1 l0 l1 v s w w' e (cellE l0 l1 v n C i s) := by
  have HB0 := boxes3 w (.cells #[.slice A0 l0.length c0, .slice A1 l1.length c1] 25) (.cells #[.string n, .slice Ac C.length cc] 45) (.cells #[.slice none 0 0, .slice none 0 0, .map none] 94)
  have HB := Lib.hid HB0.1
  have BA := Lib.hid HB0.2.1
  have BX := Lib.hid HB0.2.2.1
  have BR := Lib.hid HB0.2.2.2
  clear HB0
  have hbg := fun W (hb : Below w.heap.size w W) => begun.calls A0 A1 c0 c1 l0 l1 v W (Kd.C_below hF hb) hcF (Kd.C_below hL hb) hcL
  have hlt := fun W (hb : Below w.heap.size w W) => word_Letters.calls A0 c0 l0 A1 c1 l1 s (lettersOf l0 l1 s).1 (lettersOf l0 l1 s).2 W (Kd.C_below hF hb) hcF (Kd.C_below hL hb) hcL (hT.below hb) rfl
  have hpc := fun W (hb : Below w.heap.size w W) => pcheck.calls A0 A1 c0 c1 l0 l1 n Ac cc C W (Kd.C_below hF hb) hcF (Kd.C_below hL hb) hcL (Kd.C_below hC hb) hcC (hT.below hb) hs hns
  have her : chkP l0 l1 n C = cellE l0 l1 v n C i s := by unfold cellE; rw [if_pos hcl, if_neg hch]
  obtain ⟨er, herr⟩ : ∃ er, er = cellE l0 l1 v n C i s := ⟨_, rfl⟩
  rw [← herr] at her ⊢
  rw [her] at hpc
  have hne : er ≠ 0 := by rw [← her]; exact hch
  have Hne := Lib.hid hne
  have Hcl := Lib.hid hcl
  have hneb : (er != 0) = true := bne_iff_ne.mpr hne
  clear her herr hne hcl hch
  clear hF hL hT
  (try clear hC)
  go_enter Tryd.func45, Tryd.ntmps45
  go_upto_region 2 with (go_at_call 62; refine (hbg _ HB.out).mono ?_; rintro e w1 ⟨hb, hbe⟩; have HB' := Lib.hid (below_step HB.out hb); have BA' := Lib.hid (blk_below BA.out hb); have BX' := Lib.hid (blk_below BX.out hb); have BR' := Lib.hid (blk_below BR.out hb); clear HB BA BX BR; have HB := HB'; have BA := BA'; have BX := BX'; have BR := BR'; clear HB' BA' BX' BR'; (try clear ha0); (try clear ha1); (try clear hx0); (try clear hx1); (try clear hr0); (try clear hr1); (try clear hr2); have ha0 := (blk_cell BA.out 0).trans rfl; have ha1 := (blk_cell BA.out 1).trans rfl; have hx0 := (blk_cell BX.out 0).trans rfl; have hx1 := (blk_cell BX.out 1).trans rfl; have hr0 := (blk_cell BR.out 0).trans rfl; have hr1 := (blk_cell BR.out 1).trans rfl; have hr2 := (blk_cell BR.out 2).trans rfl; (try clear hrf); have hrf := fun i => blk_frozen BR.out i; clear hb hbg; rw [if_pos Hcl.out] at hbe; obtain ⟨bm, rfl, hM⟩ := hbe; have HM := Lib.hid hM; clear hM)
  have HBM : Hid (bm < w1.heap.size) := HM.out.lt
  have BS := Lib.hid (blk_new w1 (.cells #[.slice A0 l0.length c0, .slice A1 l1.length c1, .map (some bm)] 94))
  have hb := B_alloc w1 (.cells #[.slice A0 l0.length c0, .slice A1 l1.length c1, .map (some bm)] 94)
  have HB' := Lib.hid (below_step HB.out hb)
  have BA' := Lib.hid (blk_below BA.out hb)
  have BX' := Lib.hid (blk_below BX.out hb)
  have BR' := Lib.hid (blk_below BR.out hb)
  have HM' := Lib.hid (ConsAt.below HM.out hb)
  clear HB BA BX BR HM
  have HB := HB'
  have BA := BA'
  have BX := BX'
  have BR := BR'
  have HM := HM'
  clear HB' BA' BX' BR' HM'
  (try clear ha0)
  (try clear ha1)
  (try clear hx0)
  (try clear hx1)
  (try clear hr0)
  (try clear hr1)
  (try clear hr2)
  have ha0 := (blk_cell BA.out 0).trans rfl
  have ha1 := (blk_cell BA.out 1).trans rfl
  have hx0 := (blk_cell BX.out 0).trans rfl
  have hx1 := (blk_cell BX.out 1).trans rfl
  have hr0 := (blk_cell BR.out 0).trans rfl
  have hr1 := (blk_cell BR.out 1).trans rfl
  have hr2 := (blk_cell BR.out 2).trans rfl
  (try clear hrf)
  have hrf := fun i => blk_frozen BR.out i
  clear hb
  have hs0 := (blk_cell BS.out 0).trans rfl
  have hs1 := (blk_cell BS.out 1).trans rfl
  have hs2 := (blk_cell BS.out 2).trans rfl
  go_wp2_with (go_at_call 19; refine (hpc _ HB.out).mono ?_; rintro e w3 ⟨rfl, hb⟩; have HB' := Lib.hid (below_step HB.out hb); have BA' := Lib.hid (blk_below BA.out hb); have BX' := Lib.hid (blk_below BX.out hb); have BR' := Lib.hid (blk_below BR.out hb); have BS' := Lib.hid (blk_below BS.out hb); have HM' := Lib.hid (ConsAt.below HM.out hb); clear HB BA BX BR BS HM; have HB := HB'; have BA := BA'; have BX := BX'; have BR := BR'; have BS := BS'; have HM := HM'; clear HB' BA' BX' BR' BS' HM'; (try clear ha0); (try clear ha1); (try clear hx0); (try clear hx1); (try clear hr0); (try clear hr1); (try clear hr2); (try clear hs0); (try clear hs1); (try clear hs2); have ha0 := (blk_cell BA.out 0).trans rfl; have ha1 := (blk_cell BA.out 1).trans rfl; have hx0 := (blk_cell BX.out 0).trans rfl; have hx1 := (blk_cell BX.out 1).trans rfl; have hr0 := (blk_cell BR.out 0).trans rfl; have hr1 := (blk_cell BR.out 1).trans rfl; have hr2 := (blk_cell BR.out 2).trans rfl; (try clear hrf); have hrf := fun i => blk_frozen BR.out i; have hs0 := (blk_cell BS.out 0).trans rfl; have hs1 := (blk_cell BS.out 1).trans rfl; have hs2 := (blk_cell BS.out 2).trans rfl; clear hb hpc)
  refine bodyPost_ret (results_ctt rfl _ _ (w.heap.size + 1 + 1) 94 _ (0, 0) _ rfl (put3 BR.out) Tryd.underlying94 rfl (by kernel_rfl)) rfl ?_
  exact ⟨below_set (below_set (below_set HB.out (by omega)) (by omega)) (by omega), fun h => absurd h Hne.out, fun _ => ⟨_, _, _, _, _, _, _, _, rfl⟩⟩
set_option maxHeartbeats 10000000 in
set_option maxRecDepth 100000 in
theorem cell_neg (A0 A1 : Option Addr) (c0 c1 : Nat) (l0 : List ByteArray) (l1 : List Letter) (v : Int) (s : ByteArray) (n : ByteArray) (Ac : Option Addr) (cc : Nat) (C : List Cell) (i : Int) (w : World) (hF : Kd.C Kd.string w A0 l0.length l0) (hcF : l0.length ≤ c0) (hL : Kd.C kLetter w A1 l1.length l1) (hcL : l1.length ≤ c1) (hT : Tabs w) (hcl : (classOf l0 l1 v 0).2 = 0) (hch : chkP l0 l1 n C = 0) (hi : i < 0) (hC : Kd.C kCell w Ac C.length C) (hcC : C.length ≤ cc) (hs : sizedC C) (hns : n.size ≤ 140737488351232) :
    Calls Tryd.prog 45 #[.agg #[.slice A0 l0.length c0, .slice A1 l1.length c1], .int .u32 v, .agg #[.string n, .slice Ac C.length cc], .int .i64 i, .string s] w fun e w' => StemPost A0 A1 c0 c1 l0 l1 v s w w' e (cellE l0 l1 v n C i s) := by
  have HB0 := boxes3 w (.cells #[.slice A0 l0.length c0, .slice A1 l1.length c1] 25) (.cells #[.string n, .slice Ac C.length cc] 45) (.cells #[.slice none 0 0, .slice none 0 0, .map none] 94)
  have HB := Lib.hid HB0.1
  have BA := Lib.hid HB0.2.1
  have BX := Lib.hid HB0.2.2.1
  have BR := Lib.hid HB0.2.2.2
  clear HB0
  have hbg := fun W (hb : Below w.heap.size w W) => begun.calls A0 A1 c0 c1 l0 l1 v W (Kd.C_below hF hb) hcF (Kd.C_below hL hb) hcL
  have hlt := fun W (hb : Below w.heap.size w W) => word_Letters.calls A0 c0 l0 A1 c1 l1 s (lettersOf l0 l1 s).1 (lettersOf l0 l1 s).2 W (Kd.C_below hF hb) hcF (Kd.C_below hL hb) hcL (hT.below hb) rfl
  have hpc := fun W (hb : Below w.heap.size w W) => pcheck.calls A0 A1 c0 c1 l0 l1 n Ac cc C W (Kd.C_below hF hb) hcF (Kd.C_below hL hb) hcL (Kd.C_below hC hb) hcC (hT.below hb) hs hns
  have her : cellE l0 l1 v n C i s = 8 := by unfold cellE; rw [if_pos hcl, if_pos hch, if_neg (by omega)]
  rw [her]
  rw [hch] at hpc
  have Hne : Hid ((8 : Int) ≠ 0) := by simp [Hid]
  have Hcl := Lib.hid hcl
  clear her hcl hch
  clear hF hL hT
  (try clear hC)
  go_enter Tryd.func45, Tryd.ntmps45
  go_upto_region 2 with (go_at_call 62; refine (hbg _ HB.out).mono ?_; rintro e w1 ⟨hb, hbe⟩; have HB' := Lib.hid (below_step HB.out hb); have BA' := Lib.hid (blk_below BA.out hb); have BX' := Lib.hid (blk_below BX.out hb); have BR' := Lib.hid (blk_below BR.out hb); clear HB BA BX BR; have HB := HB'; have BA := BA'; have BX := BX'; have BR := BR'; clear HB' BA' BX' BR'; (try clear ha0); (try clear ha1); (try clear hx0); (try clear hx1); (try clear hr0); (try clear hr1); (try clear hr2); have ha0 := (blk_cell BA.out 0).trans rfl; have ha1 := (blk_cell BA.out 1).trans rfl; have hx0 := (blk_cell BX.out 0).trans rfl; have hx1 := (blk_cell BX.out 1).trans rfl; have hr0 := (blk_cell BR.out 0).trans rfl; have hr1 := (blk_cell BR.out 1).trans rfl; have hr2 := (blk_cell BR.out 2).trans rfl; (try clear hrf); have hrf := fun i => blk_frozen BR.out i; clear hb hbg; rw [if_pos Hcl.out] at hbe; obtain ⟨bm, rfl, hM⟩ := hbe; have HM := Lib.hid hM; clear hM)
  have HBM : Hid (bm < w1.heap.size) := HM.out.lt
  have BS := Lib.hid (blk_new w1 (.cells #[.slice A0 l0.length c0, .slice A1 l1.length c1, .map (some bm)] 94))
  have hb := B_alloc w1 (.cells #[.slice A0 l0.length c0, .slice A1 l1.length c1, .map (some bm)] 94)
  have HB' := Lib.hid (below_step HB.out hb)
  have BA' := Lib.hid (blk_below BA.out hb)
  have BX' := Lib.hid (blk_below BX.out hb)
  have BR' := Lib.hid (blk_below BR.out hb)
  have HM' := Lib.hid (ConsAt.below HM.out hb)
  clear HB BA BX BR HM
  have HB := HB'
  have BA := BA'
  have BX := BX'
  have BR := BR'
  have HM := HM'
  clear HB' BA' BX' BR' HM'
  (try clear ha0)
  (try clear ha1)
  (try clear hx0)
  (try clear hx1)
  (try clear hr0)
  (try clear hr1)
  (try clear hr2)
  have ha0 := (blk_cell BA.out 0).trans rfl
  have ha1 := (blk_cell BA.out 1).trans rfl
  have hx0 := (blk_cell BX.out 0).trans rfl
  have hx1 := (blk_cell BX.out 1).trans rfl
  have hr0 := (blk_cell BR.out 0).trans rfl
  have hr1 := (blk_cell BR.out 1).trans rfl
  have hr2 := (blk_cell BR.out 2).trans rfl
  (try clear hrf)
  have hrf := fun i => blk_frozen BR.out i
  clear hb
  have hs0 := (blk_cell BS.out 0).trans rfl
  have hs1 := (blk_cell BS.out 1).trans rfl
  have hs2 := (blk_cell BS.out 2).trans rfl
  go_wp2_with (go_at_call 19; refine (hpc _ HB.out).mono ?_; rintro e w3 ⟨rfl, hb⟩; have HB' := Lib.hid (below_step HB.out hb); have BA' := Lib.hid (blk_below BA.out hb); have BX' := Lib.hid (blk_below BX.out hb); have BR' := Lib.hid (blk_below BR.out hb); have BS' := Lib.hid (blk_below BS.out hb); have HM' := Lib.hid (ConsAt.below HM.out hb); clear HB BA BX BR BS HM; have HB := HB'; have BA := BA'; have BX := BX'; have BR := BR'; have BS := BS'; have HM := HM'; clear HB' BA' BX' BR' BS' HM'; (try clear ha0); (try clear ha1); (try clear hx0); (try clear hx1); (try clear hr0); (try clear hr1); (try clear hr2); (try clear hs0); (try clear hs1); (try clear hs2); have ha0 := (blk_cell BA.out 0).trans rfl; have ha1 := (blk_cell BA.out 1).trans rfl; have hx0 := (blk_cell BX.out 0).trans rfl; have hx1 := (blk_cell BX.out 1).trans rfl; have hr0 := (blk_cell BR.out 0).trans rfl; have hr1 := (blk_cell BR.out 1).trans rfl; have hr2 := (blk_cell BR.out 2).trans rfl; (try clear hrf); have hrf := fun i => blk_frozen BR.out i; have hs0 := (blk_cell BS.out 0).trans rfl; have hs1 := (blk_cell BS.out 1).trans rfl; have hs2 := (blk_cell BS.out 2).trans rfl; clear hb hpc)
  refine bodyPost_ret (results_ctt rfl _ _ (w.heap.size + 1 + 1) 94 _ (0, 0) _ rfl (put3 BR.out) Tryd.underlying94 rfl (by kernel_rfl)) rfl ?_
  exact ⟨below_set (below_set (below_set HB.out (by omega)) (by omega)) (by omega), fun h => absurd h Hne.out, fun _ => ⟨_, _, _, _, _, _, _, _, rfl⟩⟩
set_option maxHeartbeats 10000000 in
set_option maxRecDepth 100000 in
theorem cell_far (A0 A1 : Option Addr) (c0 c1 : Nat) (l0 : List ByteArray) (l1 : List Letter) (v : Int) (s : ByteArray) (n : ByteArray) (Ac : Option Addr) (cc : Nat) (C : List Cell) (i : Int) (w : World) (hF : Kd.C Kd.string w A0 l0.length l0) (hcF : l0.length ≤ c0) (hL : Kd.C kLetter w A1 l1.length l1) (hcL : l1.length ≤ c1) (hT : Tabs w) (hcl : (classOf l0 l1 v 0).2 = 0) (hch : chkP l0 l1 n C = 0) (hi : (C.length : Int) ≤ i) (hC : Kd.C kCell w Ac C.length C) (hcC : C.length ≤ cc) (hs : sizedC C) (hns : n.size ≤ 140737488351232) :
    Calls Tryd.prog 45 #[.agg #[.slice A0 l0.length c0, .slice A1 l1.length c1], .int .u32 v, .agg #[.string n, .slice Ac C.length cc], .int .i64 i, .string s] w fun e w' => StemPost A0 A1 c0 c1 l0 l1 v s w w' e (cellE l0 l1 v n C i s) := by
  have HB0 := boxes3 w (.cells #[.slice A0 l0.length c0, .slice A1 l1.length c1] 25) (.cells #[.string n, .slice Ac C.length cc] 45) (.cells #[.slice none 0 0, .slice none 0 0, .map none] 94)
  have HB := Lib.hid HB0.1
  have BA := Lib.hid HB0.2.1
  have BX := Lib.hid HB0.2.2.1
  have BR := Lib.hid HB0.2.2.2
  clear HB0
  have hbg := fun W (hb : Below w.heap.size w W) => begun.calls A0 A1 c0 c1 l0 l1 v W (Kd.C_below hF hb) hcF (Kd.C_below hL hb) hcL
  have hlt := fun W (hb : Below w.heap.size w W) => word_Letters.calls A0 c0 l0 A1 c1 l1 s (lettersOf l0 l1 s).1 (lettersOf l0 l1 s).2 W (Kd.C_below hF hb) hcF (Kd.C_below hL hb) hcL (hT.below hb) rfl
  have hpc := fun W (hb : Below w.heap.size w W) => pcheck.calls A0 A1 c0 c1 l0 l1 n Ac cc C W (Kd.C_below hF hb) hcF (Kd.C_below hL hb) hcL (Kd.C_below hC hb) hcC (hT.below hb) hs hns
  have her : cellE l0 l1 v n C i s = 8 := by unfold cellE; rw [if_pos hcl, if_pos hch, if_neg (by omega)]
  rw [her]
  rw [hch] at hpc
  have Hne : Hid ((8 : Int) ≠ 0) := by simp [Hid]
  have Hcl := Lib.hid hcl
  have hi0 : ¬ i < 0 := by omega
  clear her hcl hch
  clear hF hL hT
  (try clear hC)
  go_enter Tryd.func45, Tryd.ntmps45
  go_upto_region 2 with (go_at_call 62; refine (hbg _ HB.out).mono ?_; rintro e w1 ⟨hb, hbe⟩; have HB' := Lib.hid (below_step HB.out hb); have BA' := Lib.hid (blk_below BA.out hb); have BX' := Lib.hid (blk_below BX.out hb); have BR' := Lib.hid (blk_below BR.out hb); clear HB BA BX BR; have HB := HB'; have BA := BA'; have BX := BX'; have BR := BR'; clear HB' BA' BX' BR'; (try clear ha0); (try clear ha1); (try clear hx0); (try clear hx1); (try clear hr0); (try clear hr1); (try clear hr2); have ha0 := (blk_cell BA.out 0).trans rfl; have ha1 := (blk_cell BA.out 1).trans rfl; have hx0 := (blk_cell BX.out 0).trans rfl; have hx1 := (blk_cell BX.out 1).trans rfl; have hr0 := (blk_cell BR.out 0).trans rfl; have hr1 := (blk_cell BR.out 1).trans rfl; have hr2 := (blk_cell BR.out 2).trans rfl; (try clear hrf); have hrf := fun i => blk_frozen BR.out i; clear hb hbg; rw [if_pos Hcl.out] at hbe; obtain ⟨bm, rfl, hM⟩ := hbe; have HM := Lib.hid hM; clear hM)
  have HBM : Hid (bm < w1.heap.size) := HM.out.lt
  have BS := Lib.hid (blk_new w1 (.cells #[.slice A0 l0.length c0, .slice A1 l1.length c1, .map (some bm)] 94))
  have hb := B_alloc w1 (.cells #[.slice A0 l0.length c0, .slice A1 l1.length c1, .map (some bm)] 94)
  have HB' := Lib.hid (below_step HB.out hb)
  have BA' := Lib.hid (blk_below BA.out hb)
  have BX' := Lib.hid (blk_below BX.out hb)
  have BR' := Lib.hid (blk_below BR.out hb)
  have HM' := Lib.hid (ConsAt.below HM.out hb)
  clear HB BA BX BR HM
  have HB := HB'
  have BA := BA'
  have BX := BX'
  have BR := BR'
  have HM := HM'
  clear HB' BA' BX' BR' HM'
  (try clear ha0)
  (try clear ha1)
  (try clear hx0)
  (try clear hx1)
  (try clear hr0)
  (try clear hr1)
  (try clear hr2)
  have ha0 := (blk_cell BA.out 0).trans rfl
  have ha1 := (blk_cell BA.out 1).trans rfl
  have hx0 := (blk_cell BX.out 0).trans rfl
  have hx1 := (blk_cell BX.out 1).trans rfl
  have hr0 := (blk_cell BR.out 0).trans rfl
  have hr1 := (blk_cell BR.out 1).trans rfl
  have hr2 := (blk_cell BR.out 2).trans rfl
  (try clear hrf)
  have hrf := fun i => blk_frozen BR.out i
  clear hb
  have hs0 := (blk_cell BS.out 0).trans rfl
  have hs1 := (blk_cell BS.out 1).trans rfl
  have hs2 := (blk_cell BS.out 2).trans rfl
  go_wp2_with (go_at_call 19; refine (hpc _ HB.out).mono ?_; rintro e w3 ⟨rfl, hb⟩; have HB' := Lib.hid (below_step HB.out hb); have BA' := Lib.hid (blk_below BA.out hb); have BX' := Lib.hid (blk_below BX.out hb); have BR' := Lib.hid (blk_below BR.out hb); have BS' := Lib.hid (blk_below BS.out hb); have HM' := Lib.hid (ConsAt.below HM.out hb); clear HB BA BX BR BS HM; have HB := HB'; have BA := BA'; have BX := BX'; have BR := BR'; have BS := BS'; have HM := HM'; clear HB' BA' BX' BR' BS' HM'; (try clear ha0); (try clear ha1); (try clear hx0); (try clear hx1); (try clear hr0); (try clear hr1); (try clear hr2); (try clear hs0); (try clear hs1); (try clear hs2); have ha0 := (blk_cell BA.out 0).trans rfl; have ha1 := (blk_cell BA.out 1).trans rfl; have hx0 := (blk_cell BX.out 0).trans rfl; have hx1 := (blk_cell BX.out 1).trans rfl; have hr0 := (blk_cell BR.out 0).trans rfl; have hr1 := (blk_cell BR.out 1).trans rfl; have hr2 := (blk_cell BR.out 2).trans rfl; (try clear hrf); have hrf := fun i => blk_frozen BR.out i; have hs0 := (blk_cell BS.out 0).trans rfl; have hs1 := (blk_cell BS.out 1).trans rfl; have hs2 := (blk_cell BS.out 2).trans rfl; clear hb hpc)
  refine bodyPost_ret (results_ctt rfl _ _ (w.heap.size + 1 + 1) 94 _ (0, 0) _ rfl (put3 BR.out) Tryd.underlying94 rfl (by kernel_rfl)) rfl ?_
  exact ⟨below_set (below_set (below_set HB.out (by omega)) (by omega)) (by omega), fun h => absurd h Hne.out, fun _ => ⟨_, _, _, _, _, _, _, _, rfl⟩⟩
set_option maxHeartbeats 10000000 in
set_option maxRecDepth 100000 in
theorem cell_let (A0 A1 : Option Addr) (c0 c1 : Nat) (l0 : List ByteArray) (l1 : List Letter) (v : Int) (s : ByteArray) (n : ByteArray) (Ac : Option Addr) (cc : Nat) (C : List Cell) (i : Int) (w : World) (hF : Kd.C Kd.string w A0 l0.length l0) (hcF : l0.length ≤ c0) (hL : Kd.C kLetter w A1 l1.length l1) (hcL : l1.length ≤ c1) (hT : Tabs w) (hcl : (classOf l0 l1 v 0).2 = 0) (hch : chkP l0 l1 n C = 0) (hi0 : 0 ≤ i) (hi1 : i < C.length) (hle : ¬ (lettersOf l0 l1 s).2 = 0) (hC : Kd.C kCell w Ac C.length C) (hcC : C.length ≤ cc) (hs : sizedC C) (hns : n.size ≤ 140737488351232) :
    Calls Tryd.prog 45 #[.agg #[.slice A0 l0.length c0, .slice A1 l1.length c1], .int .u32 v, .agg #[.string n, .slice Ac C.length cc], .int .i64 i, .string s] w fun e w' => StemPost A0 A1 c0 c1 l0 l1 v s w w' e (cellE l0 l1 v n C i s) := by
  have HB0 := boxes3 w (.cells #[.slice A0 l0.length c0, .slice A1 l1.length c1] 25) (.cells #[.string n, .slice Ac C.length cc] 45) (.cells #[.slice none 0 0, .slice none 0 0, .map none] 94)
  have HB := Lib.hid HB0.1
  have BA := Lib.hid HB0.2.1
  have BX := Lib.hid HB0.2.2.1
  have BR := Lib.hid HB0.2.2.2
  clear HB0
  have hbg := fun W (hb : Below w.heap.size w W) => begun.calls A0 A1 c0 c1 l0 l1 v W (Kd.C_below hF hb) hcF (Kd.C_below hL hb) hcL
  have hlt := fun W (hb : Below w.heap.size w W) => word_Letters.calls A0 c0 l0 A1 c1 l1 s (lettersOf l0 l1 s).1 (lettersOf l0 l1 s).2 W (Kd.C_below hF hb) hcF (Kd.C_below hL hb) hcL (hT.below hb) rfl
  have hpc := fun W (hb : Below w.heap.size w W) => pcheck.calls A0 A1 c0 c1 l0 l1 n Ac cc C W (Kd.C_below hF hb) hcF (Kd.C_below hL hb) hcL (Kd.C_below hC hb) hcC (hT.below hb) hs hns
  have her : (lettersOf l0 l1 s).2 = cellE l0 l1 v n C i s := by unfold cellE; rw [if_pos hcl, if_pos hch, if_pos ⟨hi0, hi1⟩]
  obtain ⟨er, herr⟩ : ∃ er, er = cellE l0 l1 v n C i s := ⟨_, rfl⟩
  rw [← herr] at her ⊢
  rw [her] at hlt
  rw [hch] at hpc
  have hne : er ≠ 0 := by rw [← her]; exact hle
  have Hne := Lib.hid hne
  have Hcl := Lib.hid hcl
  have hi2 : ¬ i < 0 := by omega
  have hi3 : ¬ (C.length : Int) ≤ i := by omega
  clear her herr hne hcl hle hch
  clear hF hL hT
  (try clear hC)
  go_enter Tryd.func45, Tryd.ntmps45
  go_upto_region 2 with (go_at_call 62; refine (hbg _ HB.out).mono ?_; rintro e w1 ⟨hb, hbe⟩; have HB' := Lib.hid (below_step HB.out hb); have BA' := Lib.hid (blk_below BA.out hb); have BX' := Lib.hid (blk_below BX.out hb); have BR' := Lib.hid (blk_below BR.out hb); clear HB BA BX BR; have HB := HB'; have BA := BA'; have BX := BX'; have BR := BR'; clear HB' BA' BX' BR'; (try clear ha0); (try clear ha1); (try clear hx0); (try clear hx1); (try clear hr0); (try clear hr1); (try clear hr2); have ha0 := (blk_cell BA.out 0).trans rfl; have ha1 := (blk_cell BA.out 1).trans rfl; have hx0 := (blk_cell BX.out 0).trans rfl; have hx1 := (blk_cell BX.out 1).trans rfl; have hr0 := (blk_cell BR.out 0).trans rfl; have hr1 := (blk_cell BR.out 1).trans rfl; have hr2 := (blk_cell BR.out 2).trans rfl; (try clear hrf); have hrf := fun i => blk_frozen BR.out i; clear hb hbg; rw [if_pos Hcl.out] at hbe; obtain ⟨bm, rfl, hM⟩ := hbe; have HM := Lib.hid hM; clear hM)
  have HBM : Hid (bm < w1.heap.size) := HM.out.lt
  have BS := Lib.hid (blk_new w1 (.cells #[.slice A0 l0.length c0, .slice A1 l1.length c1, .map (some bm)] 94))
  have hb := B_alloc w1 (.cells #[.slice A0 l0.length c0, .slice A1 l1.length c1, .map (some bm)] 94)
  have HB' := Lib.hid (below_step HB.out hb)
  have BA' := Lib.hid (blk_below BA.out hb)
  have BX' := Lib.hid (blk_below BX.out hb)
  have BR' := Lib.hid (blk_below BR.out hb)
  have HM' := Lib.hid (ConsAt.below HM.out hb)
  clear HB BA BX BR HM
  have HB := HB'
  have BA := BA'
  have BX := BX'
  have BR := BR'
  have HM := HM'
  clear HB' BA' BX' BR' HM'
  (try clear ha0)
  (try clear ha1)
  (try clear hx0)
  (try clear hx1)
  (try clear hr0)
  (try clear hr1)
  (try clear hr2)
  have ha0 := (blk_cell BA.out 0).trans rfl
  have ha1 := (blk_cell BA.out 1).trans rfl
  have hx0 := (blk_cell BX.out 0).trans rfl
  have hx1 := (blk_cell BX.out 1).trans rfl
  have hr0 := (blk_cell BR.out 0).trans rfl
  have hr1 := (blk_cell BR.out 1).trans rfl
  have hr2 := (blk_cell BR.out 2).trans rfl
  (try clear hrf)
  have hrf := fun i => blk_frozen BR.out i
  clear hb
  have hs0 := (blk_cell BS.out 0).trans rfl
  have hs1 := (blk_cell BS.out 1).trans rfl
  have hs2 := (blk_cell BS.out 2).trans rfl
  go_upto_region 9 with (go_at_call 19; refine (hpc _ HB.out).mono ?_; rintro e w3 ⟨rfl, hb⟩; have HB' := Lib.hid (below_step HB.out hb); have BA' := Lib.hid (blk_below BA.out hb); have BX' := Lib.hid (blk_below BX.out hb); have BR' := Lib.hid (blk_below BR.out hb); have BS' := Lib.hid (blk_below BS.out hb); have HM' := Lib.hid (ConsAt.below HM.out hb); clear HB BA BX BR BS HM; have HB := HB'; have BA := BA'; have BX := BX'; have BR := BR'; have BS := BS'; have HM := HM'; clear HB' BA' BX' BR' BS' HM'; (try clear ha0); (try clear ha1); (try clear hx0); (try clear hx1); (try clear hr0); (try clear hr1); (try clear hr2); (try clear hs0); (try clear hs1); (try clear hs2); have ha0 := (blk_cell BA.out 0).trans rfl; have ha1 := (blk_cell BA.out 1).trans rfl; have hx0 := (blk_cell BX.out 0).trans rfl; have hx1 := (blk_cell BX.out 1).trans rfl; have hr0 := (blk_cell BR.out 0).trans rfl; have hr1 := (blk_cell BR.out 1).trans rfl; have hr2 := (blk_cell BR.out 2).trans rfl; (try clear hrf); have hrf := fun i => blk_frozen BR.out i; have hs0 := (blk_cell BS.out 0).trans rfl; have hs1 := (blk_cell BS.out 1).trans rfl; have hs2 := (blk_cell BS.out 2).trans rfl; clear hb hpc)
  go_wp2_with (go_at_call 37; refine (hlt _ HB.out).mono ?_; rintro e w3 ⟨v3, rfl, hR3, hb⟩; obtain ⟨Al, cl, rfl, hcl3, hCl3⟩ := Kd.R_reads hR3; have HC := Lib.hid hCl3; have HB' := Lib.hid (below_step HB.out hb); have BA' := Lib.hid (blk_below BA.out hb); have BX' := Lib.hid (blk_below BX.out hb); have BR' := Lib.hid (blk_below BR.out hb); have BS' := Lib.hid (blk_below BS.out hb); have HM' := Lib.hid (ConsAt.below HM.out hb); clear HB BA BX BR BS HM; have HB := HB'; have BA := BA'; have BX := BX'; have BR := BR'; have BS := BS'; have HM := HM'; clear HB' BA' BX' BR' BS' HM'; (try clear ha0); (try clear ha1); (try clear hx0); (try clear hx1); (try clear hr0); (try clear hr1); (try clear hr2); (try clear hs0); (try clear hs1); (try clear hs2); have ha0 := (blk_cell BA.out 0).trans rfl; have ha1 := (blk_cell BA.out 1).trans rfl; have hx0 := (blk_cell BX.out 0).trans rfl; have hx1 := (blk_cell BX.out 1).trans rfl; have hr0 := (blk_cell BR.out 0).trans rfl; have hr1 := (blk_cell BR.out 1).trans rfl; have hr2 := (blk_cell BR.out 2).trans rfl; (try clear hrf); have hrf := fun i => blk_frozen BR.out i; have hs0 := (blk_cell BS.out 0).trans rfl; have hs1 := (blk_cell BS.out 1).trans rfl; have hs2 := (blk_cell BS.out 2).trans rfl; clear hb hR3 hCl3 hlt)
  refine bodyPost_ret (results_ctt rfl _ _ (w.heap.size + 1 + 1) 94 _ (0, 0) _ rfl (put3 BR.out) Tryd.underlying94 rfl (by kernel_rfl)) rfl ?_
  exact ⟨below_set (below_set (below_set HB.out (by omega)) (by omega)) (by omega), fun h => absurd h Hne.out, fun _ => ⟨_, _, _, _, _, _, _, _, rfl⟩⟩
set_option maxHeartbeats 10000000 in
set_option maxRecDepth 100000 in
theorem cell_ok (A0 A1 : Option Addr) (c0 c1 : Nat) (l0 : List ByteArray) (l1 : List Letter) (v : Int) (s : ByteArray) (n : ByteArray) (Ac : Option Addr) (cc : Nat) (C : List Cell) (i : Int) (w : World) (hF : Kd.C Kd.string w A0 l0.length l0) (hcF : l0.length ≤ c0) (hL : Kd.C kLetter w A1 l1.length l1) (hcL : l1.length ≤ c1) (hT : Tabs w) (hcl : (classOf l0 l1 v 0).2 = 0) (hch : chkP l0 l1 n C = 0) (hi0 : 0 ≤ i) (hi1 : i < C.length) (hle : (lettersOf l0 l1 s).2 = 0) (hC : Kd.C kCell w Ac C.length C) (hcC : C.length ≤ cc) (hs : sizedC C) (hns : n.size ≤ 140737488351232) :
    Calls Tryd.prog 45 #[.agg #[.slice A0 l0.length c0, .slice A1 l1.length c1], .int .u32 v, .agg #[.string n, .slice Ac C.length cc], .int .i64 i, .string s] w fun e w' => StemPost A0 A1 c0 c1 l0 l1 v s w w' e (cellE l0 l1 v n C i s) := by
  have HB0 := boxes3 w (.cells #[.slice A0 l0.length c0, .slice A1 l1.length c1] 25) (.cells #[.string n, .slice Ac C.length cc] 45) (.cells #[.slice none 0 0, .slice none 0 0, .map none] 94)
  have HB := Lib.hid HB0.1
  have BA := Lib.hid HB0.2.1
  have BX := Lib.hid HB0.2.2.1
  have BR := Lib.hid HB0.2.2.2
  clear HB0
  have hbg := fun W (hb : Below w.heap.size w W) => begun.calls A0 A1 c0 c1 l0 l1 v W (Kd.C_below hF hb) hcF (Kd.C_below hL hb) hcL
  have hlt := fun W (hb : Below w.heap.size w W) => word_Letters.calls A0 c0 l0 A1 c1 l1 s (lettersOf l0 l1 s).1 (lettersOf l0 l1 s).2 W (Kd.C_below hF hb) hcF (Kd.C_below hL hb) hcL (hT.below hb) rfl
  have hpc := fun W (hb : Below w.heap.size w W) => pcheck.calls A0 A1 c0 c1 l0 l1 n Ac cc C W (Kd.C_below hF hb) hcF (Kd.C_below hL hb) hcL (Kd.C_below hC hb) hcC (hT.below hb) hs hns
  have her : cellE l0 l1 v n C i s = 0 := by unfold cellE; rw [if_pos hcl, if_pos hch, if_pos ⟨hi0, hi1⟩, hle]
  rw [her]
  rw [hle] at hlt
  rw [hch] at hpc
  have Hcl := Lib.hid hcl
  have hi2 : ¬ i < 0 := by omega
  have hi3 : ¬ (C.length : Int) ≤ i := by omega
  clear her hcl hle hch
  clear hF hL hT
  (try clear hC)
  go_enter Tryd.func45, Tryd.ntmps45
  go_upto_region 2 with (go_at_call 62; refine (hbg _ HB.out).mono ?_; rintro e w1 ⟨hb, hbe⟩; have HB' := Lib.hid (below_step HB.out hb); have BA' := Lib.hid (blk_below BA.out hb); have BX' := Lib.hid (blk_below BX.out hb); have BR' := Lib.hid (blk_below BR.out hb); clear HB BA BX BR; have HB := HB'; have BA := BA'; have BX := BX'; have BR := BR'; clear HB' BA' BX' BR'; (try clear ha0); (try clear ha1); (try clear hx0); (try clear hx1); (try clear hr0); (try clear hr1); (try clear hr2); have ha0 := (blk_cell BA.out 0).trans rfl; have ha1 := (blk_cell BA.out 1).trans rfl; have hx0 := (blk_cell BX.out 0).trans rfl; have hx1 := (blk_cell BX.out 1).trans rfl; have hr0 := (blk_cell BR.out 0).trans rfl; have hr1 := (blk_cell BR.out 1).trans rfl; have hr2 := (blk_cell BR.out 2).trans rfl; (try clear hrf); have hrf := fun i => blk_frozen BR.out i; clear hb hbg; rw [if_pos Hcl.out] at hbe; obtain ⟨bm, rfl, hM⟩ := hbe; have HM := Lib.hid hM; clear hM)
  have HBM : Hid (bm < w1.heap.size) := HM.out.lt
  have BS := Lib.hid (blk_new w1 (.cells #[.slice A0 l0.length c0, .slice A1 l1.length c1, .map (some bm)] 94))
  have hb := B_alloc w1 (.cells #[.slice A0 l0.length c0, .slice A1 l1.length c1, .map (some bm)] 94)
  have HB' := Lib.hid (below_step HB.out hb)
  have BA' := Lib.hid (blk_below BA.out hb)
  have BX' := Lib.hid (blk_below BX.out hb)
  have BR' := Lib.hid (blk_below BR.out hb)
  have HM' := Lib.hid (ConsAt.below HM.out hb)
  clear HB BA BX BR HM
  have HB := HB'
  have BA := BA'
  have BX := BX'
  have BR := BR'
  have HM := HM'
  clear HB' BA' BX' BR' HM'
  (try clear ha0)
  (try clear ha1)
  (try clear hx0)
  (try clear hx1)
  (try clear hr0)
  (try clear hr1)
  (try clear hr2)
  have ha0 := (blk_cell BA.out 0).trans rfl
  have ha1 := (blk_cell BA.out 1).trans rfl
  have hx0 := (blk_cell BX.out 0).trans rfl
  have hx1 := (blk_cell BX.out 1).trans rfl
  have hr0 := (blk_cell BR.out 0).trans rfl
  have hr1 := (blk_cell BR.out 1).trans rfl
  have hr2 := (blk_cell BR.out 2).trans rfl
  (try clear hrf)
  have hrf := fun i => blk_frozen BR.out i
  clear hb
  have hs0 := (blk_cell BS.out 0).trans rfl
  have hs1 := (blk_cell BS.out 1).trans rfl
  have hs2 := (blk_cell BS.out 2).trans rfl
  go_upto_region 9 with (go_at_call 19; refine (hpc _ HB.out).mono ?_; rintro e w3 ⟨rfl, hb⟩; have HB' := Lib.hid (below_step HB.out hb); have BA' := Lib.hid (blk_below BA.out hb); have BX' := Lib.hid (blk_below BX.out hb); have BR' := Lib.hid (blk_below BR.out hb); have BS' := Lib.hid (blk_below BS.out hb); have HM' := Lib.hid (ConsAt.below HM.out hb); clear HB BA BX BR BS HM; have HB := HB'; have BA := BA'; have BX := BX'; have BR := BR'; have BS := BS'; have HM := HM'; clear HB' BA' BX' BR' BS' HM'; (try clear ha0); (try clear ha1); (try clear hx0); (try clear hx1); (try clear hr0); (try clear hr1); (try clear hr2); (try clear hs0); (try clear hs1); (try clear hs2); have ha0 := (blk_cell BA.out 0).trans rfl; have ha1 := (blk_cell BA.out 1).trans rfl; have hx0 := (blk_cell BX.out 0).trans rfl; have hx1 := (blk_cell BX.out 1).trans rfl; have hr0 := (blk_cell BR.out 0).trans rfl; have hr1 := (blk_cell BR.out 1).trans rfl; have hr2 := (blk_cell BR.out 2).trans rfl; (try clear hrf); have hrf := fun i => blk_frozen BR.out i; have hs0 := (blk_cell BS.out 0).trans rfl; have hs1 := (blk_cell BS.out 1).trans rfl; have hs2 := (blk_cell BS.out 2).trans rfl; clear hb hpc)
  go_wp2_with (go_at_call 37; refine (hlt _ HB.out).mono ?_; rintro e w3 ⟨v3, rfl, hR3, hb⟩; obtain ⟨Al, cl, rfl, hcl3, hCl3⟩ := Kd.R_reads hR3; have HC := Lib.hid hCl3; have HB' := Lib.hid (below_step HB.out hb); have BA' := Lib.hid (blk_below BA.out hb); have BX' := Lib.hid (blk_below BX.out hb); have BR' := Lib.hid (blk_below BR.out hb); have BS' := Lib.hid (blk_below BS.out hb); have HM' := Lib.hid (ConsAt.below HM.out hb); clear HB BA BX BR BS HM; have HB := HB'; have BA := BA'; have BX := BX'; have BR := BR'; have BS := BS'; have HM := HM'; clear HB' BA' BX' BR' BS' HM'; (try clear ha0); (try clear ha1); (try clear hx0); (try clear hx1); (try clear hr0); (try clear hr1); (try clear hr2); (try clear hs0); (try clear hs1); (try clear hs2); have ha0 := (blk_cell BA.out 0).trans rfl; have ha1 := (blk_cell BA.out 1).trans rfl; have hx0 := (blk_cell BX.out 0).trans rfl; have hx1 := (blk_cell BX.out 1).trans rfl; have hr0 := (blk_cell BR.out 0).trans rfl; have hr1 := (blk_cell BR.out 1).trans rfl; have hr2 := (blk_cell BR.out 2).trans rfl; (try clear hrf); have hrf := fun i => blk_frozen BR.out i; have hs0 := (blk_cell BS.out 0).trans rfl; have hs1 := (blk_cell BS.out 1).trans rfl; have hs2 := (blk_cell BS.out 2).trans rfl; clear hb hR3 hCl3 hlt)
  refine bodyPost_ret (results_ctt rfl _ _ (w.heap.size + 1 + 1) 94 _ (0, 0) _ rfl (put3 BR.out) Tryd.underlying94 rfl (by kernel_rfl)) rfl ?_
  exact ⟨below_set (below_set (below_set HB.out (by omega)) (by omega)) (by omega), fun _ => ⟨bm, Al, cl, rfl, hcl3, C_set3 HC.out BR.out, cons_set3 HM.out BR.out⟩, fun h => absurd rfl h⟩
theorem cell.calls (A0 A1 : Option Addr) (c0 c1 : Nat) (l0 : List ByteArray) (l1 : List Letter) (v : Int) (s : ByteArray) (n : ByteArray) (Ac : Option Addr) (cc : Nat) (C : List Cell) (i : Int) (w : World) (hF : Kd.C Kd.string w A0 l0.length l0) (hcF : l0.length ≤ c0) (hL : Kd.C kLetter w A1 l1.length l1) (hcL : l1.length ≤ c1) (hT : Tabs w) (hC : Kd.C kCell w Ac C.length C) (hcC : C.length ≤ cc) (hs : sizedC C) (hns : n.size ≤ 140737488351232) :
    Calls Tryd.prog 45 #[.agg #[.slice A0 l0.length c0, .slice A1 l1.length c1], .int .u32 v, .agg #[.string n, .slice Ac C.length cc], .int .i64 i, .string s] w fun e w' => StemPost A0 A1 c0 c1 l0 l1 v s w w' e (cellE l0 l1 v n C i s) := by
  by_cases hc : (classOf l0 l1 v 0).2 = 0
  · by_cases hp : chkP l0 l1 n C = 0
    · by_cases h0 : 0 ≤ i
      · by_cases h1 : i < C.length
        · by_cases hl : (lettersOf l0 l1 s).2 = 0
          · exact cell_ok A0 A1 c0 c1 l0 l1 v s n Ac cc C i w hF hcF hL hcL hT hc hp h0 h1 hl hC hcC hs hns
          · exact cell_let A0 A1 c0 c1 l0 l1 v s n Ac cc C i w hF hcF hL hcL hT hc hp h0 h1 hl hC hcC hs hns
        · exact cell_far A0 A1 c0 c1 l0 l1 v s n Ac cc C i w hF hcF hL hcL hT hc hp (by omega) hC hcC hs hns
      · exact cell_neg A0 A1 c0 c1 l0 l1 v s n Ac cc C i w hF hcF hL hcL hT hc hp (by omega) hC hcC hs hns
    · exact cell_chk A0 A1 c0 c1 l0 l1 v s n Ac cc C i w hF hcF hL hcL hT hc hp hC hcC hs hns
  · exact cell_cls A0 A1 c0 c1 l0 l1 v s n Ac cc C i w hF hcF hL hcL hT hc
end Go.Proofs.YthmjheclhcdinaaDoor.Ext
end
section
/-
  paradigm.Put, Form by walks.
-/
set_option linter.unusedSimpArgs false
set_option linter.unusedVariables false
namespace Go.Proofs.YthmjheclhcdinaaDoor.Ext
open Go.RowKit Go.Maps Go.Proofs.YthmjheclhcdinaaDoor Go.Proofs.YthmjheclhcdinaaDoorW.PrintWords Go.Proofs.YthmjheclhcdinaaDoorW.PrintLast Go.Proofs.YthmjheclhcdinaaDoorW.PrintMore
theorem affix1_C (x : Affix) {W : World} {b : Nat} (h : W.heap[b]? = some (.cells #[.int .u8 x.f0, .string x.f1, .string x.f2, .int .i64 x.f3] 49 (0, 0))) : Kd.C kAffix W (some ⟨b, 0, none⟩) [x].length [x] := by
  have hc := fun j => blk_cell h j
  refine ⟨rfl, by simp, fun _ => ⟨_, rfl, fun j p hj => ?_⟩⟩
  match j, hj with
  | 0, hj =>
    obtain rfl := Option.some.inj hj
    refine ⟨_, rfl, k49_mk W _, fun i u hu => ?_⟩
    match i, hu with
    | 0, hu => obtain rfl := Option.some.inj hu; exact (hc 0).trans rfl
    | 1, hu => obtain rfl := Option.some.inj hu; exact (hc 1).trans rfl
    | 2, hu => obtain rfl := Option.some.inj hu; exact (hc 2).trans rfl
    | 3, hu => obtain rfl := Option.some.inj hu; exact (hc 3).trans rfl
    | i + 4, hu => cases hu
theorem oneE_zero {l0 : List ByteArray} {l1 : List Letter} {v : Int} {s : ByteArray} {x : Affix} (h : oneE l0 l1 v s x = 0) : (classOf l0 l1 v 0).2 = 0 ∧ (lettersOf l0 l1 s).2 = 0 ∧ affOk l0 l1 x = true := by
  unfold oneE at h
  by_cases h1 : (classOf l0 l1 v 0).2 = 0
  · rw [if_pos h1] at h
    by_cases h2 : (lettersOf l0 l1 s).2 = 0
    · rw [if_pos h2] at h
      by_cases h3 : affOk l0 l1 x = true
      · exact ⟨h1, h2, h3⟩
      · rw [if_neg h3] at h
        omega
    · rw [if_neg h2] at h
      exact absurd h h2
  · rw [if_neg h1] at h
    exact absurd h h1
theorem cellE_zero {l0 : List ByteArray} {l1 : List Letter} {v : Int} {n : ByteArray} {C : List Cell} {i : Int} {s : ByteArray} (h : cellE l0 l1 v n C i s = 0) : (classOf l0 l1 v 0).2 = 0 ∧ chkP l0 l1 n C = 0 ∧ 0 ≤ i ∧ i < C.length ∧ (lettersOf l0 l1 s).2 = 0 := by
  unfold cellE at h
  by_cases h1 : (classOf l0 l1 v 0).2 = 0
  · rw [if_pos h1] at h
    by_cases h2 : chkP l0 l1 n C = 0
    · rw [if_pos h2] at h
      by_cases h3 : 0 ≤ i ∧ i < C.length
      · rw [if_pos h3] at h
        exact ⟨h1, h2, h3.1, h3.2, h⟩
      · rw [if_neg h3] at h
        omega
    · rw [if_neg h2] at h
      exact absurd h h2
  · rw [if_neg h1] at h
    exact absurd h h1
theorem chkP_cell {l0 : List ByteArray} {l1 : List Letter} {n : ByteArray} {C : List Cell} {k : Nat} (hk : chk l0 l1 = 0) (h : chkP l0 l1 n C = 0) (hlt : k < C.length) : C[k].f1.length ≤ 8 ∧ ∀ y ∈ C[k].f1, affOk l0 l1 y = true := by
  unfold chkP at h
  rw [if_pos hk] at h
  by_cases hp : parOk l0 l1 n C = true
  · unfold parOk at hp
    simp only [Bool.and_eq_true, decide_eq_true_eq, List.all_eq_true] at hp
    have hc := hp.2 C[k] (List.getElem_mem hlt)
    unfold cellOk at hc
    simp only [Bool.and_eq_true, decide_eq_true_eq, List.all_eq_true] at hc
    exact hc
  · rw [if_neg hp] at h
    omega
set_option maxHeartbeats 1500000 in
set_option maxRecDepth 100000 in
theorem Put_no (A0 A1 : Option Addr) (c0 c1 : Nat) (l0 : List ByteArray) (l1 : List Letter) (v : Int) (s : ByteArray) (x : Affix) (w : World) (hF : Kd.C Kd.string w A0 l0.length l0) (hcF : l0.length ≤ c0) (hL : Kd.C kLetter w A1 l1.length l1) (hcL : l1.length ≤ c1) (hT : Tabs w) (h1 : (x.f1.size : Int) ≤ 140737488351232) (h2 : (x.f2.size : Int) ≤ 140737488351232) (er : Int) (her : oneE l0 l1 v s x = er) (hne : er ≠ 0) :
    Calls Tryd.prog 22 #[.agg #[.slice A0 l0.length c0, .slice A1 l1.length c1], .int .u32 v, .string s, .agg #[.int .u8 x.f0, .string x.f1, .string x.f2, .int .i64 x.f3]] w fun e w' => e = .returned (.tuple #[.string noB, .int .i64 er]) ∧ Below w.heap.size w w' := by
  have HB0 := boxes2 w (.cells #[.slice A0 l0.length c0, .slice A1 l1.length c1] 25) (.cells #[.int .u8 x.f0, .string x.f1, .string x.f2, .int .i64 x.f3] 49)
  have HB := Lib.hid HB0.1
  have BA := Lib.hid HB0.2.1
  have BX := Lib.hid HB0.2.2
  clear HB0
  have hst := fun W (hb : Below w.heap.size w W) => one.calls A0 A1 c0 c1 l0 l1 v s x W (Kd.C_below hF hb) hcF (Kd.C_below hL hb) hcL (hT.below hb) h1 h2
  rw [her] at hst
  have hneb : (er != 0) = true := bne_iff_ne.mpr hne
  have Hne := Lib.hid hne
  clear her hne hF hL hT
  go_enter Tryd.func22, Tryd.ntmps22
  go_wp2_with (go_at_call 42; refine (hst _ HB.out).mono ?_; rintro e w1 ⟨hb, _, hno⟩; obtain ⟨q1, q2, q3, q4, q5, q6, q7, lv, rfl⟩ := hno Hne.out; have HB1 := Lib.hid (below_step HB.out hb); clear hb hst hno)
  go_ret2
  exact ⟨rfl, HB1.out.alloc HB1.out.size _⟩
set_option maxHeartbeats 1500000 in
set_option maxRecDepth 100000 in
theorem Put_ok (A0 A1 : Option Addr) (c0 c1 : Nat) (l0 : List ByteArray) (l1 : List Letter) (v : Int) (s : ByteArray) (x : Affix) (w : World) (hF : Kd.C Kd.string w A0 l0.length l0) (hcF : l0.length ≤ c0) (hL : Kd.C kLetter w A1 l1.length l1) (hcL : l1.length ≤ c1) (hT : Tabs w) (h1 : (x.f1.size : Int) ≤ 140737488351232) (h2 : (x.f2.size : Int) ≤ 140737488351232) (her : oneE l0 l1 v s x = 0) :
    Calls Tryd.prog 22 #[.agg #[.slice A0 l0.length c0, .slice A1 l1.length c1], .int .u32 v, .string s, .agg #[.int .u8 x.f0, .string x.f1, .string x.f2, .int .i64 x.f3]] w fun e w' => e = .returned (.tuple #[.string (toText (putC (kindsOf l1) (classOf l0 l1 v 0).1 ([affOf x]) (lettersOf l0 l1 s).1)).1, .int .i64 (toText (putC (kindsOf l1) (classOf l0 l1 v 0).1 ([affOf x]) (lettersOf l0 l1 s).1)).2]) ∧ Below w.heap.size w w' := by
  have HB0 := boxes2 w (.cells #[.slice A0 l0.length c0, .slice A1 l1.length c1] 25) (.cells #[.int .u8 x.f0, .string x.f1, .string x.f2, .int .i64 x.f3] 49)
  have HB := Lib.hid HB0.1
  have BA := Lib.hid HB0.2.1
  have BX := Lib.hid HB0.2.2
  clear HB0
  have hst := fun W (hb : Below w.heap.size w W) => one.calls A0 A1 c0 c1 l0 l1 v s x W (Kd.C_below hF hb) hcF (Kd.C_below hL hb) hcL (hT.below hb) h1 h2
  rw [her] at hst
  obtain ⟨hcl, hle, hok⟩ := oneE_zero her
  have hck := classOf_chk hcl
  have hlo := letters_ok (l0 := l0) (l1 := l1) (s := s) (l := (lettersOf l0 l1 s).1) (by have := letters_size hle; omega) (by rw [← hle])
  have hfin : ∀ bm Al cl W, Below w.heap.size w W → ConsAt W bm (consB (kindsOf l1) (classOf l0 l1 v 0).1) → Kd.C (Kd.int .i32) W Al (lettersOf l0 l1 s).1.length (lettersOf l0 l1 s).1 → (lettersOf l0 l1 s).1.length ≤ cl → ∀ Ax, Kd.C kAffix W Ax [x].length [x] → Calls Tryd.prog 43 #[SV (.slice A0 l0.length c0) (.slice A1 l1.length c1) (.map (some bm)), .slice Al (lettersOf l0 l1 s).1.length cl, .slice Ax 1 1] W fun e w' => e = .returned (.tuple #[.string (toText (putC (kindsOf l1) (classOf l0 l1 v 0).1 [affOf x] (lettersOf l0 l1 s).1)).1, .int .i64 (toText (putC (kindsOf l1) (classOf l0 l1 v 0).1 [affOf x] (lettersOf l0 l1 s).1)).2]) ∧ Below W.heap.size W w' :=
    fun bm Al cl W (hb : Below w.heap.size w W) (hM : ConsAt W bm (consB (kindsOf l1) (classOf l0 l1 v 0).1)) (hl : Kd.C (Kd.int .i32) W Al (lettersOf l0 l1 s).1.length (lettersOf l0 l1 s).1) (hcl' : (lettersOf l0 l1 s).1.length ≤ cl) Ax (hX : Kd.C kAffix W Ax [x].length [x]) => stemmed_put.calls A0 A1 c0 c1 l0 l1 (classOf l0 l1 v 0).1 bm Al cl (lettersOf l0 l1 s).1 Ax 1 [x] W (Kd.C_below hF hb) hcF (Kd.C_below hL hb) hcL (hT.below hb) hM hl hcl' hX (Nat.le_refl _) (fun y hy => by simp at hy; subst hy; exact hok) hlo.2.2.2.1 hck (by omega) (by simp)
  obtain ⟨l, hl⟩ : ∃ l, l = (lettersOf l0 l1 s).1 := ⟨_, rfl⟩
  obtain ⟨cls, hcls⟩ : ∃ cls, cls = (classOf l0 l1 v 0).1 := ⟨_, rfl⟩
  have hst2 : ∀ W, Below w.heap.size w W → Calls Tryd.prog 42 #[.agg #[.slice A0 l0.length c0, .slice A1 l1.length c1], .int .u32 v, .string s, .agg #[.int .u8 x.f0, .string x.f1, .string x.f2, .int .i64 x.f3]] W fun e w' => Below W.heap.size W w' ∧ ∃ bm A c, e = .returned (.tuple #[SV (.slice A0 l0.length c0) (.slice A1 l1.length c1) (.map (some bm)), .slice A l.length c, .int .i64 0]) ∧ l.length ≤ c ∧ Kd.C (Kd.int .i32) w' A l.length l ∧ ConsAt w' bm (consB (kindsOf l1) cls) := by
    intro W hb
    refine (hst W hb).mono ?_
    rintro e w1 ⟨hb1, hyes, _⟩
    rw [hl, hcls]
    exact ⟨hb1, hyes rfl⟩
  rw [← hl, ← hcls] at hfin ⊢
  clear hst hl hcls hcl hle hck hlo her hF hL hT hok
  go_enter Tryd.func22, Tryd.ntmps22
  go_upto_region 2 with (go_at_call 42; refine (hst2 _ HB.out).mono ?_; rintro e w1 ⟨hb, bm, Al, cl, rfl, hcl, hC1, hM1⟩; have HC := Lib.hid hC1; have HM := Lib.hid hM1; have HB' := Lib.hid (below_step HB.out hb); have BA' := Lib.hid (blk_below BA.out hb); have BX' := Lib.hid (blk_below BX.out hb); clear HB BA BX; have HB := HB'; have BA := BA'; have BX := BX'; clear HB' BA' BX'; (try clear ha0); (try clear ha1); (try clear hx0); (try clear hx1); (try clear hx2); (try clear hx3); have ha0 := (blk_cell BA.out 0).trans rfl; have ha1 := (blk_cell BA.out 1).trans rfl; have hx0 := (blk_cell BX.out 0).trans rfl; have hx1 := (blk_cell BX.out 1).trans rfl; have hx2 := (blk_cell BX.out 2).trans rfl; have hx3 := (blk_cell BX.out 3).trans rfl; clear hb hC1 hM1 hst2)
  have BS := Lib.hid (blk_new w1 (.cells #[.slice A0 l0.length c0, .slice A1 l1.length c1, .map (some bm)] 94))
  have hb := B_alloc w1 (.cells #[.slice A0 l0.length c0, .slice A1 l1.length c1, .map (some bm)] 94)
  have HB' := Lib.hid (below_step HB.out hb)
  have BA' := Lib.hid (blk_below BA.out hb)
  have BX' := Lib.hid (blk_below BX.out hb)
  have HM' := Lib.hid (ConsAt.below HM.out hb)
  have HC' := Lib.hid (Kd.C_below HC.out hb)
  clear HB BA BX HM HC
  have HB := HB'
  have BA := BA'
  have BX := BX'
  have HM := HM'
  have HC := HC'
  clear HB' BA' BX' HM' HC'
  (try clear ha0)
  (try clear ha1)
  (try clear hx0)
  (try clear hx1)
  (try clear hx2)
  (try clear hx3)
  have ha0 := (blk_cell BA.out 0).trans rfl
  have ha1 := (blk_cell BA.out 1).trans rfl
  have hx0 := (blk_cell BX.out 0).trans rfl
  have hx1 := (blk_cell BX.out 1).trans rfl
  have hx2 := (blk_cell BX.out 2).trans rfl
  have hx3 := (blk_cell BX.out 3).trans rfl
  clear hb
  have hs0 := (blk_cell BS.out 0).trans rfl
  have hs1 := (blk_cell BS.out 1).trans rfl
  have hs2 := (blk_cell BS.out 2).trans rfl
  obtain ⟨wx, hwx⟩ : ∃ wx, wx = w1.alloc (.cells #[.slice A0 l0.length c0, .slice A1 l1.length c1, .map (some bm)] 94) := ⟨_, rfl⟩
  rw [← hwx] at HB BA BX BS HM HC ha0 ha1 hx0 hx1 hx2 hx3 hs0 hs1 hs2 ⊢
  clear hwx
  go_wp2_with (go_at_call 43; ((with_reducible refine (hfin bm Al cl (wx.alloc (.cells #[.int .u8 x.f0, .string x.f1, .string x.f2, .int .i64 x.f3] 49)) (HB.out.alloc HB.out.size _) (HM.out.below (B_alloc _ _)) (C_alloc HC.out _) hcl (some ⟨wx.heap.size, 0, none⟩) (affix1_C x (blk_new _ _))).mono ?_); rintro e w9 ⟨rfl, hb9⟩))
  go_ret2
  exact ⟨rfl, below_step (HB.out.alloc HB.out.size _) hb9⟩
set_option maxHeartbeats 1500000 in
set_option maxRecDepth 100000 in
theorem Form_no (A0 A1 : Option Addr) (c0 c1 : Nat) (l0 : List ByteArray) (l1 : List Letter) (v : Int) (s : ByteArray) (n : ByteArray) (Ac : Option Addr) (cc : Nat) (C : List Cell) (i : Int) (w : World) (hF : Kd.C Kd.string w A0 l0.length l0) (hcF : l0.length ≤ c0) (hL : Kd.C kLetter w A1 l1.length l1) (hcL : l1.length ≤ c1) (hT : Tabs w) (hC : Kd.C kCell w Ac C.length C) (hcC : C.length ≤ cc) (hs : sizedC C) (hns : n.size ≤ 140737488351232) (er : Int) (her : cellE l0 l1 v n C i s = er) (hne : er ≠ 0) :
    Calls Tryd.prog 24 #[.agg #[.slice A0 l0.length c0, .slice A1 l1.length c1], .int .u32 v, .agg #[.string n, .slice Ac C.length cc], .int .i64 i, .string s] w fun e w' => e = .returned (.tuple #[.string noB, .int .i64 er]) ∧ Below w.heap.size w w' := by
  have HB0 := boxes2 w (.cells #[.slice A0 l0.length c0, .slice A1 l1.length c1] 25) (.cells #[.string n, .slice Ac C.length cc] 45)
  have HB := Lib.hid HB0.1
  have BA := Lib.hid HB0.2.1
  have BX := Lib.hid HB0.2.2
  clear HB0
  have hst := fun W (hb : Below w.heap.size w W) => cell.calls A0 A1 c0 c1 l0 l1 v s n Ac cc C i W (Kd.C_below hF hb) hcF (Kd.C_below hL hb) hcL (hT.below hb) (Kd.C_below hC hb) hcC hs hns
  rw [her] at hst
  have hneb : (er != 0) = true := bne_iff_ne.mpr hne
  have Hne := Lib.hid hne
  clear her hne hF hL hT
  clear hC
  go_enter Tryd.func24, Tryd.ntmps24
  go_wp2_with (go_at_call 45; refine (hst _ HB.out).mono ?_; rintro e w1 ⟨hb, _, hno⟩; obtain ⟨q1, q2, q3, q4, q5, q6, q7, lv, rfl⟩ := hno Hne.out; have HB1 := Lib.hid (below_step HB.out hb); clear hb hst hno)
  go_ret2
  exact ⟨rfl, HB1.out.alloc HB1.out.size _⟩
set_option maxHeartbeats 1500000 in
set_option maxRecDepth 100000 in
theorem Form_ok (A0 A1 : Option Addr) (c0 c1 : Nat) (l0 : List ByteArray) (l1 : List Letter) (v : Int) (s : ByteArray) (n : ByteArray) (Ac : Option Addr) (cc : Nat) (C : List Cell) (i : Int) (w : World) (hF : Kd.C Kd.string w A0 l0.length l0) (hcF : l0.length ≤ c0) (hL : Kd.C kLetter w A1 l1.length l1) (hcL : l1.length ≤ c1) (hT : Tabs w) (hC : Kd.C kCell w Ac C.length C) (hcC : C.length ≤ cc) (hs : sizedC C) (hns : n.size ≤ 140737488351232) (her : cellE l0 l1 v n C i s = 0) :
    Calls Tryd.prog 24 #[.agg #[.slice A0 l0.length c0, .slice A1 l1.length c1], .int .u32 v, .agg #[.string n, .slice Ac C.length cc], .int .i64 i, .string s] w fun e w' => e = .returned (.tuple #[.string (toText (putC (kindsOf l1) (classOf l0 l1 v 0).1 ((C.getD i.toNat ⟨0, []⟩).f1.map affOf) (lettersOf l0 l1 s).1)).1, .int .i64 (toText (putC (kindsOf l1) (classOf l0 l1 v 0).1 ((C.getD i.toNat ⟨0, []⟩).f1.map affOf) (lettersOf l0 l1 s).1)).2]) ∧ Below w.heap.size w w' := by
  have HB0 := boxes2 w (.cells #[.slice A0 l0.length c0, .slice A1 l1.length c1] 25) (.cells #[.string n, .slice Ac C.length cc] 45)
  have HB := Lib.hid HB0.1
  have BA := Lib.hid HB0.2.1
  have BX := Lib.hid HB0.2.2
  clear HB0
  have hst := fun W (hb : Below w.heap.size w W) => cell.calls A0 A1 c0 c1 l0 l1 v s n Ac cc C i W (Kd.C_below hF hb) hcF (Kd.C_below hL hb) hcL (hT.below hb) (Kd.C_below hC hb) hcC hs hns
  rw [her] at hst
  obtain ⟨hcl, hch, hi0, hi1, hle⟩ := cellE_zero her
  have hck := classOf_chk hcl
  obtain ⟨k, rfl⟩ : ∃ k : Nat, i = k := ⟨i.toNat, by omega⟩
  have hlt : k < C.length := by omega
  have hget : C.getD k ⟨0, []⟩ = C[k] := by simp [List.getD_eq_getElem?_getD, List.getElem?_eq_getElem hlt]
  simp only [Int.toNat_natCast] at *
  rw [hget]
  have hcok : C[k].f1.length ≤ 8 ∧ ∀ y ∈ C[k].f1, affOk l0 l1 y = true := chkP_cell hck hch hlt
  have hlo := letters_ok (l0 := l0) (l1 := l1) (s := s) (l := (lettersOf l0 l1 s).1) (by have := letters_size hle; omega) (by rw [← hle])
  have hfin := fun bm Al cl W (hb : Below w.heap.size w W) (hM : ConsAt W bm (consB (kindsOf l1) (classOf l0 l1 v 0).1)) (hl : Kd.C (Kd.int .i32) W Al (lettersOf l0 l1 s).1.length (lettersOf l0 l1 s).1) (hcl' : (lettersOf l0 l1 s).1.length ≤ cl) Ax cx (hX : Kd.C kAffix W Ax C[k].f1.length C[k].f1) (hcx : C[k].f1.length ≤ cx) => stemmed_put.calls A0 A1 c0 c1 l0 l1 (classOf l0 l1 v 0).1 bm Al cl (lettersOf l0 l1 s).1 Ax cx C[k].f1 W (Kd.C_below hF hb) hcF (Kd.C_below hL hb) hcL (hT.below hb) hM hl hcl' hX hcx hcok.2 hlo.2.2.2.1 hck (by omega) (by omega)
  have HC0 := Lib.hid hC
  obtain ⟨l, hl⟩ : ∃ l, l = (lettersOf l0 l1 s).1 := ⟨_, rfl⟩
  obtain ⟨cls, hcls⟩ : ∃ cls, cls = (classOf l0 l1 v 0).1 := ⟨_, rfl⟩
  have hst2 : ∀ W, Below w.heap.size w W → Calls Tryd.prog 45 #[.agg #[.slice A0 l0.length c0, .slice A1 l1.length c1], .int .u32 v, .agg #[.string n, .slice Ac C.length cc], .int .i64 (k : Int), .string s] W fun e w' => Below W.heap.size W w' ∧ ∃ bm A c, e = .returned (.tuple #[SV (.slice A0 l0.length c0) (.slice A1 l1.length c1) (.map (some bm)), .slice A l.length c, .int .i64 0]) ∧ l.length ≤ c ∧ Kd.C (Kd.int .i32) w' A l.length l ∧ ConsAt w' bm (consB (kindsOf l1) cls) := by
    intro W hb
    refine (hst W hb).mono ?_
    rintro e w1 ⟨hb1, hyes, _⟩
    rw [hl, hcls]
    exact ⟨hb1, hyes rfl⟩
  rw [← hl, ← hcls] at hfin ⊢
  clear hst hl hcls hcl hle hck hlo her hF hL hT hch hcok hget hC hi0 hi1
  obtain ⟨X, hXX⟩ : ∃ X, X = C[k].f1 := ⟨_, rfl⟩
  rw [← hXX] at hfin ⊢
  have HXX := Lib.hid hXX
  clear hXX
  go_enter Tryd.func24, Tryd.ntmps24
  go_upto_region 2 with (go_at_call 45; refine (hst2 _ HB.out).mono ?_; rintro e w1 ⟨hb, bm, Al, cl, rfl, hcl, hC1, hM1⟩; have HC := Lib.hid hC1; have HM := Lib.hid hM1; have HB' := Lib.hid (below_step HB.out hb); have BA' := Lib.hid (blk_below BA.out hb); have BX' := Lib.hid (blk_below BX.out hb); clear HB BA BX; have HB := HB'; have BA := BA'; have BX := BX'; clear HB' BA' BX'; (try clear ha0); (try clear ha1); (try clear hx0); (try clear hx1); have ha0 := (blk_cell BA.out 0).trans rfl; have ha1 := (blk_cell BA.out 1).trans rfl; have hx0 := (blk_cell BX.out 0).trans rfl; have hx1 := (blk_cell BX.out 1).trans rfl; clear hb hC1 hM1 hst2)
  have BS := Lib.hid (blk_new w1 (.cells #[.slice A0 l0.length c0, .slice A1 l1.length c1, .map (some bm)] 94))
  have hb := B_alloc w1 (.cells #[.slice A0 l0.length c0, .slice A1 l1.length c1, .map (some bm)] 94)
  have HB' := Lib.hid (below_step HB.out hb)
  have BA' := Lib.hid (blk_below BA.out hb)
  have BX' := Lib.hid (blk_below BX.out hb)
  have HM' := Lib.hid (ConsAt.below HM.out hb)
  have HC' := Lib.hid (Kd.C_below HC.out hb)
  clear HB BA BX HM HC
  have HB := HB'
  have BA := BA'
  have BX := BX'
  have HM := HM'
  have HC := HC'
  clear HB' BA' BX' HM' HC'
  (try clear ha0)
  (try clear ha1)
  (try clear hx0)
  (try clear hx1)
  have ha0 := (blk_cell BA.out 0).trans rfl
  have ha1 := (blk_cell BA.out 1).trans rfl
  have hx0 := (blk_cell BX.out 0).trans rfl
  have hx1 := (blk_cell BX.out 1).trans rfl
  clear hb
  have hs0 := (blk_cell BS.out 0).trans rfl
  have hs1 := (blk_cell BS.out 1).trans rfl
  have hs2 := (blk_cell BS.out 2).trans rfl
  obtain ⟨wx, hwx⟩ : ∃ wx, wx = w1.alloc (.cells #[.slice A0 l0.length c0, .slice A1 l1.length c1, .map (some bm)] 94) := ⟨_, rfl⟩
  rw [← hwx] at HB BA BX BS HM HC ha0 ha1 hx0 hx1 hs0 hs1 hs2 ⊢
  obtain ⟨ad, Ax, cx, hA, hy0, hy1, hcx, hX⟩ := at_T56 (Kd.C_below HC0.out HB.out) (k : Int) (by omega) (by omega)
  subst hA
  rw [Int.toNat_natCast] at hy0 hy1
  rw [rdC C k hlt] at hy0 hy1 hcx hX
  rw [← HXX.out] at hy1 hcx hX
  have HX := Lib.hid hX
  have hk0 : (0 : Int) ≤ (k : Int) := by omega
  have hk1 : (k : Int) < (C.length : Int) := by omega
  clear hwx hX hy0
  go_upto_region 4 with (fail)
  have HBw := Lib.hid HB.out
  go_region_held3 (fun w' => w'.cell? ⟨w1.heap.size, 0, none⟩ = some (.slice A0 l0.length c0) ∧ w'.cell? ⟨w1.heap.size, 1, none⟩ = some (.slice A1 l1.length c1) ∧ w'.cell? ⟨w1.heap.size, 2, none⟩ = some (.map (some bm)) ∧ w'.cell? ⟨w.heap.size + 1, 1, none⟩ = some (.slice (some ad) C.length cc) ∧ w'.cell? ⟨(ad.add (k * 2)).block, (ad.add (k * 2)).off + 1, none⟩ = some (.slice Ax X.length cx)) (go_keep) (first | (go_at_call 43; refine (hfin bm Al cl _ (below_drew1 HB.out) (HM.out.below (below_drew1 (Below.refl _ _))) (Kd.C_below HC.out (below_drew1 (Below.refl _ _))) hcl _ _ (Kd.C_below HX.out (below_drew1 (Below.refl _ _))) hcx).mono ?_; rintro e w9 ⟨rfl, hb9⟩; have hk2 := (hb9.cell (p := ⟨w1.heap.size, 0, none⟩) (show _ < wx.heap.size from blk_lt BS.out)).trans hs0; have hk3 := (hb9.cell (p := ⟨w1.heap.size, 1, none⟩) (show _ < wx.heap.size from blk_lt BS.out)).trans hs1; have hk4 := (hb9.cell (p := ⟨w1.heap.size, 2, none⟩) (show _ < wx.heap.size from blk_lt BS.out)).trans hs2; have hk5 := (hb9.cell (p := ⟨w.heap.size + 1, 1, none⟩) (show _ < wx.heap.size from blk_lt BX.out)).trans hx1; have hk6 := (hb9.cell (p := ⟨(ad.add (k * 2)).block, (ad.add (k * 2)).off + 1, none⟩) (show _ < wx.heap.size from World.block_lt_of_cell? wx _ hy1)).trans hy1))
  go_wp2_with fail
  go_ret2
  exact ⟨rfl, below_step (below_drew1 HBw.out) hb9⟩
end Go.Proofs.YthmjheclhcdinaaDoor.Ext
end
section
/-
  slices.Backward over affixes: the iterator's contract.
-/
set_option linter.unusedSimpArgs false
set_option linter.unusedVariables false
namespace Go.Proofs.YthmjheclhcdinaaDoor.Ext
open Go.RowKit Go.Maps Go.Proofs.YthmjheclhcdinaaDoor Go.Proofs.YthmjheclhcdinaaDoorW.PrintWords Go.Proofs.YthmjheclhcdinaaDoorW.PrintLast Go.Proofs.YthmjheclhcdinaaDoorW.PrintMore
attribute [local go_sem] Oper.semAt_some
abbrev affV (x : Affix) : Value := .agg #[.int .u8 x.f0, .string x.f1, .string x.f2, .int .i64 x.f3]
section
variable {α : Type} (enc : α → Affix)
abbrev affE (x : Int × α) : Array Value := #[.int .i64 x.1, affV (enc x.2)]
/-- What has come when k rounds are over: the last ones, the last one first. -/
def bwd (zs : List α) (k : Nat) : List (Int × α) := ((zs.zipIdx).reverse.map (fun p => ((p.2 : Int), p.1))).take k
theorem bwd_len (zs : List α) (k : Nat) (h : k ≤ zs.length) : (bwd zs k).length = k := by simp [bwd, h]
theorem bwd_succ (zs : List α) (k : Nat) (h : k < zs.length) : bwd zs (k + 1) = bwd zs k ++ [((zs.length : Int) - 1 - (k : Int), zs[zs.length - 1 - k])] := by
  unfold bwd
  rw [List.take_succ_eq_append_getElem (by simpa using h)]
  congr 2
  simp only [List.getElem_map, List.getElem_reverse, List.getElem_zipIdx, List.length_zipIdx, Nat.zero_add, Prod.mk.injEq, and_true]
  omega
/-- What a round keeps: all below n₀, and the box Bs. -/
def KpB (n₀ Bs : Nat) (W W' : World) : Prop := Below n₀ W W' ∧ W'.heap[Bs]? = W.heap[Bs]?
theorem KpB.refl (n₀ Bs : Nat) (W : World) : KpB n₀ Bs W W := ⟨Below.refl _ _, rfl⟩
theorem KpB.trans {n₀ Bs : Nat} {A B C : World} (h : KpB n₀ Bs A B) (k : KpB n₀ Bs B C) : KpB n₀ Bs A C := ⟨h.1.trans k.1, k.2.trans h.2⟩
theorem KpB.put {n₀ Bs N : Nat} (hn : n₀ ≤ N) (hb : Bs < N) (W : World) (l : Nat) (o o' : Obj) (hl : N ≤ l) (ho : W.heap[l]? = some o) (hc : o.isCells = false) (hw : o.isWalk = false) : KpB n₀ Bs W (W.putObj l o') :=
  ⟨(Below.refl n₀ W).grown (grownBy_putObj' W l o') (by have := (Array.getElem?_eq_some_iff.1 ho).1; omega) (fun k e => by cases e; omega), World.putObj_heap_other (by omega)⟩
theorem KpB.cell {n₀ Bs : Nat} {A B : World} {v : Value} (h : KpB n₀ Bs A B) (hc : A.cell? ⟨Bs, 0, none⟩ = some v) : B.cell? ⟨Bs, 0, none⟩ = some v := (World.cell?_of_block (by exact h.2)).trans hc
set_option maxRecDepth 100000 in
set_option maxHeartbeats 2000000 in
theorem backward1 (n : Nat) (hn : 1 ≤ n) (l Bs n₀ : Nat) (A : Option Addr) (cap : Nat) (zs : List α) (hz : zs.length ≤ 1000000) (W : World) (hn0 : n₀ ≤ W.heap.size) (J Jx : List (Int × α) → World → Prop)
    (hY : ∀ pre x W, J pre W → pre.length < zs.length → YieldAt Fence.wide (n - 1) Tryd.prog l (affE enc x) W fun e W' =>
      (e = .returned (.bool true) ∧ J (pre ++ [x]) W' ∧ KpB n₀ Bs W W') ∨ (e = .returned (.bool false) ∧ Jx (pre ++ [x]) W'))
    (hBs : ∀ W', KpB n₀ Bs W W' → W'.cell? ⟨Bs, 0, none⟩ = some (.slice A zs.length cap)) (hC : ∀ W', Below n₀ W W' → Kd.C kAffix W' A zs.length (zs.map enc)) (h0 : J [] W) :
    CallsIn Fence.wide n Tryd.prog 80 #[.func (.yield l) #[] #[], .pointer (some ⟨Bs, 0, none⟩)] W fun e W' => (∃ v, e = .returned v) ∧
      ((∃ ys, ys = bwd zs zs.length ∧ J ys W') ∨ (∃ pre, (∃ k, k ≤ zs.length ∧ pre = bwd zs k) ∧ Jx pre W')) := by
  have hB0 := hBs W (KpB.refl _ _ _)
  have HBs := Lib.hid hBs
  have HC := Lib.hid hC
  clear hBs hC
  refine callsIn_of_wp Tryd.func80 rfl trivial ?_ rfl
  simp only [Tryd.ntmps80, List.size_toArray, List.length_cons, List.length_nil, Nat.reduceAdd, Nat.reduceSub, Array.replicate_succ, Array.replicate_zero, List.push_toArray, List.append_toArray, List.nil_append, List.cons_append]
  gi_wp2
  gi_loopw [3] (fun i wr => ∃ k : Nat, k ≤ zs.length ∧ i = .int .i64 ((zs.length : Int) - 1 - (k : Int)) ∧ J (bwd zs k) wr ∧ KpB n₀ Bs W wr)
    (fun i _ => (intOf i + 1).toNat)
  case atStart => exact ⟨0, Nat.zero_le _, by simp, (by unfold bwd; exact h0), KpB.refl _ _ _⟩
  case round =>
    obtain ⟨k, hk, rfl, hJs, hnx⟩ := hrel
    by_cases hlt : k < zs.length
    · obtain ⟨ad, hA, hx0, hx1, hx2, hx3⟩ := at_T49 (HC.out _ hnx.1) ((zs.length : Int) - 1 - (k : Int)) (by omega) (by omega)
      have erd : rd_T49 (zs.map enc) ((zs.length : Int) - 1 - (k : Int)) = enc zs[zs.length - 1 - k] := by
        have e : ((zs.length : Int) - 1 - (k : Int)) = ((zs.length - 1 - k : Nat) : Int) := by omega
        rw [e, rdA _ _ (by simp; omega)]
        simp
      rw [erd] at hx0 hx1 hx2 hx3
      obtain ⟨fn, tmps, assign, body, hy, hR⟩ := hY _ ((zs.length : Int) - 1 - (k : Int), zs[zs.length - 1 - k]) wr hJs (by rw [bwd_len _ _ hk]; exact hlt)
      have Hbs := Lib.hid (bwd_succ zs k hlt)
      clear erd
      (try dsimp only at hy)
      have hb1 := HBs.out _ hnx
      subst hA
      have ej : ((zs.length : Int) - 1 - (k : Int)).toNat = zs.length - 1 - k := by omega
      rw [ej] at hx0 hx1 hx2 hx3
      have ek : (k : Int) ≤ (zs.length : Int) - 1 := by omega
      clear ej
      gi_wp2
      refine hR.mono ?_
      rintro e W3 (⟨rfl, hJ3, hk3⟩ | ⟨rfl, hJx3⟩)
      · gi_wp2
        go_roundw
        case rel => exact ⟨k + 1, by omega, by congr 1; omega, by rw [Hbs.out]; exact hJ3, hnx.trans hk3⟩
        case measure => simp [intOf]; omega
      · gi_wp2
        refine bodyPost_ret (results_none rfl _ _ _) rfl ?_
        exact ⟨⟨_, rfl⟩, .inr ⟨_, ⟨k + 1, by omega, Hbs.out.symm⟩, hJx3⟩⟩
    · obtain rfl : k = zs.length := by omega
      have ek : ¬ ((zs.length : Int) ≤ (zs.length : Int) - 1) := by omega
      gi_wp2
      go_end0
      exact ⟨⟨_, rfl⟩, .inl (by first | exact hJs | exact ⟨_, rfl, hJs⟩)⟩
/-- slices.Backward(s): the slice value is boxed; the function value captures the box. -/
theorem backward_calls (A : Option Addr) (n c : Nat) (w : World) : Calls Tryd.prog 63 #[.slice A n c] w fun e w' => e = .returned (.func (.func 80) #[] #[.pointer (some ⟨w.heap.size, 0, none⟩)]) ∧ w' = w.alloc (.cells #[.slice A n c] 50) := by
  go_enter Tryd.func63, Tryd.ntmps63
  go_wp2
  go_ret
  exact ⟨rfl, rfl⟩
theorem backward_stops (n : Nat) (hn : 1 ≤ n) (Bs n₀ : Nat) (A : Option Addr) (cap : Nat) (zs : List α) (hz : zs.length ≤ 1000000) (w : World) (hn₀ : n₀ ≤ w.heap.size) (hb : Bs < w.heap.size)
    (hc : w.cell? ⟨Bs, 0, none⟩ = some (.slice A zs.length cap)) (hC : ∀ W', Below n₀ w W' → Kd.C kAffix W' A zs.length (zs.map enc)) :
    SeqStopsK Fence.wide n Tryd.prog 80 #[.pointer (some ⟨Bs, 0, none⟩)] (affE enc) (KpB n₀ Bs) (fun ys => ys = bwd zs zs.length) (fun pre => ∃ k, k ≤ zs.length ∧ pre = bwd zs k) zs.length w := fun l J Jx W hW _ _ hY h0 => by
  exact backward1 enc n hn l Bs n₀ A cap zs hz W (Nat.le_trans hn₀ hW.size) J Jx hY (fun W' h => h.cell ((hW.cell (p := ⟨Bs, 0, none⟩) hb).trans hc)) (fun W' h => hC W' ((hW.mono hn₀).trans h)) h0
end
end Go.Proofs.YthmjheclhcdinaaDoor.Ext
end
section
/-
  stemmed.off by a walk.
-/
set_option linter.unusedSimpArgs false
set_option linter.unusedVariables false
namespace Go.Proofs.YthmjheclhcdinaaDoor.Ext
open Go.RowKit Go.Maps Go.Proofs.YthmjheclhcdinaaDoor Go.Proofs.YthmjheclhcdinaaDoorW.PrintWords Go.Proofs.YthmjheclhcdinaaDoorW.PrintLast Go.Proofs.YthmjheclhcdinaaDoorW.PrintMore
attribute [local go_sem] Oper.semAt_some
theorem blk_kept' {W W' : World} {row : Option Nat} {g : Nat} {t : TypeId} {cs : Array Value} {fr : Nat × Nat} (h : W.heap[g]? = some (.cells cs t fr)) (hg : W.grownBy W' row) (hr : ∀ r, row = some r → ∃ o : Obj, W.heap[r]? = some o ∧ o.isCells = false) : W'.heap[g]? = some (.cells cs t fr) :=
  blk_grown h hg (fun e => by obtain ⟨o, ho, hc⟩ := hr g e.symm; rw [h] at ho; cases ho; cases hc)
theorem view_kept {W W' : World} {row : Option Nat} {v : Value} {l : List Int} (h : ViewAt W v l) (hg : W.grownBy W' row) (hr : ∀ r, row = some r → ∃ o : Obj, W.heap[r]? = some o ∧ o.isCells = false) : ViewAt W' v l := by
  obtain ⟨A, c, rfl, hc, hC⟩ := h
  refine ⟨A, c, rfl, hc, ?_⟩
  have hr1 := Kd.reads_of_C (d := (0 : Int)) (h1 := fun _ => rfl) hC
  exact Kd.C_of_reads (d := (0 : Int)) ⟨hr1.1, hr1.2.1, fun hn => by obtain ⟨ad, e, hj⟩ := hr1.2.2 hn; exact ⟨ad, e, fun j h => cell_kept (hj j h) hg hr⟩⟩
theorem view_below {W W' : World} {v : Value} {l : List Int} (h : ViewAt W v l) (hb : Below W.heap.size W W') : ViewAt W' v l := by
  obtain ⟨A, c, rfl, hc, hC⟩ := h
  exact ⟨A, c, rfl, hc, Kd.C_below hC hb⟩
/-- A store into a box of a slice touches no letters. -/
theorem view_set {W : World} {v u : Value} {l : List Int} {g : Nat} {t : TypeId} {Ag : Option Addr} {ng cg : Nat} (h : ViewAt W v l) (hb : W.heap[g]? = some (.cells #[.slice Ag ng cg] t (0, 0))) (n : Nat) : ViewAt ((W.drewN n).setCell ⟨g, 0, none⟩ u) v l := by
  obtain ⟨A, c, rfl, hc', hC⟩ := h
  refine ⟨A, c, rfl, hc', ?_⟩
  have hr1 := Kd.reads_of_C (d := (0 : Int)) (h1 := fun _ => rfl) hC
  refine Kd.C_of_reads (d := (0 : Int)) ⟨hr1.1, hr1.2.1, fun hn => ?_⟩
  obtain ⟨ad, e, hj⟩ := hr1.2.2 hn
  refine ⟨ad, e, fun j h => ?_⟩
  have hne : ad.add j ≠ ⟨g, 0, none⟩ := by
    intro e2
    have h1 := hj j h
    rw [e2, blk_cell hb 0] at h1
    cases h1
  exact (World.cell?_setCell_other _ _ _ _ (by first | exact hne | exact Ne.symm hne)).trans (hj j h)
theorem keepsFrom_below {B : Nat} {W W' : World} (h : Below W.heap.size W W') : KeepsFrom B W W' := ⟨h.size, fun k o hk h0 ho => (h.block k (Array.getElem?_eq_some_iff.1 h0).1).trans h0⟩
theorem offC_append (ks cls : List Int) : ∀ (xs ys : List Aff) (l : List Int), offC ks cls (xs ++ ys) l = (match offC ks cls xs l with | some m => offC ks cls ys m | none => none)
  | [], ys, l => rfl
  | x :: xs, ys, l => by
    simp only [offC, List.cons_append]
    cases takenL ks cls x l with
    | none => rfl
    | some m => exact offC_append ks cls xs ys m
section
variable {α : Type} (enc : α → Affix)
def bwdA (zs : List α) (k : Nat) : List Aff := (bwd zs k).map (fun p => affOf (enc p.2))
theorem bwdA_split (zs : List α) (k : Nat) : ∃ q, (zs.map (fun x => affOf (enc x))).reverse = bwdA enc zs k ++ q := by
  refine ⟨(((zs.zipIdx).reverse.map (fun p => ((p.2 : Int), p.1))).drop k).map (fun p => affOf (enc p.2)), ?_⟩
  unfold bwdA bwd
  rw [← List.map_append, List.take_append_drop, List.map_map, List.map_reverse]
  congr 1
  have : (zs.zipIdx).map Prod.fst = zs := List.zipIdx_map_fst ..
  conv => lhs; rw [← this]
  rw [List.map_map]
  rfl
theorem bwdA_all (zs : List α) : bwdA enc zs zs.length = (zs.map (fun x => affOf (enc x))).reverse := by
  obtain ⟨q, hq⟩ := bwdA_split enc zs zs.length
  have h1 := congrArg List.length hq
  have h2 : (bwdA enc zs zs.length).length = zs.length := by unfold bwdA; rw [List.length_map, bwd_len _ _ (Nat.le_refl _)]
  rw [List.length_append, h2, List.length_reverse, List.length_map] at h1
  have : q = [] := List.length_eq_zero_iff.1 (by omega)
  rw [hq, this, List.append_nil]
end
abbrev AffOkT (l0 : List ByteArray) (l1 : List Letter) := { x : Affix // affOk l0 l1 x = true }
/-- What lies between two rounds. -/
def OffI (l0 : List ByteArray) (l1 : List Letter) (cls : List Int) (l : List Int) (w : World) (sv : Array Value) (pre : List (Int × AffOkT l0 l1)) (W : World) : Prop :=
  (∃ v l', W.heap[w.heap.size + 1]? = some (.cells #[v] 73 (0, 0)) ∧ ViewAt W v l' ∧ offC (kindsOf l1) cls (pre.map (fun p => affOf p.2.1)) l = some l' ∧ l'.length ≤ 64 ∧ (∀ y ∈ l', (kindsOf l1).contains y = true)) ∧
  W.heap[w.heap.size]? = some (.cells sv 94 (0, 0)) ∧ W.heap[w.heap.size + 2]? = some (.cells #[.slice none 0 0] 22 (0, 0)) ∧ Below w.heap.size w W ∧ w.heap.size + 3 < W.heap.size
def OffX (l0 : List ByteArray) (l1 : List Letter) (cls : List Int) (l : List Int) (w : World) (c : Code) (pre : List (Int × AffOkT l0 l1)) (W : World) : Prop :=
  c = .ret ∧ offC (kindsOf l1) cls (pre.map (fun p => affOf p.2.1)) l = none ∧ W.heap[w.heap.size + 2]? = some (.cells #[.slice none 0 0] 22 (0, 0)) ∧ Below w.heap.size w W
theorem offI_from {l0 : List ByteArray} {l1 : List Letter} {cls l : List Int} {w : World} {sv : Array Value} {B : Nat} (hB : w.heap.size ≤ B) : OwnFrom B (OffI l0 l1 cls l w sv) := by
  rintro pre W W' row ⟨⟨v, l', h1, h2, h3, h4, h5⟩, h6, h7, h8, h9⟩ hg hr
  have hr' := fun r e => (hr r e).2
  exact ⟨⟨v, l', blk_kept' h1 hg hr', view_kept h2 hg hr', h3, h4, h5⟩, blk_kept' h6 hg hr', blk_kept' h7 hg hr', h8.grown hg h8.size (fun k e => Nat.le_trans hB (hr k e).1), Nat.lt_of_lt_of_le h9 hg.size⟩
theorem offX_from {l0 : List ByteArray} {l1 : List Letter} {cls l : List Int} {w : World} {c : Code} {B : Nat} (hB : w.heap.size ≤ B) : OwnFrom B (OffX l0 l1 cls l w c) := by
  rintro pre W W' row ⟨h1, h2, h3, h4⟩ hg hr
  have hr' := fun r e => (hr r e).2
  exact ⟨h1, h2, blk_kept' h3 hg hr', h4.grown hg h4.size (fun k e => Nat.le_trans hB (hr k e).1)⟩
/-- A row of one text, made anew. -/
theorem oneString_R (s : ByteArray) (w W : World) (g : Nat) (h : W.heap[g]? = some (.cells #[.string s] 9 (0, 0))) (hg : w.heap.size ≤ g) : Kd.R Kd.string 9 W w.heap.size (fun _ => True) (.slice (some ⟨g, 0, none⟩) 1 1) [s] := by
  refine ⟨fun _ _ => trivial, [.string s], ?_, ?_⟩
  · show World.ownsRow _ _ _ 1 _ _ _
    exact ⟨rfl, .inr ⟨g, 1, _, rfl, hg, h, Nat.le_refl _, by decide, rfl, rfl⟩⟩
  · show Reps _ 1 _ _
    refine ⟨rfl, fun j p hj => ?_⟩
    match j, hj with
    | 0, hj => simp at hj; subst hj; rfl
    | j + 1, hj => simp at hj
theorem Equal_loop (l m : List Int) (hl : l.length = m.length) (hb : l.length < 1000000) : ∀ (n i k : Nat), i + n = l.length → n + 1 ≤ k →
    RF3.slices_Equal_rune_rune.l0 k l m (l.length : Int) (i : Int) = some (decide (l.drop i = m.drop i))
  | 0, i, k, hi, hk => by
    obtain ⟨k, rfl⟩ : ∃ q, k = q + 1 := ⟨k - 1, by omega⟩
    unfold RF3.slices_Equal_rune_rune.l0
    rw [if_neg (by omega), List.drop_of_length_le (by omega), List.drop_of_length_le (by omega)]
    rfl
  | n + 1, i, k, hi, hk => by
    obtain ⟨k, rfl⟩ : ∃ q, k = q + 1 := ⟨k - 1, by omega⟩
    have hlt : i < l.length := by omega
    have hlt2 : i < m.length := by omega
    have hr : rd l (i : Int) = l[i] := by simp [rd, List.getD_eq_getElem?_getD, List.getElem?_eq_getElem hlt]
    have hr2 : rd m (i : Int) = m[i] := by simp [rd, List.getD_eq_getElem?_getD, List.getElem?_eq_getElem hlt2]
    have e : (i : Int) + 1 = ((i + 1 : Nat) : Int) := by omega
    unfold RF3.slices_Equal_rune_rune.l0
    rw [if_pos (by omega), if_pos (by omega), if_pos (by omega), if_pos (by omega), hr, hr2, wrap_succ (by omega) (by omega), e, List.drop_eq_getElem_cons hlt, List.drop_eq_getElem_cons hlt2]
    by_cases hx : l[i] = m[i]
    · rw [if_pos hx, Equal_loop l m hl hb n (i + 1) k (by omega) (by omega), hx]
      generalize l.drop (i + 1) = t
      generalize m.drop (i + 1) = u
      simp
    · rw [if_neg hx]
      generalize l.drop (i + 1) = t
      generalize m.drop (i + 1) = u
      simp [hx]
theorem Equal_eq (l m : List Int) (hb : l.length < 1000000) (k : Nat) (hk : l.length + 1 ≤ k) : RF3.slices_Equal_rune_rune.f k l m = some (decide (l = m)) := by
  unfold RF3.slices_Equal_rune_rune.f
  by_cases hl : l.length = m.length
  · rw [if_pos (by omega)]
    have := Equal_loop l m hl hb l.length 0 k (by omega) (by omega)
    simpa using this
  · rw [if_neg (by omega)]
    congr 1
    rw [eq_comm, decide_eq_false_iff_not]
    intro e
    exact hl (by rw [e])
theorem put_len {ks cls : List Int} {x : Aff} {l q : List Int} {e : Int} (h : putL ks cls x l = (q, e)) (hl : l.length ≤ 64) (hf : x.form.length ≤ 64) (ho : x.other.length ≤ 64) : q.length ≤ 400 := by
  have hq : q = (putL ks cls x l).1 := by rw [h]
  rw [hq]
  unfold putL
  split
  · simp; omega
  · split
    · simp; omega
    · split
      · simp; omega
      · split
        · simp; omega
        · split
          · split
            · rw [fill_len]; omega
            · simp
          · split
            · simp
            · simp; omega
abbrev OffIs (K : FuncId) (v : Value) (ks cls : List Int) (x : Aff) (l : List Int) (A0 A1 Al : Option Addr) (n0 c0 n1 c1 cl bm : Nat) (w : World) : Prop :=
  Calls Tryd.prog K #[v, SV (.slice A0 n0 c0) (.slice A1 n1 c1) (.map (some bm)), .slice Al l.length cl] w fun e w' => offView w w' e (offL ks cls x l)
theorem offIs_a {w : World} (x : Aff) (ks cls l : List Int) (A1 A2 : Option Addr) (c1 c2 : Nat) (f b : List Int) (A0 A1' Al : Option Addr) (n0 c0 n1 c1' cl bm : Nat) (hk : x.kind = 1 ∨ x.kind = 2 ∨ x.kind = 3) (hf : f = if x.kind = 2 then [] else x.form) (hb : b = if x.kind = 1 then [] else if x.kind = 2 then x.form else x.other)
    (hl : Kd.C (Kd.int .i32) w Al l.length l) (hcl : l.length ≤ cl) (hn : f.length + l.length + b.length ≤ 1000000) :
    OffIs 131 (.agg #[.slice A1 f.length c1, .slice A2 b.length c2]) ks cls x l A0 A1' Al n0 c0 n1 c1' cl bm w := by
  refine (around_off.calls A1 A2 Al c1 c2 cl f b l _ _ _ w hl hcl hn).mono ?_
  intro e w' h
  rw [off1 ks cls x l f b hk hf hb]
  exact h
theorem offIs_w {w : World} (x : Aff) (ks cls l : List Int) (A1 : Option Addr) (c1 : Nat) (A0 A1' Al : Option Addr) (n0 c0 n1 c1' cl bm : Nat) (hk : x.kind = 4) (hl : Kd.C (Kd.int .i32) w Al l.length l) (hcl : l.length ≤ cl) (hn : x.form.length + l.length ≤ 1000000) (hat : x.place ≤ 1000) :
    OffIs 135 (.agg #[.slice A1 x.form.length c1, .int .i64 (x.place : Int)]) ks cls x l A0 A1' Al n0 c0 n1 c1' cl bm w := by
  refine (within_off.calls A1 Al c1 cl x.form l x.place _ _ _ w hl hcl hn hat).mono ?_
  intro e w' h
  rw [off4 ks cls x l hk]
  exact h.view
theorem offIs_s {w : World} (x : Aff) (ks cls l : List Int) (A1 : Option Addr) (c1 : Nat) (A0 A1' Al : Option Addr) (n0 c0 n1 c1' cl bm : Nat) (hk : x.kind = 5) (h1 : Kd.C (Kd.int .i32) w A1 x.form.length x.form) (hl : Kd.C (Kd.int .i32) w Al l.length l) (hM : ConsAt w bm (consB ks cls)) (hw : ∀ y ∈ l, (Lit.int .i32 y).wf = true) (hn : x.form.length ≤ 100000) :
    OffIs 137 (.agg #[.slice A1 x.form.length c1]) ks cls x l A0 A1' Al n0 c0 n1 c1' cl bm w := by
  refine (shaped_off.calls A1 Al c1 cl x.form l _ _ bm (consB ks cls) w h1 hl hM hw hn).mono ?_
  intro e w' h
  rw [off5 ks cls x l hk]
  exact h.view
theorem offIs_d {w : World} (x : Aff) (ks cls l : List Int) (A0 A1' Al : Option Addr) (n0 c0 n1 c1' cl bm : Nat) (hk : x.kind = 6) (hl : Kd.C (Kd.int .i32) w Al l.length l) (hcl : l.length ≤ cl) (hn : l.length ≤ 100000) (hat : x.place ≤ 1000) :
    OffIs 140 (.agg #[.int .i64 (x.place : Int)]) ks cls x l A0 A1' Al n0 c0 n1 c1' cl bm w := by
  refine (doubled_off.calls Al cl l x.place _ _ _ w hl hcl hn hat).mono ?_
  intro e w' h
  rw [off6 ks cls x l hk]
  exact h
/-- A method call on an affix's value: its off, in any later world; then its put. -/
def Disp (w : World) (Koff Kput : FuncId) (T : TypeId) (val : Value) (ks cls : List Int) (x : Aff) : Prop :=
  (∀ (l : List Int) (A0 A1 Al : Option Addr) (n0 c0 n1 c1 cl bm : Nat) (W : World), Below w.heap.size w W → Kd.C (Kd.int .i32) W Al l.length l → l.length ≤ cl → l.length ≤ 256 → ConsAt W bm (consB ks cls) → (∀ y ∈ l, (Lit.int .i32 y).wf = true) → OffIs Koff val ks cls x l A0 A1 Al n0 c0 n1 c1 cl bm W) ∧
  (∀ (l : List Int) (A0 A1 Al : Option Addr) (n0 c0 n1 c1 cl bm : Nat) (W : World), Below w.heap.size w W → Kd.C (Kd.int .i32) W Al l.length l → l.length ≤ cl → l.length ≤ 256 → ConsAt W bm (consB ks cls) → (∀ y ∈ l, (Lit.int .i32 y).wf = true) → PutIs Kput val ks cls x l A0 A1 Al n0 c0 n1 c1 cl bm W)
theorem Disp.off_eq {w : World} {Koff Kput : FuncId} {T : TypeId} {val : Value} {ks cls : List Int} {x : Aff} (h : Disp w Koff Kput T val ks cls x) (l : List Int) (o : Option (List Int)) (ho : offL ks cls x l = o) (A0 A1 Al : Option Addr) (n0 c0 n1 c1 cl bm : Nat) (W : World) (hW : Below w.heap.size w W) (hC : Kd.C (Kd.int .i32) W Al l.length l) (hc : l.length ≤ cl) (hn : l.length ≤ 256) (hM : ConsAt W bm (consB ks cls)) (hw : ∀ y ∈ l, (Lit.int .i32 y).wf = true) :
    Calls Tryd.prog Koff #[val, SV (.slice A0 n0 c0) (.slice A1 n1 c1) (.map (some bm)), .slice Al l.length cl] W fun e w' => offView W w' e o := by
  have := h.1 l A0 A1 Al n0 c0 n1 c1 cl bm W hW hC hc hn hM hw
  unfold OffIs at this
  rw [ho] at this
  exact this
theorem Disp.put_eq {w : World} {Koff Kput : FuncId} {T : TypeId} {val : Value} {ks cls : List Int} {x : Aff} (h : Disp w Koff Kput T val ks cls x) (l q : List Int) (e0 : Int) (ho : putL ks cls x l = (q, e0)) (A0 A1 Al : Option Addr) (n0 c0 n1 c1 cl bm : Nat) (W : World) (hW : Below w.heap.size w W) (hC : Kd.C (Kd.int .i32) W Al l.length l) (hc : l.length ≤ cl) (hn : l.length ≤ 256) (hM : ConsAt W bm (consB ks cls)) (hw : ∀ y ∈ l, (Lit.int .i32 y).wf = true) :
    Calls Tryd.prog Kput #[val, SV (.slice A0 n0 c0) (.slice A1 n1 c1) (.map (some bm)), .slice Al l.length cl] W fun e w' => putPost W w' e (q, e0) := by
  have := h.2 l A0 A1 Al n0 c0 n1 c1 cl bm W hW hC hc hn hM hw
  unfold PutIs at this
  rw [ho] at this
  exact this
theorem disp_of {w : World} {v : Value} {x : Aff} (h : AffIs w v x) (ks cls : List Int) (hf : x.form.length ≤ 64) (ho : x.other.length ≤ 64) (hp : x.place ≤ 64) :
    ((x.kind = 1 ∨ x.kind = 2 ∨ x.kind = 3) ∧ ∃ a b, v = .iface 117 (.agg #[a, b]) ∧ Disp w 131 132 117 (.agg #[a, b]) ks cls x) ∨
    (x.kind = 4 ∧ ∃ a b, v = .iface 119 (.agg #[a, b]) ∧ Disp w 135 136 119 (.agg #[a, b]) ks cls x) ∨
    (x.kind = 5 ∧ ∃ a, v = .iface 121 (.agg #[a]) ∧ Disp w 137 138 121 (.agg #[a]) ks cls x) ∨
    (x.kind = 6 ∧ ∃ a, v = .iface 124 (.agg #[a]) ∧ Disp w 140 141 124 (.agg #[a]) ks cls x) := by
  rcases h with ⟨hk, A1', c1', f, A2', c2', b, rfl, hC1, hC2, hf', hb'⟩ | ⟨hk, A1', c1', rfl, hC1⟩ | ⟨hk, A1', c1', rfl, hC1⟩ | ⟨hk, rfl⟩
  · have hlf : f.length ≤ 64 := by rw [hf']; split <;> (try simp) <;> omega
    have hlb : b.length ≤ 64 := by rw [hb']; split <;> (try split) <;> (try simp) <;> omega
    exact .inl ⟨hk, _, _, rfl, fun l A0 A1 Al n0 c0 n1 c1 cl bm W hW hC hc hn hM hw => offIs_a x ks cls l _ _ _ _ f b _ _ _ _ _ _ _ _ _ hk hf' hb' hC hc (by omega), fun l A0 A1 Al n0 c0 n1 c1 cl bm W hW hC hc hn hM hw => putIs_a x ks cls l _ _ _ _ f b _ _ _ _ _ _ _ _ _ hk hf' hb' (Kd.C_below hC1 hW) (Kd.C_below hC2 hW) hC (by omega)⟩
  · exact .inr (.inl ⟨hk, _, _, rfl, fun l A0 A1 Al n0 c0 n1 c1 cl bm W hW hC hc hn hM hw => offIs_w x ks cls l _ _ _ _ _ _ _ _ _ _ _ hk hC hc (by omega) (by omega), fun l A0 A1 Al n0 c0 n1 c1 cl bm W hW hC hc hn hM hw => putIs_w x ks cls l _ _ _ _ _ _ _ _ _ _ _ hk (Kd.C_below hC1 hW) hC hc (by omega) (by omega)⟩)
  · exact .inr (.inr (.inl ⟨hk, _, rfl, fun l A0 A1 Al n0 c0 n1 c1 cl bm W hW hC hc hn hM hw => offIs_s x ks cls l _ _ _ _ _ _ _ _ _ _ _ hk (Kd.C_below hC1 hW) hC hM hw (by omega), fun l A0 A1 Al n0 c0 n1 c1 cl bm W hW hC hc hn hM hw => putIs_s x ks cls l _ _ _ _ _ _ _ _ _ _ _ hk (Kd.C_below hC1 hW) hC hM hw (by omega) (by omega)⟩))
  · exact .inr (.inr (.inr ⟨hk, _, rfl, fun l A0 A1 Al n0 c0 n1 c1 cl bm W hW hC hc hn hM hw => offIs_d x ks cls l _ _ _ _ _ _ _ _ _ hk hC hc (by omega) (by omega), fun l A0 A1 Al n0 c0 n1 c1 cl bm W hW hC hc hn hM hw => putIs_d x ks cls l _ _ _ _ _ _ _ _ _ hk hC hc (by omega) (by omega)⟩))
set_option maxHeartbeats 10000000 in
set_option maxRecDepth 100000 in
theorem stemmed_off.calls (A0 A1 : Option Addr) (c0 c1 : Nat) (l0 : List ByteArray) (l1 : List Letter) (cls : List Int) (bm : Nat) (Al : Option Addr) (cl : Nat) (l : List Int) (Ax : Option Addr) (cx : Nat) (xs : List Affix) (w : World)
    (hF : Kd.C Kd.string w A0 l0.length l0) (hcF : l0.length ≤ c0) (hL : Kd.C kLetter w A1 l1.length l1) (hcL : l1.length ≤ c1) (hT : Tabs w) (hM : ConsAt w bm (consB (kindsOf l1) cls)) (hl : Kd.C (Kd.int .i32) w Al l.length l) (hcl : l.length ≤ cl) (hX : Kd.C kAffix w Ax xs.length xs) (hcx : xs.length ≤ cx)
    (hok : ∀ x ∈ xs, affOk l0 l1 x = true) (hlk : ∀ y ∈ l, (kindsOf l1).contains y = true) (hck : chk l0 l1 = 0) (hn : l.length ≤ 64) (hxn : xs.length ≤ 1000) :
    Calls Tryd.prog 44 #[SV (.slice A0 l0.length c0) (.slice A1 l1.length c1) (.map (some bm)), .slice Al l.length cl, .slice Ax xs.length cx] w fun e w' =>
      ∃ v, e = .returned v ∧ Kd.R Kd.string 9 w' w.heap.size (fun _ => True) v (oneText (offC (kindsOf l1) cls (xs.map affOf).reverse l)) ∧ Below w.heap.size w w' := by
  obtain ⟨zs, rfl⟩ : ∃ zs : List (AffOkT l0 l1), xs = zs.map Subtype.val := ⟨xs.attach.map (fun x => ⟨x.1, hok x.1 x.2⟩), by simp⟩
  rw [List.length_map] at hX hcx hxn ⊢
  obtain ⟨p, hp⟩ : ∃ p, p = offC (kindsOf l1) cls ((zs.map Subtype.val).map affOf).reverse l := ⟨_, rfl⟩
  rw [← hp]
  rw [List.map_map] at hp
  have hall : offC (kindsOf l1) cls ((bwd zs zs.length).map (fun p => affOf p.2.1)) l = p := by
    rw [hp]
    exact congrArg (fun z => offC (kindsOf l1) cls z l) (bwdA_all (α := AffOkT l0 l1) Subtype.val zs)
  have hpart : ∀ k, offC (kindsOf l1) cls ((bwd zs k).map (fun p => affOf p.2.1)) l = none → p = none := by
    intro k hk
    obtain ⟨q, hq⟩ := bwdA_split (α := AffOkT l0 l1) Subtype.val zs k
    rw [hp]
    show offC _ _ (zs.map (fun x => affOf x.1)).reverse l = none
    rw [hq, offC_append]
    unfold bwdA
    rw [hk]
  have Hall := Lib.hid hall
  have Hpart := Lib.hid hpart
  clear hp hall hpart hok
  have HF := Lib.hid hF
  have HL := Lib.hid hL
  have HM := Lib.hid hM
  have HX := Lib.hid hX
  have HT := Lib.hid hT
  have Hck := Lib.hid hck
  have Hl := Lib.hid hl
  have Hlk := Lib.hid hlk
  clear hF hL hM hX hT hck hl hlk
  refine (callsIn_wide (n := 8)).1 ?_
  have h1 : 1 ≤ 8 := by decide
  refine callsIn_of_wp_marks Tryd.func44 rfl trivial ?_ rfl
  simp only [Tryd.ntmps44, List.size_toArray, List.length_cons, List.length_nil, Nat.reduceAdd, Nat.reduceSub, Array.replicate_succ, Array.replicate_zero, List.push_toArray, List.append_toArray, List.nil_append, List.cons_append]
  gi_wp2_with (refine ⟨trivial, ?_⟩; gi_at_call 63; refine (callsIn_wide.2 (backward_calls _ _ _ _)).mono ?_; rintro e w' ⟨rfl, rfl⟩)
  obtain ⟨W0, hW0⟩ : ∃ W0, ((((w.alloc (.cells #[.slice A0 l0.length c0, .slice A1 l1.length c1, .map (some bm)] 94)).alloc (.cells #[.slice Al l.length cl] 73)).alloc (.cells #[.slice none 0 0] 22)).alloc (.cells #[.slice Ax zs.length cx] 50)) = W0 := ⟨_, rfl⟩
  have hsz : W0.heap.size = w.heap.size + 4 := by rw [← hW0]; simp
  have b3 : W0.heap[w.heap.size]? = some (.cells #[.slice A0 l0.length c0, .slice A1 l1.length c1, .map (some bm)] 94 (0, 0)) := by
    rw [← hW0]; exact blk_alloc (blk_alloc (blk_alloc (blk_new _ _) _) _) _
  have b4 : W0.heap[w.heap.size + 1]? = some (.cells #[.slice Al l.length cl] 73 (0, 0)) := by
    rw [← hW0]; exact blk_alloc (blk_alloc (blk_new2 _ _ _) _) _
  have b6 : W0.heap[w.heap.size + 2]? = some (.cells #[.slice none 0 0] 22 (0, 0)) := by
    rw [← hW0]; refine blk_alloc ?_ _; simpa using blk_new2 (w.alloc (.cells #[.slice A0 l0.length c0, .slice A1 l1.length c1, .map (some bm)] 94)) (.cells #[.slice Al l.length cl] 73) (.cells #[.slice none 0 0] 22)
  have b7 : W0.heap[w.heap.size + 1 + 1 + 1]? = some (.cells #[.slice Ax zs.length cx] 50 (0, 0)) := by
    rw [← hW0]; have := blk_new (((w.alloc (.cells #[.slice A0 l0.length c0, .slice A1 l1.length c1, .map (some bm)] 94)).alloc (.cells #[.slice Al l.length cl] 73)).alloc (.cells #[.slice none 0 0] 22)) (.cells #[.slice Ax zs.length cx] 50); simpa using this
  have hB0 : Below w.heap.size w W0 := by
    rw [← hW0]; exact ((((Below.refl _ w).alloc (Nat.le_refl _) _).alloc (by simp) _).alloc (by simp; omega) _).alloc (by simp; omega) _
  rw [hW0]
  clear hW0
  refine wpIn_rangeFunc_ownH rfl h1 (gf := 80) (lb := #[.pointer (some ⟨w.heap.size + 1 + 1 + 1, 0, none⟩)]) rfl trivial (enters_of Tryd.func80 (by kernel_rfl) rfl)
    (backward_stops (α := AffOkT l0 l1) Subtype.val (8 - 1) (by decide) (w.heap.size + 1 + 1 + 1) w.heap.size Ax cx zs (by omega) W0 (by omega) (by omega) ((blk_cell b7 0).trans rfl) (fun W' h => by have := Kd.C_below HX.out (hB0.trans h); exact this))
    (fun h k => h.trans k) (KpB.put (by omega) (by omega)) (Below.refl _ _) (fun _ => rfl)
    (OffI l0 l1 cls l w #[.slice A0 l0.length c0, .slice A1 l1.length c1, .map (some bm)]) (OffX l0 l1 cls l w) (offI_from (by omega)) (fun c => offX_from (by omega)) ?h0
    (fun x a' W => ∃ Bx, w.heap.size + 4 ≤ Bx ∧ W.heap[Bx]? = some (.cells #[.int .u8 x.2.1.f0, .string x.2.1.f1, .string x.2.1.f2, .int .i64 x.2.1.f3] 49 (0, 0)) ∧
      a' = { tmps := #[SV (.slice A0 l0.length c0) (.slice A1 l1.length c1) (.map (some bm)), .slice Al l.length cl, .slice Ax zs.length cx, .pointer (some ⟨w.heap.size, 0, none⟩), .pointer (some ⟨w.heap.size + 1, 0, none⟩), undef, .pointer (some ⟨w.heap.size + 1 + 1, 0, none⟩), undef, .pointer (some ⟨Bx, 0, none⟩), undef, undef, undef, undef, undef, undef, .slice Ax zs.length cx, .func (.func 80) #[] #[.pointer (some ⟨w.heap.size + 1 + 1 + 1, 0, none⟩)], .int .i64 x.1, affV x.2.1, undef, undef, undef, undef, undef, undef, undef, undef, undef, undef, undef, undef, undef, undef, undef, undef, undef, undef, undef, undef, undef, undef, undef, undef, undef, undef, undef, undef, undef, undef, undef, undef, undef, undef, undef], defers := [] })
    ?hAx ?assign ?body ?done ?stop
  case h0 => exact ⟨⟨_, l, b4, ⟨Al, cl, rfl, hcl, Kd.C_below Hl.out hB0⟩, rfl, hn, Hlk.out⟩, b3, b6, hB0, by omega⟩
  case hAx =>
    rintro x a' _ X Y row ⟨Bx, hBx, hbx, ha⟩ hg hr
    exact ⟨Bx, hBx, blk_kept' hbx hg (fun r e => (hr r e).2), ha⟩
  case assign =>
    rintro lp pre x W K hI hK
    obtain ⟨⟨v, l', hv, hV, ho, hln, hlm⟩, hI3, hI6, hB, hlt⟩ := hI
    have hsW := hB.size
    gi_wp2
    exact hK _ _ ((KeepsOthers.alloc _ _).from _) ⟨(Below.refl _ W).alloc hsW _, Below.heap_alloc W _ _ (by omega)⟩ ⟨⟨v, l', blk_alloc hv _, view_below hV (B_alloc _ _), ho, hln, hlm⟩, blk_alloc hI3 _, blk_alloc hI6 _, hB.alloc hsW _, by simp; omega⟩ ⟨W.heap.size, by omega, blk_new _ _, rfl⟩
  case body =>
    rintro lp pre x a' W hlp ⟨rr, hrr⟩ ⟨⟨v, l', hv, hV, ho, hln, hlm⟩, hI3, hI6, hB, hlt⟩ ⟨Bx, hBx, hbx, rfl⟩ hpl
    obtain ⟨x1, x, hxo⟩ := x
    dsimp only at hbx ⊢
    have ho' : offC (kindsOf l1) cls ((pre ++ [(x1, (⟨x, hxo⟩ : AffOkT l0 l1))]).map (fun p => affOf p.2.1)) l = takenL (kindsOf l1) cls (affOf x) l' := by
      rw [List.map_append, offC_append, ho]
      simp only [List.map_cons, List.map_nil, offC]
      cases takenL (kindsOf l1) cls (affOf x) l' <;> rfl
    have hsz := affOk_sizes hxo
    have Hkd := Lib.hid (affOk_kinds hxo)
    have hmd := fun W (hb : Below w.heap.size w W) => made.calls A0 A1 c0 c1 l0 l1 x W (Kd.C_below HF.out hb) hcF (Kd.C_below HL.out hb) hcL (HT.out.below hb) (by omega) (by omega)
    have Hxo := Lib.hid hxo
    have hp0 := (blk_cell hI3 0).trans rfl
    have hp1 := (blk_cell hI3 1).trans rfl
    have hy0 := (blk_cell hbx 0).trans rfl
    have hy1 := (blk_cell hbx 1).trans rfl
    have hy2 := (blk_cell hbx 2).trans rfl
    have hy3 := (blk_cell hbx 3).trans rfl
    obtain ⟨kd, f1, f2, at_⟩ := x
    dsimp only at hy0 hy1 hy2 hy3 hmd hsz
    have HB := Lib.hid hB
    have HI3 := Lib.hid hI3
    have HI6 := Lib.hid hI6
    have Hv := Lib.hid hv
    have HV := Lib.hid hV
    have Ho := Lib.hid ho'
    obtain ⟨A, c, rfl, hc, hC⟩ := HV.out
    have HC := Lib.hid hC
    have Hlm := Lib.hid hlm
    have Hwf : Hid (∀ y ∈ l', (Lit.int .i32 y).wf = true) := fun y hy => rune_wf (kinds_valid Hck.out (Hlm.out y hy))
    have Hlt := Lib.hid hlt
    clear hB hI3 hI6 hv hV ho ho' hrr hbx b3 b4 b6 b7 hB0 hC hlm HV hlt
    have hkk := Hkd.out.1
    have hlens := Hkd.out.2.2.2
    have hl1 := hlens.1
    have hl2 := hlens.2.1
    have hl3 := hlens.2.2
    clear hlens
    have hk4 : (kd = 1 ∨ kd = 2 ∨ kd = 3) ∨ kd = 4 ∨ kd = 5 ∨ kd = 6 := by have := hkk; unfold affOf at this; dsimp only at this; omega
    have hkx : (affOf ⟨kd, f1, f2, at_⟩).kind = kd := rfl
    rcases hk4 with hk | hk | hk | hk
    · -- around
      have hmk : ∀ W, Below w.heap.size w W → Calls Tryd.prog 41 #[.agg #[.slice A0 l0.length c0, .slice A1 l1.length c1], .agg #[.int .u8 kd, .string f1, .string f2, .int .i64 at_]] W fun e w' => ∃ a b, e = .returned (.tuple #[.iface 117 (.agg #[a, b]), .bool true]) ∧ Disp w' 131 132 117 (.agg #[a, b]) (kindsOf l1) cls (affOf ⟨kd, f1, f2, at_⟩) ∧ Below W.heap.size W w' := by
        intro W hb
        refine (hmd W hb).mono ?_
        rintro e w2 ⟨v2, rfl, hA2, hb2⟩
        rcases disp_of (hA2 Hxo.out) (kindsOf l1) cls (by omega) (by omega) (by omega) with ⟨hk', a, b, rfl, hD⟩ | ⟨hk', a, b, rfl, hD⟩ | ⟨hk', a, rfl, hD⟩ | ⟨hk', a, rfl, hD⟩
        · exact ⟨a, b, by rw [Hxo.out], hD, hb2⟩
        · exfalso; have := hk'; omega
        · exfalso; have := hk'; omega
        · exfalso; have := hk'; omega
      clear hmd hkk hk hkx
      cases hof : offL (kindsOf l1) cls (affOf ⟨kd, f1, f2, at_⟩) l' with
      | none =>
        have Hof := Lib.hid hof
        have Hno : Hid (offC (kindsOf l1) cls ((pre ++ [(x1, (⟨⟨kd, f1, f2, at_⟩, hxo⟩ : AffOkT l0 l1))]).map (fun p => affOf p.2.1)) l = none) := by
          refine Ho.out.trans ?_
          unfold takenL
          rw [hof]
        clear hof
        as_aux_lemma =>
          gi_wp2_with (first | (refine ⟨trivial, ?_⟩; gi_at_call 41; refine (CallsIn.inRound lp (callsIn_wide.2 (hmk _ HB.out))).mono ?_; rintro e w2 ⟨a, b, rfl, hD, hb2⟩; have HD := Lib.hid hD; have HW2 := Lib.hid hb2; have HB2 := Lib.hid (below_step HB.out hb2); have H32 := Lib.hid (blk_below HI3.out hb2); have H42 := Lib.hid (blk_below Hv.out hb2); have H62 := Lib.hid (blk_below HI6.out hb2); have HC2 := Lib.hid (Kd.C_below HC.out hb2); have HM2 := Lib.hid (HM.out.below HB2.out); clear hD hb2 hmk hp0 hp1 hy0 hy1 hy2 hy3; have hs0 := (blk_cell H32.out 0).trans rfl; have hs1 := (blk_cell H32.out 1).trans rfl; have hs2 := (blk_cell H32.out 2).trans rfl; have hv0 : w2.cell? ⟨w.heap.size + 1, 0, none⟩ = some (.slice A l'.length c) := (blk_cell H42.out 0).trans rfl; have hmo := fun n W => meth_a_off (.agg #[a, b]) n W; have hmp := fun n W => meth_a_put (.agg #[a, b]) n W) | (refine ⟨trivial, ?_⟩; gi_at_call 131; refine (CallsIn.inRound lp (callsIn_wide.2 (HD.out.off_eq l' none Hof.out A0 A1 A l0.length c0 l1.length c1 c bm w2 (Below.refl _ _) HC2.out hc (by omega) HM2.out Hwf.out))).mono ?_; rintro e w3 ⟨rfl, hb3⟩; have Hb3 := Lib.hid hb3; have H63 := Lib.hid (blk_below H62.out hb3); clear hb3; have hz6 : w3.cell? ⟨w.heap.size + 1 + 1, 0, none⟩ = some (.slice none 0 0) := (blk_cell H63.out 0).trans rfl; have hzf : w3.frozen? ⟨w.heap.size + 1 + 1, 0, none⟩ = false := blk_frozen H63.out 0))
          exact ⟨(keepsFrom_below (below_step HW2.out Hb3.out)).trans ((KeepsOthers.setCell _ _ _).from _), rfl, Hno.out, blk_put (cs := #[.slice none 0 0]) H63.out 0 _ rfl, below_set (below_step HB2.out Hb3.out) (by omega)⟩
      | some m =>
        have hmm := off_mem hof
        have hml : m.length ≤ 64 := by omega
        have Hmk : Hid (∀ y ∈ m, (kindsOf l1).contains y = true) := fun y hy => Hlm.out y (hmm.1 y hy)
        have Hmw : Hid (∀ y ∈ m, (Lit.int .i32 y).wf = true) := fun y hy => rune_wf (kinds_valid Hck.out (Hmk.out y hy))
        obtain ⟨q, e0, hqe⟩ : ∃ q e0, putL (kindsOf l1) cls (affOf ⟨kd, f1, f2, at_⟩) m = (q, e0) := ⟨_, _, rfl⟩
        have htk : takenL (kindsOf l1) cls (affOf ⟨kd, f1, f2, at_⟩) l' = if (q, e0) = (l', 0) then some m else none := by
          unfold takenL
          rw [hof]
          dsimp only
          rw [hqe]
        have hor := Ho.out
        rw [htk] at hor
        have hql : q.length ≤ 400 := put_len hqe (by omega) (by omega) (by omega)
        have Hof := Lib.hid hof
        have Hqe := Lib.hid hqe
        clear hof htk hqe hmm
        by_cases he : e0 = 0
        · subst he
          by_cases hq : q = l'
          · rw [if_pos (by rw [hq])] at hor
            have Hno := Lib.hid hor
            have Hdq : Hid (decide (q = l') = true) := by rw [Hid]; exact decide_eq_true hq
            clear hor hq
            as_aux_lemma =>
             gi_wp2_with (first | (refine ⟨trivial, ?_⟩; gi_at_call 41; refine (CallsIn.inRound lp (callsIn_wide.2 (hmk _ HB.out))).mono ?_; rintro e w2 ⟨a, b, rfl, hD, hb2⟩; have HD := Lib.hid hD; have HW2 := Lib.hid hb2; have HB2 := Lib.hid (below_step HB.out hb2); have H32 := Lib.hid (blk_below HI3.out hb2); have H42 := Lib.hid (blk_below Hv.out hb2); have H62 := Lib.hid (blk_below HI6.out hb2); have HC2 := Lib.hid (Kd.C_below HC.out hb2); have HM2 := Lib.hid (HM.out.below HB2.out); clear hD hb2 hmk hp0 hp1 hy0 hy1 hy2 hy3; have hs0 := (blk_cell H32.out 0).trans rfl; have hs1 := (blk_cell H32.out 1).trans rfl; have hs2 := (blk_cell H32.out 2).trans rfl; have hv0 : w2.cell? ⟨w.heap.size + 1, 0, none⟩ = some (.slice A l'.length c) := (blk_cell H42.out 0).trans rfl; have hmo := fun n W => meth_a_off (.agg #[a, b]) n W; have hmp := fun n W => meth_a_put (.agg #[a, b]) n W) | (refine ⟨trivial, ?_⟩; gi_at_call 131; refine (CallsIn.inRound lp (callsIn_wide.2 (HD.out.off_eq l' (some m) Hof.out A0 A1 A l0.length c0 l1.length c1 c bm w2 (Below.refl _ _) HC2.out hc (by omega) HM2.out Hwf.out))).mono ?_; rintro e w3 ⟨Am, cm, rfl, hcm, hCm, hb3⟩; have Hb3 := Lib.hid hb3; have H63 := Lib.hid (blk_below H62.out hb3); have H33 := Lib.hid (blk_below H32.out hb3); have H43 := Lib.hid (blk_below H42.out hb3); have HCm := Lib.hid hCm; have HC3 := Lib.hid (Kd.C_below HC2.out hb3); have HM3 := Lib.hid (HM2.out.below hb3); clear hb3 hCm hs0 hs1 hs2 hv0; have hs0 := (blk_cell H33.out 0).trans rfl; have hs1 := (blk_cell H33.out 1).trans rfl; have hs2 := (blk_cell H33.out 2).trans rfl; have hv0 : w3.cell? ⟨w.heap.size + 1, 0, none⟩ = some (.slice A l'.length c) := (blk_cell H43.out 0).trans rfl) | (refine ⟨trivial, ?_⟩; gi_at_call 132; refine (CallsIn.inRound lp (callsIn_wide.2 (HD.out.put_eq m q 0 Hqe.out A0 A1 Am l0.length c0 l1.length c1 cm bm w3 Hb3.out HCm.out hcm (by omega) HM3.out Hmw.out))).mono ?_; rintro e w4 ⟨v4, rfl, hR4, hb4⟩; have Hb4 := Lib.hid (below_step Hb3.out hb4); have H64 := Lib.hid (blk_below H63.out hb4); have H44 := Lib.hid (blk_below H43.out hb4); have H34 := Lib.hid (blk_below H33.out hb4); have HCm4 := Lib.hid (Kd.C_below HCm.out hb4); have HC4 := Lib.hid (Kd.C_below HC3.out hb4); obtain ⟨A4, c4, rfl, hc4, hC4⟩ := Kd.R_reads hR4; have HR4 := Lib.hid hC4; clear hb4 hR4 hC4 hs0 hs1 hs2 hv0; have hz6 : w4.cell? ⟨w.heap.size + 1 + 1, 0, none⟩ = some (.slice none 0 0) := (blk_cell H64.out 0).trans rfl; have hzf : w4.frozen? ⟨w.heap.size + 1 + 1, 0, none⟩ = false := blk_frozen H64.out 0; have hzg : w4.frozen? ⟨w.heap.size + 1, 0, none⟩ = false := blk_frozen H44.out 0; have hv0 : w4.cell? ⟨w.heap.size + 1, 0, none⟩ = some (.slice A l'.length c) := (blk_cell H44.out 0).trans rfl) | (refine ⟨trivial, ?_⟩; gi_at_call 64; refine (CallsIn.inRound lp (callsIn_wide.2 (RF3.slices_Equal_rune_rune.calls 500 A4 c4 q A c l' true w4 HR4.out hc4 HC4.out hc (by rw [Equal_eq _ _ (by omega) 500 (by omega), Hdq.out])))).mono ?_; rintro e w5 ⟨rfl, ⟨nd, rfl⟩⟩; have hz6' : (w4.drewN nd).cell? ⟨w.heap.size + 1 + 1, 0, none⟩ = some (.slice none 0 0) := hz6; have hzf' : (w4.drewN nd).frozen? ⟨w.heap.size + 1 + 1, 0, none⟩ = false := hzf; have hv0' : (w4.drewN nd).cell? ⟨w.heap.size + 1, 0, none⟩ = some (.slice A l'.length c) := hv0; have hzg' : (w4.drewN nd).frozen? ⟨w.heap.size + 1, 0, none⟩ = false := hzg))
             refine ⟨(keepsFrom_below (below_step HW2.out (pw_below_drewN Hb4.out nd))).trans ((KeepsOthers.setCell _ _ _).from _), ⟨((below_step HW2.out (pw_below_drewN Hb4.out nd)).mono HB.out.size).setCell (by show _ ≤ w.heap.size + 1; omega) _, ?_⟩, ⟨_, m, blk_put (cs := #[.slice A l'.length c]) (blk_drewN H44.out nd) 0 _ rfl, ?_, Hno.out, hml, Hmk.out⟩, blk_far (blk_drewN H34.out nd) (by show _ ≠ w.heap.size + 1; omega) _, blk_far (blk_drewN H64.out nd) (by show _ ≠ w.heap.size + 1; omega) _, below_set (below_step HB2.out (pw_below_drewN Hb4.out nd)) (by omega), ?_⟩
             · exact (Below.heap_setCell _ ⟨w.heap.size + 1, 0, none⟩ _ _ (by show _ ≠ w.heap.size + 1; omega)).trans ((below_step HW2.out (pw_below_drewN Hb4.out nd)).block _ Hlt.out)
             · exact view_set (v := .slice Am m.length cm) ⟨Am, cm, rfl, hcm, HCm4.out⟩ H44.out nd
             · show _ < ((w4.drewN nd).setCell _ _).heap.size
               have h1 := HW2.out.size
               have h2 := Hb4.out.size
               have h3 := Hlt.out
               simp
               omega
          · rw [if_neg (fun h => hq (Prod.mk.inj h).1)] at hor
            have Hno := Lib.hid hor
            have Hdq : Hid (decide (q = l') = false) := by rw [Hid]; exact decide_eq_false hq
            clear hor hq
            as_aux_lemma =>
             gi_wp2_with (first | (refine ⟨trivial, ?_⟩; gi_at_call 41; refine (CallsIn.inRound lp (callsIn_wide.2 (hmk _ HB.out))).mono ?_; rintro e w2 ⟨a, b, rfl, hD, hb2⟩; have HD := Lib.hid hD; have HW2 := Lib.hid hb2; have HB2 := Lib.hid (below_step HB.out hb2); have H32 := Lib.hid (blk_below HI3.out hb2); have H42 := Lib.hid (blk_below Hv.out hb2); have H62 := Lib.hid (blk_below HI6.out hb2); have HC2 := Lib.hid (Kd.C_below HC.out hb2); have HM2 := Lib.hid (HM.out.below HB2.out); clear hD hb2 hmk hp0 hp1 hy0 hy1 hy2 hy3; have hs0 := (blk_cell H32.out 0).trans rfl; have hs1 := (blk_cell H32.out 1).trans rfl; have hs2 := (blk_cell H32.out 2).trans rfl; have hv0 : w2.cell? ⟨w.heap.size + 1, 0, none⟩ = some (.slice A l'.length c) := (blk_cell H42.out 0).trans rfl; have hmo := fun n W => meth_a_off (.agg #[a, b]) n W; have hmp := fun n W => meth_a_put (.agg #[a, b]) n W) | (refine ⟨trivial, ?_⟩; gi_at_call 131; refine (CallsIn.inRound lp (callsIn_wide.2 (HD.out.off_eq l' (some m) Hof.out A0 A1 A l0.length c0 l1.length c1 c bm w2 (Below.refl _ _) HC2.out hc (by omega) HM2.out Hwf.out))).mono ?_; rintro e w3 ⟨Am, cm, rfl, hcm, hCm, hb3⟩; have Hb3 := Lib.hid hb3; have H63 := Lib.hid (blk_below H62.out hb3); have H33 := Lib.hid (blk_below H32.out hb3); have H43 := Lib.hid (blk_below H42.out hb3); have HCm := Lib.hid hCm; have HC3 := Lib.hid (Kd.C_below HC2.out hb3); have HM3 := Lib.hid (HM2.out.below hb3); clear hb3 hCm hs0 hs1 hs2 hv0; have hs0 := (blk_cell H33.out 0).trans rfl; have hs1 := (blk_cell H33.out 1).trans rfl; have hs2 := (blk_cell H33.out 2).trans rfl; have hv0 : w3.cell? ⟨w.heap.size + 1, 0, none⟩ = some (.slice A l'.length c) := (blk_cell H43.out 0).trans rfl) | (refine ⟨trivial, ?_⟩; gi_at_call 132; refine (CallsIn.inRound lp (callsIn_wide.2 (HD.out.put_eq m q 0 Hqe.out A0 A1 Am l0.length c0 l1.length c1 cm bm w3 Hb3.out HCm.out hcm (by omega) HM3.out Hmw.out))).mono ?_; rintro e w4 ⟨v4, rfl, hR4, hb4⟩; have Hb4 := Lib.hid (below_step Hb3.out hb4); have H64 := Lib.hid (blk_below H63.out hb4); have H44 := Lib.hid (blk_below H43.out hb4); have H34 := Lib.hid (blk_below H33.out hb4); have HCm4 := Lib.hid (Kd.C_below HCm.out hb4); have HC4 := Lib.hid (Kd.C_below HC3.out hb4); obtain ⟨A4, c4, rfl, hc4, hC4⟩ := Kd.R_reads hR4; have HR4 := Lib.hid hC4; clear hb4 hR4 hC4 hs0 hs1 hs2 hv0; have hz6 : w4.cell? ⟨w.heap.size + 1 + 1, 0, none⟩ = some (.slice none 0 0) := (blk_cell H64.out 0).trans rfl; have hzf : w4.frozen? ⟨w.heap.size + 1 + 1, 0, none⟩ = false := blk_frozen H64.out 0; have hzg : w4.frozen? ⟨w.heap.size + 1, 0, none⟩ = false := blk_frozen H44.out 0; have hv0 : w4.cell? ⟨w.heap.size + 1, 0, none⟩ = some (.slice A l'.length c) := (blk_cell H44.out 0).trans rfl) | (refine ⟨trivial, ?_⟩; gi_at_call 64; refine (CallsIn.inRound lp (callsIn_wide.2 (RF3.slices_Equal_rune_rune.calls 500 A4 c4 q A c l' false w4 HR4.out hc4 HC4.out hc (by rw [Equal_eq _ _ (by omega) 500 (by omega), Hdq.out])))).mono ?_; rintro e w5 ⟨rfl, ⟨nd, rfl⟩⟩; have hz6' : (w4.drewN nd).cell? ⟨w.heap.size + 1 + 1, 0, none⟩ = some (.slice none 0 0) := hz6; have hzf' : (w4.drewN nd).frozen? ⟨w.heap.size + 1 + 1, 0, none⟩ = false := hzf; have hv0' : (w4.drewN nd).cell? ⟨w.heap.size + 1, 0, none⟩ = some (.slice A l'.length c) := hv0; have hzg' : (w4.drewN nd).frozen? ⟨w.heap.size + 1, 0, none⟩ = false := hzg))
             exact ⟨(keepsFrom_below (below_step HW2.out (pw_below_drewN Hb4.out nd))).trans ((KeepsOthers.setCell _ _ _).from _), rfl, Hno.out, blk_put (cs := #[.slice none 0 0]) (blk_drewN H64.out _) 0 _ rfl, below_set (below_step HB2.out (pw_below_drewN Hb4.out nd)) (by omega)⟩
        · rw [if_neg (fun h => he (Prod.mk.inj h).2)] at hor
          have Hno := Lib.hid hor
          have heb : (e0 != 0) = true := bne_iff_ne.mpr he
          clear hor he
          as_aux_lemma =>
           gi_wp2_with (first | (refine ⟨trivial, ?_⟩; gi_at_call 41; refine (CallsIn.inRound lp (callsIn_wide.2 (hmk _ HB.out))).mono ?_; rintro e w2 ⟨a, b, rfl, hD, hb2⟩; have HD := Lib.hid hD; have HW2 := Lib.hid hb2; have HB2 := Lib.hid (below_step HB.out hb2); have H32 := Lib.hid (blk_below HI3.out hb2); have H42 := Lib.hid (blk_below Hv.out hb2); have H62 := Lib.hid (blk_below HI6.out hb2); have HC2 := Lib.hid (Kd.C_below HC.out hb2); have HM2 := Lib.hid (HM.out.below HB2.out); clear hD hb2 hmk hp0 hp1 hy0 hy1 hy2 hy3; have hs0 := (blk_cell H32.out 0).trans rfl; have hs1 := (blk_cell H32.out 1).trans rfl; have hs2 := (blk_cell H32.out 2).trans rfl; have hv0 : w2.cell? ⟨w.heap.size + 1, 0, none⟩ = some (.slice A l'.length c) := (blk_cell H42.out 0).trans rfl; have hmo := fun n W => meth_a_off (.agg #[a, b]) n W; have hmp := fun n W => meth_a_put (.agg #[a, b]) n W) | (refine ⟨trivial, ?_⟩; gi_at_call 131; refine (CallsIn.inRound lp (callsIn_wide.2 (HD.out.off_eq l' (some m) Hof.out A0 A1 A l0.length c0 l1.length c1 c bm w2 (Below.refl _ _) HC2.out hc (by omega) HM2.out Hwf.out))).mono ?_; rintro e w3 ⟨Am, cm, rfl, hcm, hCm, hb3⟩; have Hb3 := Lib.hid hb3; have H63 := Lib.hid (blk_below H62.out hb3); have H33 := Lib.hid (blk_below H32.out hb3); have H43 := Lib.hid (blk_below H42.out hb3); have HCm := Lib.hid hCm; have HC3 := Lib.hid (Kd.C_below HC2.out hb3); have HM3 := Lib.hid (HM2.out.below hb3); clear hb3 hCm hs0 hs1 hs2 hv0; have hs0 := (blk_cell H33.out 0).trans rfl; have hs1 := (blk_cell H33.out 1).trans rfl; have hs2 := (blk_cell H33.out 2).trans rfl; have hv0 : w3.cell? ⟨w.heap.size + 1, 0, none⟩ = some (.slice A l'.length c) := (blk_cell H43.out 0).trans rfl) | (refine ⟨trivial, ?_⟩; gi_at_call 132; refine (CallsIn.inRound lp (callsIn_wide.2 (HD.out.put_eq m q e0 Hqe.out A0 A1 Am l0.length c0 l1.length c1 cm bm w3 Hb3.out HCm.out hcm (by omega) HM3.out Hmw.out))).mono ?_; rintro e w4 ⟨v4, rfl, hR4, hb4⟩; have Hb4 := Lib.hid (below_step Hb3.out hb4); have H64 := Lib.hid (blk_below H63.out hb4); have H44 := Lib.hid (blk_below H43.out hb4); have H34 := Lib.hid (blk_below H33.out hb4); have HCm4 := Lib.hid (Kd.C_below HCm.out hb4); have HC4 := Lib.hid (Kd.C_below HC3.out hb4); obtain ⟨A4, c4, rfl, hc4, hC4⟩ := Kd.R_reads hR4; have HR4 := Lib.hid hC4; clear hb4 hR4 hC4 hs0 hs1 hs2 hv0; have hz6 : w4.cell? ⟨w.heap.size + 1 + 1, 0, none⟩ = some (.slice none 0 0) := (blk_cell H64.out 0).trans rfl; have hzf : w4.frozen? ⟨w.heap.size + 1 + 1, 0, none⟩ = false := blk_frozen H64.out 0; have hzg : w4.frozen? ⟨w.heap.size + 1, 0, none⟩ = false := blk_frozen H44.out 0; have hv0 : w4.cell? ⟨w.heap.size + 1, 0, none⟩ = some (.slice A l'.length c) := (blk_cell H44.out 0).trans rfl))
           refine ⟨trivial, ?_⟩
           gi_wp2
           exact ⟨(keepsFrom_below (below_step HW2.out Hb4.out)).trans ((KeepsOthers.setCell _ _ _).from _), rfl, Hno.out, blk_put (cs := #[.slice none 0 0]) H64.out 0 _ rfl, below_set (below_step HB2.out Hb4.out) (by omega)⟩
    · -- within
      have hmk : ∀ W, Below w.heap.size w W → Calls Tryd.prog 41 #[.agg #[.slice A0 l0.length c0, .slice A1 l1.length c1], .agg #[.int .u8 kd, .string f1, .string f2, .int .i64 at_]] W fun e w' => ∃ a b, e = .returned (.tuple #[.iface 119 (.agg #[a, b]), .bool true]) ∧ Disp w' 135 136 119 (.agg #[a, b]) (kindsOf l1) cls (affOf ⟨kd, f1, f2, at_⟩) ∧ Below W.heap.size W w' := by
        intro W hb
        refine (hmd W hb).mono ?_
        rintro e w2 ⟨v2, rfl, hA2, hb2⟩
        rcases disp_of (hA2 Hxo.out) (kindsOf l1) cls (by omega) (by omega) (by omega) with ⟨hk', a, b, rfl, hD⟩ | ⟨hk', a, b, rfl, hD⟩ | ⟨hk', a, rfl, hD⟩ | ⟨hk', a, rfl, hD⟩
        · exfalso; have := hk'; omega
        · exact ⟨a, b, by rw [Hxo.out], hD, hb2⟩
        · exfalso; have := hk'; omega
        · exfalso; have := hk'; omega
      clear hmd hkk hk hkx
      cases hof : offL (kindsOf l1) cls (affOf ⟨kd, f1, f2, at_⟩) l' with
      | none =>
        have Hof := Lib.hid hof
        have Hno : Hid (offC (kindsOf l1) cls ((pre ++ [(x1, (⟨⟨kd, f1, f2, at_⟩, hxo⟩ : AffOkT l0 l1))]).map (fun p => affOf p.2.1)) l = none) := by
          refine Ho.out.trans ?_
          unfold takenL
          rw [hof]
        clear hof
        as_aux_lemma =>
          gi_wp2_with (first | (refine ⟨trivial, ?_⟩; gi_at_call 41; refine (CallsIn.inRound lp (callsIn_wide.2 (hmk _ HB.out))).mono ?_; rintro e w2 ⟨a, b, rfl, hD, hb2⟩; have HD := Lib.hid hD; have HW2 := Lib.hid hb2; have HB2 := Lib.hid (below_step HB.out hb2); have H32 := Lib.hid (blk_below HI3.out hb2); have H42 := Lib.hid (blk_below Hv.out hb2); have H62 := Lib.hid (blk_below HI6.out hb2); have HC2 := Lib.hid (Kd.C_below HC.out hb2); have HM2 := Lib.hid (HM.out.below HB2.out); clear hD hb2 hmk hp0 hp1 hy0 hy1 hy2 hy3; have hs0 := (blk_cell H32.out 0).trans rfl; have hs1 := (blk_cell H32.out 1).trans rfl; have hs2 := (blk_cell H32.out 2).trans rfl; have hv0 : w2.cell? ⟨w.heap.size + 1, 0, none⟩ = some (.slice A l'.length c) := (blk_cell H42.out 0).trans rfl; have hmo := fun n W => meth_w_off (.agg #[a, b]) n W; have hmp := fun n W => meth_w_put (.agg #[a, b]) n W) | (refine ⟨trivial, ?_⟩; gi_at_call 135; refine (CallsIn.inRound lp (callsIn_wide.2 (HD.out.off_eq l' none Hof.out A0 A1 A l0.length c0 l1.length c1 c bm w2 (Below.refl _ _) HC2.out hc (by omega) HM2.out Hwf.out))).mono ?_; rintro e w3 ⟨rfl, hb3⟩; have Hb3 := Lib.hid hb3; have H63 := Lib.hid (blk_below H62.out hb3); clear hb3; have hz6 : w3.cell? ⟨w.heap.size + 1 + 1, 0, none⟩ = some (.slice none 0 0) := (blk_cell H63.out 0).trans rfl; have hzf : w3.frozen? ⟨w.heap.size + 1 + 1, 0, none⟩ = false := blk_frozen H63.out 0))
          exact ⟨(keepsFrom_below (below_step HW2.out Hb3.out)).trans ((KeepsOthers.setCell _ _ _).from _), rfl, Hno.out, blk_put (cs := #[.slice none 0 0]) H63.out 0 _ rfl, below_set (below_step HB2.out Hb3.out) (by omega)⟩
      | some m =>
        have hmm := off_mem hof
        have hml : m.length ≤ 64 := by omega
        have Hmk : Hid (∀ y ∈ m, (kindsOf l1).contains y = true) := fun y hy => Hlm.out y (hmm.1 y hy)
        have Hmw : Hid (∀ y ∈ m, (Lit.int .i32 y).wf = true) := fun y hy => rune_wf (kinds_valid Hck.out (Hmk.out y hy))
        obtain ⟨q, e0, hqe⟩ : ∃ q e0, putL (kindsOf l1) cls (affOf ⟨kd, f1, f2, at_⟩) m = (q, e0) := ⟨_, _, rfl⟩
        have htk : takenL (kindsOf l1) cls (affOf ⟨kd, f1, f2, at_⟩) l' = if (q, e0) = (l', 0) then some m else none := by
          unfold takenL
          rw [hof]
          dsimp only
          rw [hqe]
        have hor := Ho.out
        rw [htk] at hor
        have hql : q.length ≤ 400 := put_len hqe (by omega) (by omega) (by omega)
        have Hof := Lib.hid hof
        have Hqe := Lib.hid hqe
        clear hof htk hqe hmm
        by_cases he : e0 = 0
        · subst he
          by_cases hq : q = l'
          · rw [if_pos (by rw [hq])] at hor
            have Hno := Lib.hid hor
            have Hdq : Hid (decide (q = l') = true) := by rw [Hid]; exact decide_eq_true hq
            clear hor hq
            as_aux_lemma =>
             gi_wp2_with (first | (refine ⟨trivial, ?_⟩; gi_at_call 41; refine (CallsIn.inRound lp (callsIn_wide.2 (hmk _ HB.out))).mono ?_; rintro e w2 ⟨a, b, rfl, hD, hb2⟩; have HD := Lib.hid hD; have HW2 := Lib.hid hb2; have HB2 := Lib.hid (below_step HB.out hb2); have H32 := Lib.hid (blk_below HI3.out hb2); have H42 := Lib.hid (blk_below Hv.out hb2); have H62 := Lib.hid (blk_below HI6.out hb2); have HC2 := Lib.hid (Kd.C_below HC.out hb2); have HM2 := Lib.hid (HM.out.below HB2.out); clear hD hb2 hmk hp0 hp1 hy0 hy1 hy2 hy3; have hs0 := (blk_cell H32.out 0).trans rfl; have hs1 := (blk_cell H32.out 1).trans rfl; have hs2 := (blk_cell H32.out 2).trans rfl; have hv0 : w2.cell? ⟨w.heap.size + 1, 0, none⟩ = some (.slice A l'.length c) := (blk_cell H42.out 0).trans rfl; have hmo := fun n W => meth_w_off (.agg #[a, b]) n W; have hmp := fun n W => meth_w_put (.agg #[a, b]) n W) | (refine ⟨trivial, ?_⟩; gi_at_call 135; refine (CallsIn.inRound lp (callsIn_wide.2 (HD.out.off_eq l' (some m) Hof.out A0 A1 A l0.length c0 l1.length c1 c bm w2 (Below.refl _ _) HC2.out hc (by omega) HM2.out Hwf.out))).mono ?_; rintro e w3 ⟨Am, cm, rfl, hcm, hCm, hb3⟩; have Hb3 := Lib.hid hb3; have H63 := Lib.hid (blk_below H62.out hb3); have H33 := Lib.hid (blk_below H32.out hb3); have H43 := Lib.hid (blk_below H42.out hb3); have HCm := Lib.hid hCm; have HC3 := Lib.hid (Kd.C_below HC2.out hb3); have HM3 := Lib.hid (HM2.out.below hb3); clear hb3 hCm hs0 hs1 hs2 hv0; have hs0 := (blk_cell H33.out 0).trans rfl; have hs1 := (blk_cell H33.out 1).trans rfl; have hs2 := (blk_cell H33.out 2).trans rfl; have hv0 : w3.cell? ⟨w.heap.size + 1, 0, none⟩ = some (.slice A l'.length c) := (blk_cell H43.out 0).trans rfl) | (refine ⟨trivial, ?_⟩; gi_at_call 136; refine (CallsIn.inRound lp (callsIn_wide.2 (HD.out.put_eq m q 0 Hqe.out A0 A1 Am l0.length c0 l1.length c1 cm bm w3 Hb3.out HCm.out hcm (by omega) HM3.out Hmw.out))).mono ?_; rintro e w4 ⟨v4, rfl, hR4, hb4⟩; have Hb4 := Lib.hid (below_step Hb3.out hb4); have H64 := Lib.hid (blk_below H63.out hb4); have H44 := Lib.hid (blk_below H43.out hb4); have H34 := Lib.hid (blk_below H33.out hb4); have HCm4 := Lib.hid (Kd.C_below HCm.out hb4); have HC4 := Lib.hid (Kd.C_below HC3.out hb4); obtain ⟨A4, c4, rfl, hc4, hC4⟩ := Kd.R_reads hR4; have HR4 := Lib.hid hC4; clear hb4 hR4 hC4 hs0 hs1 hs2 hv0; have hz6 : w4.cell? ⟨w.heap.size + 1 + 1, 0, none⟩ = some (.slice none 0 0) := (blk_cell H64.out 0).trans rfl; have hzf : w4.frozen? ⟨w.heap.size + 1 + 1, 0, none⟩ = false := blk_frozen H64.out 0; have hzg : w4.frozen? ⟨w.heap.size + 1, 0, none⟩ = false := blk_frozen H44.out 0; have hv0 : w4.cell? ⟨w.heap.size + 1, 0, none⟩ = some (.slice A l'.length c) := (blk_cell H44.out 0).trans rfl) | (refine ⟨trivial, ?_⟩; gi_at_call 64; refine (CallsIn.inRound lp (callsIn_wide.2 (RF3.slices_Equal_rune_rune.calls 500 A4 c4 q A c l' true w4 HR4.out hc4 HC4.out hc (by rw [Equal_eq _ _ (by omega) 500 (by omega), Hdq.out])))).mono ?_; rintro e w5 ⟨rfl, ⟨nd, rfl⟩⟩; have hz6' : (w4.drewN nd).cell? ⟨w.heap.size + 1 + 1, 0, none⟩ = some (.slice none 0 0) := hz6; have hzf' : (w4.drewN nd).frozen? ⟨w.heap.size + 1 + 1, 0, none⟩ = false := hzf; have hv0' : (w4.drewN nd).cell? ⟨w.heap.size + 1, 0, none⟩ = some (.slice A l'.length c) := hv0; have hzg' : (w4.drewN nd).frozen? ⟨w.heap.size + 1, 0, none⟩ = false := hzg))
             refine ⟨(keepsFrom_below (below_step HW2.out (pw_below_drewN Hb4.out nd))).trans ((KeepsOthers.setCell _ _ _).from _), ⟨((below_step HW2.out (pw_below_drewN Hb4.out nd)).mono HB.out.size).setCell (by show _ ≤ w.heap.size + 1; omega) _, ?_⟩, ⟨_, m, blk_put (cs := #[.slice A l'.length c]) (blk_drewN H44.out nd) 0 _ rfl, ?_, Hno.out, hml, Hmk.out⟩, blk_far (blk_drewN H34.out nd) (by show _ ≠ w.heap.size + 1; omega) _, blk_far (blk_drewN H64.out nd) (by show _ ≠ w.heap.size + 1; omega) _, below_set (below_step HB2.out (pw_below_drewN Hb4.out nd)) (by omega), ?_⟩
             · exact (Below.heap_setCell _ ⟨w.heap.size + 1, 0, none⟩ _ _ (by show _ ≠ w.heap.size + 1; omega)).trans ((below_step HW2.out (pw_below_drewN Hb4.out nd)).block _ Hlt.out)
             · exact view_set (v := .slice Am m.length cm) ⟨Am, cm, rfl, hcm, HCm4.out⟩ H44.out nd
             · show _ < ((w4.drewN nd).setCell _ _).heap.size
               have h1 := HW2.out.size
               have h2 := Hb4.out.size
               have h3 := Hlt.out
               simp
               omega
          · rw [if_neg (fun h => hq (Prod.mk.inj h).1)] at hor
            have Hno := Lib.hid hor
            have Hdq : Hid (decide (q = l') = false) := by rw [Hid]; exact decide_eq_false hq
            clear hor hq
            as_aux_lemma =>
             gi_wp2_with (first | (refine ⟨trivial, ?_⟩; gi_at_call 41; refine (CallsIn.inRound lp (callsIn_wide.2 (hmk _ HB.out))).mono ?_; rintro e w2 ⟨a, b, rfl, hD, hb2⟩; have HD := Lib.hid hD; have HW2 := Lib.hid hb2; have HB2 := Lib.hid (below_step HB.out hb2); have H32 := Lib.hid (blk_below HI3.out hb2); have H42 := Lib.hid (blk_below Hv.out hb2); have H62 := Lib.hid (blk_below HI6.out hb2); have HC2 := Lib.hid (Kd.C_below HC.out hb2); have HM2 := Lib.hid (HM.out.below HB2.out); clear hD hb2 hmk hp0 hp1 hy0 hy1 hy2 hy3; have hs0 := (blk_cell H32.out 0).trans rfl; have hs1 := (blk_cell H32.out 1).trans rfl; have hs2 := (blk_cell H32.out 2).trans rfl; have hv0 : w2.cell? ⟨w.heap.size + 1, 0, none⟩ = some (.slice A l'.length c) := (blk_cell H42.out 0).trans rfl; have hmo := fun n W => meth_w_off (.agg #[a, b]) n W; have hmp := fun n W => meth_w_put (.agg #[a, b]) n W) | (refine ⟨trivial, ?_⟩; gi_at_call 135; refine (CallsIn.inRound lp (callsIn_wide.2 (HD.out.off_eq l' (some m) Hof.out A0 A1 A l0.length c0 l1.length c1 c bm w2 (Below.refl _ _) HC2.out hc (by omega) HM2.out Hwf.out))).mono ?_; rintro e w3 ⟨Am, cm, rfl, hcm, hCm, hb3⟩; have Hb3 := Lib.hid hb3; have H63 := Lib.hid (blk_below H62.out hb3); have H33 := Lib.hid (blk_below H32.out hb3); have H43 := Lib.hid (blk_below H42.out hb3); have HCm := Lib.hid hCm; have HC3 := Lib.hid (Kd.C_below HC2.out hb3); have HM3 := Lib.hid (HM2.out.below hb3); clear hb3 hCm hs0 hs1 hs2 hv0; have hs0 := (blk_cell H33.out 0).trans rfl; have hs1 := (blk_cell H33.out 1).trans rfl; have hs2 := (blk_cell H33.out 2).trans rfl; have hv0 : w3.cell? ⟨w.heap.size + 1, 0, none⟩ = some (.slice A l'.length c) := (blk_cell H43.out 0).trans rfl) | (refine ⟨trivial, ?_⟩; gi_at_call 136; refine (CallsIn.inRound lp (callsIn_wide.2 (HD.out.put_eq m q 0 Hqe.out A0 A1 Am l0.length c0 l1.length c1 cm bm w3 Hb3.out HCm.out hcm (by omega) HM3.out Hmw.out))).mono ?_; rintro e w4 ⟨v4, rfl, hR4, hb4⟩; have Hb4 := Lib.hid (below_step Hb3.out hb4); have H64 := Lib.hid (blk_below H63.out hb4); have H44 := Lib.hid (blk_below H43.out hb4); have H34 := Lib.hid (blk_below H33.out hb4); have HCm4 := Lib.hid (Kd.C_below HCm.out hb4); have HC4 := Lib.hid (Kd.C_below HC3.out hb4); obtain ⟨A4, c4, rfl, hc4, hC4⟩ := Kd.R_reads hR4; have HR4 := Lib.hid hC4; clear hb4 hR4 hC4 hs0 hs1 hs2 hv0; have hz6 : w4.cell? ⟨w.heap.size + 1 + 1, 0, none⟩ = some (.slice none 0 0) := (blk_cell H64.out 0).trans rfl; have hzf : w4.frozen? ⟨w.heap.size + 1 + 1, 0, none⟩ = false := blk_frozen H64.out 0; have hzg : w4.frozen? ⟨w.heap.size + 1, 0, none⟩ = false := blk_frozen H44.out 0; have hv0 : w4.cell? ⟨w.heap.size + 1, 0, none⟩ = some (.slice A l'.length c) := (blk_cell H44.out 0).trans rfl) | (refine ⟨trivial, ?_⟩; gi_at_call 64; refine (CallsIn.inRound lp (callsIn_wide.2 (RF3.slices_Equal_rune_rune.calls 500 A4 c4 q A c l' false w4 HR4.out hc4 HC4.out hc (by rw [Equal_eq _ _ (by omega) 500 (by omega), Hdq.out])))).mono ?_; rintro e w5 ⟨rfl, ⟨nd, rfl⟩⟩; have hz6' : (w4.drewN nd).cell? ⟨w.heap.size + 1 + 1, 0, none⟩ = some (.slice none 0 0) := hz6; have hzf' : (w4.drewN nd).frozen? ⟨w.heap.size + 1 + 1, 0, none⟩ = false := hzf; have hv0' : (w4.drewN nd).cell? ⟨w.heap.size + 1, 0, none⟩ = some (.slice A l'.length c) := hv0; have hzg' : (w4.drewN nd).frozen? ⟨w.heap.size + 1, 0, none⟩ = false := hzg))
             exact ⟨(keepsFrom_below (below_step HW2.out (pw_below_drewN Hb4.out nd))).trans ((KeepsOthers.setCell _ _ _).from _), rfl, Hno.out, blk_put (cs := #[.slice none 0 0]) (blk_drewN H64.out _) 0 _ rfl, below_set (below_step HB2.out (pw_below_drewN Hb4.out nd)) (by omega)⟩
        · rw [if_neg (fun h => he (Prod.mk.inj h).2)] at hor
          have Hno := Lib.hid hor
          have heb : (e0 != 0) = true := bne_iff_ne.mpr he
          clear hor he
          as_aux_lemma =>
           gi_wp2_with (first | (refine ⟨trivial, ?_⟩; gi_at_call 41; refine (CallsIn.inRound lp (callsIn_wide.2 (hmk _ HB.out))).mono ?_; rintro e w2 ⟨a, b, rfl, hD, hb2⟩; have HD := Lib.hid hD; have HW2 := Lib.hid hb2; have HB2 := Lib.hid (below_step HB.out hb2); have H32 := Lib.hid (blk_below HI3.out hb2); have H42 := Lib.hid (blk_below Hv.out hb2); have H62 := Lib.hid (blk_below HI6.out hb2); have HC2 := Lib.hid (Kd.C_below HC.out hb2); have HM2 := Lib.hid (HM.out.below HB2.out); clear hD hb2 hmk hp0 hp1 hy0 hy1 hy2 hy3; have hs0 := (blk_cell H32.out 0).trans rfl; have hs1 := (blk_cell H32.out 1).trans rfl; have hs2 := (blk_cell H32.out 2).trans rfl; have hv0 : w2.cell? ⟨w.heap.size + 1, 0, none⟩ = some (.slice A l'.length c) := (blk_cell H42.out 0).trans rfl; have hmo := fun n W => meth_w_off (.agg #[a, b]) n W; have hmp := fun n W => meth_w_put (.agg #[a, b]) n W) | (refine ⟨trivial, ?_⟩; gi_at_call 135; refine (CallsIn.inRound lp (callsIn_wide.2 (HD.out.off_eq l' (some m) Hof.out A0 A1 A l0.length c0 l1.length c1 c bm w2 (Below.refl _ _) HC2.out hc (by omega) HM2.out Hwf.out))).mono ?_; rintro e w3 ⟨Am, cm, rfl, hcm, hCm, hb3⟩; have Hb3 := Lib.hid hb3; have H63 := Lib.hid (blk_below H62.out hb3); have H33 := Lib.hid (blk_below H32.out hb3); have H43 := Lib.hid (blk_below H42.out hb3); have HCm := Lib.hid hCm; have HC3 := Lib.hid (Kd.C_below HC2.out hb3); have HM3 := Lib.hid (HM2.out.below hb3); clear hb3 hCm hs0 hs1 hs2 hv0; have hs0 := (blk_cell H33.out 0).trans rfl; have hs1 := (blk_cell H33.out 1).trans rfl; have hs2 := (blk_cell H33.out 2).trans rfl; have hv0 : w3.cell? ⟨w.heap.size + 1, 0, none⟩ = some (.slice A l'.length c) := (blk_cell H43.out 0).trans rfl) | (refine ⟨trivial, ?_⟩; gi_at_call 136; refine (CallsIn.inRound lp (callsIn_wide.2 (HD.out.put_eq m q e0 Hqe.out A0 A1 Am l0.length c0 l1.length c1 cm bm w3 Hb3.out HCm.out hcm (by omega) HM3.out Hmw.out))).mono ?_; rintro e w4 ⟨v4, rfl, hR4, hb4⟩; have Hb4 := Lib.hid (below_step Hb3.out hb4); have H64 := Lib.hid (blk_below H63.out hb4); have H44 := Lib.hid (blk_below H43.out hb4); have H34 := Lib.hid (blk_below H33.out hb4); have HCm4 := Lib.hid (Kd.C_below HCm.out hb4); have HC4 := Lib.hid (Kd.C_below HC3.out hb4); obtain ⟨A4, c4, rfl, hc4, hC4⟩ := Kd.R_reads hR4; have HR4 := Lib.hid hC4; clear hb4 hR4 hC4 hs0 hs1 hs2 hv0; have hz6 : w4.cell? ⟨w.heap.size + 1 + 1, 0, none⟩ = some (.slice none 0 0) := (blk_cell H64.out 0).trans rfl; have hzf : w4.frozen? ⟨w.heap.size + 1 + 1, 0, none⟩ = false := blk_frozen H64.out 0; have hzg : w4.frozen? ⟨w.heap.size + 1, 0, none⟩ = false := blk_frozen H44.out 0; have hv0 : w4.cell? ⟨w.heap.size + 1, 0, none⟩ = some (.slice A l'.length c) := (blk_cell H44.out 0).trans rfl))
           refine ⟨trivial, ?_⟩
           gi_wp2
           exact ⟨(keepsFrom_below (below_step HW2.out Hb4.out)).trans ((KeepsOthers.setCell _ _ _).from _), rfl, Hno.out, blk_put (cs := #[.slice none 0 0]) H64.out 0 _ rfl, below_set (below_step HB2.out Hb4.out) (by omega)⟩
    · -- shaped
      have hmk : ∀ W, Below w.heap.size w W → Calls Tryd.prog 41 #[.agg #[.slice A0 l0.length c0, .slice A1 l1.length c1], .agg #[.int .u8 kd, .string f1, .string f2, .int .i64 at_]] W fun e w' => ∃ a, e = .returned (.tuple #[.iface 121 (.agg #[a]), .bool true]) ∧ Disp w' 137 138 121 (.agg #[a]) (kindsOf l1) cls (affOf ⟨kd, f1, f2, at_⟩) ∧ Below W.heap.size W w' := by
        intro W hb
        refine (hmd W hb).mono ?_
        rintro e w2 ⟨v2, rfl, hA2, hb2⟩
        rcases disp_of (hA2 Hxo.out) (kindsOf l1) cls (by omega) (by omega) (by omega) with ⟨hk', a, b, rfl, hD⟩ | ⟨hk', a, b, rfl, hD⟩ | ⟨hk', a, rfl, hD⟩ | ⟨hk', a, rfl, hD⟩
        · exfalso; have := hk'; omega
        · exfalso; have := hk'; omega
        · exact ⟨a, by rw [Hxo.out], hD, hb2⟩
        · exfalso; have := hk'; omega
      clear hmd hkk hk hkx
      cases hof : offL (kindsOf l1) cls (affOf ⟨kd, f1, f2, at_⟩) l' with
      | none =>
        have Hof := Lib.hid hof
        have Hno : Hid (offC (kindsOf l1) cls ((pre ++ [(x1, (⟨⟨kd, f1, f2, at_⟩, hxo⟩ : AffOkT l0 l1))]).map (fun p => affOf p.2.1)) l = none) := by
          refine Ho.out.trans ?_
          unfold takenL
          rw [hof]
        clear hof
        as_aux_lemma =>
          gi_wp2_with (first | (refine ⟨trivial, ?_⟩; gi_at_call 41; refine (CallsIn.inRound lp (callsIn_wide.2 (hmk _ HB.out))).mono ?_; rintro e w2 ⟨a, rfl, hD, hb2⟩; have HD := Lib.hid hD; have HW2 := Lib.hid hb2; have HB2 := Lib.hid (below_step HB.out hb2); have H32 := Lib.hid (blk_below HI3.out hb2); have H42 := Lib.hid (blk_below Hv.out hb2); have H62 := Lib.hid (blk_below HI6.out hb2); have HC2 := Lib.hid (Kd.C_below HC.out hb2); have HM2 := Lib.hid (HM.out.below HB2.out); clear hD hb2 hmk hp0 hp1 hy0 hy1 hy2 hy3; have hs0 := (blk_cell H32.out 0).trans rfl; have hs1 := (blk_cell H32.out 1).trans rfl; have hs2 := (blk_cell H32.out 2).trans rfl; have hv0 : w2.cell? ⟨w.heap.size + 1, 0, none⟩ = some (.slice A l'.length c) := (blk_cell H42.out 0).trans rfl; have hmo := fun n W => meth_s_off (.agg #[a]) n W; have hmp := fun n W => meth_s_put (.agg #[a]) n W) | (refine ⟨trivial, ?_⟩; gi_at_call 137; refine (CallsIn.inRound lp (callsIn_wide.2 (HD.out.off_eq l' none Hof.out A0 A1 A l0.length c0 l1.length c1 c bm w2 (Below.refl _ _) HC2.out hc (by omega) HM2.out Hwf.out))).mono ?_; rintro e w3 ⟨rfl, hb3⟩; have Hb3 := Lib.hid hb3; have H63 := Lib.hid (blk_below H62.out hb3); clear hb3; have hz6 : w3.cell? ⟨w.heap.size + 1 + 1, 0, none⟩ = some (.slice none 0 0) := (blk_cell H63.out 0).trans rfl; have hzf : w3.frozen? ⟨w.heap.size + 1 + 1, 0, none⟩ = false := blk_frozen H63.out 0))
          exact ⟨(keepsFrom_below (below_step HW2.out Hb3.out)).trans ((KeepsOthers.setCell _ _ _).from _), rfl, Hno.out, blk_put (cs := #[.slice none 0 0]) H63.out 0 _ rfl, below_set (below_step HB2.out Hb3.out) (by omega)⟩
      | some m =>
        have hmm := off_mem hof
        have hml : m.length ≤ 64 := by omega
        have Hmk : Hid (∀ y ∈ m, (kindsOf l1).contains y = true) := fun y hy => Hlm.out y (hmm.1 y hy)
        have Hmw : Hid (∀ y ∈ m, (Lit.int .i32 y).wf = true) := fun y hy => rune_wf (kinds_valid Hck.out (Hmk.out y hy))
        obtain ⟨q, e0, hqe⟩ : ∃ q e0, putL (kindsOf l1) cls (affOf ⟨kd, f1, f2, at_⟩) m = (q, e0) := ⟨_, _, rfl⟩
        have htk : takenL (kindsOf l1) cls (affOf ⟨kd, f1, f2, at_⟩) l' = if (q, e0) = (l', 0) then some m else none := by
          unfold takenL
          rw [hof]
          dsimp only
          rw [hqe]
        have hor := Ho.out
        rw [htk] at hor
        have hql : q.length ≤ 400 := put_len hqe (by omega) (by omega) (by omega)
        have Hof := Lib.hid hof
        have Hqe := Lib.hid hqe
        clear hof htk hqe hmm
        by_cases he : e0 = 0
        · subst he
          by_cases hq : q = l'
          · rw [if_pos (by rw [hq])] at hor
            have Hno := Lib.hid hor
            have Hdq : Hid (decide (q = l') = true) := by rw [Hid]; exact decide_eq_true hq
            clear hor hq
            as_aux_lemma =>
             gi_wp2_with (first | (refine ⟨trivial, ?_⟩; gi_at_call 41; refine (CallsIn.inRound lp (callsIn_wide.2 (hmk _ HB.out))).mono ?_; rintro e w2 ⟨a, rfl, hD, hb2⟩; have HD := Lib.hid hD; have HW2 := Lib.hid hb2; have HB2 := Lib.hid (below_step HB.out hb2); have H32 := Lib.hid (blk_below HI3.out hb2); have H42 := Lib.hid (blk_below Hv.out hb2); have H62 := Lib.hid (blk_below HI6.out hb2); have HC2 := Lib.hid (Kd.C_below HC.out hb2); have HM2 := Lib.hid (HM.out.below HB2.out); clear hD hb2 hmk hp0 hp1 hy0 hy1 hy2 hy3; have hs0 := (blk_cell H32.out 0).trans rfl; have hs1 := (blk_cell H32.out 1).trans rfl; have hs2 := (blk_cell H32.out 2).trans rfl; have hv0 : w2.cell? ⟨w.heap.size + 1, 0, none⟩ = some (.slice A l'.length c) := (blk_cell H42.out 0).trans rfl; have hmo := fun n W => meth_s_off (.agg #[a]) n W; have hmp := fun n W => meth_s_put (.agg #[a]) n W) | (refine ⟨trivial, ?_⟩; gi_at_call 137; refine (CallsIn.inRound lp (callsIn_wide.2 (HD.out.off_eq l' (some m) Hof.out A0 A1 A l0.length c0 l1.length c1 c bm w2 (Below.refl _ _) HC2.out hc (by omega) HM2.out Hwf.out))).mono ?_; rintro e w3 ⟨Am, cm, rfl, hcm, hCm, hb3⟩; have Hb3 := Lib.hid hb3; have H63 := Lib.hid (blk_below H62.out hb3); have H33 := Lib.hid (blk_below H32.out hb3); have H43 := Lib.hid (blk_below H42.out hb3); have HCm := Lib.hid hCm; have HC3 := Lib.hid (Kd.C_below HC2.out hb3); have HM3 := Lib.hid (HM2.out.below hb3); clear hb3 hCm hs0 hs1 hs2 hv0; have hs0 := (blk_cell H33.out 0).trans rfl; have hs1 := (blk_cell H33.out 1).trans rfl; have hs2 := (blk_cell H33.out 2).trans rfl; have hv0 : w3.cell? ⟨w.heap.size + 1, 0, none⟩ = some (.slice A l'.length c) := (blk_cell H43.out 0).trans rfl) | (refine ⟨trivial, ?_⟩; gi_at_call 138; refine (CallsIn.inRound lp (callsIn_wide.2 (HD.out.put_eq m q 0 Hqe.out A0 A1 Am l0.length c0 l1.length c1 cm bm w3 Hb3.out HCm.out hcm (by omega) HM3.out Hmw.out))).mono ?_; rintro e w4 ⟨v4, rfl, hR4, hb4⟩; have Hb4 := Lib.hid (below_step Hb3.out hb4); have H64 := Lib.hid (blk_below H63.out hb4); have H44 := Lib.hid (blk_below H43.out hb4); have H34 := Lib.hid (blk_below H33.out hb4); have HCm4 := Lib.hid (Kd.C_below HCm.out hb4); have HC4 := Lib.hid (Kd.C_below HC3.out hb4); obtain ⟨A4, c4, rfl, hc4, hC4⟩ := Kd.R_reads hR4; have HR4 := Lib.hid hC4; clear hb4 hR4 hC4 hs0 hs1 hs2 hv0; have hz6 : w4.cell? ⟨w.heap.size + 1 + 1, 0, none⟩ = some (.slice none 0 0) := (blk_cell H64.out 0).trans rfl; have hzf : w4.frozen? ⟨w.heap.size + 1 + 1, 0, none⟩ = false := blk_frozen H64.out 0; have hzg : w4.frozen? ⟨w.heap.size + 1, 0, none⟩ = false := blk_frozen H44.out 0; have hv0 : w4.cell? ⟨w.heap.size + 1, 0, none⟩ = some (.slice A l'.length c) := (blk_cell H44.out 0).trans rfl) | (refine ⟨trivial, ?_⟩; gi_at_call 64; refine (CallsIn.inRound lp (callsIn_wide.2 (RF3.slices_Equal_rune_rune.calls 500 A4 c4 q A c l' true w4 HR4.out hc4 HC4.out hc (by rw [Equal_eq _ _ (by omega) 500 (by omega), Hdq.out])))).mono ?_; rintro e w5 ⟨rfl, ⟨nd, rfl⟩⟩; have hz6' : (w4.drewN nd).cell? ⟨w.heap.size + 1 + 1, 0, none⟩ = some (.slice none 0 0) := hz6; have hzf' : (w4.drewN nd).frozen? ⟨w.heap.size + 1 + 1, 0, none⟩ = false := hzf; have hv0' : (w4.drewN nd).cell? ⟨w.heap.size + 1, 0, none⟩ = some (.slice A l'.length c) := hv0; have hzg' : (w4.drewN nd).frozen? ⟨w.heap.size + 1, 0, none⟩ = false := hzg))
             refine ⟨(keepsFrom_below (below_step HW2.out (pw_below_drewN Hb4.out nd))).trans ((KeepsOthers.setCell _ _ _).from _), ⟨((below_step HW2.out (pw_below_drewN Hb4.out nd)).mono HB.out.size).setCell (by show _ ≤ w.heap.size + 1; omega) _, ?_⟩, ⟨_, m, blk_put (cs := #[.slice A l'.length c]) (blk_drewN H44.out nd) 0 _ rfl, ?_, Hno.out, hml, Hmk.out⟩, blk_far (blk_drewN H34.out nd) (by show _ ≠ w.heap.size + 1; omega) _, blk_far (blk_drewN H64.out nd) (by show _ ≠ w.heap.size + 1; omega) _, below_set (below_step HB2.out (pw_below_drewN Hb4.out nd)) (by omega), ?_⟩
             · exact (Below.heap_setCell _ ⟨w.heap.size + 1, 0, none⟩ _ _ (by show _ ≠ w.heap.size + 1; omega)).trans ((below_step HW2.out (pw_below_drewN Hb4.out nd)).block _ Hlt.out)
             · exact view_set (v := .slice Am m.length cm) ⟨Am, cm, rfl, hcm, HCm4.out⟩ H44.out nd
             · show _ < ((w4.drewN nd).setCell _ _).heap.size
               have h1 := HW2.out.size
               have h2 := Hb4.out.size
               have h3 := Hlt.out
               simp
               omega
          · rw [if_neg (fun h => hq (Prod.mk.inj h).1)] at hor
            have Hno := Lib.hid hor
            have Hdq : Hid (decide (q = l') = false) := by rw [Hid]; exact decide_eq_false hq
            clear hor hq
            as_aux_lemma =>
             gi_wp2_with (first | (refine ⟨trivial, ?_⟩; gi_at_call 41; refine (CallsIn.inRound lp (callsIn_wide.2 (hmk _ HB.out))).mono ?_; rintro e w2 ⟨a, rfl, hD, hb2⟩; have HD := Lib.hid hD; have HW2 := Lib.hid hb2; have HB2 := Lib.hid (below_step HB.out hb2); have H32 := Lib.hid (blk_below HI3.out hb2); have H42 := Lib.hid (blk_below Hv.out hb2); have H62 := Lib.hid (blk_below HI6.out hb2); have HC2 := Lib.hid (Kd.C_below HC.out hb2); have HM2 := Lib.hid (HM.out.below HB2.out); clear hD hb2 hmk hp0 hp1 hy0 hy1 hy2 hy3; have hs0 := (blk_cell H32.out 0).trans rfl; have hs1 := (blk_cell H32.out 1).trans rfl; have hs2 := (blk_cell H32.out 2).trans rfl; have hv0 : w2.cell? ⟨w.heap.size + 1, 0, none⟩ = some (.slice A l'.length c) := (blk_cell H42.out 0).trans rfl; have hmo := fun n W => meth_s_off (.agg #[a]) n W; have hmp := fun n W => meth_s_put (.agg #[a]) n W) | (refine ⟨trivial, ?_⟩; gi_at_call 137; refine (CallsIn.inRound lp (callsIn_wide.2 (HD.out.off_eq l' (some m) Hof.out A0 A1 A l0.length c0 l1.length c1 c bm w2 (Below.refl _ _) HC2.out hc (by omega) HM2.out Hwf.out))).mono ?_; rintro e w3 ⟨Am, cm, rfl, hcm, hCm, hb3⟩; have Hb3 := Lib.hid hb3; have H63 := Lib.hid (blk_below H62.out hb3); have H33 := Lib.hid (blk_below H32.out hb3); have H43 := Lib.hid (blk_below H42.out hb3); have HCm := Lib.hid hCm; have HC3 := Lib.hid (Kd.C_below HC2.out hb3); have HM3 := Lib.hid (HM2.out.below hb3); clear hb3 hCm hs0 hs1 hs2 hv0; have hs0 := (blk_cell H33.out 0).trans rfl; have hs1 := (blk_cell H33.out 1).trans rfl; have hs2 := (blk_cell H33.out 2).trans rfl; have hv0 : w3.cell? ⟨w.heap.size + 1, 0, none⟩ = some (.slice A l'.length c) := (blk_cell H43.out 0).trans rfl) | (refine ⟨trivial, ?_⟩; gi_at_call 138; refine (CallsIn.inRound lp (callsIn_wide.2 (HD.out.put_eq m q 0 Hqe.out A0 A1 Am l0.length c0 l1.length c1 cm bm w3 Hb3.out HCm.out hcm (by omega) HM3.out Hmw.out))).mono ?_; rintro e w4 ⟨v4, rfl, hR4, hb4⟩; have Hb4 := Lib.hid (below_step Hb3.out hb4); have H64 := Lib.hid (blk_below H63.out hb4); have H44 := Lib.hid (blk_below H43.out hb4); have H34 := Lib.hid (blk_below H33.out hb4); have HCm4 := Lib.hid (Kd.C_below HCm.out hb4); have HC4 := Lib.hid (Kd.C_below HC3.out hb4); obtain ⟨A4, c4, rfl, hc4, hC4⟩ := Kd.R_reads hR4; have HR4 := Lib.hid hC4; clear hb4 hR4 hC4 hs0 hs1 hs2 hv0; have hz6 : w4.cell? ⟨w.heap.size + 1 + 1, 0, none⟩ = some (.slice none 0 0) := (blk_cell H64.out 0).trans rfl; have hzf : w4.frozen? ⟨w.heap.size + 1 + 1, 0, none⟩ = false := blk_frozen H64.out 0; have hzg : w4.frozen? ⟨w.heap.size + 1, 0, none⟩ = false := blk_frozen H44.out 0; have hv0 : w4.cell? ⟨w.heap.size + 1, 0, none⟩ = some (.slice A l'.length c) := (blk_cell H44.out 0).trans rfl) | (refine ⟨trivial, ?_⟩; gi_at_call 64; refine (CallsIn.inRound lp (callsIn_wide.2 (RF3.slices_Equal_rune_rune.calls 500 A4 c4 q A c l' false w4 HR4.out hc4 HC4.out hc (by rw [Equal_eq _ _ (by omega) 500 (by omega), Hdq.out])))).mono ?_; rintro e w5 ⟨rfl, ⟨nd, rfl⟩⟩; have hz6' : (w4.drewN nd).cell? ⟨w.heap.size + 1 + 1, 0, none⟩ = some (.slice none 0 0) := hz6; have hzf' : (w4.drewN nd).frozen? ⟨w.heap.size + 1 + 1, 0, none⟩ = false := hzf; have hv0' : (w4.drewN nd).cell? ⟨w.heap.size + 1, 0, none⟩ = some (.slice A l'.length c) := hv0; have hzg' : (w4.drewN nd).frozen? ⟨w.heap.size + 1, 0, none⟩ = false := hzg))
             exact ⟨(keepsFrom_below (below_step HW2.out (pw_below_drewN Hb4.out nd))).trans ((KeepsOthers.setCell _ _ _).from _), rfl, Hno.out, blk_put (cs := #[.slice none 0 0]) (blk_drewN H64.out _) 0 _ rfl, below_set (below_step HB2.out (pw_below_drewN Hb4.out nd)) (by omega)⟩
        · rw [if_neg (fun h => he (Prod.mk.inj h).2)] at hor
          have Hno := Lib.hid hor
          have heb : (e0 != 0) = true := bne_iff_ne.mpr he
          clear hor he
          as_aux_lemma =>
           gi_wp2_with (first | (refine ⟨trivial, ?_⟩; gi_at_call 41; refine (CallsIn.inRound lp (callsIn_wide.2 (hmk _ HB.out))).mono ?_; rintro e w2 ⟨a, rfl, hD, hb2⟩; have HD := Lib.hid hD; have HW2 := Lib.hid hb2; have HB2 := Lib.hid (below_step HB.out hb2); have H32 := Lib.hid (blk_below HI3.out hb2); have H42 := Lib.hid (blk_below Hv.out hb2); have H62 := Lib.hid (blk_below HI6.out hb2); have HC2 := Lib.hid (Kd.C_below HC.out hb2); have HM2 := Lib.hid (HM.out.below HB2.out); clear hD hb2 hmk hp0 hp1 hy0 hy1 hy2 hy3; have hs0 := (blk_cell H32.out 0).trans rfl; have hs1 := (blk_cell H32.out 1).trans rfl; have hs2 := (blk_cell H32.out 2).trans rfl; have hv0 : w2.cell? ⟨w.heap.size + 1, 0, none⟩ = some (.slice A l'.length c) := (blk_cell H42.out 0).trans rfl; have hmo := fun n W => meth_s_off (.agg #[a]) n W; have hmp := fun n W => meth_s_put (.agg #[a]) n W) | (refine ⟨trivial, ?_⟩; gi_at_call 137; refine (CallsIn.inRound lp (callsIn_wide.2 (HD.out.off_eq l' (some m) Hof.out A0 A1 A l0.length c0 l1.length c1 c bm w2 (Below.refl _ _) HC2.out hc (by omega) HM2.out Hwf.out))).mono ?_; rintro e w3 ⟨Am, cm, rfl, hcm, hCm, hb3⟩; have Hb3 := Lib.hid hb3; have H63 := Lib.hid (blk_below H62.out hb3); have H33 := Lib.hid (blk_below H32.out hb3); have H43 := Lib.hid (blk_below H42.out hb3); have HCm := Lib.hid hCm; have HC3 := Lib.hid (Kd.C_below HC2.out hb3); have HM3 := Lib.hid (HM2.out.below hb3); clear hb3 hCm hs0 hs1 hs2 hv0; have hs0 := (blk_cell H33.out 0).trans rfl; have hs1 := (blk_cell H33.out 1).trans rfl; have hs2 := (blk_cell H33.out 2).trans rfl; have hv0 : w3.cell? ⟨w.heap.size + 1, 0, none⟩ = some (.slice A l'.length c) := (blk_cell H43.out 0).trans rfl) | (refine ⟨trivial, ?_⟩; gi_at_call 138; refine (CallsIn.inRound lp (callsIn_wide.2 (HD.out.put_eq m q e0 Hqe.out A0 A1 Am l0.length c0 l1.length c1 cm bm w3 Hb3.out HCm.out hcm (by omega) HM3.out Hmw.out))).mono ?_; rintro e w4 ⟨v4, rfl, hR4, hb4⟩; have Hb4 := Lib.hid (below_step Hb3.out hb4); have H64 := Lib.hid (blk_below H63.out hb4); have H44 := Lib.hid (blk_below H43.out hb4); have H34 := Lib.hid (blk_below H33.out hb4); have HCm4 := Lib.hid (Kd.C_below HCm.out hb4); have HC4 := Lib.hid (Kd.C_below HC3.out hb4); obtain ⟨A4, c4, rfl, hc4, hC4⟩ := Kd.R_reads hR4; have HR4 := Lib.hid hC4; clear hb4 hR4 hC4 hs0 hs1 hs2 hv0; have hz6 : w4.cell? ⟨w.heap.size + 1 + 1, 0, none⟩ = some (.slice none 0 0) := (blk_cell H64.out 0).trans rfl; have hzf : w4.frozen? ⟨w.heap.size + 1 + 1, 0, none⟩ = false := blk_frozen H64.out 0; have hzg : w4.frozen? ⟨w.heap.size + 1, 0, none⟩ = false := blk_frozen H44.out 0; have hv0 : w4.cell? ⟨w.heap.size + 1, 0, none⟩ = some (.slice A l'.length c) := (blk_cell H44.out 0).trans rfl))
           refine ⟨trivial, ?_⟩
           gi_wp2
           exact ⟨(keepsFrom_below (below_step HW2.out Hb4.out)).trans ((KeepsOthers.setCell _ _ _).from _), rfl, Hno.out, blk_put (cs := #[.slice none 0 0]) H64.out 0 _ rfl, below_set (below_step HB2.out Hb4.out) (by omega)⟩
    · -- doubled
      have hmk : ∀ W, Below w.heap.size w W → Calls Tryd.prog 41 #[.agg #[.slice A0 l0.length c0, .slice A1 l1.length c1], .agg #[.int .u8 kd, .string f1, .string f2, .int .i64 at_]] W fun e w' => ∃ a, e = .returned (.tuple #[.iface 124 (.agg #[a]), .bool true]) ∧ Disp w' 140 141 124 (.agg #[a]) (kindsOf l1) cls (affOf ⟨kd, f1, f2, at_⟩) ∧ Below W.heap.size W w' := by
        intro W hb
        refine (hmd W hb).mono ?_
        rintro e w2 ⟨v2, rfl, hA2, hb2⟩
        rcases disp_of (hA2 Hxo.out) (kindsOf l1) cls (by omega) (by omega) (by omega) with ⟨hk', a, b, rfl, hD⟩ | ⟨hk', a, b, rfl, hD⟩ | ⟨hk', a, rfl, hD⟩ | ⟨hk', a, rfl, hD⟩
        · exfalso; have := hk'; omega
        · exfalso; have := hk'; omega
        · exfalso; have := hk'; omega
        · exact ⟨a, by rw [Hxo.out], hD, hb2⟩
      clear hmd hkk hk hkx
      cases hof : offL (kindsOf l1) cls (affOf ⟨kd, f1, f2, at_⟩) l' with
      | none =>
        have Hof := Lib.hid hof
        have Hno : Hid (offC (kindsOf l1) cls ((pre ++ [(x1, (⟨⟨kd, f1, f2, at_⟩, hxo⟩ : AffOkT l0 l1))]).map (fun p => affOf p.2.1)) l = none) := by
          refine Ho.out.trans ?_
          unfold takenL
          rw [hof]
        clear hof
        as_aux_lemma =>
          gi_wp2_with (first | (refine ⟨trivial, ?_⟩; gi_at_call 41; refine (CallsIn.inRound lp (callsIn_wide.2 (hmk _ HB.out))).mono ?_; rintro e w2 ⟨a, rfl, hD, hb2⟩; have HD := Lib.hid hD; have HW2 := Lib.hid hb2; have HB2 := Lib.hid (below_step HB.out hb2); have H32 := Lib.hid (blk_below HI3.out hb2); have H42 := Lib.hid (blk_below Hv.out hb2); have H62 := Lib.hid (blk_below HI6.out hb2); have HC2 := Lib.hid (Kd.C_below HC.out hb2); have HM2 := Lib.hid (HM.out.below HB2.out); clear hD hb2 hmk hp0 hp1 hy0 hy1 hy2 hy3; have hs0 := (blk_cell H32.out 0).trans rfl; have hs1 := (blk_cell H32.out 1).trans rfl; have hs2 := (blk_cell H32.out 2).trans rfl; have hv0 : w2.cell? ⟨w.heap.size + 1, 0, none⟩ = some (.slice A l'.length c) := (blk_cell H42.out 0).trans rfl; have hmo := fun n W => meth_d_off (.agg #[a]) n W; have hmp := fun n W => meth_d_put (.agg #[a]) n W) | (refine ⟨trivial, ?_⟩; gi_at_call 140; refine (CallsIn.inRound lp (callsIn_wide.2 (HD.out.off_eq l' none Hof.out A0 A1 A l0.length c0 l1.length c1 c bm w2 (Below.refl _ _) HC2.out hc (by omega) HM2.out Hwf.out))).mono ?_; rintro e w3 ⟨rfl, hb3⟩; have Hb3 := Lib.hid hb3; have H63 := Lib.hid (blk_below H62.out hb3); clear hb3; have hz6 : w3.cell? ⟨w.heap.size + 1 + 1, 0, none⟩ = some (.slice none 0 0) := (blk_cell H63.out 0).trans rfl; have hzf : w3.frozen? ⟨w.heap.size + 1 + 1, 0, none⟩ = false := blk_frozen H63.out 0))
          exact ⟨(keepsFrom_below (below_step HW2.out Hb3.out)).trans ((KeepsOthers.setCell _ _ _).from _), rfl, Hno.out, blk_put (cs := #[.slice none 0 0]) H63.out 0 _ rfl, below_set (below_step HB2.out Hb3.out) (by omega)⟩
      | some m =>
        have hmm := off_mem hof
        have hml : m.length ≤ 64 := by omega
        have Hmk : Hid (∀ y ∈ m, (kindsOf l1).contains y = true) := fun y hy => Hlm.out y (hmm.1 y hy)
        have Hmw : Hid (∀ y ∈ m, (Lit.int .i32 y).wf = true) := fun y hy => rune_wf (kinds_valid Hck.out (Hmk.out y hy))
        obtain ⟨q, e0, hqe⟩ : ∃ q e0, putL (kindsOf l1) cls (affOf ⟨kd, f1, f2, at_⟩) m = (q, e0) := ⟨_, _, rfl⟩
        have htk : takenL (kindsOf l1) cls (affOf ⟨kd, f1, f2, at_⟩) l' = if (q, e0) = (l', 0) then some m else none := by
          unfold takenL
          rw [hof]
          dsimp only
          rw [hqe]
        have hor := Ho.out
        rw [htk] at hor
        have hql : q.length ≤ 400 := put_len hqe (by omega) (by omega) (by omega)
        have Hof := Lib.hid hof
        have Hqe := Lib.hid hqe
        clear hof htk hqe hmm
        by_cases he : e0 = 0
        · subst he
          by_cases hq : q = l'
          · rw [if_pos (by rw [hq])] at hor
            have Hno := Lib.hid hor
            have Hdq : Hid (decide (q = l') = true) := by rw [Hid]; exact decide_eq_true hq
            clear hor hq
            as_aux_lemma =>
             gi_wp2_with (first | (refine ⟨trivial, ?_⟩; gi_at_call 41; refine (CallsIn.inRound lp (callsIn_wide.2 (hmk _ HB.out))).mono ?_; rintro e w2 ⟨a, rfl, hD, hb2⟩; have HD := Lib.hid hD; have HW2 := Lib.hid hb2; have HB2 := Lib.hid (below_step HB.out hb2); have H32 := Lib.hid (blk_below HI3.out hb2); have H42 := Lib.hid (blk_below Hv.out hb2); have H62 := Lib.hid (blk_below HI6.out hb2); have HC2 := Lib.hid (Kd.C_below HC.out hb2); have HM2 := Lib.hid (HM.out.below HB2.out); clear hD hb2 hmk hp0 hp1 hy0 hy1 hy2 hy3; have hs0 := (blk_cell H32.out 0).trans rfl; have hs1 := (blk_cell H32.out 1).trans rfl; have hs2 := (blk_cell H32.out 2).trans rfl; have hv0 : w2.cell? ⟨w.heap.size + 1, 0, none⟩ = some (.slice A l'.length c) := (blk_cell H42.out 0).trans rfl; have hmo := fun n W => meth_d_off (.agg #[a]) n W; have hmp := fun n W => meth_d_put (.agg #[a]) n W) | (refine ⟨trivial, ?_⟩; gi_at_call 140; refine (CallsIn.inRound lp (callsIn_wide.2 (HD.out.off_eq l' (some m) Hof.out A0 A1 A l0.length c0 l1.length c1 c bm w2 (Below.refl _ _) HC2.out hc (by omega) HM2.out Hwf.out))).mono ?_; rintro e w3 ⟨Am, cm, rfl, hcm, hCm, hb3⟩; have Hb3 := Lib.hid hb3; have H63 := Lib.hid (blk_below H62.out hb3); have H33 := Lib.hid (blk_below H32.out hb3); have H43 := Lib.hid (blk_below H42.out hb3); have HCm := Lib.hid hCm; have HC3 := Lib.hid (Kd.C_below HC2.out hb3); have HM3 := Lib.hid (HM2.out.below hb3); clear hb3 hCm hs0 hs1 hs2 hv0; have hs0 := (blk_cell H33.out 0).trans rfl; have hs1 := (blk_cell H33.out 1).trans rfl; have hs2 := (blk_cell H33.out 2).trans rfl; have hv0 : w3.cell? ⟨w.heap.size + 1, 0, none⟩ = some (.slice A l'.length c) := (blk_cell H43.out 0).trans rfl) | (refine ⟨trivial, ?_⟩; gi_at_call 141; refine (CallsIn.inRound lp (callsIn_wide.2 (HD.out.put_eq m q 0 Hqe.out A0 A1 Am l0.length c0 l1.length c1 cm bm w3 Hb3.out HCm.out hcm (by omega) HM3.out Hmw.out))).mono ?_; rintro e w4 ⟨v4, rfl, hR4, hb4⟩; have Hb4 := Lib.hid (below_step Hb3.out hb4); have H64 := Lib.hid (blk_below H63.out hb4); have H44 := Lib.hid (blk_below H43.out hb4); have H34 := Lib.hid (blk_below H33.out hb4); have HCm4 := Lib.hid (Kd.C_below HCm.out hb4); have HC4 := Lib.hid (Kd.C_below HC3.out hb4); obtain ⟨A4, c4, rfl, hc4, hC4⟩ := Kd.R_reads hR4; have HR4 := Lib.hid hC4; clear hb4 hR4 hC4 hs0 hs1 hs2 hv0; have hz6 : w4.cell? ⟨w.heap.size + 1 + 1, 0, none⟩ = some (.slice none 0 0) := (blk_cell H64.out 0).trans rfl; have hzf : w4.frozen? ⟨w.heap.size + 1 + 1, 0, none⟩ = false := blk_frozen H64.out 0; have hzg : w4.frozen? ⟨w.heap.size + 1, 0, none⟩ = false := blk_frozen H44.out 0; have hv0 : w4.cell? ⟨w.heap.size + 1, 0, none⟩ = some (.slice A l'.length c) := (blk_cell H44.out 0).trans rfl) | (refine ⟨trivial, ?_⟩; gi_at_call 64; refine (CallsIn.inRound lp (callsIn_wide.2 (RF3.slices_Equal_rune_rune.calls 500 A4 c4 q A c l' true w4 HR4.out hc4 HC4.out hc (by rw [Equal_eq _ _ (by omega) 500 (by omega), Hdq.out])))).mono ?_; rintro e w5 ⟨rfl, ⟨nd, rfl⟩⟩; have hz6' : (w4.drewN nd).cell? ⟨w.heap.size + 1 + 1, 0, none⟩ = some (.slice none 0 0) := hz6; have hzf' : (w4.drewN nd).frozen? ⟨w.heap.size + 1 + 1, 0, none⟩ = false := hzf; have hv0' : (w4.drewN nd).cell? ⟨w.heap.size + 1, 0, none⟩ = some (.slice A l'.length c) := hv0; have hzg' : (w4.drewN nd).frozen? ⟨w.heap.size + 1, 0, none⟩ = false := hzg))
             refine ⟨(keepsFrom_below (below_step HW2.out (pw_below_drewN Hb4.out nd))).trans ((KeepsOthers.setCell _ _ _).from _), ⟨((below_step HW2.out (pw_below_drewN Hb4.out nd)).mono HB.out.size).setCell (by show _ ≤ w.heap.size + 1; omega) _, ?_⟩, ⟨_, m, blk_put (cs := #[.slice A l'.length c]) (blk_drewN H44.out nd) 0 _ rfl, ?_, Hno.out, hml, Hmk.out⟩, blk_far (blk_drewN H34.out nd) (by show _ ≠ w.heap.size + 1; omega) _, blk_far (blk_drewN H64.out nd) (by show _ ≠ w.heap.size + 1; omega) _, below_set (below_step HB2.out (pw_below_drewN Hb4.out nd)) (by omega), ?_⟩
             · exact (Below.heap_setCell _ ⟨w.heap.size + 1, 0, none⟩ _ _ (by show _ ≠ w.heap.size + 1; omega)).trans ((below_step HW2.out (pw_below_drewN Hb4.out nd)).block _ Hlt.out)
             · exact view_set (v := .slice Am m.length cm) ⟨Am, cm, rfl, hcm, HCm4.out⟩ H44.out nd
             · show _ < ((w4.drewN nd).setCell _ _).heap.size
               have h1 := HW2.out.size
               have h2 := Hb4.out.size
               have h3 := Hlt.out
               simp
               omega
          · rw [if_neg (fun h => hq (Prod.mk.inj h).1)] at hor
            have Hno := Lib.hid hor
            have Hdq : Hid (decide (q = l') = false) := by rw [Hid]; exact decide_eq_false hq
            clear hor hq
            as_aux_lemma =>
             gi_wp2_with (first | (refine ⟨trivial, ?_⟩; gi_at_call 41; refine (CallsIn.inRound lp (callsIn_wide.2 (hmk _ HB.out))).mono ?_; rintro e w2 ⟨a, rfl, hD, hb2⟩; have HD := Lib.hid hD; have HW2 := Lib.hid hb2; have HB2 := Lib.hid (below_step HB.out hb2); have H32 := Lib.hid (blk_below HI3.out hb2); have H42 := Lib.hid (blk_below Hv.out hb2); have H62 := Lib.hid (blk_below HI6.out hb2); have HC2 := Lib.hid (Kd.C_below HC.out hb2); have HM2 := Lib.hid (HM.out.below HB2.out); clear hD hb2 hmk hp0 hp1 hy0 hy1 hy2 hy3; have hs0 := (blk_cell H32.out 0).trans rfl; have hs1 := (blk_cell H32.out 1).trans rfl; have hs2 := (blk_cell H32.out 2).trans rfl; have hv0 : w2.cell? ⟨w.heap.size + 1, 0, none⟩ = some (.slice A l'.length c) := (blk_cell H42.out 0).trans rfl; have hmo := fun n W => meth_d_off (.agg #[a]) n W; have hmp := fun n W => meth_d_put (.agg #[a]) n W) | (refine ⟨trivial, ?_⟩; gi_at_call 140; refine (CallsIn.inRound lp (callsIn_wide.2 (HD.out.off_eq l' (some m) Hof.out A0 A1 A l0.length c0 l1.length c1 c bm w2 (Below.refl _ _) HC2.out hc (by omega) HM2.out Hwf.out))).mono ?_; rintro e w3 ⟨Am, cm, rfl, hcm, hCm, hb3⟩; have Hb3 := Lib.hid hb3; have H63 := Lib.hid (blk_below H62.out hb3); have H33 := Lib.hid (blk_below H32.out hb3); have H43 := Lib.hid (blk_below H42.out hb3); have HCm := Lib.hid hCm; have HC3 := Lib.hid (Kd.C_below HC2.out hb3); have HM3 := Lib.hid (HM2.out.below hb3); clear hb3 hCm hs0 hs1 hs2 hv0; have hs0 := (blk_cell H33.out 0).trans rfl; have hs1 := (blk_cell H33.out 1).trans rfl; have hs2 := (blk_cell H33.out 2).trans rfl; have hv0 : w3.cell? ⟨w.heap.size + 1, 0, none⟩ = some (.slice A l'.length c) := (blk_cell H43.out 0).trans rfl) | (refine ⟨trivial, ?_⟩; gi_at_call 141; refine (CallsIn.inRound lp (callsIn_wide.2 (HD.out.put_eq m q 0 Hqe.out A0 A1 Am l0.length c0 l1.length c1 cm bm w3 Hb3.out HCm.out hcm (by omega) HM3.out Hmw.out))).mono ?_; rintro e w4 ⟨v4, rfl, hR4, hb4⟩; have Hb4 := Lib.hid (below_step Hb3.out hb4); have H64 := Lib.hid (blk_below H63.out hb4); have H44 := Lib.hid (blk_below H43.out hb4); have H34 := Lib.hid (blk_below H33.out hb4); have HCm4 := Lib.hid (Kd.C_below HCm.out hb4); have HC4 := Lib.hid (Kd.C_below HC3.out hb4); obtain ⟨A4, c4, rfl, hc4, hC4⟩ := Kd.R_reads hR4; have HR4 := Lib.hid hC4; clear hb4 hR4 hC4 hs0 hs1 hs2 hv0; have hz6 : w4.cell? ⟨w.heap.size + 1 + 1, 0, none⟩ = some (.slice none 0 0) := (blk_cell H64.out 0).trans rfl; have hzf : w4.frozen? ⟨w.heap.size + 1 + 1, 0, none⟩ = false := blk_frozen H64.out 0; have hzg : w4.frozen? ⟨w.heap.size + 1, 0, none⟩ = false := blk_frozen H44.out 0; have hv0 : w4.cell? ⟨w.heap.size + 1, 0, none⟩ = some (.slice A l'.length c) := (blk_cell H44.out 0).trans rfl) | (refine ⟨trivial, ?_⟩; gi_at_call 64; refine (CallsIn.inRound lp (callsIn_wide.2 (RF3.slices_Equal_rune_rune.calls 500 A4 c4 q A c l' false w4 HR4.out hc4 HC4.out hc (by rw [Equal_eq _ _ (by omega) 500 (by omega), Hdq.out])))).mono ?_; rintro e w5 ⟨rfl, ⟨nd, rfl⟩⟩; have hz6' : (w4.drewN nd).cell? ⟨w.heap.size + 1 + 1, 0, none⟩ = some (.slice none 0 0) := hz6; have hzf' : (w4.drewN nd).frozen? ⟨w.heap.size + 1 + 1, 0, none⟩ = false := hzf; have hv0' : (w4.drewN nd).cell? ⟨w.heap.size + 1, 0, none⟩ = some (.slice A l'.length c) := hv0; have hzg' : (w4.drewN nd).frozen? ⟨w.heap.size + 1, 0, none⟩ = false := hzg))
             exact ⟨(keepsFrom_below (below_step HW2.out (pw_below_drewN Hb4.out nd))).trans ((KeepsOthers.setCell _ _ _).from _), rfl, Hno.out, blk_put (cs := #[.slice none 0 0]) (blk_drewN H64.out _) 0 _ rfl, below_set (below_step HB2.out (pw_below_drewN Hb4.out nd)) (by omega)⟩
        · rw [if_neg (fun h => he (Prod.mk.inj h).2)] at hor
          have Hno := Lib.hid hor
          have heb : (e0 != 0) = true := bne_iff_ne.mpr he
          clear hor he
          as_aux_lemma =>
           gi_wp2_with (first | (refine ⟨trivial, ?_⟩; gi_at_call 41; refine (CallsIn.inRound lp (callsIn_wide.2 (hmk _ HB.out))).mono ?_; rintro e w2 ⟨a, rfl, hD, hb2⟩; have HD := Lib.hid hD; have HW2 := Lib.hid hb2; have HB2 := Lib.hid (below_step HB.out hb2); have H32 := Lib.hid (blk_below HI3.out hb2); have H42 := Lib.hid (blk_below Hv.out hb2); have H62 := Lib.hid (blk_below HI6.out hb2); have HC2 := Lib.hid (Kd.C_below HC.out hb2); have HM2 := Lib.hid (HM.out.below HB2.out); clear hD hb2 hmk hp0 hp1 hy0 hy1 hy2 hy3; have hs0 := (blk_cell H32.out 0).trans rfl; have hs1 := (blk_cell H32.out 1).trans rfl; have hs2 := (blk_cell H32.out 2).trans rfl; have hv0 : w2.cell? ⟨w.heap.size + 1, 0, none⟩ = some (.slice A l'.length c) := (blk_cell H42.out 0).trans rfl; have hmo := fun n W => meth_d_off (.agg #[a]) n W; have hmp := fun n W => meth_d_put (.agg #[a]) n W) | (refine ⟨trivial, ?_⟩; gi_at_call 140; refine (CallsIn.inRound lp (callsIn_wide.2 (HD.out.off_eq l' (some m) Hof.out A0 A1 A l0.length c0 l1.length c1 c bm w2 (Below.refl _ _) HC2.out hc (by omega) HM2.out Hwf.out))).mono ?_; rintro e w3 ⟨Am, cm, rfl, hcm, hCm, hb3⟩; have Hb3 := Lib.hid hb3; have H63 := Lib.hid (blk_below H62.out hb3); have H33 := Lib.hid (blk_below H32.out hb3); have H43 := Lib.hid (blk_below H42.out hb3); have HCm := Lib.hid hCm; have HC3 := Lib.hid (Kd.C_below HC2.out hb3); have HM3 := Lib.hid (HM2.out.below hb3); clear hb3 hCm hs0 hs1 hs2 hv0; have hs0 := (blk_cell H33.out 0).trans rfl; have hs1 := (blk_cell H33.out 1).trans rfl; have hs2 := (blk_cell H33.out 2).trans rfl; have hv0 : w3.cell? ⟨w.heap.size + 1, 0, none⟩ = some (.slice A l'.length c) := (blk_cell H43.out 0).trans rfl) | (refine ⟨trivial, ?_⟩; gi_at_call 141; refine (CallsIn.inRound lp (callsIn_wide.2 (HD.out.put_eq m q e0 Hqe.out A0 A1 Am l0.length c0 l1.length c1 cm bm w3 Hb3.out HCm.out hcm (by omega) HM3.out Hmw.out))).mono ?_; rintro e w4 ⟨v4, rfl, hR4, hb4⟩; have Hb4 := Lib.hid (below_step Hb3.out hb4); have H64 := Lib.hid (blk_below H63.out hb4); have H44 := Lib.hid (blk_below H43.out hb4); have H34 := Lib.hid (blk_below H33.out hb4); have HCm4 := Lib.hid (Kd.C_below HCm.out hb4); have HC4 := Lib.hid (Kd.C_below HC3.out hb4); obtain ⟨A4, c4, rfl, hc4, hC4⟩ := Kd.R_reads hR4; have HR4 := Lib.hid hC4; clear hb4 hR4 hC4 hs0 hs1 hs2 hv0; have hz6 : w4.cell? ⟨w.heap.size + 1 + 1, 0, none⟩ = some (.slice none 0 0) := (blk_cell H64.out 0).trans rfl; have hzf : w4.frozen? ⟨w.heap.size + 1 + 1, 0, none⟩ = false := blk_frozen H64.out 0; have hzg : w4.frozen? ⟨w.heap.size + 1, 0, none⟩ = false := blk_frozen H44.out 0; have hv0 : w4.cell? ⟨w.heap.size + 1, 0, none⟩ = some (.slice A l'.length c) := (blk_cell H44.out 0).trans rfl))
           refine ⟨trivial, ?_⟩
           gi_wp2
           exact ⟨(keepsFrom_below (below_step HW2.out Hb4.out)).trans ((KeepsOthers.setCell _ _ _).from _), rfl, Hno.out, blk_put (cs := #[.slice none 0 0]) H64.out 0 _ rfl, below_set (below_step HB2.out Hb4.out) (by omega)⟩
  case done =>
    rintro D ys W hD rfl ⟨⟨v, l', hv, hV, ho, hln, hlm⟩, hI3, hI6, hB, hlt⟩ hK
    have hpe : p = some l' := Hall.out.symm.trans ho
    obtain ⟨A, c, rfl, hc, hC⟩ := hV
    have hcv := conv_runes (c := c) hC
    have hv0 : W.cell? ⟨w.heap.size + 1, 0, none⟩ = some (.slice A l'.length c) := (blk_cell hv 0).trans rfl
    have hz6 : ∀ o, (W.alloc o).cell? ⟨w.heap.size + 1 + 1, 0, none⟩ = some (.slice none 0 0) := fun o => (blk_cell (blk_alloc hI6 o) 0).trans rfl
    have hzf : ∀ o, (W.alloc o).frozen? ⟨w.heap.size + 1 + 1, 0, none⟩ = false := fun o => blk_frozen (blk_alloc hI6 o) 0
    have Hpe := Lib.hid hpe
    have HI6 := Lib.hid hI6
    have HB := Lib.hid hB
    have HK := Lib.hid hK
    have Hlt := Lib.hid hlt
    clear hpe hC hv hI3 hI6 hB hK hlt
    gi_wp2
    have hK' : ((W.alloc (.cells #[.string (runesBytes l')] 9)).setCell ⟨w.heap.size + 1 + 1, 0, none⟩ (.slice (some ⟨W.heap.size, 0, none⟩) 1 1)).heap[D]? = some (.deferred (some [])) := (Below.heap_setCell _ ⟨w.heap.size + 1 + 1, 0, none⟩ _ D (by show D ≠ w.heap.size + 1 + 1; omega)).trans (blk_alloc HK.out _)
    refine ⟨by simp, .inl ⟨_, _, rfl, run_takeDeferred hK', ?_⟩⟩
    have hb6 := blk_kept' (blk_put (blk_alloc HI6.out (.cells #[.string (runesBytes l')] 9)) 0 (.slice (some ⟨W.heap.size, 0, none⟩) 1 1) rfl) (grownBy_putObj' _ D (.deferred none)) (fun r e => by cases e; exact ⟨_, hK', rfl⟩)
    have hc5 := (blk_cell hb6 0).trans rfl
    have hb9 := blk_kept' ((Below.heap_setCell _ ⟨w.heap.size + 1 + 1, 0, none⟩ (.slice (some ⟨W.heap.size, 0, none⟩) 1 1) W.heap.size (by show W.heap.size ≠ w.heap.size + 1 + 1; have := Hlt.out; omega)).trans (blk_new W (.cells #[.string (runesBytes l')] 9))) (grownBy_putObj' _ D (.deferred none)) (fun r e => by cases e; exact ⟨_, hK', rfl⟩)
    have hbl : Below w.heap.size w ((W.alloc (.cells #[.string (runesBytes l')] 9)).setCell ⟨w.heap.size + 1 + 1, 0, none⟩ (.slice (some ⟨W.heap.size, 0, none⟩) 1 1)) := below_set (HB.out.alloc HB.out.size _) (by omega)
    refine ⟨.slice (some ⟨W.heap.size, 0, none⟩) 1 1, ?_, _, rfl, ?_, hbl.trans (belowK_b (w := w) (Nat.le_refl _) _ D _ _ (by omega) hK' rfl rfl)⟩
    · simp [results, Tryd.f44, go_sem, hc5]
    · rw [Hpe.out]
      exact oneString_R _ w _ W.heap.size hb9 HB.out.size
  case stop =>
    rintro D c pre W hD ⟨k, hk, rfl⟩ ⟨rfl, ho, hI6, hB⟩ hK
    have hpe : p = none := Hpart.out k ho
    gi_wp2
    refine ⟨by simp, .inl ⟨_, _, rfl, run_takeDeferred hK, ?_⟩⟩
    have hb6 := blk_kept' hI6 (grownBy_putObj' _ D (.deferred none)) (fun r e => by cases e; exact ⟨_, hK, rfl⟩)
    have hc5 : (W.putObj D (.deferred none)).cell? ⟨w.heap.size + 1 + 1, 0, none⟩ = some (.slice none 0 0) := (blk_cell hb6 0).trans rfl
    refine ⟨.slice none 0 0, ?_, _, rfl, ?_, hB.trans (belowK_b (w := w) (Nat.le_refl _) _ D _ _ (by omega) hK rfl rfl)⟩
    · simp [results, Tryd.f44, go_sem, hc5]
    · rw [hpe]
      exact Kd.R_nil _ _ _ _ _
end Go.Proofs.YthmjheclhcdinaaDoor.Ext
end
section
/-
  paradigm.Off, Stems by walks.
-/
set_option linter.unusedSimpArgs false
set_option linter.unusedVariables false
namespace Go.Proofs.YthmjheclhcdinaaDoor.Ext
open Go.RowKit Go.Maps Go.Proofs.YthmjheclhcdinaaDoor Go.Proofs.YthmjheclhcdinaaDoorW.PrintWords Go.Proofs.YthmjheclhcdinaaDoorW.PrintLast Go.Proofs.YthmjheclhcdinaaDoorW.PrintMore
set_option maxHeartbeats 1500000 in
set_option maxRecDepth 100000 in
theorem Off_no (A0 A1 : Option Addr) (c0 c1 : Nat) (l0 : List ByteArray) (l1 : List Letter) (v : Int) (s : ByteArray) (x : Affix) (w : World) (hF : Kd.C Kd.string w A0 l0.length l0) (hcF : l0.length ≤ c0) (hL : Kd.C kLetter w A1 l1.length l1) (hcL : l1.length ≤ c1) (hT : Tabs w) (h1 : (x.f1.size : Int) ≤ 140737488351232) (h2 : (x.f2.size : Int) ≤ 140737488351232) (er : Int) (her : oneE l0 l1 v s x = er) (hne : er ≠ 0) :
    Calls Tryd.prog 23 #[.agg #[.slice A0 l0.length c0, .slice A1 l1.length c1], .int .u32 v, .string s, .agg #[.int .u8 x.f0, .string x.f1, .string x.f2, .int .i64 x.f3]] w fun e w' => ∃ v', e = .returned (.tuple #[v', .int .i64 er]) ∧ Kd.R Kd.string 9 w' w.heap.size (fun _ => True) v' [] ∧ Below w.heap.size w w' := by
  have HB0 := boxes2 w (.cells #[.slice A0 l0.length c0, .slice A1 l1.length c1] 25) (.cells #[.int .u8 x.f0, .string x.f1, .string x.f2, .int .i64 x.f3] 49)
  have HB := Lib.hid HB0.1
  have BA := Lib.hid HB0.2.1
  have BX := Lib.hid HB0.2.2
  clear HB0
  have hst := fun W (hb : Below w.heap.size w W) => one.calls A0 A1 c0 c1 l0 l1 v s x W (Kd.C_below hF hb) hcF (Kd.C_below hL hb) hcL (hT.below hb) h1 h2
  rw [her] at hst
  have hneb : (er != 0) = true := bne_iff_ne.mpr hne
  have Hne := Lib.hid hne
  clear her hne hF hL hT
  go_enter Tryd.func23, Tryd.ntmps23
  go_wp2_with (go_at_call 42; refine (hst _ HB.out).mono ?_; rintro e w1 ⟨hb, _, hno⟩; obtain ⟨q1, q2, q3, q4, q5, q6, q7, lv, rfl⟩ := hno Hne.out; have HB1 := Lib.hid (below_step HB.out hb); clear hb hst hno)
  go_ret2
  exact ⟨_, rfl, Kd.R_nil _ _ _ _ _, HB1.out.alloc HB1.out.size _⟩
set_option maxHeartbeats 1500000 in
set_option maxRecDepth 100000 in
theorem Off_ok (A0 A1 : Option Addr) (c0 c1 : Nat) (l0 : List ByteArray) (l1 : List Letter) (v : Int) (s : ByteArray) (x : Affix) (w : World) (hF : Kd.C Kd.string w A0 l0.length l0) (hcF : l0.length ≤ c0) (hL : Kd.C kLetter w A1 l1.length l1) (hcL : l1.length ≤ c1) (hT : Tabs w) (h1 : (x.f1.size : Int) ≤ 140737488351232) (h2 : (x.f2.size : Int) ≤ 140737488351232) (her : oneE l0 l1 v s x = 0) :
    Calls Tryd.prog 23 #[.agg #[.slice A0 l0.length c0, .slice A1 l1.length c1], .int .u32 v, .string s, .agg #[.int .u8 x.f0, .string x.f1, .string x.f2, .int .i64 x.f3]] w fun e w' => ∃ v', e = .returned (.tuple #[v', .int .i64 0]) ∧ Kd.R Kd.string 9 w' w.heap.size (fun _ => True) v' (oneText (offC (kindsOf l1) (classOf l0 l1 v 0).1 ([affOf x]).reverse (lettersOf l0 l1 s).1)) ∧ Below w.heap.size w w' := by
  have HB0 := boxes2 w (.cells #[.slice A0 l0.length c0, .slice A1 l1.length c1] 25) (.cells #[.int .u8 x.f0, .string x.f1, .string x.f2, .int .i64 x.f3] 49)
  have HB := Lib.hid HB0.1
  have BA := Lib.hid HB0.2.1
  have BX := Lib.hid HB0.2.2
  clear HB0
  have hst := fun W (hb : Below w.heap.size w W) => one.calls A0 A1 c0 c1 l0 l1 v s x W (Kd.C_below hF hb) hcF (Kd.C_below hL hb) hcL (hT.below hb) h1 h2
  rw [her] at hst
  obtain ⟨hcl, hle, hok⟩ := oneE_zero her
  have hck := classOf_chk hcl
  have hlo := letters_ok (l0 := l0) (l1 := l1) (s := s) (l := (lettersOf l0 l1 s).1) (by have := letters_size hle; omega) (by rw [← hle])
  have hfin : ∀ bm Al cl W, Below w.heap.size w W → ConsAt W bm (consB (kindsOf l1) (classOf l0 l1 v 0).1) → Kd.C (Kd.int .i32) W Al (lettersOf l0 l1 s).1.length (lettersOf l0 l1 s).1 → (lettersOf l0 l1 s).1.length ≤ cl → ∀ Ax, Kd.C kAffix W Ax [x].length [x] → Calls Tryd.prog 44 #[SV (.slice A0 l0.length c0) (.slice A1 l1.length c1) (.map (some bm)), .slice Al (lettersOf l0 l1 s).1.length cl, .slice Ax 1 1] W fun e w' => ∃ v9, e = .returned v9 ∧ Kd.R Kd.string 9 w' W.heap.size (fun _ => True) v9 (oneText (offC (kindsOf l1) (classOf l0 l1 v 0).1 [affOf x] (lettersOf l0 l1 s).1)) ∧ Below W.heap.size W w' :=
    fun bm Al cl W (hb : Below w.heap.size w W) (hM : ConsAt W bm (consB (kindsOf l1) (classOf l0 l1 v 0).1)) (hl : Kd.C (Kd.int .i32) W Al (lettersOf l0 l1 s).1.length (lettersOf l0 l1 s).1) (hcl' : (lettersOf l0 l1 s).1.length ≤ cl) Ax (hX : Kd.C kAffix W Ax [x].length [x]) => stemmed_off.calls A0 A1 c0 c1 l0 l1 (classOf l0 l1 v 0).1 bm Al cl (lettersOf l0 l1 s).1 Ax 1 [x] W (Kd.C_below hF hb) hcF (Kd.C_below hL hb) hcL (hT.below hb) hM hl hcl' hX (Nat.le_refl _) (fun y hy => by simp at hy; subst hy; exact hok) hlo.2.2.2.1 hck (by omega) (by simp)
  obtain ⟨l, hl⟩ : ∃ l, l = (lettersOf l0 l1 s).1 := ⟨_, rfl⟩
  obtain ⟨cls, hcls⟩ : ∃ cls, cls = (classOf l0 l1 v 0).1 := ⟨_, rfl⟩
  have hst2 : ∀ W, Below w.heap.size w W → Calls Tryd.prog 42 #[.agg #[.slice A0 l0.length c0, .slice A1 l1.length c1], .int .u32 v, .string s, .agg #[.int .u8 x.f0, .string x.f1, .string x.f2, .int .i64 x.f3]] W fun e w' => Below W.heap.size W w' ∧ ∃ bm A c, e = .returned (.tuple #[SV (.slice A0 l0.length c0) (.slice A1 l1.length c1) (.map (some bm)), .slice A l.length c, .int .i64 0]) ∧ l.length ≤ c ∧ Kd.C (Kd.int .i32) w' A l.length l ∧ ConsAt w' bm (consB (kindsOf l1) cls) := by
    intro W hb
    refine (hst W hb).mono ?_
    rintro e w1 ⟨hb1, hyes, _⟩
    rw [hl, hcls]
    exact ⟨hb1, hyes rfl⟩
  rw [← hl, ← hcls] at hfin ⊢
  clear hst hl hcls hcl hle hck hlo her hF hL hT hok
  go_enter Tryd.func23, Tryd.ntmps23
  go_upto_region 2 with (go_at_call 42; refine (hst2 _ HB.out).mono ?_; rintro e w1 ⟨hb, bm, Al, cl, rfl, hcl, hC1, hM1⟩; have HC := Lib.hid hC1; have HM := Lib.hid hM1; have HB' := Lib.hid (below_step HB.out hb); have BA' := Lib.hid (blk_below BA.out hb); have BX' := Lib.hid (blk_below BX.out hb); clear HB BA BX; have HB := HB'; have BA := BA'; have BX := BX'; clear HB' BA' BX'; (try clear ha0); (try clear ha1); (try clear hx0); (try clear hx1); (try clear hx2); (try clear hx3); have ha0 := (blk_cell BA.out 0).trans rfl; have ha1 := (blk_cell BA.out 1).trans rfl; have hx0 := (blk_cell BX.out 0).trans rfl; have hx1 := (blk_cell BX.out 1).trans rfl; have hx2 := (blk_cell BX.out 2).trans rfl; have hx3 := (blk_cell BX.out 3).trans rfl; clear hb hC1 hM1 hst2)
  have BS := Lib.hid (blk_new w1 (.cells #[.slice A0 l0.length c0, .slice A1 l1.length c1, .map (some bm)] 94))
  have hb := B_alloc w1 (.cells #[.slice A0 l0.length c0, .slice A1 l1.length c1, .map (some bm)] 94)
  have HB' := Lib.hid (below_step HB.out hb)
  have BA' := Lib.hid (blk_below BA.out hb)
  have BX' := Lib.hid (blk_below BX.out hb)
  have HM' := Lib.hid (ConsAt.below HM.out hb)
  have HC' := Lib.hid (Kd.C_below HC.out hb)
  clear HB BA BX HM HC
  have HB := HB'
  have BA := BA'
  have BX := BX'
  have HM := HM'
  have HC := HC'
  clear HB' BA' BX' HM' HC'
  (try clear ha0)
  (try clear ha1)
  (try clear hx0)
  (try clear hx1)
  (try clear hx2)
  (try clear hx3)
  have ha0 := (blk_cell BA.out 0).trans rfl
  have ha1 := (blk_cell BA.out 1).trans rfl
  have hx0 := (blk_cell BX.out 0).trans rfl
  have hx1 := (blk_cell BX.out 1).trans rfl
  have hx2 := (blk_cell BX.out 2).trans rfl
  have hx3 := (blk_cell BX.out 3).trans rfl
  clear hb
  have hs0 := (blk_cell BS.out 0).trans rfl
  have hs1 := (blk_cell BS.out 1).trans rfl
  have hs2 := (blk_cell BS.out 2).trans rfl
  obtain ⟨wx, hwx⟩ : ∃ wx, wx = w1.alloc (.cells #[.slice A0 l0.length c0, .slice A1 l1.length c1, .map (some bm)] 94) := ⟨_, rfl⟩
  rw [← hwx] at HB BA BX BS HM HC ha0 ha1 hx0 hx1 hx2 hx3 hs0 hs1 hs2 ⊢
  clear hwx
  go_wp2_with (go_at_call 44; ((with_reducible refine (hfin bm Al cl (wx.alloc (.cells #[.int .u8 x.f0, .string x.f1, .string x.f2, .int .i64 x.f3] 49)) (HB.out.alloc HB.out.size _) (HM.out.below (B_alloc _ _)) (C_alloc HC.out _) hcl (some ⟨wx.heap.size, 0, none⟩) (affix1_C x (blk_new _ _))).mono ?_); rintro e w9 ⟨v9, rfl, hR9, hb9⟩))
  go_ret2
  exact ⟨_, rfl, Kd.R_lower hR9 (by have := HB.out.size; simp at this ⊢; omega), below_step (HB.out.alloc HB.out.size _) hb9⟩
set_option maxHeartbeats 1500000 in
set_option maxRecDepth 100000 in
theorem Stems_no (A0 A1 : Option Addr) (c0 c1 : Nat) (l0 : List ByteArray) (l1 : List Letter) (v : Int) (s : ByteArray) (n : ByteArray) (Ac : Option Addr) (cc : Nat) (C : List Cell) (i : Int) (w : World) (hF : Kd.C Kd.string w A0 l0.length l0) (hcF : l0.length ≤ c0) (hL : Kd.C kLetter w A1 l1.length l1) (hcL : l1.length ≤ c1) (hT : Tabs w) (hC : Kd.C kCell w Ac C.length C) (hcC : C.length ≤ cc) (hs : sizedC C) (hns : n.size ≤ 140737488351232) (er : Int) (her : cellE l0 l1 v n C i s = er) (hne : er ≠ 0) :
    Calls Tryd.prog 25 #[.agg #[.slice A0 l0.length c0, .slice A1 l1.length c1], .int .u32 v, .agg #[.string n, .slice Ac C.length cc], .int .i64 i, .string s] w fun e w' => ∃ v', e = .returned (.tuple #[v', .int .i64 er]) ∧ Kd.R Kd.string 9 w' w.heap.size (fun _ => True) v' [] ∧ Below w.heap.size w w' := by
  have HB0 := boxes2 w (.cells #[.slice A0 l0.length c0, .slice A1 l1.length c1] 25) (.cells #[.string n, .slice Ac C.length cc] 45)
  have HB := Lib.hid HB0.1
  have BA := Lib.hid HB0.2.1
  have BX := Lib.hid HB0.2.2
  clear HB0
  have hst := fun W (hb : Below w.heap.size w W) => cell.calls A0 A1 c0 c1 l0 l1 v s n Ac cc C i W (Kd.C_below hF hb) hcF (Kd.C_below hL hb) hcL (hT.below hb) (Kd.C_below hC hb) hcC hs hns
  rw [her] at hst
  have hneb : (er != 0) = true := bne_iff_ne.mpr hne
  have Hne := Lib.hid hne
  clear her hne hF hL hT
  clear hC
  go_enter Tryd.func25, Tryd.ntmps25
  go_wp2_with (go_at_call 45; refine (hst _ HB.out).mono ?_; rintro e w1 ⟨hb, _, hno⟩; obtain ⟨q1, q2, q3, q4, q5, q6, q7, lv, rfl⟩ := hno Hne.out; have HB1 := Lib.hid (below_step HB.out hb); clear hb hst hno)
  go_ret2
  exact ⟨_, rfl, Kd.R_nil _ _ _ _ _, HB1.out.alloc HB1.out.size _⟩
set_option maxHeartbeats 1500000 in
set_option maxRecDepth 100000 in
theorem Stems_ok (A0 A1 : Option Addr) (c0 c1 : Nat) (l0 : List ByteArray) (l1 : List Letter) (v : Int) (s : ByteArray) (n : ByteArray) (Ac : Option Addr) (cc : Nat) (C : List Cell) (i : Int) (w : World) (hF : Kd.C Kd.string w A0 l0.length l0) (hcF : l0.length ≤ c0) (hL : Kd.C kLetter w A1 l1.length l1) (hcL : l1.length ≤ c1) (hT : Tabs w) (hC : Kd.C kCell w Ac C.length C) (hcC : C.length ≤ cc) (hs : sizedC C) (hns : n.size ≤ 140737488351232) (her : cellE l0 l1 v n C i s = 0) :
    Calls Tryd.prog 25 #[.agg #[.slice A0 l0.length c0, .slice A1 l1.length c1], .int .u32 v, .agg #[.string n, .slice Ac C.length cc], .int .i64 i, .string s] w fun e w' => ∃ v', e = .returned (.tuple #[v', .int .i64 0]) ∧ Kd.R Kd.string 9 w' w.heap.size (fun _ => True) v' (oneText (offC (kindsOf l1) (classOf l0 l1 v 0).1 ((C.getD i.toNat ⟨0, []⟩).f1.map affOf).reverse (lettersOf l0 l1 s).1)) ∧ Below w.heap.size w w' := by
  have HB0 := boxes2 w (.cells #[.slice A0 l0.length c0, .slice A1 l1.length c1] 25) (.cells #[.string n, .slice Ac C.length cc] 45)
  have HB := Lib.hid HB0.1
  have BA := Lib.hid HB0.2.1
  have BX := Lib.hid HB0.2.2
  clear HB0
  have hst := fun W (hb : Below w.heap.size w W) => cell.calls A0 A1 c0 c1 l0 l1 v s n Ac cc C i W (Kd.C_below hF hb) hcF (Kd.C_below hL hb) hcL (hT.below hb) (Kd.C_below hC hb) hcC hs hns
  rw [her] at hst
  obtain ⟨hcl, hch, hi0, hi1, hle⟩ := cellE_zero her
  have hck := classOf_chk hcl
  obtain ⟨k, rfl⟩ : ∃ k : Nat, i = k := ⟨i.toNat, by omega⟩
  have hlt : k < C.length := by omega
  have hget : C.getD k ⟨0, []⟩ = C[k] := by simp [List.getD_eq_getElem?_getD, List.getElem?_eq_getElem hlt]
  simp only [Int.toNat_natCast] at *
  rw [hget]
  have hcok : C[k].f1.length ≤ 8 ∧ ∀ y ∈ C[k].f1, affOk l0 l1 y = true := chkP_cell hck hch hlt
  have hlo := letters_ok (l0 := l0) (l1 := l1) (s := s) (l := (lettersOf l0 l1 s).1) (by have := letters_size hle; omega) (by rw [← hle])
  have hfin := fun bm Al cl W (hb : Below w.heap.size w W) (hM : ConsAt W bm (consB (kindsOf l1) (classOf l0 l1 v 0).1)) (hl : Kd.C (Kd.int .i32) W Al (lettersOf l0 l1 s).1.length (lettersOf l0 l1 s).1) (hcl' : (lettersOf l0 l1 s).1.length ≤ cl) Ax cx (hX : Kd.C kAffix W Ax C[k].f1.length C[k].f1) (hcx : C[k].f1.length ≤ cx) => stemmed_off.calls A0 A1 c0 c1 l0 l1 (classOf l0 l1 v 0).1 bm Al cl (lettersOf l0 l1 s).1 Ax cx C[k].f1 W (Kd.C_below hF hb) hcF (Kd.C_below hL hb) hcL (hT.below hb) hM hl hcl' hX hcx hcok.2 hlo.2.2.2.1 hck (by omega) (by omega)
  have HC0 := Lib.hid hC
  obtain ⟨l, hl⟩ : ∃ l, l = (lettersOf l0 l1 s).1 := ⟨_, rfl⟩
  obtain ⟨cls, hcls⟩ : ∃ cls, cls = (classOf l0 l1 v 0).1 := ⟨_, rfl⟩
  have hst2 : ∀ W, Below w.heap.size w W → Calls Tryd.prog 45 #[.agg #[.slice A0 l0.length c0, .slice A1 l1.length c1], .int .u32 v, .agg #[.string n, .slice Ac C.length cc], .int .i64 (k : Int), .string s] W fun e w' => Below W.heap.size W w' ∧ ∃ bm A c, e = .returned (.tuple #[SV (.slice A0 l0.length c0) (.slice A1 l1.length c1) (.map (some bm)), .slice A l.length c, .int .i64 0]) ∧ l.length ≤ c ∧ Kd.C (Kd.int .i32) w' A l.length l ∧ ConsAt w' bm (consB (kindsOf l1) cls) := by
    intro W hb
    refine (hst W hb).mono ?_
    rintro e w1 ⟨hb1, hyes, _⟩
    rw [hl, hcls]
    exact ⟨hb1, hyes rfl⟩
  rw [← hl, ← hcls] at hfin ⊢
  clear hst hl hcls hcl hle hck hlo her hF hL hT hch hcok hget hC hi0 hi1
  obtain ⟨X, hXX⟩ : ∃ X, X = C[k].f1 := ⟨_, rfl⟩
  rw [← hXX] at hfin ⊢
  have HXX := Lib.hid hXX
  clear hXX
  go_enter Tryd.func25, Tryd.ntmps25
  go_upto_region 2 with (go_at_call 45; refine (hst2 _ HB.out).mono ?_; rintro e w1 ⟨hb, bm, Al, cl, rfl, hcl, hC1, hM1⟩; have HC := Lib.hid hC1; have HM := Lib.hid hM1; have HB' := Lib.hid (below_step HB.out hb); have BA' := Lib.hid (blk_below BA.out hb); have BX' := Lib.hid (blk_below BX.out hb); clear HB BA BX; have HB := HB'; have BA := BA'; have BX := BX'; clear HB' BA' BX'; (try clear ha0); (try clear ha1); (try clear hx0); (try clear hx1); have ha0 := (blk_cell BA.out 0).trans rfl; have ha1 := (blk_cell BA.out 1).trans rfl; have hx0 := (blk_cell BX.out 0).trans rfl; have hx1 := (blk_cell BX.out 1).trans rfl; clear hb hC1 hM1 hst2)
  have BS := Lib.hid (blk_new w1 (.cells #[.slice A0 l0.length c0, .slice A1 l1.length c1, .map (some bm)] 94))
  have hb := B_alloc w1 (.cells #[.slice A0 l0.length c0, .slice A1 l1.length c1, .map (some bm)] 94)
  have HB' := Lib.hid (below_step HB.out hb)
  have BA' := Lib.hid (blk_below BA.out hb)
  have BX' := Lib.hid (blk_below BX.out hb)
  have HM' := Lib.hid (ConsAt.below HM.out hb)
  have HC' := Lib.hid (Kd.C_below HC.out hb)
  clear HB BA BX HM HC
  have HB := HB'
  have BA := BA'
  have BX := BX'
  have HM := HM'
  have HC := HC'
  clear HB' BA' BX' HM' HC'
  (try clear ha0)
  (try clear ha1)
  (try clear hx0)
  (try clear hx1)
  have ha0 := (blk_cell BA.out 0).trans rfl
  have ha1 := (blk_cell BA.out 1).trans rfl
  have hx0 := (blk_cell BX.out 0).trans rfl
  have hx1 := (blk_cell BX.out 1).trans rfl
  clear hb
  have hs0 := (blk_cell BS.out 0).trans rfl
  have hs1 := (blk_cell BS.out 1).trans rfl
  have hs2 := (blk_cell BS.out 2).trans rfl
  obtain ⟨wx, hwx⟩ : ∃ wx, wx = w1.alloc (.cells #[.slice A0 l0.length c0, .slice A1 l1.length c1, .map (some bm)] 94) := ⟨_, rfl⟩
  rw [← hwx] at HB BA BX BS HM HC ha0 ha1 hx0 hx1 hs0 hs1 hs2 ⊢
  obtain ⟨ad, Ax, cx, hA, hy0, hy1, hcx, hX⟩ := at_T56 (Kd.C_below HC0.out HB.out) (k : Int) (by omega) (by omega)
  subst hA
  rw [Int.toNat_natCast] at hy0 hy1
  rw [rdC C k hlt] at hy0 hy1 hcx hX
  rw [← HXX.out] at hy1 hcx hX
  have HX := Lib.hid hX
  have hk0 : (0 : Int) ≤ (k : Int) := by omega
  have hk1 : (k : Int) < (C.length : Int) := by omega
  clear hwx hX hy0
  go_upto_region 4 with (fail)
  have HBw := Lib.hid HB.out
  go_region_held3 (fun w' => w'.cell? ⟨w1.heap.size, 0, none⟩ = some (.slice A0 l0.length c0) ∧ w'.cell? ⟨w1.heap.size, 1, none⟩ = some (.slice A1 l1.length c1) ∧ w'.cell? ⟨w1.heap.size, 2, none⟩ = some (.map (some bm)) ∧ w'.cell? ⟨w.heap.size + 1, 1, none⟩ = some (.slice (some ad) C.length cc) ∧ w'.cell? ⟨(ad.add (k * 2)).block, (ad.add (k * 2)).off + 1, none⟩ = some (.slice Ax X.length cx)) (go_keep) (first | (go_at_call 44; refine (hfin bm Al cl _ (below_drew1 HB.out) (HM.out.below (below_drew1 (Below.refl _ _))) (Kd.C_below HC.out (below_drew1 (Below.refl _ _))) hcl _ _ (Kd.C_below HX.out (below_drew1 (Below.refl _ _))) hcx).mono ?_; rintro e w9 ⟨v9, rfl, hR9, hb9⟩; have hk2 := (hb9.cell (p := ⟨w1.heap.size, 0, none⟩) (show _ < wx.heap.size from blk_lt BS.out)).trans hs0; have hk3 := (hb9.cell (p := ⟨w1.heap.size, 1, none⟩) (show _ < wx.heap.size from blk_lt BS.out)).trans hs1; have hk4 := (hb9.cell (p := ⟨w1.heap.size, 2, none⟩) (show _ < wx.heap.size from blk_lt BS.out)).trans hs2; have hk5 := (hb9.cell (p := ⟨w.heap.size + 1, 1, none⟩) (show _ < wx.heap.size from blk_lt BX.out)).trans hx1; have hk6 := (hb9.cell (p := ⟨(ad.add (k * 2)).block, (ad.add (k * 2)).off + 1, none⟩) (show _ < wx.heap.size from World.block_lt_of_cell? wx _ hy1)).trans hy1))
  go_wp2_with fail
  go_ret2
  exact ⟨_, rfl, Kd.R_lower hR9 HBw.out.size, below_step (below_drew1 HBw.out) hb9⟩
end Go.Proofs.YthmjheclhcdinaaDoor.Ext
end
section
/-
  paradigm.Put, Off, Form, Stems, Check: contracts as the print wants them.
-/
set_option linter.unusedSimpArgs false
set_option linter.unusedVariables false
namespace Go.Proofs.YthmjheclhcdinaaDoor.Ext
open Go.RowKit Go.Maps Go.Proofs.YthmjheclhcdinaaDoor Go.Proofs.YthmjheclhcdinaaDoorW.PrintWords Go.Proofs.YthmjheclhcdinaaDoorW.PrintLast Go.Proofs.YthmjheclhcdinaaDoorW.PrintMore
theorem putC_one (ks cls : List Int) (x : Aff) (l : List Int) : toText (putC ks cls [x] l) = toText (capped (putL ks cls x l)) := by
  simp only [putC]
  split
  · rename_i h
    unfold toText
    rw [if_pos rfl, if_pos h]
  · rename_i h
    unfold toText
    rw [if_neg h, if_neg h]
theorem offC_one (ks cls : List Int) (x : Aff) (l : List Int) : offC ks cls [x].reverse l = takenL ks cls x l := by
  simp only [List.reverse_cons, List.reverse_nil, List.nil_append, offC]
  cases takenL ks cls x l <;> rfl
theorem putS_err {l0 : List ByteArray} {l1 : List Letter} {v : Int} {s : ByteArray} {x : Affix} (h : oneE l0 l1 v s x ≠ 0) : putS l0 l1 v s x = (noB, oneE l0 l1 v s x) := by
  unfold putS oneE at *
  by_cases h1 : (classOf l0 l1 v 0).2 = 0
  · rw [if_pos h1] at h ⊢
    rw [if_pos h1]
    by_cases h2 : (lettersOf l0 l1 s).2 = 0
    · rw [if_pos h2] at h ⊢
      rw [if_pos h2]
      by_cases h3 : affOk l0 l1 x = true
      · rw [if_pos h3] at h
        exact absurd rfl h
      · rw [if_neg h3, if_neg h3]
    · rw [if_neg h2, if_neg h2]
  · rw [if_neg h1, if_neg h1]
theorem offS_err {l0 : List ByteArray} {l1 : List Letter} {v : Int} {s : ByteArray} {x : Affix} (h : oneE l0 l1 v s x ≠ 0) : offS l0 l1 v s x = ([], oneE l0 l1 v s x) := by
  unfold offS oneE at *
  by_cases h1 : (classOf l0 l1 v 0).2 = 0
  · rw [if_pos h1] at h ⊢
    rw [if_pos h1]
    by_cases h2 : (lettersOf l0 l1 s).2 = 0
    · rw [if_pos h2] at h ⊢
      rw [if_pos h2]
      by_cases h3 : affOk l0 l1 x = true
      · rw [if_pos h3] at h
        exact absurd rfl h
      · rw [if_neg h3, if_neg h3]
    · rw [if_neg h2, if_neg h2]
  · rw [if_neg h1, if_neg h1]
theorem putS_yes {l0 : List ByteArray} {l1 : List Letter} {v : Int} {s : ByteArray} {x : Affix} (h : oneE l0 l1 v s x = 0) : putS l0 l1 v s x = toText (putC (kindsOf l1) (classOf l0 l1 v 0).1 [affOf x] (lettersOf l0 l1 s).1) := by
  obtain ⟨h1, h2, h3⟩ := oneE_zero h
  unfold putS
  rw [if_pos h1, if_pos h2, if_pos h3, putC_one]
theorem offS_yes {l0 : List ByteArray} {l1 : List Letter} {v : Int} {s : ByteArray} {x : Affix} (h : oneE l0 l1 v s x = 0) : offS l0 l1 v s x = (oneText (offC (kindsOf l1) (classOf l0 l1 v 0).1 [affOf x].reverse (lettersOf l0 l1 s).1), 0) := by
  obtain ⟨h1, h2, h3⟩ := oneE_zero h
  unfold offS
  rw [if_pos h1, if_pos h2, if_pos h3, offC_one]
def cellAffs (C : List Cell) (i : Int) : List Aff := (C.getD i.toNat ⟨0, []⟩).f1.map affOf
def formP (l0 : List ByteArray) (l1 : List Letter) (v : Int) (n : ByteArray) (C : List Cell) (i : Int) (s : ByteArray) : ByteArray × Int :=
  if cellE l0 l1 v n C i s = 0 then toText (putC (kindsOf l1) (classOf l0 l1 v 0).1 (cellAffs C i) (lettersOf l0 l1 s).1) else (noB, cellE l0 l1 v n C i s)
def stemsP (l0 : List ByteArray) (l1 : List Letter) (v : Int) (n : ByteArray) (C : List Cell) (i : Int) (s : ByteArray) : List ByteArray × Int :=
  if cellE l0 l1 v n C i s = 0 then (oneText (offC (kindsOf l1) (classOf l0 l1 v 0).1 (cellAffs C i).reverse (lettersOf l0 l1 s).1), 0) else ([], cellE l0 l1 v n C i s)
def sizedX (f1 f2 : ByteArray) : Prop := (f1.size : Int) ≤ 140737488351232 ∧ (f2.size : Int) ≤ 140737488351232
instance (f1 f2 : ByteArray) : Decidable (sizedX f1 f2) := by unfold sizedX; infer_instance
def sizedP (n : ByteArray) (C : List Cell) : Prop := n.size ≤ 140737488351232 ∧ ∀ c ∈ C, ∀ x ∈ c.f1, sizedX x.f1 x.f2
instance (n : ByteArray) (C : List Cell) : Decidable (sizedP n C) := by unfold sizedP; infer_instance
def paradigm_Put.f (l0 : List ByteArray) (l1 : List Letter) (v : Int) (s : ByteArray) (k : Int) (f1 f2 : ByteArray) (p : Int) : Option (ByteArray × Int) := if sizedX f1 f2 then some (putS l0 l1 v s ⟨k, f1, f2, p⟩) else none
def paradigm_Off.f (l0 : List ByteArray) (l1 : List Letter) (v : Int) (s : ByteArray) (k : Int) (f1 f2 : ByteArray) (p : Int) : Option (List ByteArray × Int) := if sizedX f1 f2 then some (offS l0 l1 v s ⟨k, f1, f2, p⟩) else none
def paradigm_Form.f (l0 : List ByteArray) (l1 : List Letter) (v : Int) (n : ByteArray) (C : List Cell) (i : Int) (s : ByteArray) : Option (ByteArray × Int) := if sizedP n C then some (formP l0 l1 v n C i s) else none
def paradigm_Stems.f (l0 : List ByteArray) (l1 : List Letter) (v : Int) (n : ByteArray) (C : List Cell) (i : Int) (s : ByteArray) : Option (List ByteArray × Int) := if sizedP n C then some (stemsP l0 l1 v n C i s) else none
theorem some_if {p : Prop} [Decidable p] {α : Type} {a r : α} (h : (if p then some a else none) = some r) : p ∧ a = r := by
  by_cases hp : p
  · rw [if_pos hp] at h
    exact ⟨hp, Option.some.inj h⟩
  · rw [if_neg hp] at h
    cases h
theorem paradigm_Put.calls (A0 : Option Addr) (c0 : Nat) (l0 : List ByteArray) (A1 : Option Addr) (c1 : Nat) (l1 : List Letter) (v : Int) (s : ByteArray) (k : Int) (f1 f2 : ByteArray) (p : Int) (r1 : ByteArray) (r2 : Int) (w : World) (hF : Kd.C Kd.string w A0 l0.length l0) (hcF : l0.length ≤ c0) (hL : Kd.C kLetter w A1 l1.length l1) (hcL : l1.length ≤ c1) (hT : Tabs w)
    (h : paradigm_Put.f l0 l1 v s k f1 f2 p = some (r1, r2)) :
    Calls Tryd.prog 22 #[.agg #[.slice A0 l0.length c0, .slice A1 l1.length c1], .int .u32 v, .string s, .agg #[.int .u8 k, .string f1, .string f2, .int .i64 p]] w fun e w' => e = .returned (.tuple #[.string r1, .int .i64 r2]) ∧ Below w.heap.size w w' := by
  obtain ⟨hs, hr⟩ := some_if h
  by_cases he : oneE l0 l1 v s ⟨k, f1, f2, p⟩ = 0
  · rw [putS_yes he] at hr
    refine (Put_ok A0 A1 c0 c1 l0 l1 v s ⟨k, f1, f2, p⟩ w hF hcF hL hcL hT hs.1 hs.2 he).mono ?_
    rintro e w' ⟨rfl, hb⟩
    rw [hr]
    exact ⟨rfl, hb⟩
  · rw [putS_err he] at hr
    obtain ⟨rfl, rfl⟩ := Prod.mk.inj hr
    exact Put_no A0 A1 c0 c1 l0 l1 v s ⟨k, f1, f2, p⟩ w hF hcF hL hcL hT hs.1 hs.2 _ rfl he
theorem paradigm_Off.calls (A0 : Option Addr) (c0 : Nat) (l0 : List ByteArray) (A1 : Option Addr) (c1 : Nat) (l1 : List Letter) (v : Int) (s : ByteArray) (k : Int) (f1 f2 : ByteArray) (p : Int) (r1 : List ByteArray) (r2 : Int) (w : World) (hF : Kd.C Kd.string w A0 l0.length l0) (hcF : l0.length ≤ c0) (hL : Kd.C kLetter w A1 l1.length l1) (hcL : l1.length ≤ c1) (hT : Tabs w)
    (h : paradigm_Off.f l0 l1 v s k f1 f2 p = some (r1, r2)) :
    Calls Tryd.prog 23 #[.agg #[.slice A0 l0.length c0, .slice A1 l1.length c1], .int .u32 v, .string s, .agg #[.int .u8 k, .string f1, .string f2, .int .i64 p]] w fun e w' => ∃ v0 : Value, e = .returned (.tuple #[v0, .int .i64 r2]) ∧ Kd.R Kd.string 9 w' w.heap.size (fun _ => True) v0 r1 ∧ Below w.heap.size w w' := by
  obtain ⟨hs, hr⟩ := some_if h
  by_cases he : oneE l0 l1 v s ⟨k, f1, f2, p⟩ = 0
  · rw [offS_yes he] at hr
    obtain ⟨rfl, rfl⟩ := Prod.mk.inj hr
    exact Off_ok A0 A1 c0 c1 l0 l1 v s ⟨k, f1, f2, p⟩ w hF hcF hL hcL hT hs.1 hs.2 he
  · rw [offS_err he] at hr
    obtain ⟨rfl, rfl⟩ := Prod.mk.inj hr
    exact Off_no A0 A1 c0 c1 l0 l1 v s ⟨k, f1, f2, p⟩ w hF hcF hL hcL hT hs.1 hs.2 _ rfl he
theorem paradigm_Form.calls (A0 : Option Addr) (c0 : Nat) (l0 : List ByteArray) (A1 : Option Addr) (c1 : Nat) (l1 : List Letter) (v : Int) (n : ByteArray) (Ac : Option Addr) (cc : Nat) (C : List Cell) (i : Int) (s : ByteArray) (r1 : ByteArray) (r2 : Int) (w : World) (hF : Kd.C Kd.string w A0 l0.length l0) (hcF : l0.length ≤ c0) (hL : Kd.C kLetter w A1 l1.length l1) (hcL : l1.length ≤ c1) (hC : Kd.C kCell w Ac C.length C) (hcC : C.length ≤ cc) (hT : Tabs w)
    (h : paradigm_Form.f l0 l1 v n C i s = some (r1, r2)) :
    Calls Tryd.prog 24 #[.agg #[.slice A0 l0.length c0, .slice A1 l1.length c1], .int .u32 v, .agg #[.string n, .slice Ac C.length cc], .int .i64 i, .string s] w fun e w' => e = .returned (.tuple #[.string r1, .int .i64 r2]) ∧ Below w.heap.size w w' := by
  obtain ⟨hs, hr⟩ := some_if h
  unfold formP at hr
  by_cases he : cellE l0 l1 v n C i s = 0
  · rw [if_pos he] at hr
    refine (Form_ok A0 A1 c0 c1 l0 l1 v s n Ac cc C i w hF hcF hL hcL hT hC hcC hs.2 hs.1 he).mono ?_
    rintro e w' ⟨rfl, hb⟩
    unfold cellAffs at hr
    rw [hr]
    exact ⟨rfl, hb⟩
  · rw [if_neg he] at hr
    obtain ⟨rfl, rfl⟩ := Prod.mk.inj hr
    exact Form_no A0 A1 c0 c1 l0 l1 v s n Ac cc C i w hF hcF hL hcL hT hC hcC hs.2 hs.1 _ rfl he
theorem paradigm_Stems.calls (A0 : Option Addr) (c0 : Nat) (l0 : List ByteArray) (A1 : Option Addr) (c1 : Nat) (l1 : List Letter) (v : Int) (n : ByteArray) (Ac : Option Addr) (cc : Nat) (C : List Cell) (i : Int) (s : ByteArray) (r1 : List ByteArray) (r2 : Int) (w : World) (hF : Kd.C Kd.string w A0 l0.length l0) (hcF : l0.length ≤ c0) (hL : Kd.C kLetter w A1 l1.length l1) (hcL : l1.length ≤ c1) (hC : Kd.C kCell w Ac C.length C) (hcC : C.length ≤ cc) (hT : Tabs w)
    (h : paradigm_Stems.f l0 l1 v n C i s = some (r1, r2)) :
    Calls Tryd.prog 25 #[.agg #[.slice A0 l0.length c0, .slice A1 l1.length c1], .int .u32 v, .agg #[.string n, .slice Ac C.length cc], .int .i64 i, .string s] w fun e w' => ∃ v0 : Value, e = .returned (.tuple #[v0, .int .i64 r2]) ∧ Kd.R Kd.string 9 w' w.heap.size (fun _ => True) v0 r1 ∧ Below w.heap.size w w' := by
  obtain ⟨hs, hr⟩ := some_if h
  unfold stemsP at hr
  by_cases he : cellE l0 l1 v n C i s = 0
  · rw [if_pos he] at hr
    obtain ⟨rfl, rfl⟩ := Prod.mk.inj hr
    exact Stems_ok A0 A1 c0 c1 l0 l1 v s n Ac cc C i w hF hcF hL hcL hT hC hcC hs.2 hs.1 he
  · rw [if_neg he] at hr
    obtain ⟨rfl, rfl⟩ := Prod.mk.inj hr
    exact Stems_no A0 A1 c0 c1 l0 l1 v s n Ac cc C i w hF hcF hL hcL hT hC hcC hs.2 hs.1 _ rfl he
end Go.Proofs.YthmjheclhcdinaaDoor.Ext
end
section
-- printed by a program of this session (wip/tools/prx.sh: a turned copy of the kit's print, with functions given from outside)
namespace Go.Proofs.YthmjheclhcdinaaDoor.RAl
open Go.RowKit Go.Proofs.YthmjheclhcdinaaDoor Go.Proofs.YthmjheclhcdinaaDoor.Ext Go.Proofs.YthmjheclhcdinaaDoorW.PrintWords Go.Proofs.YthmjheclhcdinaaDoorW.PrintLast Go.Proofs.YthmjheclhcdinaaDoorW.PrintMore
attribute [local go_sem] max2_int min2_int max_two min_two max_three min_three max_four min_four   -- for this text's walks alone
set_option linter.unusedVariables false
set_option linter.unusedSimpArgs false



end Go.Proofs.YthmjheclhcdinaaDoor.RAl
end
