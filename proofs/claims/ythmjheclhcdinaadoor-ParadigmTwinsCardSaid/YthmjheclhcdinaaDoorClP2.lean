/-
  ParadigmFind: of any paradigm just the cells with all tags, rising; no condition but that the tables of utf8 stand as their text lays them.
-/
import Derived.Test.YthmjheclhcdinaaDoorClP1
import Derived.Lib.QuoteLoop
import Derived.Lib.MapLaws
import Derived.Test.YthmjheclhcdinaaDoorProg
import Derived.Below
import Derived.Deep.Draws
import Derived.Deep.AppendLies
import Derived.Maps.AppendAt
import Derived.OwnWalk
import Derived.Laws.BytesArg
import Derived.Laws.MakeOwn
import Derived.Laws.OwnMore
import Derived.Deep.OwnRows
import Derived.Tactics
import Derived.Lib.ConvBytes
import Derived.Laws.Slices
import Derived.WalkKit
import Derived.KernelRfl
import Derived.RowKit3
import Derived.Deep.LoopGhost
import Derived.Deep.QuietTactic
import Derived.BigQuiet
import Derived.WideLaws
import Derived.Deep.DeepCutAuto
import Derived.Deep.CutBlock
import Derived.Deep.RegionHeld3
import Derived.Laws.Rows
import Derived.Lib.AppendStr
import Derived.ArgAppend
import Derived.Laws.IdiomCopy
import Derived.OrdersHeld
import Derived.Laws.BitsLemmas
import Derived.RowKit
import Derived.Laws.Cover4
section
/-
  radical.Check by a walk.
-/
set_option linter.unusedSimpArgs false
set_option linter.unusedVariables false
namespace Go.Proofs.YthmjheclhcdinaaDoor
open Go.RowKit Go.Proofs.YthmjheclhcdinaaDoorW.PrintWords Go.Proofs.YthmjheclhcdinaaDoorW.PrintLast Go.Proofs.YthmjheclhcdinaaDoorW.PrintMore Go.Proofs.YthmjheclhcdinaaDoor.Ext

theorem boxes2 (w : World) (a b : Obj) : Below w.heap.size w ((w.alloc a).alloc b) ∧ ((w.alloc a).alloc b).heap[w.heap.size]? = some a ∧ ((w.alloc a).alloc b).heap[w.heap.size + 1]? = some b := by
  have e1 : (w.alloc a).heap.size = w.heap.size + 1 := by simp
  refine ⟨((Below.refl _ _).alloc (Nat.le_refl _) _).alloc (by simp) _, blk_alloc (blk_new w a) b, ?_⟩
  have := blk_new (w.alloc a) b
  rwa [e1] at this
theorem nameC_contains (b : UInt8) : ([97, 98, 99, 100, 101, 102, 103, 104, 105, 106, 107, 108, 109, 110, 111, 112, 113, 114, 115, 116, 117, 118, 119, 120, 121, 122, 48, 49, 50, 51, 52, 53, 54, 55, 56, 57, 45] : List UInt8).contains b = nameC b := by
  have h : ∀ n, n < 256 → ([97, 98, 99, 100, 101, 102, 103, 104, 105, 106, 107, 108, 109, 110, 111, 112, 113, 114, 115, 116, 117, 118, 119, 120, 121, 122, 48, 49, 50, 51, 52, 53, 54, 55, 56, 57, 45] : List UInt8).contains (UInt8.ofNat n) = nameC (UInt8.ofNat n) := by decide +kernel
  have h2 := h b.toNat b.toNat_lt
  rwa [UInt8.ofNat_toNat] at h2
abbrev nameSet : ByteArray := ⟨#[97, 98, 99, 100, 101, 102, 103, 104, 105, 106, 107, 108, 109, 110, 111, 112, 113, 114, 115, 116, 117, 118, 119, 120, 121, 122, 48, 49, 50, 51, 52, 53, 54, 55, 56, 57, 45]⟩
theorem trimName (n : ByteArray) : Lib.trimS n.data.toList nameSet.data.toList = [] ↔ n.data.toList.all nameC = true := by
  rw [trimS_nil]
  have e : (n.data.toList.all (nameSet.data.toList.contains ·)) = n.data.toList.all nameC := by
    congr 1
    funext b
    exact nameC_contains b
  rw [e]
def okF (ks : List Int) (p : Piece) : Bool := ks.contains p.f0 || decide (p.f0 = 95)
namespace Ext
def radical_Check.f (l0 : List ByteArray) (l1 : List Letter) (n f : ByteArray) : Option Int := if n.size ≤ 9223372036854775807 ∧ f.size < 9223372036854775807 then some (chkS l0 l1 n f) else none
set_option maxHeartbeats 4000000 in
set_option maxRecDepth 100000 in
theorem radical_Check.calls (A0 : Option Addr) (c0 : Nat) (l0 : List ByteArray) (A1 : Option Addr) (c1 : Nat) (l1 : List Letter) (n f : ByteArray) (r : Int) (w : World) (hF : Kd.C Kd.string w A0 l0.length l0) (hcF : l0.length ≤ c0) (hL : Kd.C kLetter w A1 l1.length l1) (hcL : l1.length ≤ c1) (hT : Tabs w)
    (h : radical_Check.f l0 l1 n f = some r) :
    Calls Tryd.prog 61 #[.agg #[.slice A0 l0.length c0, .slice A1 l1.length c1], .agg #[.string n, .string f]] w fun e w' => e = .returned (.int .i64 r) ∧ Below w.heap.size w w' := by
  unfold radical_Check.f at h
  split at h
  case isFalse => cases h
  case isTrue hsz =>
  have h := Option.some.inj h
  have hch := fun W (hb : Below w.heap.size w W) => feature_Check.calls A0 c0 l0 A1 c1 l1 (chk l0 l1) W (Kd.C_below hF hb) hcF (Kd.C_below hL hb) hcL rfl
  have HO := Lib.hid (fun (x r1 r2 r3 r4 : Int) W (hb : Below w.heap.size w W) h => feature_Of.calls A0 c0 l0 A1 c1 l1 x r1 r2 r3 r4 W (Kd.C_below hF hb) hcF (Kd.C_below hL hb) hcL h)
  have HT := Lib.hid hT
  have HB := Lib.hid (boxes2 w (.cells #[.slice A0 l0.length c0, .slice A1 l1.length c1] 25) (.cells #[.string n, .string f] 32))
  clear hF hL hT
  obtain ⟨hn1, hf1⟩ := hsz
  by_cases hk : chk l0 l1 = 0
  · rw [hk] at hch
    have hcS : chkS l0 l1 n f = if (nameS n && formS (kindsOf l1) f) = true then 0 else 130 := by unfold chkS; rw [if_pos hk]
    rw [hcS] at h
    have Hk := Lib.hid hk
    clear hk hcS
    by_cases hn : n.size ≤ 32
    · have htr := fun W => strings_Trim.calls n nameSet ⟨(Lib.trimS n.data.toList nameSet.data.toList).toArray⟩ W (by unfold strings_Trim.f; rw [if_pos ⟨hn1, by decide, by decide⟩])
      by_cases ht : n.data.toList.all nameC = true
      · have ht2 := (trimName n).2 ht
        rw [ht2] at htr
        have Hnm : Hid (nameS n = true) := by unfold nameS; simp [hn, ht, Hid]
        have hrc := fun W => utf8_RuneCountInString.calls f (Lib.runeCount f) W (by unfold utf8_RuneCountInString.f; rw [if_pos hf1])
        rw [runeCount_eq] at hrc
        by_cases hv : (pieces f).all (fun p => !p.f3) = true
        · have hva := fun W hT => utf8_ValidString.calls f true W hT (by unfold utf8_ValidString.f; rw [if_pos (by omega), valid_pieces, hv])
          by_cases hct : (pieces f).length ≤ 64
          · have Hform : Hid ((if (pieces f).all (okF (kindsOf l1)) = true then 0 else 130) = r) := by
              rw [← h, Hnm.out]
              unfold formS
              rw [hv, decide_eq_true hct]
              rfl
            have hlen : ((pieces f).length : Int) ≤ 64 := by omega
            have hd : decide ((64 : Int) < (pieces f).length) = false := decide_eq_false (by omega)
            obtain ⟨nc, hnc⟩ : ∃ nc, nc = ((pieces f).length : Int) := ⟨_, rfl⟩
            rw [← hnc] at hd hlen hrc
            clear h hv ht ht2 hct hnc
            go_enter Tryd.func61, Tryd.ntmps61
            go_wp2_with (first | (go_at_call 39; refine (hch _ HB.out.1).mono ?_; rintro e w1 ⟨rfl, hb1⟩; have hB1 := Lib.hid (below_step HB.out.1 hb1); have hx1 := Lib.hid (blk_below HB.out.2.2 hb1); have hy1 := Lib.hid (blk_below HB.out.2.1 hb1); have hc10 := (blk_cell hx1.out 0).trans rfl; have hc11 := (blk_cell hx1.out 1).trans rfl) | (go_at_call 76; refine (htr _).mono ?_; rintro e w2 ⟨rfl, hb2⟩; have hB2 := Lib.hid (below_step hB1.out hb2); have hx2 := Lib.hid (blk_below hx1.out hb2); have hy2 := Lib.hid (blk_below hy1.out hb2); have hc21 := (blk_cell hx2.out 1).trans rfl) | (go_at_call 77; refine (hva _ (HT.out.below hB2.out)).mono ?_; rintro e w3 ⟨rfl, hb3⟩; have hB3 := Lib.hid (below_step hB2.out hb3); have hx3 := Lib.hid (blk_below hx2.out hb3); have hy3 := Lib.hid (blk_below hy2.out hb3); have hc31 := (blk_cell hx3.out 1).trans rfl) | (go_at_call 78; refine (hrc _).mono ?_; rintro e w4 ⟨rfl, hb4⟩; have hB4 := Lib.hid (below_step hB3.out hb4); have hx4 := Lib.hid (blk_below hx3.out hb4); have hy4 := Lib.hid (blk_below hy3.out hb4); have hc41 := (blk_cell hx4.out 1).trans rfl))
            have hs4 := hb4.size
            have hs0 := hB3.out.size
            have hlt0 := blk_lt hy4.out
            go_loopw [7] (fun _ wr => ∃ pos fuel : Nat, wr.heap[w4.heap.size]? = some (.stringIter f pos) ∧ Hid (Below w.heap.size w wr) ∧ Hid (wr.heap[w.heap.size]? = some (.cells #[.slice A0 l0.length c0, .slice A1 l1.length c1] 25 (0, 0))) ∧ Hid ((pieces f).all (okF (kindsOf l1)) = (piecesFrom f fuel pos).all (okF (kindsOf l1))) ∧ f.size ≤ pos + fuel ∧ w4.heap.size < wr.heap.size)
              (fun _ w' => f.size - w'.iterPos w4.heap.size)
            case atStart => exact ⟨0, f.size, World.iter_heap _ _ _, hB4.out.alloc hB4.out.size _, blk_alloc hy4.out _, rfl, by omega, by simp [World.iter]⟩
            case round =>
              obtain ⟨pos, fuel, hit, hb, hx, hq, hfu, hsz⟩ := hrel
              by_cases hp : pos < f.size
              · have hnx : ∀ ty, (Instr.next (.pointer (some ⟨w4.heap.size, 0, none⟩)) true ty).run Tryd.prog wr = _ := fun ty => Lib.run_next_any_at wr w4.heap.size f pos ty hit hp
                obtain ⟨x, m, hd⟩ : ∃ x m, Utf8.decode f pos = (x, m) := ⟨_, _, rfl⟩
                have f1 := dec_pos f pos
                have f2 := dec_le f pos hp
                have HPF : Hid (piecesFrom f fuel pos = pieceAt f pos :: piecesFrom f (fuel - 1) (pos + m)) := by
                  obtain ⟨g, rfl⟩ : ∃ g, fuel = g + 1 := ⟨fuel - 1, by omega⟩
                  show piecesFrom f (g + 1) pos = _
                  rw [piecesFrom, if_pos hp, hd]
                  rfl
                have HP0 : Hid ((pieceAt f pos).f0 = (x : Int)) := by unfold pieceAt; rw [hd]; rfl
                rw [hd] at hnx f1 f2
                dsimp only at hnx f1 f2
                have Hbq := Lib.hid (Lib.below_iterAt hb.out (Nat.le_of_lt (by omega : w.heap.size < w4.heap.size)) f (pos + m))
                have Hitq := Lib.hid (Lib.iterAt_heap wr w4.heap.size f pos (pos + m) hit)
                have Hxq := Lib.hid ((Lib.iterAt_other wr w4.heap.size w.heap.size f (pos + m) (by omega)).trans hx.out)
                have hcq0 := (blk_cell Hxq.out 0).trans rfl
                have hcq1 := (blk_cell Hxq.out 1).trans rfl
                have Hhit := Lib.hid hit
                have Hzq := Lib.hid (Lib.iterAt_size wr w4.heap.size f (pos + m))
                clear hd hit
                obtain ⟨a1, a2, a3, e, hof, he⟩ : ∃ a1 a2 a3 e, feature_Of.f l0 l1 (x : Int) = some (a1, a2, a3, e) ∧ ((e = 5 ∧ (kindsOf l1).contains (x : Int) = false) ∨ (e = 0 ∧ (kindsOf l1).contains (x : Int) = true)) := by
                  unfold feature_Of.f
                  rw [if_pos Hk.out]
                  by_cases hneg : numOf l1 (x : Int) < 0
                  · rw [if_pos hneg]
                    exact ⟨_, _, _, _, rfl, .inl ⟨rfl, (numOf_neg l1 x).1 hneg⟩⟩
                  · rw [if_neg hneg]
                    refine ⟨_, _, _, _, rfl, .inr ⟨rfl, ?_⟩⟩
                    have := mt (numOf_neg l1 x).2 hneg
                    simpa using this
                have hOf := fun W hb => HO.out (x : Int) a1 a2 a3 e W hb hof
                clear hof
                rcases he with ⟨rfl, hks⟩ | ⟨rfl, hks⟩
                · have Hks := Lib.hid hks
                  clear hks
                  by_cases h95 : (x : Int) = 95
                  · have hr1 : ((x : Int) != 95) = false := by simp [h95]
                    have Hok : Hid (okF (kindsOf l1) (pieceAt f pos) = true) := by unfold okF; rw [HP0.out]; simp [h95, Hid]
                    clear h95
                    go_wp2_with (go_at_call 79; refine (hOf _ Hbq.out).mono ?_; rintro e w5 ⟨rfl, hb5⟩)
                    have hi5 := Lib.hid (blk_below Hitq.out hb5)
                    have hx5 := Lib.hid (blk_below Hxq.out hb5)
                    have hB5 := Lib.hid (below_step Hbq.out hb5)
                    have hs5 := hb5.size
                    rw [Hzq.out] at hs5
                    go_roundw
                    case rel =>
                      refine ⟨pos + m, fuel - 1, blk_alloc hi5.out _, hB5.out.alloc hB5.out.size _, blk_alloc hx5.out _, ?_, by omega, by simp; omega⟩
                      show _ = _
                      rw [hq.out, HPF.out, List.all_cons, Hok.out, Bool.true_and]
                    case measure => rw [iterPos_of Hhit.out, iterPos_of (blk_alloc hi5.out _)]; omega
                  · have hr1 : ((x : Int) != 95) = true := by simpa using h95
                    have Hok : Hid (okF (kindsOf l1) (pieceAt f pos) = false) := by unfold okF; rw [HP0.out, Hks.out]; simpa [Hid] using h95
                    clear h95
                    go_wp2_with (go_at_call 79; refine (hOf _ Hbq.out).mono ?_; rintro e w5 ⟨rfl, hb5⟩)
                    have hB5 := Lib.hid (below_step Hbq.out hb5)
                    go_ret
                    refine ⟨ret_i64 ?_, hB5.out.alloc hB5.out.size _⟩
                    rw [← Hform.out, hq.out, HPF.out, List.all_cons, Hok.out]
                    rfl
                · have Hok : Hid (okF (kindsOf l1) (pieceAt f pos) = true) := by unfold okF; rw [HP0.out, hks]; rfl
                  clear hks
                  go_wp2_with (go_at_call 79; refine (hOf _ Hbq.out).mono ?_; rintro e w5 ⟨rfl, hb5⟩)
                  have hi5 := Lib.hid (blk_below Hitq.out hb5)
                  have hx5 := Lib.hid (blk_below Hxq.out hb5)
                  have hB5 := Lib.hid (below_step Hbq.out hb5)
                  have hs5 := hb5.size
                  rw [Hzq.out] at hs5
                  go_roundw
                  case rel =>
                    refine ⟨pos + m, fuel - 1, blk_alloc hi5.out _, hB5.out.alloc hB5.out.size _, blk_alloc hx5.out _, ?_, by omega, by simp; omega⟩
                    show _ = _
                    rw [hq.out, HPF.out, List.all_cons, Hok.out, Bool.true_and]
                  case measure => rw [iterPos_of Hhit.out, iterPos_of (blk_alloc hi5.out _)]; omega
              · have hnx : ∀ ty, (Instr.next (.pointer (some ⟨w4.heap.size, 0, none⟩)) true ty).run Tryd.prog wr = _ := fun ty => Lib.run_next_end_at wr w4.heap.size f pos ty hit hp
                go_wp2_with fail
                go_ret
                refine ⟨ret_i64 ?_, hb.out⟩
                have hz : piecesFrom f fuel pos = [] := by
                  cases fuel with
                  | zero => rfl
                  | succ g => exact if_neg hp
                rw [← Hform.out, hq.out, hz]
                rfl
          · have Hr : Hid (130 = r) := by rw [← h]; unfold formS; simp [hct, Hid]
            have hlen : (64 : Int) < ((pieces f).length : Int) := by omega
            have hd : decide ((64 : Int) < (pieces f).length) = true := decide_eq_true (by omega)
            obtain ⟨nc, hnc⟩ : ∃ nc, nc = ((pieces f).length : Int) := ⟨_, rfl⟩
            rw [← hnc] at hd hlen hrc
            clear h hv ht ht2 hct hnc
            go_enter Tryd.func61, Tryd.ntmps61
            go_wp2_with (first | (go_at_call 39; refine (hch _ HB.out.1).mono ?_; rintro e w1 ⟨rfl, hb1⟩; have hB1 := Lib.hid (below_step HB.out.1 hb1); have hx1 := Lib.hid (blk_below HB.out.2.2 hb1); have hy1 := Lib.hid (blk_below HB.out.2.1 hb1); have hc10 := (blk_cell hx1.out 0).trans rfl; have hc11 := (blk_cell hx1.out 1).trans rfl) | (go_at_call 76; refine (htr _).mono ?_; rintro e w2 ⟨rfl, hb2⟩; have hB2 := Lib.hid (below_step hB1.out hb2); have hx2 := Lib.hid (blk_below hx1.out hb2); have hy2 := Lib.hid (blk_below hy1.out hb2); have hc21 := (blk_cell hx2.out 1).trans rfl) | (go_at_call 77; refine (hva _ (HT.out.below hB2.out)).mono ?_; rintro e w3 ⟨rfl, hb3⟩; have hB3 := Lib.hid (below_step hB2.out hb3); have hx3 := Lib.hid (blk_below hx2.out hb3); have hy3 := Lib.hid (blk_below hy2.out hb3); have hc31 := (blk_cell hx3.out 1).trans rfl) | (go_at_call 78; refine (hrc _).mono ?_; rintro e w4 ⟨rfl, hb4⟩; have hB4 := Lib.hid (below_step hB3.out hb4); have hx4 := Lib.hid (blk_below hx3.out hb4); have hy4 := Lib.hid (blk_below hy3.out hb4); have hc41 := (blk_cell hx4.out 1).trans rfl))
            go_ret
            exact ⟨ret_i64 Hr.out, hB4.out⟩
        · have hva := fun W hT => utf8_ValidString.calls f false W hT (by unfold utf8_ValidString.f; rw [if_pos (by omega), valid_pieces, (Bool.not_eq_true _).mp hv])
          have Hr : Hid (130 = r) := by rw [← h]; unfold formS; simp [hv, Hid]
          clear h hv ht ht2
          go_enter Tryd.func61, Tryd.ntmps61
          go_wp2_with (first | (go_at_call 39; refine (hch _ HB.out.1).mono ?_; rintro e w1 ⟨rfl, hb1⟩; have hB1 := Lib.hid (below_step HB.out.1 hb1); have hx1 := Lib.hid (blk_below HB.out.2.2 hb1); have hy1 := Lib.hid (blk_below HB.out.2.1 hb1); have hc10 := (blk_cell hx1.out 0).trans rfl; have hc11 := (blk_cell hx1.out 1).trans rfl) | (go_at_call 76; refine (htr _).mono ?_; rintro e w2 ⟨rfl, hb2⟩; have hB2 := Lib.hid (below_step hB1.out hb2); have hx2 := Lib.hid (blk_below hx1.out hb2); have hy2 := Lib.hid (blk_below hy1.out hb2); have hc21 := (blk_cell hx2.out 1).trans rfl) | (go_at_call 77; refine (hva _ (HT.out.below hB2.out)).mono ?_; rintro e w3 ⟨rfl, hb3⟩; have hB3 := Lib.hid (below_step hB2.out hb3); have hx3 := Lib.hid (blk_below hx2.out hb3); have hy3 := Lib.hid (blk_below hy2.out hb3); have hc31 := (blk_cell hx3.out 1).trans rfl) | (go_at_call 78; refine (hrc _).mono ?_; rintro e w4 ⟨rfl, hb4⟩; have hB4 := Lib.hid (below_step hB3.out hb4); have hx4 := Lib.hid (blk_below hx3.out hb4); have hy4 := Lib.hid (blk_below hy3.out hb4); have hc41 := (blk_cell hx4.out 1).trans rfl))
          go_ret
          exact ⟨ret_i64 Hr.out, hB3.out⟩
      · have ht2 := mt (trimName n).1 ht
        have Hr : Hid (130 = r) := by rw [← h]; unfold nameS; simp [ht, Hid]
        obtain ⟨q, hq⟩ : ∃ q, q = Lib.trimS n.data.toList nameSet.data.toList := ⟨_, rfl⟩
        rw [← hq] at htr ht2
        have hqe : (!q.isEmpty) = true := by cases q with | nil => exact absurd rfl ht2 | cons _ _ => rfl
        clear h hq ht
        go_enter Tryd.func61, Tryd.ntmps61
        go_wp2_with (first | (go_at_call 39; refine (hch _ HB.out.1).mono ?_; rintro e w1 ⟨rfl, hb1⟩; have hB1 := Lib.hid (below_step HB.out.1 hb1); have hx1 := Lib.hid (blk_below HB.out.2.2 hb1); have hy1 := Lib.hid (blk_below HB.out.2.1 hb1); have hc10 := (blk_cell hx1.out 0).trans rfl; have hc11 := (blk_cell hx1.out 1).trans rfl) | (go_at_call 76; refine (htr _).mono ?_; rintro e w2 ⟨rfl, hb2⟩; have hB2 := Lib.hid (below_step hB1.out hb2)))
        go_ret
        exact ⟨ret_i64 Hr.out, hB2.out⟩
    · have Hr : Hid (130 = r) := by rw [← h]; unfold nameS; simp [hn, Hid]
      have hd := decide_eq_true (show (32 : Int) < n.size by omega)
      clear h
      go_enter Tryd.func61, Tryd.ntmps61
      go_wp2_with (first | (go_at_call 39; refine (hch _ HB.out.1).mono ?_; rintro e w1 ⟨rfl, hb1⟩; have hB1 := Lib.hid (below_step HB.out.1 hb1); have hx1 := Lib.hid (blk_below HB.out.2.2 hb1); have hy1 := Lib.hid (blk_below HB.out.2.1 hb1); have hc10 := (blk_cell hx1.out 0).trans rfl; have hc11 := (blk_cell hx1.out 1).trans rfl))
      go_ret
      exact ⟨ret_i64 Hr.out, hB1.out⟩
  · have heb : (chk l0 l1 == 0) = false := beq_eq_false_iff_ne.mpr hk
    have heb2 : (chk l0 l1 != 0) = true := bne_iff_ne.mpr hk
    have Hr : Hid (chk l0 l1 = r) := by rw [← h]; unfold chkS; rw [if_neg hk]; rfl
    clear h hk
    go_enter Tryd.func61, Tryd.ntmps61
    go_wp2_with (first | (go_at_call 39; refine (hch _ HB.out.1).mono ?_; rintro e w1 ⟨rfl, hb1⟩; have hB1 := Lib.hid (below_step HB.out.1 hb1)))
    go_ret
    exact ⟨ret_i64 Hr.out, hB1.out⟩
end Ext
end Go.Proofs.YthmjheclhcdinaaDoor
end
section
/-
  Texts and their runes, there and back: plain facts. No program in sight.
-/
set_option linter.unusedSimpArgs false
set_option linter.unusedVariables false
namespace Go.Proofs.YthmjheclhcdinaaDoor
open Go.RowKit Go.Proofs.YthmjheclhcdinaaDoorW.PrintWords Go.Proofs.YthmjheclhcdinaaDoorW.PrintLast Go.Proofs.YthmjheclhcdinaaDoorW.PrintMore Go.Proofs.YthmjheclhcdinaaDoor.Ext

theorem valid_iff (r : Int) : Utf8.valid r = true ↔ (0 ≤ r ∧ r < 55296) ∨ (57344 ≤ r ∧ r ≤ 1114111) := by
  unfold Utf8.valid
  simp
def encB (r : Int) : List UInt8 := (Utf8.encode r).data.toList
theorem encB_cases (r : Int) (h : Utf8.valid r = true) :
    (r < 128 ∧ encB r = [UInt8.ofNat r.toNat]) ∨ (128 ≤ r ∧ r < 2048 ∧ encB r = [UInt8.ofNat (192 + r.toNat / 64), UInt8.ofNat (128 + r.toNat % 64)]) ∨
    (2048 ≤ r ∧ r < 65536 ∧ encB r = [UInt8.ofNat (224 + r.toNat / 4096), UInt8.ofNat (128 + r.toNat / 64 % 64), UInt8.ofNat (128 + r.toNat % 64)]) ∨
    (65536 ≤ r ∧ encB r = [UInt8.ofNat (240 + r.toNat / 262144), UInt8.ofNat (128 + r.toNat / 4096 % 64), UInt8.ofNat (128 + r.toNat / 64 % 64), UInt8.ofNat (128 + r.toNat % 64)]) := by
  have hv := (valid_iff r).1 h
  unfold encB Utf8.encode
  simp only [h, if_true]
  by_cases a : r.toNat < 128
  · left
    exact ⟨by omega, by rw [if_pos (by omega)]⟩
  · right
    by_cases b : r.toNat < 2048
    · left
      exact ⟨by omega, by omega, by rw [if_neg (by omega), if_pos (by omega)]⟩
    · right
      by_cases c : r.toNat < 65536
      · left
        exact ⟨by omega, by omega, by rw [if_neg (by omega), if_neg (by omega), if_pos (by omega)]⟩
      · right
        exact ⟨by omega, by rw [if_neg (by omega), if_neg (by omega), if_neg (by omega)]⟩
theorem decN_two (n c b2 b3 : Nat) (hn : 1 < n) (h0 : 128 ≤ c) (h1 : c < 2048) : Lib.decodeN n (192 + c / 64) (128 + c % 64) b2 b3 = (c, 2) := by
  unfold Lib.decodeN
  rw [if_neg (by omega), if_pos ⟨by omega, by omega, by omega⟩, if_pos (by omega)]
  congr 1
  omega
theorem decN_three (n c b3 : Nat) (hn : 2 < n) (h0 : 2048 ≤ c) (h1 : c < 65536) (hs : c < 55296 ∨ 57344 ≤ c) : Lib.decodeN n (224 + c / 4096) (128 + c / 64 % 64) (128 + c % 64) b3 = (c, 3) := by
  unfold Lib.decodeN
  rw [if_neg (by omega), if_neg (by omega), if_pos ⟨by omega, ⟨by omega, by omega⟩, by omega, by omega⟩, if_pos ⟨by omega, by omega⟩]
  congr 1
  omega
theorem decN_four (n c : Nat) (hn : 3 < n) (h0 : 65536 ≤ c) (h1 : c ≤ 1114111) : Lib.decodeN n (240 + c / 262144) (128 + c / 4096 % 64) (128 + c / 64 % 64) (128 + c % 64) = (c, 4) := by
  unfold Lib.decodeN
  rw [if_neg (by omega), if_neg (by omega), if_neg (by omega), if_pos ⟨by omega, ⟨by omega, by omega⟩, ⟨by omega, by omega⟩, by omega, by omega⟩, if_pos ⟨by omega, by omega⟩]
  congr 1
  omega
theorem toN (n : Nat) (h : n < 256) : (UInt8.ofNat n).toNat = n := by
  rw [UInt8.toNat_ofNat']
  omega
theorem dec_enc (r : Int) (h : Utf8.valid r = true) (t : List UInt8) : Lib.decodeL (encB r ++ t) = (r.toNat, (encB r).length) := by
  have hv := (valid_iff r).1 h
  rw [Lib.decodeL_N]
  rcases encB_cases r h with ⟨a, e⟩ | ⟨a, b, e⟩ | ⟨a, b, e⟩ | ⟨a, e⟩
  · rw [e]
    show Lib.decodeN _ (UInt8.ofNat r.toNat).toNat _ _ _ = (r.toNat, 1)
    rw [toN _ (by omega), Lib.decodeN_ascii _ _ _ _ _ (by omega)]
  · rw [e]
    show Lib.decodeN _ (UInt8.ofNat (192 + r.toNat / 64)).toNat (UInt8.ofNat (128 + r.toNat % 64)).toNat _ _ = (r.toNat, 2)
    rw [toN _ (by omega), toN _ (by omega), decN_two _ _ _ _ (by simp) (by omega) (by omega)]
  · rw [e]
    show Lib.decodeN _ (UInt8.ofNat (224 + r.toNat / 4096)).toNat (UInt8.ofNat (128 + r.toNat / 64 % 64)).toNat (UInt8.ofNat (128 + r.toNat % 64)).toNat _ = (r.toNat, 3)
    rw [toN _ (by omega), toN _ (by omega), toN _ (by omega), decN_three _ _ _ (by simp) (by omega) (by omega) (by omega)]
  · rw [e]
    show Lib.decodeN _ (UInt8.ofNat (240 + r.toNat / 262144)).toNat (UInt8.ofNat (128 + r.toNat / 4096 % 64)).toNat (UInt8.ofNat (128 + r.toNat / 64 % 64)).toNat (UInt8.ofNat (128 + r.toNat % 64)).toNat = (r.toNat, 4)
    rw [toN _ (by omega), toN _ (by omega), toN _ (by omega), toN _ (by omega), decN_four _ _ (by simp) (by omega) (by omega)]
theorem encB_len (r : Int) (h : Utf8.valid r = true) : 1 ≤ (encB r).length ∧ (encB r).length ≤ 4 ∧ ((encB r).length = 1 → r < 128) := by
  rcases encB_cases r h with ⟨a, e⟩ | ⟨a, b, e⟩ | ⟨a, b, e⟩ | ⟨a, e⟩
  all_goals (rw [e]; simp)
  omega
theorem encB_lib (r : Int) (h : Utf8.valid r = true) : encB r = Lib.encodeRune r := by
  have hv := (valid_iff r).1 h
  unfold Lib.encodeRune
  rcases encB_cases r h with ⟨a, e⟩ | ⟨a, b, e⟩ | ⟨a, b, e⟩ | ⟨a, e⟩
  · rw [e, Lib.encodeRuneZ_one (by omega) (by omega)]
    rfl
  · rw [e, Lib.encodeRuneZ_two (by omega) (by omega)]
    simp only [List.map_cons, List.map_nil]
    have e1 : (192 + r / 64).toNat = 192 + r.toNat / 64 := by omega
    have e2 : (128 + r % 64).toNat = 128 + r.toNat % 64 := by omega
    rw [e1, e2]
  · rw [e, Lib.encodeRuneZ_three (by omega)]
    simp only [List.map_cons, List.map_nil]
    have e1 : (224 + r / 4096).toNat = 224 + r.toNat / 4096 := by omega
    have e2 : (128 + r / 64 % 64).toNat = 128 + r.toNat / 64 % 64 := by omega
    have e3 : (128 + r % 64).toNat = 128 + r.toNat % 64 := by omega
    rw [e1, e2, e3]
  · rw [e, Lib.encodeRuneZ_four (by omega) (by omega)]
    simp only [List.map_cons, List.map_nil]
    have e1 : (240 + r / 262144).toNat = 240 + r.toNat / 262144 := by omega
    have e2 : (128 + r / 4096 % 64).toNat = 128 + r.toNat / 4096 % 64 := by omega
    have e3 : (128 + r / 64 % 64).toNat = 128 + r.toNat / 64 % 64 := by omega
    have e4 : (128 + r % 64).toNat = 128 + r.toNat % 64 := by omega
    rw [e1, e2, e3, e4]
def flat : List Int → List UInt8
  | [] => []
  | r :: rs => encB r ++ flat rs
theorem foldl_flat : ∀ (l : List Int) (a : ByteArray), (l.foldl (fun r n => r ++ Utf8.encode n) a).data.toList = a.data.toList ++ flat l
  | [], a => by simp [flat]
  | x :: xs, a => by
    rw [List.foldl_cons, foldl_flat xs]
    simp [flat, encB]
theorem runesBytes_flat (l : List Int) : (runesBytes l).data.toList = flat l := by
  unfold runesBytes
  rw [foldl_flat]
  rfl
theorem bytes_ext {a b : ByteArray} (h : a.data.toList = b.data.toList) : a = b := by
  obtain ⟨x⟩ := a
  obtain ⟨y⟩ := b
  congr 1
  exact Array.toList_inj.1 h
theorem size_list (s : ByteArray) : s.data.toList.length = s.size := by
  rw [Array.length_toList]
  rfl
theorem flat_len : ∀ l : List Int, (∀ x ∈ l, Utf8.valid x = true) → l.length ≤ (flat l).length ∧ (flat l).length ≤ 4 * l.length
  | [], _ => by simp [flat]
  | x :: xs, h => by
    have h1 := flat_len xs (fun y hy => h y (List.mem_cons_of_mem _ hy))
    have h2 := encB_len x (h x (List.mem_cons_self ..))
    simp only [flat, List.length_append, List.length_cons]
    omega
theorem runesBytes_size (l : List Int) (h : ∀ x ∈ l, Utf8.valid x = true) : l.length ≤ (runesBytes l).size ∧ (runesBytes l).size ≤ 4 * l.length := by
  rw [← size_list, runesBytes_flat]
  exact flat_len l h
theorem pieces_flat (s : ByteArray) : ∀ (l : List Int) (f pos : Nat), (∀ x ∈ l, Utf8.valid x = true) → s.data.toList.drop pos = flat l → (flat l).length ≤ f → (piecesFrom s f pos).map (fun p => p.f0) = l ∧ (piecesFrom s f pos).all (fun p => !p.f3) = true
  | [], f, pos, _, hd, _ => by
    have hsz : ¬ pos < s.size := fun h => dropsz s pos h (by rw [hd]; rfl)
    cases f with
    | zero => simp [piecesFrom]
    | succ f =>
      unfold piecesFrom
      rw [if_neg hsz]
      simp
  | r :: rs, f, pos, hv, hd, hf => by
    have hr := hv r (List.mem_cons_self ..)
    have hl := encB_len r hr
    simp only [flat, List.length_append] at hf hd
    obtain ⟨f, rfl⟩ : ∃ q, f = q + 1 := ⟨f - 1, by omega⟩
    have hsz : pos < s.size := by
      apply Classical.byContradiction
      intro h
      rw [List.drop_of_length_le (by rw [size_list]; omega)] at hd
      have := congrArg List.length hd
      simp at this
      omega
    have hdec : Utf8.decode s pos = (r.toNat, (encB r).length) := by rw [← Lib.decodeL_drop, hd, dec_enc r hr]
    have hd2 : s.data.toList.drop (pos + (encB r).length) = flat rs := by rw [← List.drop_drop, hd, List.drop_left]
    have ih := pieces_flat s rs f (pos + (encB r).length) (fun y hy => hv y (List.mem_cons_of_mem _ hy)) hd2 (by omega)
    have hvr := (valid_iff r).1 hr
    unfold piecesFrom
    rw [if_pos hsz, hdec]
    dsimp only
    have hp : pieceAt s pos = ⟨r, pos, (encB r).length, false⟩ := by
      unfold pieceAt
      rw [hdec]
      dsimp only
      congr 1
      · omega
      · rw [decide_eq_false_iff_not]
        intro h
        have := hl.2.2 h.2
        omega
    rw [hp]
    simp only [List.map_cons, List.all_cons, ih.1, ih.2]
    simp
theorem flat_back (s : ByteArray) : ∀ (f pos : Nat), (piecesFrom s f pos).all (fun p => !p.f3) = true → s.size - pos ≤ f → flat ((piecesFrom s f pos).map (fun p => p.f0)) = s.data.toList.drop pos ∧ ∀ p ∈ piecesFrom s f pos, Utf8.valid p.f0 = true
  | 0, pos, _, hf => by
    rw [List.drop_of_length_le (by rw [size_list]; omega)]
    simp [piecesFrom, flat]
  | f + 1, pos, ha, hf => by
    unfold piecesFrom at ha ⊢
    by_cases h : pos < s.size
    · rw [if_pos h] at ha ⊢
      simp only [List.all_cons, Bool.and_eq_true] at ha
      have hp1 := dec_pos s pos
      have ih := flat_back s f (pos + (Utf8.decode s pos).2) ha.2 (by omega)
      have hb : ¬ ((Lib.decodeL (s.data.toList.drop pos)).1 = 65533 ∧ (Lib.decodeL (s.data.toList.drop pos)).2 = 1) := by
        rw [Lib.decodeL_drop]
        intro hc
        have := ha.1
        unfold pieceAt at this
        simp [hc] at this
      have henc := Lib.encode_decode (s.data.toList.drop pos) (dropsz s pos h) hb
      rw [Lib.decodeL_drop] at henc
      have hvd : Utf8.valid ((Utf8.decode s pos).1 : Int) = true := by
        rw [valid_iff, Lib.decode_at]
        have := Lib.decodeN_valid (s.size - pos) (s.get! pos).toNat (s.get! (pos + 1)).toNat (s.get! (pos + 2)).toNat (s.get! (pos + 3)).toNat (UInt8.toNat_lt _)
        omega
      refine ⟨?_, ?_⟩
      · rw [List.map_cons]
        show encB ((Utf8.decode s pos).1 : Int) ++ flat _ = _
        rw [ih.1, encB_lib _ hvd, henc, ← List.drop_drop, List.take_append_drop]
      · intro p hp
        rcases List.mem_cons.1 hp with rfl | hp
        · exact hvd
        · exact ih.2 p hp
    · rw [if_neg h]
      rw [List.drop_of_length_le (by rw [size_list]; omega)]
      simp [flat]
/-- A text without broken bytes is its runes' text. -/
theorem runes_back (s : ByteArray) (h : (pieces s).all (fun p => !p.f3) = true) : runesBytes (runesOf s) = s := by
  apply bytes_ext
  rw [runesBytes_flat, runesOf_pieces]
  have := (flat_back s s.size 0 h (by omega)).1
  simpa [pieces] using this
theorem runes_valid (s : ByteArray) (h : (pieces s).all (fun p => !p.f3) = true) : ∀ x ∈ runesOf s, Utf8.valid x = true := by
  rw [runesOf_pieces]
  intro x hx
  obtain ⟨p, hp, rfl⟩ := List.mem_map.1 hx
  exact (flat_back s s.size 0 h (by omega)).2 p hp
/-- The text of runes that may be has these runes, and no broken byte. -/
theorem runes_forth (l : List Int) (h : ∀ x ∈ l, Utf8.valid x = true) : runesOf (runesBytes l) = l ∧ (pieces (runesBytes l)).all (fun p => !p.f3) = true := by
  have := pieces_flat (runesBytes l) l (runesBytes l).size 0 h (by rw [runesBytes_flat]; rfl) (by rw [← runesBytes_flat, size_list]; exact Nat.le_refl _)
  rw [runesOf_pieces]
  exact this
theorem rune_valid {r : Int} (h : runeOk r = true) : Utf8.valid r = true := by
  rw [valid_iff]
  unfold runeOk at h
  simp at h
  omega

/-! ### letters -/
theorem readP_ok (ks : List Int) : ∀ (ps : List Piece) (acc l : List Int), acc.length ≤ 64 → readP ks ps acc = (l, 0) → l = acc ++ ps.map (fun p => p.f0) ∧ ps.all (fun p => !p.f3) = true ∧ (∀ p ∈ ps, ks.contains p.f0 = true) ∧ acc.length + ps.length ≤ 64
  | [], acc, l, ha, h => by
    simp only [readP, Prod.mk.injEq] at h
    obtain ⟨rfl, _⟩ := h
    exact ⟨by simp, by simp, by simp, by simpa using ha⟩
  | p :: ps, acc, l, ha, h => by
    unfold readP at h
    split at h
    · simp at h
    · rename_i h3
      split at h
      · simp at h
      · rename_i hk
        split at h
        · simp at h
        · rename_i hn
          have ih := readP_ok ks ps _ l (by simp; omega) h
          simp only [List.length_append, List.length_cons, List.length_nil] at ih
          refine ⟨by simp [ih.1], ?_, ?_, by simp; omega⟩
          · rw [List.all_cons, ih.2.1]
            simpa using h3
          · intro q hq
            rcases List.mem_cons.1 hq with rfl | hq
            · simpa using hk
            · exact ih.2.2.1 q hq
theorem readP_mk (ks : List Int) : ∀ (ps : List Piece) (acc : List Int), ps.all (fun p => !p.f3) = true → (∀ p ∈ ps, ks.contains p.f0 = true) → acc.length + ps.length ≤ 64 → readP ks ps acc = (acc ++ ps.map (fun p => p.f0), 0)
  | [], acc, _, _, _ => by simp [readP]
  | p :: ps, acc, h1, h2, h3 => by
    simp only [List.all_cons, Bool.and_eq_true] at h1
    simp only [List.length_cons] at h3
    unfold readP
    rw [if_neg (by simpa using h1.1), if_neg (by rw [h2 p (List.mem_cons_self ..)]; simp), if_neg (by omega), readP_mk ks ps _ h1.2 (fun q hq => h2 q (List.mem_cons_of_mem _ hq)) (by simp; omega)]
    simp
theorem cut_small {s : ByteArray} (h : s.size ≤ 65536) : cut s = s := by
  unfold cut
  rw [if_pos h]
theorem letters_ok {l0 : List ByteArray} {l1 : List Letter} {s : ByteArray} {l : List Int} (hs : s.size ≤ 65536) (h : lettersOf l0 l1 s = (l, 0)) :
    chk l0 l1 = 0 ∧ l = runesOf s ∧ (pieces s).all (fun p => !p.f3) = true ∧ (∀ x ∈ l, (kindsOf l1).contains x = true) ∧ l.length ≤ 64 := by
  unfold lettersOf at h
  split at h
  · rename_i hk
    rw [cut_small hs] at h
    have := readP_ok _ _ _ _ (by simp) h
    rw [runesOf_pieces]
    simp only [List.nil_append, List.length_nil, Nat.zero_add] at this
    refine ⟨hk, this.1, this.2.1, ?_, ?_⟩
    · rw [this.1]
      intro x hx
      obtain ⟨p, hp, rfl⟩ := List.mem_map.1 hx
      exact this.2.2.1 p hp
    · rw [this.1, List.length_map]
      exact this.2.2.2
  · simp at h
theorem letters_mk {l0 : List ByteArray} {l1 : List Letter} {s : ByteArray} (hs : s.size ≤ 65536) (hk : chk l0 l1 = 0) (h1 : (pieces s).all (fun p => !p.f3) = true) (h2 : ∀ x ∈ runesOf s, (kindsOf l1).contains x = true) (h3 : (runesOf s).length ≤ 64) : lettersOf l0 l1 s = (runesOf s, 0) := by
  rw [runesOf_pieces] at h2 h3 ⊢
  unfold lettersOf
  rw [if_pos hk, cut_small hs, readP_mk _ _ _ h1 (fun p hp => h2 _ (List.mem_map.2 ⟨p, hp, rfl⟩)) (by simpa using h3)]
  rfl
theorem kinds_valid {l0 : List ByteArray} {l1 : List Letter} (hk : chk l0 l1 = 0) {x : Int} (h : (kindsOf l1).contains x = true) : runeOk x = true := by
  unfold kindsOf at h
  simp only [List.contains_iff_mem, List.mem_map] at h
  obtain ⟨y, hy, rfl⟩ := h
  exact chk_rune hk y hy
/-- The text of letters is a word that has these letters. -/
theorem letters_forth {l0 : List ByteArray} {l1 : List Letter} {l : List Int} (hk : chk l0 l1 = 0) (h : ∀ x ∈ l, (kindsOf l1).contains x = true) (hl : l.length ≤ 64) : lettersOf l0 l1 (runesBytes l) = (l, 0) := by
  have hv : ∀ x ∈ l, Utf8.valid x = true := fun x hx => rune_valid (kinds_valid hk (h x hx))
  have hf := runes_forth l hv
  have hs := runesBytes_size l hv
  have := letters_mk (l0 := l0) (s := runesBytes l) (by omega) hk hf.2 (by rw [hf.1]; exact h) (by rw [hf.1]; exact hl)
  rw [this, hf.1]
/-- A word is its letters' text. -/
theorem letters_back {l0 : List ByteArray} {l1 : List Letter} {s : ByteArray} {l : List Int} (hs : s.size ≤ 65536) (h : lettersOf l0 l1 s = (l, 0)) : runesBytes l = s := by
  have := letters_ok hs h
  rw [this.2.1]
  exact runes_back s this.2.2.1

/-! ### holes: bytes and runes -/
end Go.Proofs.YthmjheclhcdinaaDoor
end
section
-- printed by a program of this session (wip/tools/prx.sh: a turned copy of the kit's print, with functions given from outside)
namespace Go.Proofs.YthmjheclhcdinaaDoor.RRw
open Go.RowKit Go.Proofs.YthmjheclhcdinaaDoor Go.Proofs.YthmjheclhcdinaaDoor.Ext Go.Proofs.YthmjheclhcdinaaDoorW.PrintWords Go.Proofs.YthmjheclhcdinaaDoorW.PrintLast Go.Proofs.YthmjheclhcdinaaDoorW.PrintMore
attribute [local go_sem] max2_int min2_int max_two min_two max_three min_three max_four min_four   -- for this text's walks alone
set_option linter.unusedVariables false
set_option linter.unusedSimpArgs false



end Go.Proofs.YthmjheclhcdinaaDoor.RRw
end
section
-- printed by a program of this session (wip/tools/prx.sh: a turned copy of the kit's print, with functions given from outside)
namespace Go.Proofs.YthmjheclhcdinaaDoor.RRw
open Go.RowKit Go.Proofs.YthmjheclhcdinaaDoor Go.Proofs.YthmjheclhcdinaaDoor.Ext Go.Proofs.YthmjheclhcdinaaDoorW.PrintWords Go.Proofs.YthmjheclhcdinaaDoorW.PrintLast Go.Proofs.YthmjheclhcdinaaDoorW.PrintMore
attribute [local go_sem] max2_int min2_int max_two min_two max_three min_three max_four min_four   -- for this text's walks alone
set_option linter.unusedVariables false
set_option linter.unusedSimpArgs false

theorem eqA32 (d : Nat) (w : World) (x0 y0 : ByteArray) (x1 y1 : ByteArray) :
    (Op.equalIn (d + 2) 32 (.agg #[.string x0, .string x1]) (.agg #[.string y0, .string y1])).run Tryd.prog w = .ok (x0.toList == y0.toList && (x1.toList == y1.toList)) w := by
  refine eqA_of Tryd.underlying32 (by kernel_rfl) ?_
  refine eqf_cons (by rfl) (by go_simp; rfl) (by go_simp; rfl) (by go_simp) ?_
  exact eqf_last (by rfl) (by go_simp; rfl) (by go_simp; rfl) (by go_simp)
end Go.Proofs.YthmjheclhcdinaaDoor.RRw
end
section
/-
  A letter's class, two ways; the reference functions as contracts in plain words.
-/
set_option linter.unusedSimpArgs false
set_option linter.unusedVariables false
namespace Go.Proofs.YthmjheclhcdinaaDoor
open Go.RowKit Go.Proofs.YthmjheclhcdinaaDoorW.PrintWords Go.Proofs.YthmjheclhcdinaaDoorW.PrintLast Go.Proofs.YthmjheclhcdinaaDoorW.PrintMore Go.Proofs.YthmjheclhcdinaaDoor.Ext

/-- No rune twice. -/
def apart : List Letter → Prop
  | [] => True
  | x :: xs => (∀ y ∈ xs, y.f0 ≠ x.f0) ∧ apart xs
namespace Ext
/-- An alphabet that is not too large. -/
def smallA (l0 : List ByteArray) (l1 : List Letter) : Prop := l0.length ≤ 1000 ∧ l1.length ≤ 1000 ∧ wfA l1
instance (l0 : List ByteArray) (l1 : List Letter) : Decidable (smallA l0 l1) := by unfold smallA; exact inferInstance
def runes32 (l : List Int) : Prop := ∀ x ∈ l, -2147483648 ≤ x ∧ x ≤ 2147483647
instance (l : List Int) : Decidable (runes32 l) := by unfold runes32; exact inferInstance
end Ext
end Go.Proofs.YthmjheclhcdinaaDoor
end
section
-- printed by a program of this session (wip/tools/prx.sh: a turned copy of the kit's print, with functions given from outside)
namespace Go.Proofs.YthmjheclhcdinaaDoor.RRw
open Go.RowKit Go.Proofs.YthmjheclhcdinaaDoor Go.Proofs.YthmjheclhcdinaaDoor.Ext Go.Proofs.YthmjheclhcdinaaDoorW.PrintWords Go.Proofs.YthmjheclhcdinaaDoorW.PrintLast Go.Proofs.YthmjheclhcdinaaDoorW.PrintMore
attribute [local go_sem] max2_int min2_int max_two min_two max_three min_three max_four min_four   -- for this text's walks alone
set_option linter.unusedVariables false
set_option linter.unusedSimpArgs false

/-! ### cognatelaw13_long: function 9 -/
/-! ### cognateref13_parted: function 35 -/
/-! ### cognateref13_Radicals: function 11 -/
/-! ### cognateref13_Shape: function 13 -/
end Go.Proofs.YthmjheclhcdinaaDoor.RRw
end
section
/-
  radical.parted, Radicals, Shape by walks.
-/
set_option linter.unusedSimpArgs false
set_option linter.unusedVariables false
namespace Go.Proofs.YthmjheclhcdinaaDoor
open Go.RowKit Go.Maps Go.WideMaps Go.Proofs.YthmjheclhcdinaaDoorW.PrintWords Go.Proofs.YthmjheclhcdinaaDoorW.PrintLast Go.Proofs.YthmjheclhcdinaaDoorW.PrintMore Go.Proofs.YthmjheclhcdinaaDoor.Ext

/-- The numbers that a word's letters of a class have, so far, as keys. -/
def seenI (l : List Int) (k : Nat) : List Lit := (l.take k).reverse.map (Lit.int .i64)
theorem seenI_succ (l : List Int) (k : Nat) (h : k < l.length) : seenI l (k + 1) = Lit.int .i64 l[k] :: seenI l k := by
  unfold seenI
  rw [List.take_succ_eq_append_getElem h, List.reverse_append, List.map_append]
  simp
theorem wf_i64 {i : Int} (h : 0 ≤ i ∧ i < 1000000) : (Lit.int .i64 i).wf = true := by
  simp [Lit.wf, IntKind.min, IntKind.max, IntKind.signed, IntKind.bits]
  omega

set_option maxHeartbeats 2000000 in
set_option maxRecDepth 100000 in
theorem parted_walk (A0 A1 : Option Addr) (c0 c1 : Nat) (l0 : List ByteArray) (l1 : List Letter) (s : ByteArray) (p : Int) (w : World) (hF : Kd.C Kd.string w A0 l0.length l0) (hcF : l0.length ≤ c0) (hL : Kd.C kLetter w A1 l1.length l1) (hcL : l1.length ≤ c1) (hT : Tabs w)
    (l : List Int) (at_ : List Int) (h1 : lettersOf l0 l1 s = (l, 0)) (h2 : peaksOf l0 l1 s p 0 = (at_, 0)) (h3 : ∀ j ∈ at_, 0 ≤ j ∧ j < 1000000) (h4 : at_.length ≤ 64) :
    Calls Tryd.prog 34 #[.agg #[.slice A0 l0.length c0, .slice A1 l1.length c1], .string s, .int .u32 p] w fun e w' => ∃ v b D, e = .returned (.tuple #[v, .map (some b), .int .i64 0]) ∧ Kd.R (Kd.int .i32) 21 w' w.heap.size (fun k => k < b) v l ∧ b < w'.heap.size ∧ w'.ownsMap Tryd.prog 3 (plainElem (H := Unit) Tryd.prog 4) b at_.length D ∧ SetIs D (seenI at_ at_.length) ∧ Below w.heap.size w w' := by
  have hmm := @run_makeMap Tryd.prog
  have hcl := fun W hF hL hT => word_Letters.calls A0 c0 l0 A1 c1 l1 s l 0 W hF hcF hL hcL hT (by unfold word_Letters.f; rw [h1])
  have hcp := fun W hF hL hT => RF1.word_Peaks.calls 200 A0 c0 l0 A1 c1 l1 s p 0 at_ 0 W hF hcF hL hcL hT (by rw [Peaks_eq _ _ _ _ _ 200 (by omega), h2])
  have HF := Lib.hid hF
  have HL := Lib.hid hL
  have HT := Lib.hid hT
  have H3 := Lib.hid h3
  clear hF hL hT h1 h2 h3
  go_enter Tryd.func34, Tryd.ntmps34
  go_wp2_with (first | (go_at_call 37; refine (hcl _ (C_alloc HF.out _) (C_alloc HL.out _) (T_alloc HT.out _)).mono ?_; rintro e w1 ⟨v1, rfl, hR1, hb1⟩; have hB1 := below_step (B_alloc w _) hb1; have hbx := Lib.hid (blk_below (blk_new w (.cells #[.slice A0 l0.length c0, .slice A1 l1.length c1] 25)) hb1); have hq0 := (blk_cell hbx.out 0).trans rfl; have hq1 := (blk_cell hbx.out 1).trans rfl; obtain ⟨A, c, rfl⟩ := Kd.R_slice hR1) | (go_at_call 50; refine (hcp _ (Kd.C_below HF.out hB1) (Kd.C_below HL.out hB1) (HT.out.below hB1)).mono ?_; rintro e w2 ⟨v2, rfl, hR2, hb2⟩; have hB2 := below_step hB1 hb2; obtain ⟨A2, c2, rfl, hlc, hC2⟩ := Kd.R_reads hR2))
  have Hb1 := Lib.hid hb1
  have HB1 := Lib.hid hB1
  have HB2 := Lib.hid hB2
  have Hb2 := Lib.hid hb2
  have HC2 := Lib.hid hC2
  have HR1 := Lib.hid (Kd.R_bound hR1)
  clear hb1 hb2 hB1 hB2 hC2 hR1 hR2 hbx
  go_loopw [37] (fun i wr => ∃ k : Nat, k ≤ at_.length ∧ i = .int .i64 k ∧ Below w2.heap.size w2 wr ∧ w2.heap.size < wr.heap.size ∧
      ∃ D, wr.ownsMap Tryd.prog 3 (plainElem (H := Unit) Tryd.prog 4) w2.heap.size k D ∧ Hid (SetIs D (seenI at_ k)))
    (fun i _ => at_.length - (intOf i).toNat)
  case atStart => exact ⟨0, Nat.zero_le _, rfl, B_alloc _ _, by simp, _, World.ownsMap_made _ _ _ _, SetIs.empty⟩
  case round =>
    obtain ⟨k, hk, rfl, hb, hsz, D, hown, hS⟩ := hrel
    by_cases hlt : k < at_.length
    · have hx := Kd.at_int (Kd.C_below HC2.out hb) k (by omega) (by omega)
      obtain ⟨ad, hA, hx0⟩ := hx
      subst hA
      rw [Int.toNat_natCast] at hx0
      have hrd : YthmjheclhcdinaaDoorW.PrintWords.rd at_ (k : Int) = at_[k] := by simp [YthmjheclhcdinaaDoorW.PrintWords.rd, List.getD_eq_getElem?_getD, List.getElem?_eq_getElem hlt]
      rw [hrd] at hx0
      have hj := H3.out at_[k] (List.getElem_mem hlt)
      obtain ⟨x, hx⟩ : ∃ x, x = at_[k] := ⟨_, rfl⟩
      rw [← hx] at hx0 hj
      have Hx := Lib.hid hx
      clear hx hrd
      have hkey : keyOf Tryd.prog 3 (.int .i64 x) = some (.int .i64 x) := keyOf_int_mk Tryd.underlying3 (wf_i64 hj)
      go_wp2_with (at_mapUpdate; refine wpList_mapUpdate_own _ rfl _ _ _ 74 rfl 3 4 (int_keyed Tryd.underlying3) Tryd.underlying74 _ w2.heap.size k _ rfl hown (by unfold maxLen; omega) _ _ _ rfl rfl hkey _ [] (plainElem_bool Tryd.underlying4 true) ?_; intro w3 hown3 hgrow3)
      have s3 := hgrow3.size
      go_roundw
      case rel =>
        refine ⟨k + 1, by omega, by go_num, hb.grown hgrow3 (by omega) (fun j hj => by cases hj; omega), by omega, _, hown3, ?_⟩
        have := hS.out.put (k := Lit.int .i64 x) trivial
        rw [seenI_succ at_ k hlt, ← Hx.out]
        exact this
      case measure => simp [intOf]; omega
    · obtain rfl : k = at_.length := by omega
      go_wp2_with fail
      go_ret3
      exact ⟨_, _, _, rfl, Kd.R_below (Kd.R_below (Kd.R_mono (Kd.R_lower HR1.out (by simp)) (fun k hk => by have := Hb2.out.size; omega)) Hb2.out) hb, hsz, hown, hS.out, below_step HB2.out hb⟩

set_option maxHeartbeats 2000000 in
set_option maxRecDepth 100000 in
theorem parted_bad (A0 A1 : Option Addr) (c0 c1 : Nat) (l0 : List ByteArray) (l1 : List Letter) (s : ByteArray) (p : Int) (w : World) (hF : Kd.C Kd.string w A0 l0.length l0) (hcF : l0.length ≤ c0) (hL : Kd.C kLetter w A1 l1.length l1) (hcL : l1.length ≤ c1) (hT : Tabs w)
    (l : List Int) (e : Int) (h1 : lettersOf l0 l1 s = (l, e)) (he : e ≠ 0) :
    Calls Tryd.prog 34 #[.agg #[.slice A0 l0.length c0, .slice A1 l1.length c1], .string s, .int .u32 p] w fun e' w' => e' = .returned (.tuple #[.slice none 0 0, .map none, .int .i64 e]) ∧ Below w.heap.size w w' := by
  have hcl := fun W hF hL hT => word_Letters.calls A0 c0 l0 A1 c1 l1 s l e W hF hcF hL hcL hT (by unfold word_Letters.f; rw [h1])
  have HF := Lib.hid hF
  have HL := Lib.hid hL
  have HT := Lib.hid hT
  have heb : (e == 0) = false := beq_eq_false_iff_ne.mpr he
  have heb2 : (e != 0) = true := bne_iff_ne.mpr he
  clear hF hL hT h1
  go_enter Tryd.func34, Tryd.ntmps34
  go_wp2_with (first | (go_at_call 37; refine (hcl _ (C_alloc HF.out _) (C_alloc HL.out _) (T_alloc HT.out _)).mono ?_; rintro e w1 ⟨v1, rfl, hR1, hb1⟩; have hB1 := below_step (B_alloc w _) hb1; obtain ⟨A, c, rfl⟩ := Kd.R_slice hR1))
  go_ret3
  exact ⟨rfl, hB1⟩

set_option maxHeartbeats 2000000 in
set_option maxRecDepth 100000 in
theorem parted_bad2 (A0 A1 : Option Addr) (c0 c1 : Nat) (l0 : List ByteArray) (l1 : List Letter) (s : ByteArray) (p : Int) (w : World) (hF : Kd.C Kd.string w A0 l0.length l0) (hcF : l0.length ≤ c0) (hL : Kd.C kLetter w A1 l1.length l1) (hcL : l1.length ≤ c1) (hT : Tabs w)
    (l q : List Int) (e : Int) (h1 : lettersOf l0 l1 s = (l, 0)) (h2 : peaksOf l0 l1 s p 0 = (q, e)) (he : e ≠ 0) :
    Calls Tryd.prog 34 #[.agg #[.slice A0 l0.length c0, .slice A1 l1.length c1], .string s, .int .u32 p] w fun e' w' => e' = .returned (.tuple #[.slice none 0 0, .map none, .int .i64 e]) ∧ Below w.heap.size w w' := by
  have hcl := fun W hF hL hT => word_Letters.calls A0 c0 l0 A1 c1 l1 s l 0 W hF hcF hL hcL hT (by unfold word_Letters.f; rw [h1])
  have hcp := fun W hF hL hT => RF1.word_Peaks.calls 200 A0 c0 l0 A1 c1 l1 s p 0 q e W hF hcF hL hcL hT (by rw [Peaks_eq _ _ _ _ _ 200 (by omega), h2])
  have HF := Lib.hid hF
  have HL := Lib.hid hL
  have HT := Lib.hid hT
  have heb : (e == 0) = false := beq_eq_false_iff_ne.mpr he
  have heb2 : (e != 0) = true := bne_iff_ne.mpr he
  clear hF hL hT h1 h2
  go_enter Tryd.func34, Tryd.ntmps34
  go_wp2_with (first | (go_at_call 37; refine (hcl _ (C_alloc HF.out _) (C_alloc HL.out _) (T_alloc HT.out _)).mono ?_; rintro e w1 ⟨v1, rfl, hR1, hb1⟩; have hB1 := below_step (B_alloc w _) hb1; have hbx := Lib.hid (blk_below (blk_new w (.cells #[.slice A0 l0.length c0, .slice A1 l1.length c1] 25)) hb1); have hq0 := (blk_cell hbx.out 0).trans rfl; have hq1 := (blk_cell hbx.out 1).trans rfl; obtain ⟨A, c, rfl⟩ := Kd.R_slice hR1) | (go_at_call 50; refine (hcp _ (Kd.C_below HF.out hB1) (Kd.C_below HL.out hB1) (HT.out.below hB1)).mono ?_; rintro e w2 ⟨v2, rfl, hR2, hb2⟩; have hB2 := below_step hB1 hb2; obtain ⟨A2, c2, rfl⟩ := Kd.R_slice hR2))
  go_ret3
  exact ⟨rfl, hB2⟩

theorem conv_runes {w : World} {A : Option Addr} {n c : Nat} {xs : List Int} (h : Kd.C (Kd.int .i32) w A n xs) : (convert 73 9 (.slice A n c)).run Tryd.prog w = .ok (.string (runesBytes xs)) w := by
  have hn : xs.length = n := h.1
  cases A with
  | none =>
    have h0 : n = 0 := by
      by_cases hz : n = 0
      · exact hz
      · obtain ⟨ad, hA, _⟩ := Kd.at_int h 0 (by omega) (by omega)
        cases hA
    subst h0
    have : xs = [] := List.length_eq_zero_iff.1 hn
    subst this
    rw [run_convert_runes_nil w 73 9 21 0 c Tryd.underlying73 Tryd.underlying21 Tryd.underlying9]
    rfl
  | some a =>
    have := run_convert_runes w 73 9 21 a n c xs (by omega) Tryd.underlying73 Tryd.underlying21 Tryd.underlying9 (fun j hj => by
      obtain ⟨ad, hA, hx⟩ := Kd.at_int h (j : Int) (by omega) (by omega)
      cases hA
      simpa [YthmjheclhcdinaaDoorW.PrintWords.rd] using hx)
    rw [this, List.take_of_length_le (by omega)]

def notC (cls : List Int) : Int → Bool := fun x => !(cls.contains x)
theorem notC_step (cls l acc : List Int) (k : Nat) (h : k < l.length) (e : acc ++ (l.drop k).filter (notC cls) = l.filter (notC cls)) : (if cls.contains l[k] = true then acc else acc ++ [l[k]]) ++ (l.drop (k + 1)).filter (notC cls) = l.filter (notC cls) := by
  rw [← e, List.drop_eq_getElem_cons h]
  generalize List.drop (k + 1) l = t
  by_cases hc : cls.contains l[k] = true
  · rw [if_pos hc]
    simp only [List.filter, notC, hc]
    rfl
  · rw [if_neg hc]
    have : cls.contains l[k] = false := by simpa using hc
    simp only [List.filter, notC, this]
    simp
theorem peak_iff (cls l : List Int) (k : Nat) (h : k < l.length) : Lit.int .i64 (k : Int) ∈ seenI (peaksL cls l 0) (peaksL cls l 0).length ↔ cls.contains l[k] = true := by
  unfold seenI
  rw [List.take_length]
  simp only [List.mem_map, List.mem_reverse, mem_peaksL]
  constructor
  · rintro ⟨j, ⟨q, hq, he, hc⟩, hj⟩
    injection hj with _ hj
    have : q = k := by omega
    subst this
    exact hc
  · intro hc
    exact ⟨_, ⟨k, h, rfl, hc⟩, by simp⟩
theorem peaks_wf (cls l : List Int) (hl : l.length ≤ 64) : ∀ j ∈ peaksL cls l 0, 0 ≤ j ∧ j < 1000000 := by
  intro j hj
  obtain ⟨q, hq, he, _⟩ := (mem_peaksL cls l 0 j).1 hj
  omega
/-- radical.parted where all is right: the letters, and a map of those that have the class. -/
theorem parted_ok (A0 A1 : Option Addr) (c0 c1 : Nat) (l0 : List ByteArray) (l1 : List Letter) (s : ByteArray) (p : Int) (l cls : List Int) (h : partsOf l0 l1 s p = (l, cls, 0)) (w : World) (hF : Kd.C Kd.string w A0 l0.length l0) (hcF : l0.length ≤ c0) (hL : Kd.C kLetter w A1 l1.length l1) (hcL : l1.length ≤ c1) (hT : Tabs w) :
    Calls Tryd.prog 34 #[.agg #[.slice A0 l0.length c0, .slice A1 l1.length c1], .string s, .int .u32 p] w fun e w' => ∃ v b n D, e = .returned (.tuple #[v, .map (some b), .int .i64 0]) ∧ Kd.R (Kd.int .i32) 21 w' w.heap.size (fun k => k < b) v l ∧ b < w'.heap.size ∧ w'.ownsMap Tryd.prog 3 (plainElem (H := Unit) Tryd.prog 4) b n D ∧ (∀ k (hk : k < l.length) (c : Bool), D.atKey (.int .i64 (k : Int)) (.lit (.bool false)) = .lit (.bool c) → c = cls.contains l[k]) ∧ Below w.heap.size w w' := by
  unfold partsOf at h
  split at h
  · rename_i h1
    split at h
    · rename_i h2
      obtain ⟨e1, e2, _⟩ : (lettersOf l0 l1 s).1 = l ∧ (classOf l0 l1 p 0).1 = cls ∧ (0 : Int) = 0 := by simpa using h
      have hlen : l.length ≤ 64 := by rw [← e1]; exact lettersOf_len _ _ _
      have hpk : peaksOf l0 l1 s p 0 = (peaksL cls l 0, 0) := by
        unfold peaksOf
        rw [if_pos h1, if_pos h2, e1, e2]
      refine (parted_walk A0 A1 c0 c1 l0 l1 s p w hF hcF hL hcL hT l (peaksL cls l 0) (by rw [← e1, ← h1]) hpk (peaks_wf cls l hlen) (Nat.le_trans (peaksL_len _ _ _) hlen)).mono ?_
      rintro e w' ⟨v, b, D, he, hR, hb, hown, hS, hB⟩
      refine ⟨v, b, _, D, he, hR, hb, hown, ?_, hB⟩
      intro k hk c hc
      have h3 := hS.iff hc
      rw [peak_iff cls l k hk] at h3
      rw [Bool.eq_iff_iff]
      exact h3
    · rename_i h2
      simp at h
      exact absurd h.2.2 h2
  · rename_i h2
    simp at h
    exact absurd h.2.2 h2
theorem parted_no (A0 A1 : Option Addr) (c0 c1 : Nat) (l0 : List ByteArray) (l1 : List Letter) (s : ByteArray) (p : Int) (l cls : List Int) (e : Int) (he : e ≠ 0) (h : partsOf l0 l1 s p = (l, cls, e)) (w : World) (hF : Kd.C Kd.string w A0 l0.length l0) (hcF : l0.length ≤ c0) (hL : Kd.C kLetter w A1 l1.length l1) (hcL : l1.length ≤ c1) (hT : Tabs w) :
    Calls Tryd.prog 34 #[.agg #[.slice A0 l0.length c0, .slice A1 l1.length c1], .string s, .int .u32 p] w fun e' w' => e' = .returned (.tuple #[.slice none 0 0, .map none, .int .i64 e]) ∧ Below w.heap.size w w' := by
  unfold partsOf at h
  split at h
  · rename_i h1
    split at h
    · simp at h
      omega
    · rename_i h2
      simp only [Prod.mk.injEq] at h
      exact parted_bad2 A0 A1 c0 c1 l0 l1 s p w hF hcF hL hcL hT (lettersOf l0 l1 s).1 [] e (by rw [← h1]) (by unfold peaksOf; rw [if_pos h1, if_neg h2, h.2.2]) he
  · rename_i h1
    simp only [Prod.mk.injEq] at h
    exact parted_bad A0 A1 c0 c1 l0 l1 s p w hF hcF hL hcL hT (lettersOf l0 l1 s).1 e (by rw [← h.2.2]) he
end Go.Proofs.YthmjheclhcdinaaDoor
end
section
/-
  radical.Radicals and radical.Shape by walks.
-/
set_option linter.unusedSimpArgs false
set_option linter.unusedVariables false
namespace Go.Proofs.YthmjheclhcdinaaDoor
open Go.RowKit Go.Maps Go.WideMaps Go.Proofs.YthmjheclhcdinaaDoorW.PrintWords Go.Proofs.YthmjheclhcdinaaDoorW.PrintLast Go.Proofs.YthmjheclhcdinaaDoorW.PrintMore Go.Proofs.YthmjheclhcdinaaDoor.Ext
theorem blk_new2 (w : World) (o o2 : Obj) : ((w.alloc o).alloc o2).heap[w.heap.size + 1]? = some o2 := by
  have := blk_new (w.alloc o) o2
  have e : (w.alloc o).heap.size = w.heap.size + 1 := by simp
  rwa [e] at this
namespace Ext
def radical_Radicals.f (l0 : List ByteArray) (l1 : List Letter) (s : ByteArray) (p : Int) : Option (ByteArray × Int) :=
  some (if (partsOf l0 l1 s p).2.2 = 0 then (runesBytes ((partsOf l0 l1 s p).1.filter (notC (partsOf l0 l1 s p).2.1)), 0) else ((⟨#[]⟩ : ByteArray), (partsOf l0 l1 s p).2.2))
set_option maxHeartbeats 2000000 in
set_option maxRecDepth 100000 in
theorem radical_Radicals.calls (A0 : Option Addr) (c0 : Nat) (l0 : List ByteArray) (A1 : Option Addr) (c1 : Nat) (l1 : List Letter) (s : ByteArray) (p : Int) (r1 : ByteArray) (r2 : Int) (w : World) (hF : Kd.C Kd.string w A0 l0.length l0) (hcF : l0.length ≤ c0) (hL : Kd.C kLetter w A1 l1.length l1) (hcL : l1.length ≤ c1) (hT : Tabs w)
    (h : radical_Radicals.f l0 l1 s p = some (r1, r2)) :
    Calls Tryd.prog 10 #[.agg #[.slice A0 l0.length c0, .slice A1 l1.length c1], .string s, .int .u32 p] w fun e w' => e = .returned (.tuple #[.string r1, .int .i64 r2]) ∧ Below w.heap.size w w' := by
  have h := Option.some.inj h
  have h6 : ∀ l cls e, partsOf l0 l1 s p = (l, cls, e) → e = 0 → l.length ≤ 64 := by
    intro l cls e hp he
    unfold partsOf at hp
    split at hp
    · split at hp
      · simp only [Prod.mk.injEq] at hp
        rw [← hp.1]
        exact lettersOf_len _ _ _
      · simp only [Prod.mk.injEq] at hp
        rw [← hp.1]; simp
    · simp only [Prod.mk.injEq] at hp
      rw [← hp.1]; simp
  obtain ⟨l, cls, e, hp⟩ : ∃ l cls e, partsOf l0 l1 s p = (l, cls, e) := ⟨_, _, _, rfl⟩
  rw [hp] at h
  dsimp only at h
  by_cases he : e = 0
  · subst he
    rw [if_pos rfl] at h
    simp only [Prod.mk.injEq] at h
    obtain ⟨hr, rfl⟩ := h
    have hlen := h6 _ _ _ hp rfl
    have hpt := fun W hF hL hT => parted_ok A0 A1 c0 c1 l0 l1 s p l cls hp W hF hcF hL hcL hT
    have HF := Lib.hid hF
    have HL := Lib.hid hL
    have HT := Lib.hid hT
    have Hr := Lib.hid hr
    clear hF hL hT hp hr h6
    go_enter Tryd.func10, Tryd.ntmps10
    go_wp2_with (first | (go_at_call 34; refine (hpt _ (C_alloc HF.out _) (C_alloc HL.out _) (T_alloc HT.out _)).mono ?_; rintro e w1 ⟨v1, b, n, D, rfl, hR1, hbs, hown, hat, hb1⟩; have hB1 := Lib.hid (below_step (B_alloc w _) hb1); obtain ⟨A, c, rfl, hlc, hC⟩ := Kd.R_reads hR1))
    have Hat := Lib.hid hat
    have HC := Lib.hid hC
    have Hown := Lib.hid hown
    clear hat hC hR1 hown hb1
    go_loopw [11, 27] (fun o i wr => ∃ (k : Nat) (acc : List Int), k ≤ l.length ∧ i = .int .i64 k ∧ Below w1.heap.size w1 wr ∧ Hid (Kd.R (Kd.int .i32) 21 wr w1.heap.size (fun _ => True) o acc) ∧ acc.length ≤ k ∧ Hid (acc ++ (l.drop k).filter (notC cls) = l.filter (notC cls)))
      (fun _ i _ => l.length - (intOf i).toNat)
    case atStart => exact ⟨0, [], Nat.zero_le _, rfl, Below.refl _ _, Kd.R_nil _ _ _ _ _, by simp, by simp [Hid]⟩
    case round =>
      obtain ⟨k, acc, hk, rfl, hb, hR, hal, hq⟩ := hrel
      have hown2 := Hown.out.kept (grown_of_below hb none) (by simp)
      obtain ⟨Ao, co, hv, hlo, hCo⟩ := Kd.R_reads hR.out
      have hR2 := Lib.hid (hv ▸ hR.out)
      subst hv
      by_cases hlt : k < l.length
      · obtain ⟨ad, hA, hx0⟩ := Kd.at_int (Kd.C_below HC.out hb) k (by omega) (by omega)
        subst hA
        rw [Int.toNat_natCast] at hx0
        have hrd : YthmjheclhcdinaaDoorW.PrintWords.rd l (k : Int) = l[k] := by simp [YthmjheclhcdinaaDoorW.PrintWords.rd, List.getD_eq_getElem?_getD, List.getElem?_eq_getElem hlt]
        rw [hrd] at hx0
        have hak := Hat.out k hlt
        have hq2 := notC_step cls l acc k hlt hq.out
        obtain ⟨x, hx⟩ : ∃ x, x = l[k] := ⟨_, rfl⟩
        rw [← hx] at hx0 hak hq2
        have hkey : keyOf Tryd.prog 3 (.int .i64 (k : Int)) = some (.int .i64 (k : Int)) := keyOf_int_mk Tryd.underlying3 (wf_i64 (by omega))
        have Hak := Lib.hid hak
        clear hx hrd hak hq hCo
        cases hcx : cls.contains x with
        | true =>
          rw [if_pos hcx] at hq2
          have Hq2 := Lib.hid hq2
          clear hq2
          go_wp2_with (at_lookup; (try (refine gate_guard (by rfl) ?_; dsimp only)); refine wpList_lookup_own_bool _ rfl _ _ 74 rfl 3 4 (int_keyed Tryd.underlying3) Tryd.underlying74 Tryd.underlying4 (zeroBool _) b n _ rfl hown2 _ _ rfl hkey ?_; intro c hat; (have hct := (Hak.out _ hat).trans hcx); subst hct)
          go_roundw
          case rel => exact ⟨k + 1, acc, by omega, by go_num, hb, hR2.out, by omega, Hq2.out⟩
          case measure => simp [intOf]; omega
        | false =>
          rw [if_neg (by rw [hcx]; simp)] at hq2
          have Hq2 := Lib.hid hq2
          clear hq2
          go_wp2_with (first | (at_lookup; (try (refine gate_guard (by rfl) ?_; dsimp only)); refine wpList_lookup_own_bool _ rfl _ _ 74 rfl 3 4 (int_keyed Tryd.underlying3) Tryd.underlying74 Tryd.underlying4 (zeroBool _) b n _ rfl hown2 _ _ rfl hkey ?_; intro c hat; (have hct := (Hak.out _ hat).trans hcx); subst hct) | (at_builtin; go_must (refine Kd.R_append (w0 := w1) (Kd.int .i32) w1.heap.size rfl (.tmp 36) (.tmp 38) 73 21 _ _ rfl Tryd.underlying73 info21 (by decide) (by decide) (by decide) _ acc x _ (fun _ => True) (fun _ => False) rfl (by first | rfl | simp [Act.eval]) rfl (fun _ h => h.elim) (fun _ _ => trivial) hR2.out hb hb.size (by omega) ?_); intro v2 w2 HR HB hg hat; have HRh := Lib.hid HR; have HBh := Lib.hid HB; clear HR HB hg hat))
          go_roundw
          case rel => exact ⟨k + 1, acc ++ [x], by omega, by go_num, HBh.out, HRh.out, by simp; omega, Hq2.out⟩
          case measure => simp [intOf]; omega
      · obtain rfl : k = l.length := by omega
        have hcv := conv_runes (c := co) hCo
        have hq2 := hq.out
        rw [List.drop_of_length_le (Nat.le_refl _), List.filter_nil, List.append_nil] at hq2
        have Hq2 := Lib.hid hq2
        clear hq hq2 hCo
        go_wp2_with fail
        go_ret2
        have hfin : runesBytes acc = r1 := by rw [Hq2.out]; exact Hr.out
        exact ⟨by rw [hfin]; rfl, below_step hB1.out hb⟩
  · rw [if_neg he] at h
    simp only [Prod.mk.injEq] at h
    obtain ⟨rfl, rfl⟩ := h
    have hpt := fun W hF hL hT => parted_no A0 A1 c0 c1 l0 l1 s p l cls e he hp W hF hcF hL hcL hT
    have HF := Lib.hid hF
    have HL := Lib.hid hL
    have HT := Lib.hid hT
    have heb : (e == 0) = false := beq_eq_false_iff_ne.mpr he
    have heb2 : (e != 0) = true := bne_iff_ne.mpr he
    clear hF hL hT hp h6
    go_enter Tryd.func10, Tryd.ntmps10
    go_wp2_with (first | (go_at_call 34; refine (hpt _ (C_alloc HF.out _) (C_alloc HL.out _) (T_alloc HT.out _)).mono ?_; rintro e w1 ⟨rfl, hb1⟩; have hB1 := Lib.hid (below_step (B_alloc w _) hb1)))
    go_ret2
    exact ⟨rfl, hB1.out⟩

end Ext
end Go.Proofs.YthmjheclhcdinaaDoor
end
section
-- printed by a program of this session (wip/tools/prx.sh: a turned copy of the kit's print, with functions given from outside)
namespace Go.Proofs.YthmjheclhcdinaaDoor.RRw
open Go.RowKit Go.Proofs.YthmjheclhcdinaaDoor Go.Proofs.YthmjheclhcdinaaDoor.Ext Go.Proofs.YthmjheclhcdinaaDoorW.PrintWords Go.Proofs.YthmjheclhcdinaaDoorW.PrintLast Go.Proofs.YthmjheclhcdinaaDoorW.PrintMore
attribute [local go_sem] max2_int min2_int max_two min_two max_three min_three max_four min_four   -- for this text's walks alone
set_option linter.unusedVariables false
set_option linter.unusedSimpArgs false

attribute [local go_sem high] eqA32
/-! ### radical_Skip: function 14 -/
/-! ### cognateref13_Skip: function 15 -/
/-! ### cognatelaw13_RadicalWords: function 3 -/
end Go.Proofs.YthmjheclhcdinaaDoor.RRw
end
section
/-
  The plain law of RadicalWords: what the printed statement computes is true.
-/
set_option linter.unusedSimpArgs false
set_option linter.unusedVariables false
namespace Go.Proofs.YthmjheclhcdinaaDoor
open Go.RowKit Go.Proofs.YthmjheclhcdinaaDoorW.PrintWords Go.Proofs.YthmjheclhcdinaaDoorW.PrintLast Go.Proofs.YthmjheclhcdinaaDoorW.PrintMore Go.Proofs.YthmjheclhcdinaaDoor.Ext

/-! ### skipped through -/
/-! ### parted -/
end Go.Proofs.YthmjheclhcdinaaDoor
end
section
/-
  Roots in shapes, in plain words: merged, split, skipped through. No program in sight.
-/
set_option linter.unusedSimpArgs false
set_option linter.unusedVariables false
namespace Go.Proofs.YthmjheclhcdinaaDoor
open Go.RowKit Go.Proofs.YthmjheclhcdinaaDoorW.PrintWords Go.Proofs.YthmjheclhcdinaaDoorW.PrintLast Go.Proofs.YthmjheclhcdinaaDoorW.PrintMore Go.Proofs.YthmjheclhcdinaaDoor.Ext

/-- Letters put into a shape's holes. -/
def fillH : List Int → List Int → List Int
  | [], _ => []
  | x :: xs, [] => x :: fillH xs []
  | x :: xs, r :: rs => if x = 95 then r :: fillH xs rs else x :: fillH xs (r :: rs)
abbrev noB : ByteArray := ⟨#[]⟩
theorem fill_nil : ∀ f : List Int, fillH f [] = f
  | [] => rfl
  | x :: xs => by rw [fillH, fill_nil xs]
theorem fill_len : ∀ (f l : List Int), (fillH f l).length = f.length
  | [], _ => by simp [fillH]
  | x :: xs, [] => by simp [fill_nil]
  | x :: xs, r :: rs => by
    unfold fillH
    split <;> simp [fill_len xs]
theorem fill_mem : ∀ (f l : List Int), f.count 95 = l.length → ∀ x ∈ fillH f l, (x ∈ f ∧ x ≠ 95) ∨ x ∈ l
  | [], _, _ => by simp [fillH]
  | y :: ys, [], h => by
    rw [fill_nil]
    intro x hx
    left
    refine ⟨hx, ?_⟩
    intro e
    subst e
    have : 0 < (y :: ys).count 95 := List.count_pos_iff.2 hx
    simp at h
    omega
  | y :: ys, r :: rs, h => by
    rw [List.count_cons] at h
    unfold fillH
    by_cases hy : y = 95
    · rw [if_pos hy]
      intro x hx
      rcases List.mem_cons.1 hx with rfl | hx
      · exact .inr (List.mem_cons_self ..)
      · rcases fill_mem ys rs (by simp [hy] at h; exact h) x hx with h1 | h1
        · exact .inl ⟨List.mem_cons_of_mem _ h1.1, h1.2⟩
        · exact .inr (List.mem_cons_of_mem _ h1)
    · rw [if_neg hy]
      intro x hx
      rcases List.mem_cons.1 hx with rfl | hx
      · exact .inl ⟨List.mem_cons_self .., hy⟩
      · rcases fill_mem ys (r :: rs) (by simp [hy] at h; simp [h]) x hx with h1 | h1
        · exact .inl ⟨List.mem_cons_of_mem _ h1.1, h1.2⟩
        · exact .inr h1
/-! ### shapes that may be -/
theorem chkS_zero {l0 : List ByteArray} {l1 : List Letter} {n f : ByteArray} (h : chkS l0 l1 n f = 0) : chk l0 l1 = 0 ∧ nameS n = true ∧ formS (kindsOf l1) f = true := by
  unfold chkS at h
  by_cases hk : chk l0 l1 = 0
  · rw [if_pos hk] at h
    by_cases hs : (nameS n && formS (kindsOf l1) f) = true
    · simp only [Bool.and_eq_true] at hs
      exact ⟨hk, hs.1, hs.2⟩
    · rw [if_neg hs] at h
      cases h
  · rw [if_neg hk] at h
    exact absurd h hk
theorem formS_ok {ks : List Int} {f : ByteArray} (h : formS ks f = true) : (pieces f).all (fun p => !p.f3) = true ∧ (runesOf f).length ≤ 64 ∧ ∀ x ∈ runesOf f, ks.contains x = true ∨ x = 95 := by
  unfold formS at h
  simp only [Bool.and_eq_true, decide_eq_true_eq] at h
  rw [runesOf_pieces]
  refine ⟨h.1.1, by simpa using h.1.2, fun x hx => ?_⟩
  obtain ⟨p, hp, rfl⟩ := List.mem_map.1 hx
  have := List.all_eq_true.1 h.2 p hp
  simpa using this
/-! ### merged and split, split and merged -/
/-! ### a word's radicals in its shape -/
theorem parts_mk {l0 : List ByteArray} {l1 : List Letter} {s : ByteArray} {p : Int} {l cls : List Int} (h1 : lettersOf l0 l1 s = (l, 0)) (h2 : classOf l0 l1 p 0 = (cls, 0)) : partsOf l0 l1 s p = (l, cls, 0) := by
  unfold partsOf
  rw [h1, h2, if_pos rfl, if_pos rfl]
end Go.Proofs.YthmjheclhcdinaaDoor
end
section
/-
  Affixes put to letters and taken off, in plain words. No program in sight.
-/
set_option linter.unusedSimpArgs false
set_option linter.unusedVariables false
namespace Go.Proofs.YthmjheclhcdinaaDoor
open Go.RowKit Go.Proofs.YthmjheclhcdinaaDoorW.PrintWords Go.Proofs.YthmjheclhcdinaaDoorW.PrintLast Go.Proofs.YthmjheclhcdinaaDoorW.PrintMore Go.Proofs.YthmjheclhcdinaaDoor.Ext

/-- Is a rune a letter that is no vowel? -/
def consB (ks cls : List Int) (r : Int) : Bool := ks.contains r && !cls.contains r
/-- An affix with its letters: kind, form, other, place. -/
structure Aff where
  kind : Int
  form : List Int
  other : List Int
  place : Nat
def putL (ks cls : List Int) (x : Aff) (l : List Int) : List Int × Int :=
  if x.kind = 1 then (x.form ++ l, 0)
  else if x.kind = 2 then (l ++ x.form, 0)
  else if x.kind = 3 then (x.form ++ l ++ x.other, 0)
  else if x.kind = 4 then (l.take (min x.place l.length) ++ x.form ++ l.drop (min x.place l.length), 0)
  else if x.kind = 5 then (if x.form.count 95 = (l.filter (consB ks cls)).length then (fillH x.form (l.filter (consB ks cls)), 0) else ([], 130))
  else if l.length < x.place then ([], 150) else (l.take (if x.place = 0 then l.length else x.place) ++ l, 0)
/-- What stands at a form's holes, if these are consonants. -/
def pickC (c : Int → Bool) : List Int → List Int → Option (List Int)
  | [], [] => some []
  | x :: xs, y :: ys => if y = 95 then (if c x = true then (pickC c xs ys).map (x :: ·) else none) else pickC c xs ys
  | _, _ => none
def offL (ks cls : List Int) (x : Aff) (l : List Int) : Option (List Int) :=
  if x.kind = 1 then (if l.length < x.form.length then none else some (l.drop x.form.length))
  else if x.kind = 2 then (if l.length < x.form.length then none else some (l.take (l.length - x.form.length)))
  else if x.kind = 3 then (if l.length < x.form.length + x.other.length then none else some ((l.drop x.form.length).take (l.length - x.form.length - x.other.length)))
  else if x.kind = 4 then (if l.length < x.form.length then none else some (l.take (min x.place (l.length - x.form.length)) ++ l.drop (min x.place (l.length - x.form.length) + x.form.length)))
  else if x.kind = 5 then (if l.length = x.form.length then pickC (consB ks cls) l x.form else none)
  else if l.length < 2 * (if x.place = 0 then l.length / 2 else x.place) then none else some (l.drop (if x.place = 0 then l.length / 2 else x.place))
def takenL (ks cls : List Int) (x : Aff) (l : List Int) : Option (List Int) :=
  match offL ks cls x l with
  | none => none
  | some m => if putL ks cls x m = (l, 0) then some m else none
/-- What is taken off: the letters, or those without vowels. -/
def wantL (ks cls : List Int) (x : Aff) (l : List Int) : List Int := if x.kind = 5 then l.filter (consB ks cls) else l

theorem pickC_fill (c : Int → Bool) : ∀ (f r : List Int), f.count 95 = r.length → (∀ x ∈ r, c x = true) → pickC c (fillH f r) f = some r
  | [], r, h, _ => by
    have : r = [] := List.length_eq_zero_iff.1 (by simpa using h.symm)
    subst this
    rfl
  | x :: xs, [], h, _ => by
    have hx : x ≠ 95 := by
      intro e
      subst e
      simp at h
    rw [List.count_cons] at h
    unfold fillH pickC
    rw [if_neg hx]
    exact pickC_fill c xs [] (by simp [hx] at h; simp [h]) (by simp)
  | x :: xs, r :: rs, h, hc => by
    rw [List.count_cons] at h
    unfold fillH
    by_cases hx : x = 95
    · rw [if_pos hx]
      unfold pickC
      rw [if_pos hx, if_pos (hc r (List.mem_cons_self ..)), pickC_fill c xs rs (by simp [hx] at h; exact h) (fun y hy => hc y (List.mem_cons_of_mem _ hy))]
      rfl
    · rw [if_neg hx]
      unfold pickC
      rw [if_neg hx]
      exact pickC_fill c xs (r :: rs) (by simp [hx] at h; simp [h]) hc
theorem pickC_mem (c : Int → Bool) : ∀ (w f l : List Int), pickC c w f = some l → (∀ x ∈ l, x ∈ w ∧ c x = true) ∧ l.length ≤ w.length ∧ f.count 95 = l.length
  | [], [], l, h => by
    simp only [pickC, Option.some.injEq] at h
    subst h
    simp
  | [], y :: ys, l, h => by simp [pickC] at h
  | x :: xs, [], l, h => by simp [pickC] at h
  | x :: xs, y :: ys, l, h => by
    unfold pickC at h
    by_cases hy : y = 95
    · rw [if_pos hy] at h
      by_cases hc : c x = true
      · rw [if_pos hc] at h
        cases hq : pickC c xs ys with
        | none => rw [hq] at h; cases h
        | some q =>
          rw [hq] at h
          obtain rfl : x :: q = l := by simpa using h
          have ih := pickC_mem c xs ys q hq
          refine ⟨fun z hz => ?_, by simp [ih.2.1], by rw [List.count_cons]; simp [hy, ih.2.2]⟩
          rcases List.mem_cons.1 hz with rfl | hz
          · exact ⟨List.mem_cons_self .., hc⟩
          · exact ⟨List.mem_cons_of_mem _ (ih.1 z hz).1, (ih.1 z hz).2⟩
      · rw [if_neg hc] at h
        cases h
    · rw [if_neg hy] at h
      have ih := pickC_mem c xs ys l h
      exact ⟨fun z hz => ⟨List.mem_cons_of_mem _ (ih.1 z hz).1, (ih.1 z hz).2⟩, by have := ih.2.1; simp; omega, by rw [List.count_cons]; simp [hy, ih.2.2]⟩
/-- What an affix made is taken off again. -/
theorem put_off {ks cls : List Int} {x : Aff} {l m : List Int} (hk : x.kind = 1 ∨ x.kind = 2 ∨ x.kind = 3 ∨ x.kind = 4 ∨ x.kind = 5 ∨ x.kind = 6) (h : putL ks cls x l = (m, 0)) : takenL ks cls x m = some (wantL ks cls x l) := by
  have hput : putL ks cls x (wantL ks cls x l) = (m, 0) := by
    unfold wantL
    by_cases h5 : x.kind = 5
    · rw [if_pos h5]
      unfold putL at h ⊢
      rw [if_neg (by omega), if_neg (by omega), if_neg (by omega), if_neg (by omega), if_pos h5] at h ⊢
      rw [List.filter_filter]
      have e : (fun a => consB ks cls a && consB ks cls a) = consB ks cls := by funext a; simp
      rw [e]
      exact h
    · rw [if_neg h5]
      exact h
  have hoff : offL ks cls x m = some (wantL ks cls x l) := by
    unfold putL at h
    unfold offL wantL
    rcases hk with hk | hk | hk | hk | hk | hk
    · rw [if_pos hk] at h ⊢
      simp only [Prod.mk.injEq, and_true] at h
      subst h
      rw [if_neg (by simp), if_neg (by omega), List.drop_left]
    · rw [if_neg (by omega), if_pos hk] at h ⊢
      simp only [Prod.mk.injEq, and_true] at h
      subst h
      rw [if_neg (by simp), if_neg (by omega)]
      have : (l ++ x.form).length - x.form.length = l.length := by simp
      rw [this, List.take_left]
    · rw [if_neg (by omega), if_neg (by omega), if_pos hk] at h ⊢
      simp only [Prod.mk.injEq, and_true] at h
      subst h
      rw [if_neg (by simp only [List.length_append]; omega), if_neg (by omega)]
      have : (x.form ++ l ++ x.other).length - x.form.length - x.other.length = l.length := by simp only [List.length_append]; omega
      rw [this, List.append_assoc, List.drop_left, List.take_left]
    · rw [if_neg (by omega), if_neg (by omega), if_neg (by omega), if_pos hk] at h ⊢
      simp only [Prod.mk.injEq, and_true] at h
      subst h
      have hn : (l.take (min x.place l.length) ++ x.form ++ l.drop (min x.place l.length)).length = l.length + x.form.length := by simp; omega
      rw [hn, if_neg (by omega), if_neg (by omega)]
      have e : l.length + x.form.length - x.form.length = l.length := by omega
      rw [e]
      generalize hq : min x.place l.length = q
      have hql : q ≤ l.length := by omega
      have e1 : (l.take q ++ x.form ++ l.drop q).take q = l.take q := by
        rw [List.append_assoc, List.take_append_of_le_length (by simp; omega), List.take_take]
        congr 1
        omega
      have e2 : (l.take q ++ x.form ++ l.drop q).drop (q + x.form.length) = l.drop q := by
        have hl : (l.take q ++ x.form).length = q + x.form.length := by simp; omega
        rw [← hl, List.drop_left]
      rw [e1, e2, List.take_append_drop]
    · rw [if_neg (by omega), if_neg (by omega), if_neg (by omega), if_neg (by omega), if_pos hk] at h ⊢
      rw [if_pos hk]
      by_cases hc : x.form.count 95 = (l.filter (consB ks cls)).length
      · rw [if_pos hc] at h
        simp only [Prod.mk.injEq, and_true] at h
        subst h
        rw [if_pos (fill_len _ _)]
        exact pickC_fill _ _ _ hc (fun y hy => (List.mem_filter.1 hy).2)
      · rw [if_neg hc] at h
        simp at h
    · rw [if_neg (by omega), if_neg (by omega), if_neg (by omega), if_neg (by omega), if_neg (by omega)] at h ⊢
      by_cases hp : l.length < x.place
      · rw [if_pos hp] at h
        simp at h
      · rw [if_neg hp] at h
        simp only [Prod.mk.injEq, and_true] at h
        rw [if_neg (by omega : ¬ x.kind = 5)]
        by_cases h0 : x.place = 0
        · rw [if_pos h0] at h ⊢
          rw [List.take_length] at h
          subst h
          have : (l ++ l).length / 2 = l.length := by simp; omega
          rw [this, if_neg (by simp; omega), List.drop_left]
        · rw [if_neg h0] at h ⊢
          subst h
          have hl : (l.take x.place).length = x.place := by simp; omega
          have h2 : (l.take x.place ++ l).length = x.place + l.length := by simp; omega
          rw [h2, if_neg (by omega)]
          congr 1
          have := List.drop_left (l₁ := l.take x.place) (l₂ := l)
          rwa [hl] at this
  unfold takenL
  rw [hoff]
  dsimp only
  rw [if_pos hput]
theorem taken_put {ks cls : List Int} {x : Aff} {l m : List Int} (h : takenL ks cls x l = some m) : putL ks cls x m = (l, 0) := by
  unfold takenL at h
  split at h
  · cases h
  · split at h
    · simp only [Option.some.injEq] at h
      subst h
      assumption
    · cases h
theorem off_mem {ks cls : List Int} {x : Aff} {l m : List Int} (h : offL ks cls x l = some m) : (∀ y ∈ m, y ∈ l) ∧ m.length ≤ l.length := by
  unfold offL at h
  by_cases h1 : x.kind = 1
  · rw [if_pos h1] at h
    split at h
    · cases h
    · simp only [Option.some.injEq] at h
      subst h
      exact ⟨fun y hy => List.mem_of_mem_drop hy, by simp⟩
  · rw [if_neg h1] at h
    by_cases h2 : x.kind = 2
    · rw [if_pos h2] at h
      split at h
      · cases h
      · simp only [Option.some.injEq] at h
        subst h
        exact ⟨fun y hy => List.mem_of_mem_take hy, by simp⟩
    · rw [if_neg h2] at h
      by_cases h3 : x.kind = 3
      · rw [if_pos h3] at h
        split at h
        · cases h
        · simp only [Option.some.injEq] at h
          subst h
          exact ⟨fun y hy => List.mem_of_mem_drop (List.mem_of_mem_take hy), by simp; omega⟩
      · rw [if_neg h3] at h
        by_cases h4 : x.kind = 4
        · rw [if_pos h4] at h
          split at h
          · cases h
          · simp only [Option.some.injEq] at h
            subst h
            refine ⟨fun y hy => ?_, by simp; omega⟩
            rcases List.mem_append.1 hy with hy | hy
            · exact List.mem_of_mem_take hy
            · exact List.mem_of_mem_drop hy
        · rw [if_neg h4] at h
          by_cases h5 : x.kind = 5
          · rw [if_pos h5] at h
            split at h
            · have := pickC_mem _ _ _ _ h
              exact ⟨fun y hy => (this.1 y hy).1, this.2.1⟩
            · cases h
          · rw [if_neg h5] at h
            generalize (if x.place = 0 then l.length / 2 else x.place) = q at h
            split at h
            · cases h
            · simp only [Option.some.injEq] at h
              subst h
              exact ⟨fun y hy => List.mem_of_mem_drop hy, by simp⟩
theorem taken_off {ks cls : List Int} {x : Aff} {l m : List Int} (h : takenL ks cls x l = some m) : offL ks cls x l = some m := by
  unfold takenL at h
  split at h
  · cases h
  · split at h
    · simp only [Option.some.injEq] at h
      subst h
      assumption
    · cases h
/-- The letters of what is made. -/
theorem put_mem {ks cls : List Int} {x : Aff} {l m : List Int} (h : putL ks cls x l = (m, 0)) (hl : ∀ y ∈ l, ks.contains y = true) (hf : ∀ y ∈ x.form, ks.contains y = true ∨ (x.kind = 5 ∧ y = 95)) (ho : ∀ y ∈ x.other, ks.contains y = true) : ∀ y ∈ m, ks.contains y = true := by
  unfold putL at h
  by_cases h1 : x.kind = 1
  · rw [if_pos h1] at h
    simp only [Prod.mk.injEq, and_true] at h
    subst h
    intro y hy
    rcases List.mem_append.1 hy with hy | hy
    · rcases hf y hy with h | h
      · exact h
      · omega
    · exact hl y hy
  · rw [if_neg h1] at h
    by_cases h2 : x.kind = 2
    · rw [if_pos h2] at h
      simp only [Prod.mk.injEq, and_true] at h
      subst h
      intro y hy
      rcases List.mem_append.1 hy with hy | hy
      · exact hl y hy
      · rcases hf y hy with h | h
        · exact h
        · omega
    · rw [if_neg h2] at h
      by_cases h3 : x.kind = 3
      · rw [if_pos h3] at h
        simp only [Prod.mk.injEq, and_true] at h
        subst h
        intro y hy
        rcases List.mem_append.1 hy with hy | hy
        · rcases List.mem_append.1 hy with hy | hy
          · rcases hf y hy with h | h
            · exact h
            · omega
          · exact hl y hy
        · exact ho y hy
      · rw [if_neg h3] at h
        by_cases h4 : x.kind = 4
        · rw [if_pos h4] at h
          simp only [Prod.mk.injEq, and_true] at h
          subst h
          intro y hy
          rcases List.mem_append.1 hy with hy | hy
          · rcases List.mem_append.1 hy with hy | hy
            · exact hl y (List.mem_of_mem_take hy)
            · rcases hf y hy with h | h
              · exact h
              · omega
          · exact hl y (List.mem_of_mem_drop hy)
        · rw [if_neg h4] at h
          by_cases h5 : x.kind = 5
          · rw [if_pos h5] at h
            by_cases hc : x.form.count 95 = (l.filter (consB ks cls)).length
            · rw [if_pos hc] at h
              simp only [Prod.mk.injEq, and_true] at h
              subst h
              intro y hy
              rcases fill_mem _ _ hc y hy with h | h
              · rcases hf y h.1 with h6 | h6
                · exact h6
                · exact absurd h6.2 h.2
              · exact hl y (List.mem_filter.1 h).1
            · rw [if_neg hc] at h
              simp at h
          · rw [if_neg h5] at h
            split at h
            · simp at h
            · simp only [Prod.mk.injEq, and_true] at h
              subst h
              intro y hy
              rcases List.mem_append.1 hy with hy | hy
              · exact hl y (List.mem_of_mem_take hy)
              · exact hl y hy
end Go.Proofs.YthmjheclhcdinaaDoor
end
section
/-
  The affixes' own methods, by walks.
-/
set_option linter.unusedSimpArgs false
set_option linter.unusedVariables false
namespace Go.Proofs.YthmjheclhcdinaaDoor.Ext
open Go.RowKit Go.Proofs.YthmjheclhcdinaaDoor Go.Proofs.YthmjheclhcdinaaDoorW.PrintWords Go.Proofs.YthmjheclhcdinaaDoorW.PrintLast Go.Proofs.YthmjheclhcdinaaDoorW.PrintMore

theorem parts3 {w : World} (A1 A2 A3 : Option Addr) (c1 c2 c3 : Nat) (l1 l2 l3 : List Int) (T : TypeId) (h1 : Kd.C (Kd.int .i32) w A1 l1.length l1) (h2 : Kd.C (Kd.int .i32) w A2 l2.length l2) (h3 : Kd.C (Kd.int .i32) w A3 l3.length l3) :
    PartsAt (w.alloc (.cells #[.slice A1 l1.length c1, .slice A2 l2.length c2, .slice A3 l3.length c3] T)) w.heap.size [(A1, c1, l1), (A2, c2, l2), (A3, c3, l3)] := by
  have hb : Below w.heap.size w (w.alloc (.cells #[.slice A1 l1.length c1, .slice A2 l2.length c2, .slice A3 l3.length c3] T)) := (Below.refl _ w).alloc (Nat.le_refl _) _
  intro k hk
  have hn := blk_cell (blk_new w (.cells #[.slice A1 l1.length c1, .slice A2 l2.length c2, .slice A3 l3.length c3] T)) k
  match k, hk with
  | 0, _ => exact ⟨hn, Kd.C_below h1 hb⟩
  | 1, _ => exact ⟨hn, Kd.C_below h2 hb⟩
  | 2, _ => exact ⟨hn, Kd.C_below h3 hb⟩
theorem parts2 {w : World} (A1 A2 : Option Addr) (c1 c2 : Nat) (l1 l2 : List Int) (T : TypeId) (h1 : Kd.C (Kd.int .i32) w A1 l1.length l1) (h2 : Kd.C (Kd.int .i32) w A2 l2.length l2) :
    PartsAt (w.alloc (.cells #[.slice A1 l1.length c1, .slice A2 l2.length c2] T)) w.heap.size [(A1, c1, l1), (A2, c2, l2)] := by
  have hb : Below w.heap.size w (w.alloc (.cells #[.slice A1 l1.length c1, .slice A2 l2.length c2] T)) := (Below.refl _ w).alloc (Nat.le_refl _) _
  intro k hk
  have hn := blk_cell (blk_new w (.cells #[.slice A1 l1.length c1, .slice A2 l2.length c2] T)) k
  match k, hk with
  | 0, _ => exact ⟨hn, Kd.C_below h1 hb⟩
  | 1, _ => exact ⟨hn, Kd.C_below h2 hb⟩
/-- slices.Concat at a literal of three, of two. -/
theorem concat3 (A1 A2 A3 : Option Addr) (c1 c2 c3 : Nat) (l1 l2 l3 : List Int) (w : World) (h1 : Kd.C (Kd.int .i32) w A1 l1.length l1) (h2 : Kd.C (Kd.int .i32) w A2 l2.length l2) (h3 : Kd.C (Kd.int .i32) w A3 l3.length l3)
    (hn : l1.length + l2.length + l3.length ≤ 1000000) (W : World) (hW : Below w.heap.size w W) (B : Nat) (hB : B = W.heap.size) :
    Calls Tryd.prog 133 #[.slice (some ⟨B, 0, none⟩) 3 3] (W.alloc (.cells #[.slice A1 l1.length c1, .slice A2 l2.length c2, .slice A3 l3.length c3] 73)) fun e w' => ∃ v, e = .returned v ∧ RI w' w.heap.size v (l1 ++ l2 ++ l3) ∧ Below w.heap.size w w' ∧ Below W.heap.size W w' := by
  subst hB
  have hb : Below w.heap.size w (W.alloc (.cells #[.slice A1 l1.length c1, .slice A2 l2.length c2, .slice A3 l3.length c3] 73)) := hW.alloc hW.size _
  refine (slices_Concat.calls W.heap.size [(A1, c1, l1), (A2, c2, l2), (A3, c3, l3)] _ (by simp) (parts3 A1 A2 A3 c1 c2 c3 l1 l2 l3 _ (Kd.C_below h1 hW) (Kd.C_below h2 hW) (Kd.C_below h3 hW)) (by simp [flat]; omega) (by simp)).mono ?_
  rintro e w1 ⟨v, rfl, hR, hb1⟩
  have e1 : flat [(A1, c1, l1), (A2, c2, l2), (A3, c3, l3)] = l1 ++ l2 ++ l3 := by simp [flat]
  rw [e1] at hR
  exact ⟨v, rfl, Kd.R_lower hR (by have := hW.size; simp; omega), below_step hb hb1, below_step ((Below.refl _ W).alloc (Nat.le_refl _) _) hb1⟩
theorem concat2 (A1 A2 : Option Addr) (c1 c2 : Nat) (l1 l2 : List Int) (w : World) (h1 : Kd.C (Kd.int .i32) w A1 l1.length l1) (h2 : Kd.C (Kd.int .i32) w A2 l2.length l2)
    (hn : l1.length + l2.length ≤ 1000000) (W : World) (hW : Below w.heap.size w W) (B : Nat) (hB : B = W.heap.size) :
    Calls Tryd.prog 133 #[.slice (some ⟨B, 0, none⟩) 2 2] (W.alloc (.cells #[.slice A1 l1.length c1, .slice A2 l2.length c2] 73)) fun e w' => ∃ v, e = .returned v ∧ RI w' w.heap.size v (l1 ++ l2) ∧ Below w.heap.size w w' ∧ Below W.heap.size W w' := by
  subst hB
  have hb : Below w.heap.size w (W.alloc (.cells #[.slice A1 l1.length c1, .slice A2 l2.length c2] 73)) := hW.alloc hW.size _
  refine (slices_Concat.calls W.heap.size [(A1, c1, l1), (A2, c2, l2)] _ (by simp) (parts2 A1 A2 c1 c2 l1 l2 _ (Kd.C_below h1 hW) (Kd.C_below h2 hW)) (by simp [flat]; omega) (by simp)).mono ?_
  rintro e w1 ⟨v, rfl, hR, hb1⟩
  have e1 : flat [(A1, c1, l1), (A2, c2, l2)] = l1 ++ l2 := by simp [flat]
  rw [e1] at hR
  exact ⟨v, rfl, Kd.R_lower hR (by have := hW.size; simp; omega), below_step hb hb1, below_step ((Below.refl _ W).alloc (Nat.le_refl _) _) hb1⟩
abbrev SV (F L M : Value) : Value := .agg #[F, L, M]
set_option maxHeartbeats 2000000 in
set_option maxRecDepth 100000 in
theorem around_put.calls (A1 A2 Al : Option Addr) (c1 c2 cl : Nat) (f b l : List Int) (F L M : Value) (w : World) (h1 : Kd.C (Kd.int .i32) w A1 f.length f) (h2 : Kd.C (Kd.int .i32) w A2 b.length b) (hl : Kd.C (Kd.int .i32) w Al l.length l) (hn : f.length + l.length + b.length ≤ 1000000) :
    Calls Tryd.prog 132 #[.agg #[.slice A1 f.length c1, .slice A2 b.length c2], SV F L M, .slice Al l.length cl] w fun e w' => ∃ v, e = .returned (.tuple #[v, .int .i64 0]) ∧ RI w' w.heap.size v (f ++ l ++ b) ∧ Below w.heap.size w w' := by
  have HB := boxes2 w (.cells #[.slice A1 f.length c1, .slice A2 b.length c2] 117) (.cells #[F, L, M] 94)
  have hco := concat3 A1 Al A2 c1 cl c2 f l b w h1 hl h2 hn _ HB.1 _ (by simp; rfl)
  clear HB h1 h2 hl
  go_enter Tryd.func132, Tryd.ntmps132
  go_wp2_with (go_at_call 133; refine hco.mono ?_; rintro e w1 ⟨v1, rfl, hR1, hB1, _⟩)
  go_ret2
  exact ⟨_, rfl, hR1, hB1⟩
theorem slice_mid (A : Option Addr) (c : Nat) (l : List Int) (lo hi : Nat) (h1 : lo ≤ hi) (h2 : hi ≤ l.length) (hc : l.length ≤ c) :
    ∃ A', (∀ W, (Instr.slice 73 (.slice A l.length c) (some (.int .i64 (lo : Int))) (some (.int .i64 (hi : Int))) none).run Tryd.prog W = .ok (.slice A' ((l.take hi).drop lo).length (c - lo)) W) ∧
      (∀ w, Kd.C (Kd.int .i32) w A l.length l → Kd.C (Kd.int .i32) w A' ((l.take hi).drop lo).length ((l.take hi).drop lo)) ∧ ((l.take hi).drop lo).length ≤ c - lo := by
  obtain ⟨i, hi0, hz⟩ := Option.map_eq_some_iff.1 info21
  obtain ⟨A', h, h3, h4⟩ := print_mid_int (P := Tryd.prog) (k := .i32) 73 21 Tryd.underlying73 hi0 (by simp only [Prod.mk.injEq] at hz; exact hz.2.1) A c l lo hi (by omega) (by omega) (by omega) hc
  simp only [Int.toNat_natCast] at h h3 h4
  exact ⟨A', h, fun w h => Kd.C_of_reads (h3 w (Kd.reads_of_C h)), h4⟩
theorem slice_take (A : Option Addr) (c : Nat) (l : List Int) (hi : Nat) (h2 : hi ≤ l.length) (hc : l.length ≤ c) :
    (∀ W, (Instr.slice 73 (.slice A l.length c) none (some (.int .i64 (hi : Int))) none).run Tryd.prog W = .ok (.slice A (l.take hi).length c) W) ∧
      (∀ w, Kd.C (Kd.int .i32) w A l.length l → Kd.C (Kd.int .i32) w A (l.take hi).length (l.take hi)) ∧ (l.take hi).length ≤ c := by
  obtain ⟨i, hi0, hz⟩ := Option.map_eq_some_iff.1 info21
  obtain ⟨h, h3, h4⟩ := print_take_int (P := Tryd.prog) (k := .i32) 73 21 Tryd.underlying73 hi0 (by simp only [Prod.mk.injEq] at hz; exact hz.2.1) A c l hi (by omega) (by omega) hc
  simp only [Int.toNat_natCast] at h h3 h4
  exact ⟨h, fun w h => Kd.C_of_reads (h3 w (Kd.reads_of_C h)), h4⟩
theorem slice_drop (A : Option Addr) (c : Nat) (l : List Int) (lo : Nat) (h2 : lo ≤ l.length) (hc : l.length ≤ c) :
    ∃ A', (∀ W, (Instr.slice 73 (.slice A l.length c) (some (.int .i64 (lo : Int))) none none).run Tryd.prog W = .ok (.slice A' (l.drop lo).length (c - lo)) W) ∧
      (∀ w, Kd.C (Kd.int .i32) w A l.length l → Kd.C (Kd.int .i32) w A' (l.drop lo).length (l.drop lo)) ∧ (l.drop lo).length ≤ c - lo := by
  obtain ⟨i, hi0, hz⟩ := Option.map_eq_some_iff.1 info21
  obtain ⟨A', h, h3, h4⟩ := print_cut_int (P := Tryd.prog) (k := .i32) 73 21 Tryd.underlying73 hi0 (by simp only [Prod.mk.injEq] at hz; exact hz.2.1) A c l lo (by omega) (by omega) hc
  simp only [Int.toNat_natCast] at h h3 h4
  exact ⟨A', h, fun w h => Kd.C_of_reads (h3 w (Kd.reads_of_C h)), h4⟩
section
variable {P : Program} {ops : Array Oper} {rest : List Oper} {o : Oper} {a : Act} {Q : Exit → Act → World → Prop}
end
/-- A view of letters is handed back, or nothing. -/
def offView (w w' : World) (e : Ending) (o : Option (List Int)) : Prop :=
  match o with
  | none => e = .returned (.tuple #[.slice none 0 0, .bool false]) ∧ Below w.heap.size w w'
  | some m => ∃ A c, e = .returned (.tuple #[.slice A m.length c, .bool true]) ∧ m.length ≤ c ∧ Kd.C (Kd.int .i32) w' A m.length m ∧ Below w.heap.size w w'
set_option maxHeartbeats 2000000 in
set_option maxRecDepth 100000 in
theorem around_off.calls (A1 A2 Al : Option Addr) (c1 c2 cl : Nat) (f b l : List Int) (F L M : Value) (w : World) (hl : Kd.C (Kd.int .i32) w Al l.length l) (hcl : l.length ≤ cl) (hn : f.length + l.length + b.length ≤ 1000000) :
    Calls Tryd.prog 131 #[.agg #[.slice A1 f.length c1, .slice A2 b.length c2], SV F L M, .slice Al l.length cl] w fun e w' => offView w w' e (if l.length < f.length + b.length then none else some ((l.drop f.length).take (l.length - f.length - b.length))) := by
  have HB := boxes2 w (.cells #[.slice A1 f.length c1, .slice A2 b.length c2] 117) (.cells #[F, L, M] 94)
  by_cases hlt : l.length < f.length + b.length
  · rw [if_pos hlt]
    have hlt1 : (l.length : Int) - f.length - b.length < 0 := by omega
    go_enter Tryd.func131, Tryd.ntmps131
    go_wp2
    go_ret2
    exact ⟨rfl, HB.1⟩
  · rw [if_neg hlt]
    have hlt1 : 0 ≤ (l.length : Int) - f.length - b.length := by omega
    obtain ⟨A', hsl, hC, hc⟩ := slice_mid Al cl l f.length (l.length - b.length) (by omega) (by omega) hcl
    have e1 : (l.take (l.length - b.length)).drop f.length = (l.drop f.length).take (l.length - f.length - b.length) := by
      rw [List.drop_take]
      congr 1
      omega
    rw [e1] at hsl hC hc
    have e2 : (f.length : Int) + ((l.length : Int) - f.length - b.length) = ((l.length - b.length : Nat) : Int) := by omega
    go_enter Tryd.func131, Tryd.ntmps131
    have e3 : ((l.drop f.length).take (l.length - f.length - b.length)).length = l.length - f.length - b.length := by simp
    go_wp2
    go_ret2
    exact ⟨A', cl - f.length, by rw [e3]; rfl, hc, hC _ (Kd.C_below hl HB.1), HB.1⟩
set_option maxHeartbeats 2000000 in
set_option maxRecDepth 100000 in
theorem within_put.calls (A1 Al : Option Addr) (c1 cl : Nat) (f l : List Int) (at_ : Nat) (F L M : Value) (w : World) (h1 : Kd.C (Kd.int .i32) w A1 f.length f) (hl : Kd.C (Kd.int .i32) w Al l.length l) (hcl : l.length ≤ cl) (hn : f.length + l.length ≤ 1000000) (hat : at_ ≤ 1000) :
    Calls Tryd.prog 136 #[.agg #[.slice A1 f.length c1, .int .i64 (at_ : Int)], SV F L M, .slice Al l.length cl] w fun e w' => ∃ v, e = .returned (.tuple #[v, .int .i64 0]) ∧ RI w' w.heap.size v (l.take (min at_ l.length) ++ f ++ l.drop (min at_ l.length)) ∧ Below w.heap.size w w' := by
  have HB := boxes2 w (.cells #[.slice A1 f.length c1, .int .i64 (at_ : Int)] 119) (.cells #[F, L, M] 94)
  obtain ⟨k, hk⟩ : ∃ k, k = min at_ l.length := ⟨_, rfl⟩
  have hkl : k ≤ l.length := by omega
  have e1 : min (at_ : Int) (l.length : Int) = (k : Int) := by omega
  obtain ⟨hs1, hC1, hc1⟩ := slice_take Al cl l k hkl hcl
  obtain ⟨A', hs2, hC2, hc2⟩ := slice_drop Al cl l k hkl hcl
  have e3 : (l.take k).length = k := by simp; omega
  have e4 : (l.drop k).length = l.length - k := by simp
  rw [← hk]
  have hco := concat3 Al A1 A' cl c1 (cl - k) (l.take k) f (l.drop k) w (hC1 _ hl) h1 (hC2 _ hl) (by omega)
  rw [e3, e4] at hco
  rw [e3] at hs1
  rw [e4] at hs2
  have H1 := (blk_cell HB.2.1 0).trans rfl
  have H0 := blk_lt HB.2.1
  have HB := Lib.hid HB.1
  clear h1 hl hC1 hC2 hk
  go_enter Tryd.func136, Tryd.ntmps136
  go_wp2
  go_region_held3 (fun w' => w'.cell? ⟨w.heap.size, 0, none⟩ = some (.slice A1 f.length c1)) (go_keep) (first | (go_at_call 133; refine (hco _ (below_drew1 HB.out) _ (by simp)).mono ?_; rintro e w1 ⟨v1, rfl, hR1, hB1, hB2⟩; have hk1 := (hB2.cell (p := ⟨w.heap.size, 0, none⟩) H0).trans H1))
  all_goals (go_wp2; go_ret2; exact ⟨_, rfl, hR1, hB1⟩)
/-- Letters of the call's own are handed back, or nothing. -/
def offOwn (w w' : World) (e : Ending) (o : Option (List Int)) : Prop :=
  match o with
  | none => e = .returned (.tuple #[.slice none 0 0, .bool false]) ∧ Below w.heap.size w w'
  | some m => ∃ v, e = .returned (.tuple #[v, .bool true]) ∧ RI w' w.heap.size v m ∧ Below w.heap.size w w'
theorem offOwn.view {w w' : World} {e : Ending} {o : Option (List Int)} (h : offOwn w w' e o) : offView w w' e o := by
  cases o with
  | none => exact h
  | some m =>
    obtain ⟨v, rfl, hR, hb⟩ := h
    obtain ⟨A, c, rfl, hc, hC⟩ := Kd.R_reads hR
    exact ⟨A, c, rfl, hc, hC, hb⟩
set_option maxHeartbeats 2000000 in
set_option maxRecDepth 100000 in
theorem within_off.calls (A1 Al : Option Addr) (c1 cl : Nat) (f l : List Int) (at_ : Nat) (F L M : Value) (w : World) (hl : Kd.C (Kd.int .i32) w Al l.length l) (hcl : l.length ≤ cl) (hn : f.length + l.length ≤ 1000000) (hat : at_ ≤ 1000) :
    Calls Tryd.prog 135 #[.agg #[.slice A1 f.length c1, .int .i64 (at_ : Int)], SV F L M, .slice Al l.length cl] w fun e w' => offOwn w w' e (if l.length < f.length then none else some (l.take (min at_ (l.length - f.length)) ++ l.drop (min at_ (l.length - f.length) + f.length))) := by
  have HB := boxes2 w (.cells #[.slice A1 f.length c1, .int .i64 (at_ : Int)] 119) (.cells #[F, L, M] 94)
  by_cases hlt : l.length < f.length
  · rw [if_pos hlt]
    have hlt1 : (l.length : Int) - f.length < 0 := by omega
    go_enter Tryd.func135, Tryd.ntmps135
    go_wp2
    go_ret2
    exact ⟨rfl, HB.1⟩
  · rw [if_neg hlt]
    have hlt1 : 0 ≤ (l.length : Int) - f.length := by omega
    obtain ⟨k, hk⟩ : ∃ k, k = min at_ (l.length - f.length) := ⟨_, rfl⟩
    have hkl : k ≤ l.length := by omega
    have hkl2 : k + f.length ≤ l.length := by omega
    have e1 : min (at_ : Int) ((l.length : Int) - f.length) = (k : Int) := by omega
    have e5 : (k : Int) + f.length = ((k + f.length : Nat) : Int) := by omega
    obtain ⟨hs1, hC1, hc1⟩ := slice_take Al cl l k hkl hcl
    obtain ⟨A', hs2, hC2, hc2⟩ := slice_drop Al cl l (k + f.length) hkl2 hcl
    have e3 : (l.take k).length = k := by simp; omega
    have e4 : (l.drop (k + f.length)).length = l.length - (k + f.length) := by simp
    rw [← hk]
    have hco := concat2 Al A' cl (cl - (k + f.length)) (l.take k) (l.drop (k + f.length)) w (hC1 _ hl) (hC2 _ hl) (by omega)
    rw [e3, e4] at hco
    rw [e3] at hs1
    rw [e4, ← e5] at hs2
    have hw1 : IntKind.i64.wrap ((k : Int) + f.length) = (k : Int) + f.length := by rw [IntKind.wrap_i64]; omega
    have hw2 : (0 : Int) ≤ (k : Int) + f.length := by omega
    have hw3 : (k : Int) + f.length ≤ (l.length : Int) := by omega
    have H1 := (blk_cell HB.2.1 0).trans rfl
    have H0 := blk_lt HB.2.1
    have HB := Lib.hid HB.1
    clear hl hC1 hC2 hk hkl2 e5 hlt
    go_enter Tryd.func135, Tryd.ntmps135
    go_wp2
    go_region_held3 (fun w' => w'.cell? ⟨w.heap.size, 0, none⟩ = some (.slice A1 f.length c1)) (go_keep) (first | (go_at_call 133; refine (hco _ (below_drew1 HB.out) _ (by simp)).mono ?_; rintro e w1 ⟨v1, rfl, hR1, hB1, hB2⟩; have hk1 := (hB2.cell (p := ⟨w.heap.size, 0, none⟩) H0).trans H1))
    all_goals (go_wp2; go_ret2; exact ⟨_, rfl, hR1, hB1⟩)
/-- Letters are handed back with an error's number. -/
def putPost (w w' : World) (e : Ending) (p : List Int × Int) : Prop := ∃ v, e = .returned (.tuple #[v, .int .i64 p.2]) ∧ RI w' w.heap.size v p.1 ∧ Below w.heap.size w w'
set_option maxHeartbeats 2000000 in
set_option maxRecDepth 100000 in
theorem doubled_put.calls (Al : Option Addr) (cl : Nat) (l : List Int) (at_ : Nat) (F L M : Value) (w : World) (hl : Kd.C (Kd.int .i32) w Al l.length l) (hcl : l.length ≤ cl) (hn : l.length ≤ 100000) (hat : at_ ≤ 1000) :
    Calls Tryd.prog 141 #[.agg #[.int .i64 (at_ : Int)], SV F L M, .slice Al l.length cl] w fun e w' =>
      putPost w w' e (if l.length < at_ then ([], 150) else (l.take (if at_ = 0 then l.length else at_) ++ l, 0)) := by
  have HB := boxes2 w (.cells #[.int .i64 (at_ : Int)] 124) (.cells #[F, L, M] 94)
  by_cases hlt : l.length < at_
  · rw [if_pos hlt]
    have hlt1 : (l.length : Int) < at_ := by omega
    go_enter Tryd.func141, Tryd.ntmps141
    go_wp2
    go_ret2
    exact ⟨_, rfl, RI_nil _ _, HB.1⟩
  · rw [if_neg hlt]
    have hlt1 : ¬ ((l.length : Int) < at_) := by omega
    obtain ⟨k, hk⟩ : ∃ k, k = if at_ = 0 then l.length else at_ := ⟨_, rfl⟩
    have hkl : k ≤ l.length := by rw [hk]; split <;> omega
    obtain ⟨hs1, hC1, hc1⟩ := slice_take Al cl l k hkl hcl
    have e3 : (l.take k).length = k := by simp; omega
    rw [← hk]
    have hco := concat2 Al Al cl cl (l.take k) l w (hC1 _ hl) hl (by omega) _ HB.1 _ (by simp; rfl)
    rw [e3] at hco
    rw [e3] at hs1
    clear hl hC1 HB
    by_cases h0 : at_ = 0
    · subst h0
      rw [if_pos rfl] at hk
      subst hk
      go_enter Tryd.func141, Tryd.ntmps141
      go_wp2_with (go_at_call 133; refine hco.mono ?_; rintro e w1 ⟨v1, rfl, hR1, hB1, _⟩)
      all_goals (go_ret2; exact ⟨_, rfl, hR1, hB1⟩)
    · rw [if_neg h0] at hk
      subst hk
      have h0' : ((k : Int) == 0) = false := by simpa using h0
      go_enter Tryd.func141, Tryd.ntmps141
      go_wp2_with (go_at_call 133; refine hco.mono ?_; rintro e w1 ⟨v1, rfl, hR1, hB1, _⟩)
      all_goals (go_ret2; exact ⟨_, rfl, hR1, hB1⟩)
set_option maxHeartbeats 2000000 in
set_option maxRecDepth 100000 in
theorem doubled_off.calls (Al : Option Addr) (cl : Nat) (l : List Int) (at_ : Nat) (F L M : Value) (w : World) (hl : Kd.C (Kd.int .i32) w Al l.length l) (hcl : l.length ≤ cl) (hn : l.length ≤ 100000) (hat : at_ ≤ 1000) :
    Calls Tryd.prog 140 #[.agg #[.int .i64 (at_ : Int)], SV F L M, .slice Al l.length cl] w fun e w' =>
      offView w w' e (if l.length < 2 * (if at_ = 0 then l.length / 2 else at_) then none else some (l.drop (if at_ = 0 then l.length / 2 else at_))) := by
  have HB := boxes2 w (.cells #[.int .i64 (at_ : Int)] 124) (.cells #[F, L, M] 94)
  by_cases h0 : at_ = 0
  · subst h0
    rw [if_pos rfl, if_neg (by omega)]
    obtain ⟨A', hs2, hC2, hc2⟩ := slice_drop Al cl l (l.length / 2) (by omega) hcl
    have e4 : (l.drop (l.length / 2)).length = l.length - l.length / 2 := by simp
    have e5 : ((l.length / 2 : Nat) : Int) = (l.length : Int) / 2 := by omega
    rw [e4, e5] at hs2
    have HB := Lib.hid HB.1
    have hC3 := Lib.hid (Kd.C_below (hC2 _ hl) HB.out)
    clear hl hC2
    go_enter Tryd.func140, Tryd.ntmps140
    go_wp2
    all_goals (go_ret2; exact ⟨A', cl - l.length / 2, by rw [e4]; rfl, hc2, hC3.out, HB.out⟩)
  · rw [if_neg h0]
    have h0' : ((at_ : Int) == 0) = false := by simpa using h0
    have h2 : 2 * (at_ : Int) ≤ 2000 := by omega
    by_cases hlt : l.length < 2 * at_
    · rw [if_pos hlt]
      have hlt1 : (l.length : Int) < 2 * at_ := by omega
      go_enter Tryd.func140, Tryd.ntmps140
      go_wp2
      all_goals (go_ret2; exact ⟨rfl, HB.1⟩)
    · rw [if_neg hlt]
      have hlt1 : ¬ ((l.length : Int) < 2 * at_) := by omega
      obtain ⟨A', hs2, hC2, hc2⟩ := slice_drop Al cl l at_ (by omega) hcl
      have e4 : (l.drop at_).length = l.length - at_ := by simp
      rw [e4] at hs2
      have HB := Lib.hid HB.1
      have hC3 := Lib.hid (Kd.C_below (hC2 _ hl) HB.out)
      clear hl hC2
      go_enter Tryd.func140, Tryd.ntmps140
      go_wp2
      all_goals (go_ret2; exact ⟨A', cl - at_, by rw [e4]; rfl, hc2, hC3.out, HB.out⟩)
end Go.Proofs.YthmjheclhcdinaaDoor.Ext
end
section
/-
  radical.Merge by a walk.
-/
set_option linter.unusedSimpArgs false
set_option linter.unusedVariables false
namespace Go.Proofs.YthmjheclhcdinaaDoor
open Go.RowKit Go.Proofs.YthmjheclhcdinaaDoorW.PrintWords Go.Proofs.YthmjheclhcdinaaDoorW.PrintLast Go.Proofs.YthmjheclhcdinaaDoorW.PrintMore Go.Proofs.YthmjheclhcdinaaDoor.Ext

theorem fill_at : ∀ (f l : List Int) (i : Nat) (h : i < f.length), f.count 95 = l.length → (fillH f l)[i]? = some (if f[i] = 95 then l.getD ((f.take i).count 95) 0 else f[i])
  | [], l, i, h, _ => by simp at h
  | x :: xs, [], i, h, hc => by
    rw [fill_nil, List.getElem?_eq_getElem h]
    congr 1
    rw [if_neg]
    intro e
    have : 0 < (x :: xs).count 95 := List.count_pos_iff.2 (e ▸ List.getElem_mem h)
    simp at hc
    omega
  | x :: xs, r :: rs, 0, h, hc => by
    unfold fillH
    by_cases hx : x = 95
    · rw [if_pos hx]
      simp [hx]
    · rw [if_neg hx]
      simp [hx]
  | x :: xs, r :: rs, i + 1, h, hc => by
    rw [List.count_cons] at hc
    have hi : i < xs.length := by simpa using h
    unfold fillH
    by_cases hx : x = 95
    · rw [if_pos hx, List.getElem?_cons_succ, fill_at xs rs i hi (by simp [hx] at hc; exact hc)]
      subst hx
      simp
    · rw [if_neg hx, List.getElem?_cons_succ, fill_at xs (r :: rs) i hi (by simp [hx] at hc; simp [hc])]
      simp [hx]
def fillN (f l : List Int) (i : Nat) : List Int := (fillH f l).take i ++ f.drop i
theorem fillN_step (f l : List Int) (i : Nat) (h : i < f.length) (hc : f.count 95 = l.length) : fillN f l (i + 1) = if f[i] = 95 then (fillN f l i).set i (l.getD ((f.take i).count 95) 0) else fillN f l i := by
  have ha := fill_at f l i h hc
  have hi : i < (fillH f l).length := by rw [fill_len]; exact h
  rw [List.getElem?_eq_getElem hi] at ha
  have ha := Option.some.inj ha
  unfold fillN
  rw [List.take_succ_eq_append_getElem hi, ha, List.drop_eq_getElem_cons h]
  have hl : ((fillH f l).take i).length = i := by simp; omega
  by_cases e : f[i] = 95
  · rw [if_pos e, if_pos e, List.set_append_right _ _ (by omega), hl, Nat.sub_self, List.set_cons_zero, List.append_assoc]
    rfl
  · rw [if_neg e, if_neg e, List.append_assoc]
    rfl
theorem count_step (f : List Int) (i : Nat) (h : i < f.length) : (f.take (i + 1)).count 95 = (f.take i).count 95 + if f[i] = 95 then 1 else 0 := by
  rw [List.take_succ_eq_append_getElem h, List.count_append, List.count_singleton]
  simp only [beq_iff_eq]
theorem count_lt (f : List Int) (i : Nat) (h : i < f.length) (e : f[i] = 95) : (f.take i).count 95 < f.count 95 := by
  have h1 := count_step f i h
  rw [if_pos e] at h1
  have h2 : (f.take (i + 1)).count 95 ≤ f.count 95 := List.Sublist.count_le 95 (List.take_sublist _ _)
  omega
theorem count_le' (f : List Int) (i : Nat) : (f.take i).count 95 ≤ f.length := Nat.le_trans List.count_le_length (by simp; omega)

namespace Ext
end Ext
end Go.Proofs.YthmjheclhcdinaaDoor
end
section
/-
  A shape put and taken off, by walks.
-/
set_option linter.unusedSimpArgs false
set_option linter.unusedVariables false
namespace Go.Proofs.YthmjheclhcdinaaDoor.Ext
open Go.RowKit Go.Maps Go.Proofs.YthmjheclhcdinaaDoor Go.Proofs.YthmjheclhcdinaaDoorW.PrintWords Go.Proofs.YthmjheclhcdinaaDoorW.PrintLast Go.Proofs.YthmjheclhcdinaaDoorW.PrintMore

/-- A map of runes says of each whether cf says so. -/
def ConsAt (w : World) (b : Nat) (cf : Int → Bool) : Prop :=
  ∃ n, ∃ D : DataW Unit, w.ownsMap Tryd.prog 21 (plainElem Tryd.prog 4) b n D ∧ b < w.heap.size ∧ ∀ r c, D.atKey (.int .i32 r) (.lit (.bool false)) = .lit (.bool c) → c = cf r
theorem ConsAt.below {w w1 : World} {b : Nat} {cf : Int → Bool} (h : ConsAt w b cf) (hb : Below w.heap.size w w1) : ConsAt w1 b cf := by
  obtain ⟨n, D, hown, hlt, hat⟩ := h
  exact ⟨n, D, hown.kept (grown_of_below hb none) (by simp), Nat.lt_of_lt_of_le hlt hb.size, hat⟩
theorem pickC_step (c : Int → Bool) (l f : List Int) (k : Nat) (hl : k < l.length) (hf : k < f.length) :
    pickC c (l.drop k) (f.drop k) = if f[k] = 95 then (if c l[k] = true then (pickC c (l.drop (k + 1)) (f.drop (k + 1))).map (l[k] :: ·) else none) else pickC c (l.drop (k + 1)) (f.drop (k + 1)) := by
  rw [List.drop_eq_getElem_cons hl, List.drop_eq_getElem_cons hf]
  rfl
theorem map_snoc (o : Option (List Int)) (acc : List Int) (x : Int) : (o.map (x :: ·)).map (acc ++ ·) = o.map ((acc ++ [x]) ++ ·) := by
  cases o <;> simp
set_option maxHeartbeats 4000000 in
set_option maxRecDepth 100000 in
theorem shaped_off.calls (A1 Al : Option Addr) (c1 cl : Nat) (f l : List Int) (F L : Value) (bm : Nat) (cf : Int → Bool) (w : World) (h1 : Kd.C (Kd.int .i32) w A1 f.length f) (hl : Kd.C (Kd.int .i32) w Al l.length l) (hM : ConsAt w bm cf) (hw : ∀ x ∈ l, (Lit.int .i32 x).wf = true) (hn : f.length ≤ 100000) :
    Calls Tryd.prog 137 #[.agg #[.slice A1 f.length c1], SV F L (.map (some bm)), .slice Al l.length cl] w fun e w' => offOwn w w' e (if l.length = f.length then pickC cf l f else none) := by
  have HB0 := boxes2 w (.cells #[.slice A1 f.length c1] 121) (.cells #[F, L, .map (some bm)] 94)
  by_cases hlen : l.length = f.length
  · rw [if_pos hlen]
    have hle1 : ((l.length : Int) != (f.length : Int)) = false := by simp [hlen]
    have H1 := Lib.hid (Kd.C_below h1 HB0.1)
    have HL := Lib.hid (Kd.C_below hl HB0.1)
    have HM := Lib.hid (hM.below HB0.1)
    have Hw := Lib.hid hw
    have Hlen := Lib.hid hlen
    have BX := Lib.hid HB0.2.1
    have BS := Lib.hid HB0.2.2
    have HB := Lib.hid HB0.1
    have hw1 : Hid (w.heap.size + 1 + 1 = ((w.alloc (.cells #[.slice A1 f.length c1] 121)).alloc (.cells #[F, L, .map (some bm)] 94)).heap.size) := by simp [Hid]
    clear h1 hl hM hw hlen HB0
    go_enter Tryd.func137, Tryd.ntmps137
    go_wp2
    obtain ⟨wb, hwb⟩ : ∃ wb, wb = (w.alloc (.cells #[.slice A1 f.length c1] 121)).alloc (.cells #[F, L, .map (some bm)] 94) := ⟨_, rfl⟩
    rw [← hwb] at H1 HL HM BX BS HB ⊢
    clear hw1 hwb
    go_loopw [8, 20] (fun v i wr => ∃ (k : Nat) (acc : List Int), k ≤ f.length ∧ i = .int .i64 k ∧ Below wb.heap.size wb wr ∧ Hid (RI wr wb.heap.size v acc) ∧ acc.length ≤ k ∧ Hid (pickC cf l f = (pickC cf (l.drop k) (f.drop k)).map (acc ++ ·)))
      (fun _ i _ => f.length - (intOf i).toNat)
    case atStart => exact ⟨0, [], Nat.zero_le _, rfl, Below.refl _ _, RI_nil _ _, by simp, by simp [Hid]⟩
    case round =>
      obtain ⟨k, acc, hk, rfl, hb, hR, hal, hq⟩ := hrel
      by_cases hlt : k < f.length
      · have hltl : k < l.length := by rw [Hlen.out]; exact hlt
        obtain ⟨af, hA, hx0⟩ := Kd.at_int (Kd.C_below H1.out hb) k (by omega) (by omega)
        subst hA
        obtain ⟨al, hA, hy0⟩ := Kd.at_int (Kd.C_below HL.out hb) k (by omega) (by omega)
        subst hA
        rw [Int.toNat_natCast] at hx0 hy0
        have hrf : YthmjheclhcdinaaDoorW.PrintWords.rd f (k : Int) = f[k] := by simp [YthmjheclhcdinaaDoorW.PrintWords.rd, List.getD_eq_getElem?_getD, List.getElem?_eq_getElem hlt]
        have hrl : YthmjheclhcdinaaDoorW.PrintWords.rd l (k : Int) = l[k] := by simp [YthmjheclhcdinaaDoorW.PrintWords.rd, List.getD_eq_getElem?_getD, List.getElem?_eq_getElem hltl]
        rw [hrf] at hx0
        rw [hrl] at hy0
        have hst := pickC_step cf l f k hltl hlt
        obtain ⟨x, hx⟩ : ∃ x, x = f[k] := ⟨_, rfl⟩
        obtain ⟨y, hy⟩ : ∃ y, y = l[k] := ⟨_, rfl⟩
        have hywf : (Lit.int .i32 y).wf = true := Hw.out y (by rw [hy]; exact List.getElem_mem hltl)
        rw [← hx] at hx0 hst
        rw [← hy] at hy0 hst
        have Hst := Lib.hid hst
        clear hx hy hrf hrl hst
        by_cases hx95 : x = 95
        · subst hx95
          have hm0 : wr.cell? ⟨w.heap.size + 1, 2, none⟩ = some (.map (some bm)) := (blk_cell (blk_below BS.out hb) 2).trans rfl
          obtain ⟨n, D, hown, hblt, hat⟩ := HM.out.below hb
          have hkey : keyOf Tryd.prog 21 (.int .i32 y) = some (.int .i32 y) := keyOf_int_mk Tryd.underlying21 hywf
          have Hat := Lib.hid (hat y)
          have hk0 : (0 : Int) ≤ k := by omega
          have hk1 : (k : Int) < f.length := by omega
          have hk2 : (k : Int) < l.length := by omega
          clear hat
          have hlk : ∀ m, (Instr.lookup 92 (.map (some bm)) (.int .i32 y) false).run Tryd.prog (wr.drewN m) = .ok (.bool (cf y)) (wr.drewN m) := by
            intro m
            obtain ⟨c, h, ha⟩ := lookup_bool (w := wr.drewN m) hown (int_keyed Tryd.underlying21) Tryd.underlying92 Tryd.underlying4 (zeroBool _) hkey
            rw [← Hat.out c ha]
            exact h
          clear Hat hkey hown hblt
          have hq2 := hq.out
          rw [Hst.out, if_pos rfl] at hq2
          cases hcy : cf y with
          | false =>
            rw [hcy, if_neg (by simp)] at hq2
            have Hq2 : Hid (pickC cf l f = none) := hq2
            clear hq2 hq Hst
            rw [hcy] at hlk
            go_wp2
            go_quiet (fail)
            go_wp2
            go_ret2
            rw [Hq2.out]
            exact ⟨rfl, below_step HB.out (pw_below_drewN hb nq)⟩
          | true =>
            rw [hcy, if_pos rfl, map_snoc] at hq2
            have Hq2 := Lib.hid hq2
            clear hq2 hq Hst
            rw [hcy] at hlk
            go_wp2
            go_quiet (fail)
            have hy1 : (wr.drewN nq).cell? (al.add k) = some (.int .i32 y) := hy0
            have hb2 := pw_below_drewN hb nq
            have hR2 : Hid (RI (wr.drewN nq) wb.heap.size u8 acc) := Lib.hid (Kd.R_below hR.out (pw_below_drewN (Below.refl _ _) nq))
            obtain ⟨wx, hwx⟩ : ∃ wx, wx = wr.drewN nq := ⟨_, rfl⟩
            rw [← hwx] at hy1 hb2 hR2 ⊢
            clear hwx hy0 hb hR hlk
            go_wp2_with ((with_reducible refine gate_dst (N := 41) rfl ?_); refine Kd.R_append (w0 := wb) (Kd.int .i32) wb.heap.size rfl (.tmp 35) (.tmp 40) 73 21 _ _ rfl Tryd.underlying73 info21 (by decide) (by decide) (by decide) _ acc y _ (fun _ => True) (fun _ => False) rfl rfl rfl (fun _ h => h.elim) (fun _ _ => trivial) hR2.out hb2 hb2.size (by omega) ?_; intro v2 w2 HR3 HB3 hg3 hat3)
            go_roundw
            case rel => exact ⟨k + 1, acc ++ [y], hlt, by go_num, HB3, Lib.hid HR3, by simp; omega, Hq2.out⟩
            case measure => simp [intOf]; omega
        · have hx95' : (x != 95) = true := by simpa using hx95
          have hq2 := hq.out
          rw [Hst.out, if_neg hx95] at hq2
          have Hq2 := Lib.hid hq2
          clear hq2 hq Hst
          go_wp2
          exact ⟨⟨k + 1, acc, hlt, by go_num, hb, hR, by omega, Hq2.out⟩, by simp [intOf]; omega⟩
      · obtain rfl : k = f.length := by omega
        have hfin : pickC cf l f = some acc := by
          have := hq.out
          rw [List.drop_of_length_le (by rw [Hlen.out]; exact Nat.le_refl _), List.drop_of_length_le (Nat.le_refl _)] at this
          simpa [pickC] using this
        have Hfin := Lib.hid hfin
        clear hfin hq
        go_wp2
        go_ret2
        rw [Hfin.out]
        exact ⟨_, rfl, Kd.R_lower hR.out HB.out.size, below_step HB.out hb⟩
  · rw [if_neg hlen]
    have hle1 : ((l.length : Int) != (f.length : Int)) = true := by rw [bne_iff_ne]; omega
    go_enter Tryd.func137, Tryd.ntmps137
    go_wp2
    all_goals (go_ret2; exact ⟨rfl, HB0.1⟩)
def fillQ (f r : List Int) : Nat → List Int
  | 0 => f
  | k + 1 => if f.getD k 0 = 95 ∧ (f.take k).count 95 < r.length then (fillQ f r k).set k (r.getD ((f.take k).count 95) 0) else fillQ f r k
theorem fillQ_len (f r : List Int) : ∀ k, (fillQ f r k).length = f.length
  | 0 => rfl
  | k + 1 => by
    unfold fillQ
    split
    · rw [List.length_set, fillQ_len f r k]
    · exact fillQ_len f r k
theorem fillQ_at (f r : List Int) : ∀ (k j : Nat), k ≤ j → (fillQ f r k)[j]? = f[j]?
  | 0, j, _ => rfl
  | k + 1, j, h => by
    unfold fillQ
    split
    · rw [List.getElem?_set_ne (by omega), fillQ_at f r k j (by omega)]
    · exact fillQ_at f r k j (by omega)
theorem fillQ_full (f r : List Int) (hc : f.count 95 = r.length) : ∀ k, k ≤ f.length → fillQ f r k = fillN f r k
  | 0, _ => by simp [fillQ, fillN]
  | k + 1, h => by
    have hk : k < f.length := by omega
    have hg : f.getD k 0 = f[k] := by simp [List.getD_eq_getElem?_getD, List.getElem?_eq_getElem hk]
    rw [fillN_step f r k hk hc]
    unfold fillQ
    rw [hg, fillQ_full f r hc k (by omega)]
    by_cases e : f[k] = 95
    · have := count_lt f k hk e
      rw [if_pos ⟨e, by omega⟩, if_pos e]
    · rw [if_neg (fun h => e h.1), if_neg e]
theorem filter_step (cf : Int → Bool) (l acc : List Int) (k : Nat) (h : k < l.length) (hq : acc ++ (l.drop k).filter cf = l.filter cf) :
    (if cf l[k] = true then acc ++ [l[k]] else acc) ++ (l.drop (k + 1)).filter cf = l.filter cf := by
  rw [← hq, List.drop_eq_getElem_cons h, List.filter_cons]
  split <;> simp
set_option maxHeartbeats 4000000 in
set_option maxRecDepth 100000 in
theorem shaped_put.calls (A1 Al : Option Addr) (c1 cl : Nat) (f l : List Int) (F L : Value) (bm : Nat) (cf : Int → Bool) (w : World) (h1 : Kd.C (Kd.int .i32) w A1 f.length f) (hl : Kd.C (Kd.int .i32) w Al l.length l) (hM : ConsAt w bm cf) (hw : ∀ x ∈ l, (Lit.int .i32 x).wf = true) (hn : f.length ≤ 100000) (hn2 : l.length ≤ 100000) :
    Calls Tryd.prog 138 #[.agg #[.slice A1 f.length c1], SV F L (.map (some bm)), .slice Al l.length cl] w fun e w' => putPost w w' e (if f.count 95 = (l.filter cf).length then (fillH f (l.filter cf), 0) else ([], 130)) := by
  have HB0 := boxes2 w (.cells #[.slice A1 f.length c1] 121) (.cells #[F, L, .map (some bm)] 94)
  have hcl := fun W (hb : Below w.heap.size w W) => slices_Clone.calls A1 c1 f W (Kd.C_below h1 hb) (by omega)
  have hcl := hcl _ HB0.1
  have HL := Lib.hid (Kd.C_below hl HB0.1)
  have HM := Lib.hid (hM.below HB0.1)
  have Hw := Lib.hid hw
  have BX := Lib.hid HB0.2.1
  have BS := Lib.hid HB0.2.2
  have HB := Lib.hid HB0.1
  obtain ⟨p, hp⟩ : ∃ p, p = (if f.count 95 = (l.filter cf).length then (fillH f (l.filter cf), (0 : Int)) else ([], 130)) := ⟨_, rfl⟩
  rw [← hp]
  have Hp := Lib.hid hp
  clear h1 hl hM hw HB0 hp
  go_enter Tryd.func138, Tryd.ntmps138
  go_wp2_with (go_at_call 139; refine hcl.mono ?_; rintro e w4 ⟨v8, rfl, hR8, hb4⟩)
  clear hcl
  have HL4 := Lib.hid (Kd.C_below HL.out hb4)
  have HM4 := Lib.hid (HM.out.below hb4)
  have BS4 := Lib.hid (blk_below BS.out hb4)
  have HB4 := Lib.hid (below_step HB.out hb4)
  have HR8 := Lib.hid (Kd.R_lower hR8 HB.out.size)
  clear hR8 hb4 HL HM BS BX HB
  go_loopw [10, 20] (fun v i wr => ∃ (k : Nat) (acc : List Int), k ≤ l.length ∧ i = .int .i64 k ∧ Hid (Below w4.heap.size w4 wr) ∧ Hid (RI wr w4.heap.size v acc) ∧ acc.length ≤ k ∧ Hid (acc ++ (l.drop k).filter cf = l.filter cf))
    (fun _ i _ => l.length - (intOf i).toNat)
  case atStart => exact ⟨0, [], Nat.zero_le _, rfl, Below.refl _ _, RI_nil _ _, by simp, by simp [Hid]⟩
  case round =>
    obtain ⟨k, acc, hk, rfl, hb, hR, hal, hq⟩ := hrel
    by_cases hlt : k < l.length
    · obtain ⟨al, hA, hy0⟩ := Kd.at_int (Kd.C_below HL4.out hb.out) k (by omega) (by omega)
      subst hA
      rw [Int.toNat_natCast] at hy0
      have hrl : YthmjheclhcdinaaDoorW.PrintWords.rd l (k : Int) = l[k] := by simp [YthmjheclhcdinaaDoorW.PrintWords.rd, List.getD_eq_getElem?_getD, List.getElem?_eq_getElem hlt]
      rw [hrl] at hy0
      have hst := filter_step cf l acc k hlt hq.out
      obtain ⟨y, hy⟩ : ∃ y, y = l[k] := ⟨_, rfl⟩
      have hywf : (Lit.int .i32 y).wf = true := Hw.out y (by rw [hy]; exact List.getElem_mem hlt)
      rw [← hy] at hy0 hst
      have hm0 : wr.cell? ⟨w.heap.size + 1, 2, none⟩ = some (.map (some bm)) := (blk_cell (blk_below BS4.out hb.out) 2).trans rfl
      obtain ⟨n, D, hown, hblt, hat⟩ := HM4.out.below hb.out
      have hkey : keyOf Tryd.prog 21 (.int .i32 y) = some (.int .i32 y) := keyOf_int_mk Tryd.underlying21 hywf
      have hlk : (Instr.lookup 92 (.map (some bm)) (.int .i32 y) false).run Tryd.prog wr = .ok (.bool (cf y)) wr := by
        obtain ⟨c, h, ha⟩ := lookup_bool (w := wr) hown (int_keyed Tryd.underlying21) Tryd.underlying92 Tryd.underlying4 (zeroBool _) hkey
        rw [← hat y c ha]
        exact h
      clear hat hown hblt hkey hy hrl hq
      cases hcy : cf y with
      | false =>
        rw [hcy] at hlk
        rw [hcy, if_neg (by simp)] at hst
        have Hq2 := Lib.hid hst
        clear hst
        go_wp2
        exact ⟨⟨k + 1, acc, hlt, by go_num, hb, hR, by omega, Hq2⟩, by simp [intOf]; omega⟩
      | true =>
        rw [hcy] at hlk
        rw [hcy, if_pos rfl] at hst
        have Hq2 := Lib.hid hst
        clear hst
        go_wp2_with ((with_reducible refine gate_dst (N := 31) rfl ?_); refine Kd.R_append (w0 := w4) (Kd.int .i32) w4.heap.size rfl (.tmp 28) (.tmp 30) 73 21 _ _ rfl Tryd.underlying73 info21 (by decide) (by decide) (by decide) _ acc y _ (fun _ => True) (fun _ => False) rfl rfl rfl (fun _ h => h.elim) (fun _ _ => trivial) hR.out hb.out hb.out.size (by omega) ?_; intro v2 w2 HR3 HB3 hg3 hat3)
        go_roundw
        case rel => exact ⟨k + 1, acc ++ [y], hlt, by go_num, Lib.hid HB3, Lib.hid HR3, by simp; omega, Hq2⟩
        case measure => simp [intOf]; omega
    · obtain rfl : k = l.length := by omega
      have hr : acc = l.filter cf := by have := hq.out; simpa using this
      subst hr
      obtain ⟨r, hrr⟩ : ∃ r, r = l.filter cf := ⟨_, rfl⟩
      rw [← hrr] at hR hal Hp
      obtain ⟨A10, c10, rfl⟩ := Kd.R_slice hR.out
      obtain ⟨A8, c8, rfl⟩ := Kd.R_slice HR8.out
      have HRr : Hid (Kd.R (Kd.int .i32) 21 wr w4.heap.size (fun j => w4.heap.size ≤ j) (.slice A10 r.length c10) r) := Kd.R_mono (Kd.R_bound hR.out) (fun _ h => h.2.1)
      have HBr := Lib.hid (below_step HB4.out hb.out)
      have HRo : Hid (RI wr w.heap.size (.slice A8 f.length c8) f) := Kd.R_below HR8.out hb.out
      have hsz4 := hb.out.size
      obtain ⟨wo, rfl⟩ : ∃ wo : World, wo = wr := ⟨_, rfl⟩
      clear hq hR hb hk hlt hrr HL4 HM4 BS4 HB4 Hw
      go_wp2
      go_loopw [9, 35] (fun s i wr => ∃ k : Nat, k ≤ f.length ∧ i = .int .i64 k ∧ s = .int .i64 ((f.take k).count 95 : Nat) ∧ Hid (Below w.heap.size w wr) ∧ Hid (RI wr w.heap.size (.slice A8 f.length c8) (fillQ f r k)) ∧ Hid (Kd.R (Kd.int .i32) 21 wr w4.heap.size (fun j => w4.heap.size ≤ j) (.slice A10 r.length c10) r))
        (fun _ i _ => f.length - (intOf i).toNat)
      case atStart => exact ⟨0, Nat.zero_le _, rfl, rfl, HBr, HRo, HRr⟩
      case round =>
        clear HBr HRo HRr
        obtain ⟨k, hk, rfl, rfl, hb, hR, hRr⟩ := hrel
        by_cases hlt : k < f.length
        · have hfl := fillQ_len f r k
          obtain ⟨g, co, hv, hge, hgl, cells, hgc⟩ := Kd.R_form HR8.out (by omega)
          injection hv with ha hn2 hco
          subst ha
          subst hco
          clear hn2
          obtain ⟨hx0, hf0⟩ := Kd.R_celln 0 hR.out (k : Int) (by omega) (by omega)
          have hrd : rdOf 0 (fillQ f r k) (k : Int) = f[k] := by
            unfold rdOf
            rw [Int.toNat_natCast, List.getD_eq_getElem?_getD, fillQ_at f r k k (Nat.le_refl _), List.getElem?_eq_getElem hlt]
            rfl
          rw [hrd, Int.toNat_natCast] at hx0
          rw [Int.toNat_natCast] at hf0
          have hgd : f.getD k 0 = f[k] := by simp [List.getD_eq_getElem?_getD, List.getElem?_eq_getElem hlt]
          have Hst : Hid (fillQ f r (k + 1) = if f[k] = 95 ∧ (f.take k).count 95 < r.length then (fillQ f r k).set k (r.getD ((f.take k).count 95) 0) else fillQ f r k) := by
            show _ = _
            rw [← hgd]
            rfl
          have Hcs := Lib.hid (count_step f k hlt)
          have hck := count_le' f k
          clear hfl hrd hgc cells hgd
          obtain ⟨q, hq⟩ : ∃ q, q = (f.take k).count 95 := ⟨_, rfl⟩
          rw [← hq] at Hst Hcs hck
          rw [← hq]
          by_cases h95 : f[k] = 95
          · rw [h95] at hx0
            have Hcs2 : Hid ((f.take (k + 1)).count 95 = q + 1) := by have := Hcs.out; rw [if_pos h95] at this; exact this
            by_cases hlq : q < r.length
            · have Hst2 : Hid (fillQ f r (k + 1) = (fillQ f r k).set k (r.getD q 0)) := by have := Hst.out; rw [if_pos ⟨h95, hlq⟩] at this; exact this
              obtain ⟨ad, hA, hy0⟩ := Kd.at_int (Kd.R_reads' hRr.out).2.2 q (by omega) (by omega)
              subst hA
              rw [Int.toNat_natCast] at hy0
              have hyr : YthmjheclhcdinaaDoorW.PrintWords.rd r (q : Int) = r.getD q 0 := by unfold YthmjheclhcdinaaDoorW.PrintWords.rd; rw [Int.toNat_natCast]
              rw [hyr] at hy0
              obtain ⟨y, hy⟩ : ∃ y, y = r.getD q 0 := ⟨_, rfl⟩
              rw [← hy] at hy0 Hst2
              have HP := Lib.hid (Kd.R_putg hR.out (k : Int) y)
              rw [Int.toNat_natCast] at HP
              have HF := Lib.hid (Kd.R_far hRr.out (p := ⟨g, k, none⟩) (fun j hj => by show j ≠ g; omega) (.int .i32 y))
              clear hq hyr hy h95 Hst Hcs
              go_wp2_with fail
              go_roundw
              case rel => exact ⟨k + 1, by omega, by go_num, by rw [Hcs2.out]; go_num, below_set hb.out hge, by show Kd.R _ _ _ _ _ _ _; rw [Hst2.out]; exact HP.out.1, HF⟩
              case measure => simp [intOf]; omega
            · have Hst2 : Hid (fillQ f r (k + 1) = fillQ f r k) := by have := Hst.out; rw [if_neg (fun h => hlq h.2)] at this; exact this
              clear hq h95 Hst Hcs
              go_wp2_with fail
              go_roundw
              case rel => exact ⟨k + 1, by omega, by go_num, by rw [Hcs2.out]; go_num, hb.out, by show Kd.R _ _ _ _ _ _ _; rw [Hst2.out]; exact hR.out, hRr⟩
              case measure => simp [intOf]; omega
          · have Hst2 : Hid (fillQ f r (k + 1) = fillQ f r k) := by have := Hst.out; rw [if_neg (fun h => h95 h.1)] at this; exact this
            have Hcs2 : Hid ((f.take (k + 1)).count 95 = q) := by have := Hcs.out; rw [if_neg h95] at this; exact this
            have he1 : ((f[k] : Int) != 95) = true := by simpa using h95
            clear hq h95 Hst Hcs
            go_wp2_with fail
            go_roundw
            case rel => exact ⟨k + 1, by omega, by go_num, by rw [Hcs2.out], hb.out, by show Kd.R _ _ _ _ _ _ _; rw [Hst2.out]; exact hR.out, hRr⟩
            case measure => simp [intOf]; omega
        · obtain rfl : k = f.length := by omega
          rw [List.take_length]
          by_cases hc : f.count 95 = r.length
          · obtain rfl : p = (fillH f r, 0) := by have := Hp.out; rw [if_pos hc] at this; exact this
            have hfin : fillQ f r f.length = fillH f r := by rw [fillQ_full f r hc f.length (Nat.le_refl _)]; unfold fillN; rw [List.drop_length, List.append_nil, List.take_of_length_le (by rw [fill_len]; omega)]
            have HR9 : Hid (RI wr w.heap.size (.slice A8 f.length c8) (fillH f r)) := by rw [← hfin]; exact hR
            clear hfin hR
            have hq1 : (((f.count 95 : Nat) : Int) != (r.length : Int)) = false := by simp [hc]
            go_wp2_with fail
            go_ret2
            exact ⟨_, rfl, HR9.out, hb.out⟩
          · obtain rfl : p = ([], 130) := by have := Hp.out; rw [if_neg hc] at this; exact this
            have hq1 : (((f.count 95 : Nat) : Int) != (r.length : Int)) = true := bne_iff_ne.mpr (by omega)
            go_wp2_with fail
            go_ret2
            exact ⟨_, rfl, RI_nil _ _, hb.out⟩
end Go.Proofs.YthmjheclhcdinaaDoor.Ext
end
section
-- printed by a program of this session (wip/tools/prx.sh: a turned copy of the kit's print, with functions given from outside)
namespace Go.Proofs.YthmjheclhcdinaaDoor.RF2
open Go.RowKit Go.Proofs.YthmjheclhcdinaaDoor Go.Proofs.YthmjheclhcdinaaDoor.Ext Go.Proofs.YthmjheclhcdinaaDoorW.PrintWords Go.Proofs.YthmjheclhcdinaaDoorW.PrintLast Go.Proofs.YthmjheclhcdinaaDoorW.PrintMore
attribute [local go_sem] max2_int min2_int max_two min_two max_three min_three max_four min_four   -- for this text's walks alone
set_option linter.unusedVariables false
set_option linter.unusedSimpArgs false



end Go.Proofs.YthmjheclhcdinaaDoor.RF2
end
section
-- printed by a program of this session (wip/tools/prx.sh: a turned copy of the kit's print, with functions given from outside)
namespace Go.Proofs.YthmjheclhcdinaaDoor.RF2
open Go.RowKit Go.Proofs.YthmjheclhcdinaaDoor Go.Proofs.YthmjheclhcdinaaDoor.Ext Go.Proofs.YthmjheclhcdinaaDoorW.PrintWords Go.Proofs.YthmjheclhcdinaaDoorW.PrintLast Go.Proofs.YthmjheclhcdinaaDoorW.PrintMore
attribute [local go_sem] max2_int min2_int max_two min_two max_three min_three max_four min_four   -- for this text's walks alone
set_option linter.unusedVariables false
set_option linter.unusedSimpArgs false

/-! ### feature_within: function 60 -/
def feature_within.f (l0_0 : List ByteArray) (l0_1 : List (S84)) (a1 : Int) (a2 : Int) : Option (Bool) := if (shr .u32 (Go.bits .or .u32 a1 a2) (l0_0.length : Int)) = 0 then (some ((Go.bits .and .u32 a1 a2) == 0)) else (some false)
set_option maxHeartbeats 8000000 in
set_option maxRecDepth 100000 in
theorem feature_within.calls (A0_0 : Option Addr) (c0_0 : Nat) (l0_0 : List ByteArray) (A0_1 : Option Addr) (c0_1 : Nat) (l0_1 : List (S84)) (a1 : Int) (a2 : Int) (r : Bool) (w : World) (hr0_0 : Kd.C Kd.string w A0_0 l0_0.length l0_0) (hc0_0 : l0_0.length ≤ c0_0) (hr0_1 : Kd.C k84 w A0_1 l0_1.length l0_1) (hc0_1 : l0_1.length ≤ c0_1) (h : feature_within.f l0_0 l0_1 a1 a2 = some r) :
    Calls Tryd.prog 60 #[.agg #[.slice A0_0 l0_0.length c0_0, .slice A0_1 l0_1.length c0_1], .int .u32 a1, .int .u32 a2] w fun e w' => e = .returned (.bool r) ∧ Below w.heap.size w w' := by
  have hu25 := Tryd.underlying25
  have HR0_0 := Aside0.mk hr0_0
  have HC0_0 := Aside0.mk hc0_0
  clear hr0_0 hc0_0
  have HR0_1 := Aside0.mk hr0_1
  have HC0_1 := Aside0.mk hc0_1
  clear hr0_1 hc0_1
  have HB := Aside0.mk (Below.refl w.heap.size w)
  have H : (if (shr .u32 (Go.bits .or .u32 a1 a2) (l0_0.length : Int)) = 0 then (some ((Go.bits .and .u32 a1 a2) == 0)) else (some false)) = some r := h
  clear h
  obtain ⟨ji4, hji4⟩ : ∃ j_ : Int, (shr .u32 (Go.bits .or .u32 a1 a2) (l0_0.length : Int)) = j_ := ⟨_, rfl⟩
  replace H : (if (ji4) = 0 then (some ((Go.bits .and .u32 a1 a2) == 0)) else (some false)) = some r := by first | (rw [hji4] at H; exact H) | (simp only [hji4] at H ⊢; exact H)
  have hji4_ : ((Go.bits .or .u32 a1 a2) / 2 ^ min (l0_0.length : Int).toNat 32) = ji4 := hji4
  have hji4z : (l0_0.length : Int) ≤ 32 → ((Go.bits .or .u32 a1 a2) / 2 ^ (l0_0.length : Int).toNat) = ji4 := shr_small hji4
  have hji4p : ((Go.bits .or .u32 a1 a2) / 2 ^ min l0_0.length 32) = ji4 := hji4_
  have hji4q : (l0_0.length : Int) ≤ 32 → ((Go.bits .or .u32 a1 a2) / 2 ^ l0_0.length) = ji4 := hji4z
  by_cases c5 : (ji4) = 0
  · rw [if_pos c5] at H
    have c5b0 : ((ji4) == 0) = true := beq_iff_eq.mpr c5
    have c5b1 : ((ji4) != 0) = false := bne_eq_false_iff_eq.mpr c5
    clear c5
    obtain rfl := Option.some.inj H
    go_enter Tryd.func60, Tryd.ntmps60
    go_wp2_with (first | ((with_reducible refine gate_dst (N := 3) rfl ?_); refine box_event ?hg (N := 3) ?hd (cs := #[.slice A0_0 l0_0.length c0_0, .slice A0_1 l0_1.length c0_1]) (t := 25) ?hr ?_; (case hd => rfl); (case hg => rfl); (case hr => first | (go_simp; done) | (go_simp; rfl)); intro gb101 hg w6 hbox hb; have n0_ := Aside0.mk (below_step (by repeat (first | (with_reducible first | exact HB.out | apply below_alloc | apply pw_below_drewN | apply below_drew1) | exact HB.out)) hb); have n1_ := Aside0.mk (hbox); have n2_ := Aside0.mk ((by rw [hg]; exact (below_size (by repeat (first | (with_reducible first | exact HB.out | apply below_alloc | apply pw_below_drewN | apply below_drew1) | exact HB.out))) : w.heap.size ≤ gb101)); have n3_ := Aside0.mk ((by rw [hg]; exact (below_size (by repeat (first | (with_reducible first | exact HB.out | apply below_alloc | apply pw_below_drewN | apply below_drew1) | exact HB.out))) : w.heap.size ≤ gb101)); clear HB; have HB := n0_; have BK101 := n1_; have GW101 := n2_; have GE101 := n3_; clear n0_ n1_ n2_ n3_; clear hb hbox hg; have hcz7_0 : w6.cell? ⟨gb101, 0, none⟩ = some (.slice A0_0 l0_0.length c0_0) := (blk_cell BK101.out 0).trans rfl; have hcz7_1 : w6.cell? ⟨gb101, 1, none⟩ = some (.slice A0_1 l0_1.length c0_1) := (blk_cell BK101.out 1).trans rfl; have hfz7_0 := blk_frozen BK101.out 0; have hfz7_1 := blk_frozen BK101.out 1))
    go_ret
    exact ⟨by first | rfl | (simp [errW_none, errW_some] <;> rfl) | (simp only [← hji4]; first | rfl | (simp [errW_none, errW_some] <;> rfl)) | (simp [*, errW_none, errW_some] <;> rfl), by repeat (first | (with_reducible first | exact HB.out | apply below_alloc | apply pw_below_drewN | apply below_drew1 | refine below_set ?_ GE101.out) | exact HB.out)⟩
  · rw [if_neg c5] at H
    have c5b0 : ((ji4) == 0) = false := beq_eq_false_iff_ne.mpr c5
    have c5b1 : ((ji4) != 0) = true := bne_iff_ne.mpr c5
    obtain rfl := Option.some.inj H
    go_enter Tryd.func60, Tryd.ntmps60
    go_wp2_with (first | ((with_reducible refine gate_dst (N := 3) rfl ?_); refine box_event ?hg (N := 3) ?hd (cs := #[.slice A0_0 l0_0.length c0_0, .slice A0_1 l0_1.length c0_1]) (t := 25) ?hr ?_; (case hd => rfl); (case hg => rfl); (case hr => first | (go_simp; done) | (go_simp; rfl)); intro gb101 hg w8 hbox hb; have n0_ := Aside0.mk (below_step (by repeat (first | (with_reducible first | exact HB.out | apply below_alloc | apply pw_below_drewN | apply below_drew1) | exact HB.out)) hb); have n1_ := Aside0.mk (hbox); have n2_ := Aside0.mk ((by rw [hg]; exact (below_size (by repeat (first | (with_reducible first | exact HB.out | apply below_alloc | apply pw_below_drewN | apply below_drew1) | exact HB.out))) : w.heap.size ≤ gb101)); have n3_ := Aside0.mk ((by rw [hg]; exact (below_size (by repeat (first | (with_reducible first | exact HB.out | apply below_alloc | apply pw_below_drewN | apply below_drew1) | exact HB.out))) : w.heap.size ≤ gb101)); clear HB; have HB := n0_; have BK101 := n1_; have GW101 := n2_; have GE101 := n3_; clear n0_ n1_ n2_ n3_; clear hb hbox hg; have hcz9_0 : w8.cell? ⟨gb101, 0, none⟩ = some (.slice A0_0 l0_0.length c0_0) := (blk_cell BK101.out 0).trans rfl; have hcz9_1 : w8.cell? ⟨gb101, 1, none⟩ = some (.slice A0_1 l0_1.length c0_1) := (blk_cell BK101.out 1).trans rfl; have hfz9_0 := blk_frozen BK101.out 0; have hfz9_1 := blk_frozen BK101.out 1))
    go_ret
    exact ⟨by first | rfl | (simp [errW_none, errW_some] <;> rfl) | (simp only [← hji4]; first | rfl | (simp [errW_none, errW_some] <;> rfl)) | (simp [*, errW_none, errW_some] <;> rfl), by repeat (first | (with_reducible first | exact HB.out | apply below_alloc | apply pw_below_drewN | apply below_drew1 | refine below_set ?_ GE101.out) | exact HB.out)⟩

/-! ### feature_like: function 82 -/
def feature_like.f (a0_0 : Int) (a0_1 : Int) (a0_2 : Int) (a1 : Int) (a2 : Int) : Option (Bool) := if (Go.bits .andNot .u32 a1 a0_1) = 0 then (some ((Go.bits .andNot .u32 a2 a0_2) == 0)) else (some false)
set_option maxHeartbeats 8000000 in
set_option maxRecDepth 100000 in
theorem feature_like.calls (a0_0 : Int) (a0_1 : Int) (a0_2 : Int) (a1 : Int) (a2 : Int) (r : Bool) (w : World) (h : feature_like.f a0_0 a0_1 a0_2 a1 a2 = some r) :
    Calls Tryd.prog 82 #[.agg #[.int .i32 a0_0, .int .u32 a0_1, .int .u32 a0_2], .int .u32 a1, .int .u32 a2] w fun e w' => e = .returned (.bool r) ∧ Below w.heap.size w w' := by
  have hu84 := Tryd.underlying84
  have HB := Aside0.mk (Below.refl w.heap.size w)
  have H : (if (Go.bits .andNot .u32 a1 a0_1) = 0 then (some ((Go.bits .andNot .u32 a2 a0_2) == 0)) else (some false)) = some r := h
  clear h
  by_cases c4 : (Go.bits .andNot .u32 a1 a0_1) = 0
  · rw [if_pos c4] at H
    have c4b0 : ((Go.bits .andNot .u32 a1 a0_1) == 0) = true := beq_iff_eq.mpr c4
    have c4b1 : ((Go.bits .andNot .u32 a1 a0_1) != 0) = false := bne_eq_false_iff_eq.mpr c4
    clear c4
    obtain rfl := Option.some.inj H
    go_enter Tryd.func82, Tryd.ntmps82
    go_wp2_with (first | ((with_reducible refine gate_dst (N := 3) rfl ?_); refine box_event ?hg (N := 3) ?hd (cs := #[.int .i32 a0_0, .int .u32 a0_1, .int .u32 a0_2]) (t := 84) ?hr ?_; (case hd => rfl); (case hg => rfl); (case hr => first | (go_simp; done) | (go_simp; rfl)); intro gb102 hg w5 hbox hb; have n0_ := Aside0.mk (below_step (by repeat (first | (with_reducible first | exact HB.out | apply below_alloc | apply pw_below_drewN | apply below_drew1) | exact HB.out)) hb); have n1_ := Aside0.mk (hbox); have n2_ := Aside0.mk ((by rw [hg]; exact (below_size (by repeat (first | (with_reducible first | exact HB.out | apply below_alloc | apply pw_below_drewN | apply below_drew1) | exact HB.out))) : w.heap.size ≤ gb102)); have n3_ := Aside0.mk ((by rw [hg]; exact (below_size (by repeat (first | (with_reducible first | exact HB.out | apply below_alloc | apply pw_below_drewN | apply below_drew1) | exact HB.out))) : w.heap.size ≤ gb102)); clear HB; have HB := n0_; have BK102 := n1_; have GW102 := n2_; have GE102 := n3_; clear n0_ n1_ n2_ n3_; clear hb hbox hg; have hcz6_0 : w5.cell? ⟨gb102, 0, none⟩ = some (.int .i32 a0_0) := (blk_cell BK102.out 0).trans rfl; have hcz6_1 : w5.cell? ⟨gb102, 1, none⟩ = some (.int .u32 a0_1) := (blk_cell BK102.out 1).trans rfl; have hcz6_2 : w5.cell? ⟨gb102, 2, none⟩ = some (.int .u32 a0_2) := (blk_cell BK102.out 2).trans rfl; have hfz6_0 := blk_frozen BK102.out 0; have hfz6_1 := blk_frozen BK102.out 1; have hfz6_2 := blk_frozen BK102.out 2))
    go_ret
    exact ⟨by first | rfl | (simp [errW_none, errW_some] <;> rfl) | (simp [*, errW_none, errW_some] <;> rfl), by repeat (first | (with_reducible first | exact HB.out | apply below_alloc | apply pw_below_drewN | apply below_drew1 | refine below_set ?_ GE102.out) | exact HB.out)⟩
  · rw [if_neg c4] at H
    have c4b0 : ((Go.bits .andNot .u32 a1 a0_1) == 0) = false := beq_eq_false_iff_ne.mpr c4
    have c4b1 : ((Go.bits .andNot .u32 a1 a0_1) != 0) = true := bne_iff_ne.mpr c4
    obtain rfl := Option.some.inj H
    go_enter Tryd.func82, Tryd.ntmps82
    go_wp2_with (first | ((with_reducible refine gate_dst (N := 3) rfl ?_); refine box_event ?hg (N := 3) ?hd (cs := #[.int .i32 a0_0, .int .u32 a0_1, .int .u32 a0_2]) (t := 84) ?hr ?_; (case hd => rfl); (case hg => rfl); (case hr => first | (go_simp; done) | (go_simp; rfl)); intro gb102 hg w7 hbox hb; have n0_ := Aside0.mk (below_step (by repeat (first | (with_reducible first | exact HB.out | apply below_alloc | apply pw_below_drewN | apply below_drew1) | exact HB.out)) hb); have n1_ := Aside0.mk (hbox); have n2_ := Aside0.mk ((by rw [hg]; exact (below_size (by repeat (first | (with_reducible first | exact HB.out | apply below_alloc | apply pw_below_drewN | apply below_drew1) | exact HB.out))) : w.heap.size ≤ gb102)); have n3_ := Aside0.mk ((by rw [hg]; exact (below_size (by repeat (first | (with_reducible first | exact HB.out | apply below_alloc | apply pw_below_drewN | apply below_drew1) | exact HB.out))) : w.heap.size ≤ gb102)); clear HB; have HB := n0_; have BK102 := n1_; have GW102 := n2_; have GE102 := n3_; clear n0_ n1_ n2_ n3_; clear hb hbox hg; have hcz8_0 : w7.cell? ⟨gb102, 0, none⟩ = some (.int .i32 a0_0) := (blk_cell BK102.out 0).trans rfl; have hcz8_1 : w7.cell? ⟨gb102, 1, none⟩ = some (.int .u32 a0_1) := (blk_cell BK102.out 1).trans rfl; have hcz8_2 : w7.cell? ⟨gb102, 2, none⟩ = some (.int .u32 a0_2) := (blk_cell BK102.out 2).trans rfl; have hfz8_0 := blk_frozen BK102.out 0; have hfz8_1 := blk_frozen BK102.out 1; have hfz8_2 := blk_frozen BK102.out 2))
    go_ret
    exact ⟨by first | rfl | (simp [errW_none, errW_some] <;> rfl) | (simp [*, errW_none, errW_some] <;> rfl), by repeat (first | (with_reducible first | exact HB.out | apply below_alloc | apply pw_below_drewN | apply below_drew1 | refine below_set ?_ GE102.out) | exact HB.out)⟩

/-! ### feature_Class: function 67 -/
def feature_Class.l0 : Nat → Int → Int → List Int → List (S84) → Int → Int → Option (List Int × Int)
  | 0, _, _, _, _, _, _ => none
  | k + 1, x1, x2, x9, x23, x24, x25 => if x25 < x24 then (if 0 ≤ x25 then (if x25 < (x23.length : Int) then ((feature_like.f ((rd_T84 x23 x25).f0) ((rd_T84 x23 x25).f1) ((rd_T84 x23 x25).f2) x1 x2).bind fun t108 => (if t108 = true then (if x9.length < 35184372088832 then (feature_Class.l0 k x1 x2 (x9 ++ [(rd_T84 x23 x25).f0]) x23 x24 (wrap64 (x25 + 1))) else (none)) else (feature_Class.l0 k x1 x2 x9 x23 x24 (wrap64 (x25 + 1))))) else (none)) else (none)) else (some (x9, 0))
def feature_Class.f (k : Nat) (l0_0 : List ByteArray) (l0_1 : List (S84)) (a1 : Int) (a2 : Int) : Option (List Int × Int) := (feature_Check.f l0_0 l0_1).bind fun t104 => (if t104 = 0 then ((feature_within.f l0_0 l0_1 a1 a2).bind fun t105 => (if t105 = true then (feature_Class.l0 k a1 a2 ([] : List Int) l0_1 (l0_1.length : Int) 0) else (some (([] : List Int), 20)))) else (some (([] : List Int), t104)))
set_option maxHeartbeats 8000000 in
set_option maxRecDepth 100000 in
theorem feature_Class.calls (k : Nat) (A0_0 : Option Addr) (c0_0 : Nat) (l0_0 : List ByteArray) (A0_1 : Option Addr) (c0_1 : Nat) (l0_1 : List (S84)) (a1 : Int) (a2 : Int) (r1 : List Int) (r2 : Int) (w : World) (hr0_0 : Kd.C Kd.string w A0_0 l0_0.length l0_0) (hc0_0 : l0_0.length ≤ c0_0) (hr0_1 : Kd.C k84 w A0_1 l0_1.length l0_1) (hc0_1 : l0_1.length ≤ c0_1) (h : feature_Class.f k l0_0 l0_1 a1 a2 = some (r1, r2)) :
    Calls Tryd.prog 67 #[.agg #[.slice A0_0 l0_0.length c0_0, .slice A0_1 l0_1.length c0_1], .int .u32 a1, .int .u32 a2] w fun e w' => ∃ v0_ : Value, e = .returned (.tuple #[v0_, .int .i64 r2]) ∧ Kd.R (Kd.int .i32) 21 w' w.heap.size (fun _ => True) v0_ r1 ∧ Below w.heap.size w w' := by
  have hu25 := Tryd.underlying25
  have hu84 := Tryd.underlying84
  have HR0_0 := Aside0.mk hr0_0
  have HC0_0 := Aside0.mk hc0_0
  clear hr0_0 hc0_0
  have HR0_1 := Aside0.mk hr0_1
  have HC0_1 := Aside0.mk hc0_1
  clear hr0_1 hc0_1
  have HB := Aside0.mk (Below.refl w.heap.size w)
  have H : ((feature_Check.f l0_0 l0_1).bind fun t104 => (if t104 = 0 then ((feature_within.f l0_0 l0_1 a1 a2).bind fun t105 => (if t105 = true then (feature_Class.l0 k a1 a2 ([] : List Int) l0_1 (l0_1.length : Int) 0) else (some (([] : List Int), 20)))) else (some (([] : List Int), t104)))) = some (r1, r2) := h
  clear h
  replace H := Option.bind_eq_some_iff.mp H
  obtain ⟨t104, A40, H⟩ := H
  replace H : (if t104 = 0 then ((feature_within.f l0_0 l0_1 a1 a2).bind fun t105 => (if t105 = true then (feature_Class.l0 k a1 a2 ([] : List Int) l0_1 (l0_1.length : Int) 0) else (some (([] : List Int), 20)))) else (some (([] : List Int), t104))) = some (r1, r2) := H
  have A4 := Aside0.mk A40
  clear A40
  by_cases c5 : t104 = 0
  · rw [if_pos c5] at H
    have c5b0 : (t104 == 0) = true := beq_iff_eq.mpr c5
    have c5b1 : (t104 != 0) = false := bne_eq_false_iff_eq.mpr c5
    clear c5
    replace H := Option.bind_eq_some_iff.mp H
    obtain ⟨t105, A60, H⟩ := H
    replace H : (if t105 = true then (feature_Class.l0 k a1 a2 ([] : List Int) l0_1 (l0_1.length : Int) 0) else (some (([] : List Int), 20))) = some (r1, r2) := H
    have A6 := Aside0.mk A60
    clear A60
    by_cases c7 : t105 = true
    · subst c7
      have H1 : (feature_Class.l0 k a1 a2 ([] : List Int) l0_1 (l0_1.length : Int) 0) = some (r1, r2) := by rw [if_pos rfl] at H; exact H
      clear H
      have H := H1
      clear H1
      have H' := Aside0.mk H
      clear H
      go_enter Tryd.func67, Tryd.ntmps67
      go_wp2_with (first | ((with_reducible refine gate_dst (N := 3) rfl ?_); refine box_event ?hg (N := 3) ?hd (cs := #[.slice A0_0 l0_0.length c0_0, .slice A0_1 l0_1.length c0_1]) (t := 25) ?hr ?_; (case hd => rfl); (case hg => rfl); (case hr => first | (go_simp; done) | (go_simp; rfl)); intro gb103 hg w8 hbox hb; have n0_ := Aside0.mk (below_step (by repeat (first | (with_reducible first | exact HB.out | apply below_alloc | apply pw_below_drewN | apply below_drew1) | exact HB.out)) hb); have n1_ := Aside0.mk (hbox); have n2_ := Aside0.mk ((by rw [hg]; exact (below_size (by repeat (first | (with_reducible first | exact HB.out | apply below_alloc | apply pw_below_drewN | apply below_drew1) | exact HB.out))) : w.heap.size ≤ gb103)); have n3_ := Aside0.mk ((by rw [hg]; exact (below_size (by repeat (first | (with_reducible first | exact HB.out | apply below_alloc | apply pw_below_drewN | apply below_drew1) | exact HB.out))) : w.heap.size ≤ gb103)); clear HB; have HB := n0_; have BK103 := n1_; have GW103 := n2_; have GE103 := n3_; clear n0_ n1_ n2_ n3_; clear hb hbox hg; have hcz9_0 : w8.cell? ⟨gb103, 0, none⟩ = some (.slice A0_0 l0_0.length c0_0) := (blk_cell BK103.out 0).trans rfl; have hcz9_1 : w8.cell? ⟨gb103, 1, none⟩ = some (.slice A0_1 l0_1.length c0_1) := (blk_cell BK103.out 1).trans rfl; have hfz9_0 := blk_frozen BK103.out 0; have hfz9_1 := blk_frozen BK103.out 1) | ((with_reducible refine gate_callee (f := 39) rfl ?_); refine goesL_ (some 13) rfl rfl Tryd.func39 (by kernel_rfl) rfl #[.agg #[.slice A0_0 l0_0.length c0_0, .slice A0_1 l0_1.length c0_1]] rfl (by (try simp only [List.map_toArray, List.map_cons, List.map_nil]); first | done | rfl | (simp only [List.length_drop, List.length_take]; rfl)) ?_; (with_reducible refine (feature_Check.calls _ _ l0_0 _ _ l0_1 t104 _ ?side1 ?side2 ?side3 ?side4 A4.out).mono ?_); (case side1 => repeat (first | exact (Kd.C_below HR0_0.out HB.out) | (with_reducible refine Kd.C_alloc ?_ _) | (with_reducible refine Kd.C_drewN ?_ _) | (with_reducible refine Kd.C_drew ?_))); (case side2 => exact HC0_0.out); (case side3 => repeat (first | exact (Kd.C_below HR0_1.out HB.out) | (with_reducible refine Kd.C_alloc ?_ _) | (with_reducible refine Kd.C_drewN ?_ _) | (with_reducible refine Kd.C_drew ?_))); (case side4 => exact HC0_1.out); rintro e w10 ⟨rfl, hb⟩; refine ⟨_, rfl, ?_⟩; have n0_ := Aside0.mk (blk_below (g := gb103) (o := .cells #[.slice A0_0 l0_0.length c0_0, .slice A0_1 l0_1.length c0_1] 25 (0, 0)) (by (with_reducible repeat (first | refine blk_drewN ?_ _ | refine blk_drew ?_ | refine blk_alloc ?_ _)); exact BK103.out) hb); have n1_ := Aside0.mk (below_step (by repeat (first | (with_reducible first | exact HB.out | apply below_alloc | apply pw_below_drewN | apply below_drew1 | refine below_set ?_ GE103.out) | exact HB.out)) hb); clear BK103; clear HB; have BK103 := n0_; have HB := n1_; clear n0_ n1_; (try clear hb); (try clear hb2); (try clear hk); (try clear hi); have hcz11_0 : w10.cell? ⟨gb103, 0, none⟩ = some (.slice A0_0 l0_0.length c0_0) := (blk_cell BK103.out 0).trans rfl; have hcz11_1 : w10.cell? ⟨gb103, 1, none⟩ = some (.slice A0_1 l0_1.length c0_1) := (blk_cell BK103.out 1).trans rfl; have hfz11_0 := blk_frozen BK103.out 0; have hfz11_1 := blk_frozen BK103.out 1) | ((with_reducible refine gate_callee (f := 60) rfl ?_); refine goesL_ (some 20) rfl rfl Tryd.func60 (by kernel_rfl) rfl #[.agg #[.slice A0_0 l0_0.length c0_0, .slice A0_1 l0_1.length c0_1], .int .u32 a1, .int .u32 a2] rfl (by (try simp only [List.map_toArray, List.map_cons, List.map_nil]); first | done | rfl | (simp only [List.length_drop, List.length_take]; rfl)) ?_; (with_reducible refine (feature_within.calls _ _ l0_0 _ _ l0_1 a1 a2 true _ ?side1 ?side2 ?side3 ?side4 A6.out).mono ?_); (case side1 => repeat (first | exact (Kd.C_below HR0_0.out HB.out) | (with_reducible refine Kd.C_alloc ?_ _) | (with_reducible refine Kd.C_drewN ?_ _) | (with_reducible refine Kd.C_drew ?_))); (case side2 => exact HC0_0.out); (case side3 => repeat (first | exact (Kd.C_below HR0_1.out HB.out) | (with_reducible refine Kd.C_alloc ?_ _) | (with_reducible refine Kd.C_drewN ?_ _) | (with_reducible refine Kd.C_drew ?_))); (case side4 => exact HC0_1.out); rintro e w12 ⟨rfl, hb⟩; refine ⟨_, rfl, ?_⟩; have n0_ := Aside0.mk (blk_below (g := gb103) (o := .cells #[.slice A0_0 l0_0.length c0_0, .slice A0_1 l0_1.length c0_1] 25 (0, 0)) (by (with_reducible repeat (first | refine blk_drewN ?_ _ | refine blk_drew ?_ | refine blk_alloc ?_ _)); exact BK103.out) hb); have n1_ := Aside0.mk (below_step (by repeat (first | (with_reducible first | exact HB.out | apply below_alloc | apply pw_below_drewN | apply below_drew1 | refine below_set ?_ GE103.out) | exact HB.out)) hb); clear BK103; clear HB; have BK103 := n0_; have HB := n1_; clear n0_ n1_; (try clear hb); (try clear hb2); (try clear hk); (try clear hi); have hcz13_0 : w12.cell? ⟨gb103, 0, none⟩ = some (.slice A0_0 l0_0.length c0_0) := (blk_cell BK103.out 0).trans rfl; have hcz13_1 : w12.cell? ⟨gb103, 1, none⟩ = some (.slice A0_1 l0_1.length c0_1) := (blk_cell BK103.out 1).trans rfl; have hfz13_0 := blk_frozen BK103.out 0; have hfz13_1 := blk_frozen BK103.out 1))
      go_loopg [9, 25] k (fun kq v9 v25 w' => ∃ (x9_1 : List Int) (x25_1 : Int), v25 = .int .i64 x25_1 ∧ Aside0 (feature_Class.l0 kq a1 a2 x9_1 l0_1 (l0_1.length : Int) x25_1 = some (r1, r2)) ∧ Aside0 (kq ≤ k) ∧ Aside0 (Kd.R (Kd.int .i32) 21 w' w.heap.size (fun _ => True) v9 x9_1) ∧ Aside0 (w'.heap[gb103]? = some (.cells #[(.slice A0_0 l0_0.length c0_0), (.slice A0_1 l0_1.length c0_1)] 25 (0, 0))) ∧ Aside0 (Below w.heap.size w w'))
      case atStart => exact ⟨(([] : List Int)), (0), (by first | rfl | (simp; done) | (simp [*]; done)), H', ⟨Nat.le_refl _⟩, ⟨by first | exact Kd.R_nil _ _ _ _ _ | exact Kd.N_nil _ _ _ _ _ | exact Kd.V_nil _ _ _ _ _ | exact Kd.Q_nil _ _ _ _ _ | exact Kd.S_nil _ _ _ _ _⟩, ⟨by (with_reducible repeat (first | refine blk_drewN ?_ _ | refine blk_drew ?_ | refine blk_alloc ?_ _)); exact BK103.out⟩, ⟨by repeat (first | (with_reducible first | exact HB.out | apply below_alloc | apply pw_below_drewN | apply below_drew1 | refine below_set ?_ GE103.out) | exact HB.out)⟩⟩
      case round =>
        clear H'
        try clear p2
        try clear c3
        try clear c5
        try clear c5b0
        try clear c5b1
        try clear c6
        try clear c7
        try clear hcz11_0
        try clear hcz11_1
        try clear hcz13_0
        try clear hcz13_1
        try clear hcz9_0
        try clear hcz9_1
        try clear hfz11_0
        try clear hfz11_1
        try clear hfz13_0
        try clear hfz13_1
        try clear hfz9_0
        try clear hfz9_1
        obtain ⟨x9_1, x25_1, rfl, HA, HK1, HO_9, BK103, HB⟩ := hrel
        cases gk with
        | zero => exact absurd HA.out (by simp [feature_Class.l0])
        | succ k1 =>
          have H := HA.out
          clear HA
          simp only [feature_Class.l0] at H
          by_cases c14 : x25_1 < (l0_1.length : Int)
          · rw [if_pos c14] at H
            have c14b0 : decide (x25_1 < (l0_1.length : Int)) = true := decide_eq_true c14
            clear c14
            by_cases c15 : 0 ≤ x25_1
            · rw [if_pos c15] at H
              have c15b0 : decide (0 ≤ x25_1) = true := decide_eq_true c15
              clear c15
              by_cases c16 : x25_1 < (l0_1.length : Int)
              · rw [if_pos c16] at H
                have c16b0 : decide (x25_1 < (l0_1.length : Int)) = true := decide_eq_true c16
                clear c16
                replace H := Option.bind_eq_some_iff.mp H
                obtain ⟨t108, A170, H⟩ := H
                replace H : (if t108 = true then (if x9_1.length < 35184372088832 then (feature_Class.l0 k1 a1 a2 (x9_1 ++ [(rd_T84 l0_1 x25_1).f0]) l0_1 (l0_1.length : Int) (wrap64 (x25_1 + 1))) else (none)) else (feature_Class.l0 k1 a1 a2 x9_1 l0_1 (l0_1.length : Int) (wrap64 (x25_1 + 1)))) = some (r1, r2) := H
                have A17 := Aside0.mk A170
                clear A170
                by_cases c18 : t108 = true
                · subst c18
                  have H1 : (if x9_1.length < 35184372088832 then (feature_Class.l0 k1 a1 a2 (x9_1 ++ [(rd_T84 l0_1 x25_1).f0]) l0_1 (l0_1.length : Int) (wrap64 (x25_1 + 1))) else (none)) = some (r1, r2) := by rw [if_pos rfl] at H; exact H
                  clear H
                  have H := H1
                  clear H1
                  by_cases c19 : x9_1.length < 35184372088832
                  · rw [if_pos c19] at H
                    have LMc19 := Aside0.mk c19
                    clear c19
                    obtain ⟨y109, hy109⟩ : ∃ y_ : List Int, y_ = (x9_1 ++ [(rd_T84 l0_1 x25_1).f0]) := ⟨_, rfl⟩
                    replace H : (feature_Class.l0 k1 a1 a2 y109 l0_1 (l0_1.length : Int) (wrap64 (x25_1 + 1))) = some (r1, r2) := by first | (rw [hy109]; with_reducible exact H) | (have H2_ := (Option.bind_some _ _).symm.trans H; rw [hy109]; with_reducible exact H2_) | (have H2_ := (Option.bind_some _ _).symm.trans H; with_reducible exact H2_) | with_reducible exact H | (rw [hy109]; exact H) | exact H
                    have Ny109 := Aside0.mk hy109
                    clear hy109
                    have H' := Aside0.mk H
                    clear H
                    have p106 : 0 ≤ (x25_1 : Int) := of_decide_eq_true (by first | (with_reducible assumption) | assumption)
                    have q106 : x25_1 < (l0_1.length : Int) := of_decide_eq_true (by first | (with_reducible assumption) | assumption)
                    obtain ⟨ad106, e106, hx106_0, hx106_1, hx106_2⟩ := at_T84 HR0_1.out x25_1 p106 q106
                    cases e106
                    replace hx106_0 := (HB.out.cell (World.block_lt_of_cell? w _ hx106_0)).trans hx106_0
                    replace hx106_1 := (HB.out.cell (World.block_lt_of_cell? w _ hx106_1)).trans hx106_1
                    replace hx106_2 := (HB.out.cell (World.block_lt_of_cell? w _ hx106_2)).trans hx106_2
                    replace p106 := eq_true p106
                    replace q106 := eq_true q106
                    go_wp2_with (first | ((with_reducible refine gate_dst (N := 11) rfl ?_); refine box_event ?hg (N := 11) ?hd (cs := #[.int .i32 0, .int .u32 0, .int .u32 0]) (t := 84) ?hr ?_; (case hd => rfl); (case hg => rfl); (case hr => first | (go_simp; done) | (go_simp; rfl)); intro gb107 hg w20 hbox hb; have n0_ := Aside0.mk (Kd.R_below (by (with_reducible repeat (first | apply Kd.R_alloc | apply Kd.R_drewN | apply Kd.R_drew)); exact HO_9.out) hb); have n1_ := Aside0.mk (blk_below (g := gb103) (o := .cells #[.slice A0_0 l0_0.length c0_0, .slice (some ad106) l0_1.length c0_1] 25 (0, 0)) (by (with_reducible repeat (first | refine blk_drewN ?_ _ | refine blk_drew ?_ | refine blk_alloc ?_ _)); exact BK103.out) hb); have n2_ := Aside0.mk (below_step (by repeat (first | (with_reducible first | exact HB.out | apply below_alloc | apply pw_below_drewN | apply below_drew1 | refine below_set ?_ GE103.out) | exact HB.out)) hb); have n3_ := Aside0.mk (hbox); have n4_ := Aside0.mk ((by rw [hg]; exact (below_size (by repeat (first | (with_reducible first | exact HB.out | apply below_alloc | apply pw_below_drewN | apply below_drew1 | refine below_set ?_ GE103.out) | exact HB.out))) : w.heap.size ≤ gb107)); have n5_ := Aside0.mk ((by rw [hg]; exact (below_size (by repeat (first | (with_reducible first | exact HB.out | apply below_alloc | apply pw_below_drewN | apply below_drew1 | refine below_set ?_ GE103.out) | exact HB.out))) : w.heap.size ≤ gb107)); have n6_ := Aside0.mk ((by rw [hg]; exact Nat.ne_of_lt (blk_lt (g := gb103) (o := .cells #[.slice A0_0 l0_0.length c0_0, .slice (some ad106) l0_1.length c0_1] 25 (0, 0)) (by (with_reducible repeat (first | refine blk_drewN ?_ _ | refine blk_drew ?_ | refine blk_alloc ?_ _)); exact BK103.out)) : gb103 ≠ gb107)); have n7_ := Aside0.mk ((by rw [hg]; exact Nat.ne_of_gt (blk_lt (g := gb103) (o := .cells #[.slice A0_0 l0_0.length c0_0, .slice (some ad106) l0_1.length c0_1] 25 (0, 0)) (by (with_reducible repeat (first | refine blk_drewN ?_ _ | refine blk_drew ?_ | refine blk_alloc ?_ _)); exact BK103.out)) : gb107 ≠ gb103)); clear HO_9; clear BK103; clear HB; have HO_9 := n0_; have BK103 := n1_; have HB := n2_; have BK107 := n3_; have GW107 := n4_; have GE107 := n5_; have NB103_107 := n6_; have NB107_103 := n7_; clear n0_ n1_ n2_ n3_ n4_ n5_ n6_ n7_; clear hb hbox hg; have hnb21 := NB107_103.out; have hnc21 := NB103_107.out; have hcz22_0 : w20.cell? ⟨gb107, 0, none⟩ = some (.int .i32 0) := (blk_cell BK107.out 0).trans rfl; have hcz22_1 : w20.cell? ⟨gb107, 1, none⟩ = some (.int .u32 0) := (blk_cell BK107.out 1).trans rfl; have hcz22_2 : w20.cell? ⟨gb107, 2, none⟩ = some (.int .u32 0) := (blk_cell BK107.out 2).trans rfl; have hfz22_0 := blk_frozen BK107.out 0; have hfz22_1 := blk_frozen BK107.out 1; have hfz22_2 := blk_frozen BK107.out 2) | ((with_reducible refine gate_callee (f := 82) rfl ?_); refine goesL_ (some 32) rfl rfl Tryd.func82 (by kernel_rfl) rfl #[.agg #[.int .i32 ((rd_T84 l0_1 x25_1).f0), .int .u32 ((rd_T84 l0_1 x25_1).f1), .int .u32 ((rd_T84 l0_1 x25_1).f2)], .int .u32 a1, .int .u32 a2] rfl (by (try simp only [List.map_toArray, List.map_cons, List.map_nil]); first | done | rfl | (simp only [List.length_drop, List.length_take]; rfl)) ?_; (with_reducible refine (feature_like.calls ((rd_T84 l0_1 x25_1).f0) ((rd_T84 l0_1 x25_1).f1) ((rd_T84 l0_1 x25_1).f2) a1 a2 true _ A17.out).mono ?_); rintro e w23 ⟨rfl, hb⟩; refine ⟨_, rfl, ?_⟩; have n0_ := Aside0.mk (Kd.R_below (by (with_reducible repeat (first | apply Kd.R_alloc | apply Kd.R_drewN | apply Kd.R_drew)); exact (Kd.R_mono (Kd.R_far (p := ⟨gb107, 2, none⟩) (Kd.R_far (p := ⟨gb107, 1, none⟩) (Kd.R_far (p := ⟨gb107, 0, none⟩) (Kd.R_types HO_9.out BK107.out (by decide)) (fun _ hk => hk.2) (.int .i32 ((rd_T84 l0_1 x25_1).f0))) (fun _ hk => hk.2) (.int .u32 ((rd_T84 l0_1 x25_1).f1))) (fun _ hk => hk.2) (.int .u32 ((rd_T84 l0_1 x25_1).f2))) (fun _ h_ => h_.1))) hb); have n1_ := Aside0.mk (blk_below (g := gb103) (o := .cells #[.slice A0_0 l0_0.length c0_0, .slice (some ad106) l0_1.length c0_1] 25 (0, 0)) (by (with_reducible repeat (first | refine blk_drewN ?_ _ | refine blk_drew ?_ | refine blk_alloc ?_ _)); refine blk_far ?_ NB103_107.out _; (with_reducible repeat (first | refine blk_drewN ?_ _ | refine blk_drew ?_ | refine blk_alloc ?_ _)); refine blk_far ?_ NB103_107.out _; (with_reducible repeat (first | refine blk_drewN ?_ _ | refine blk_drew ?_ | refine blk_alloc ?_ _)); refine blk_far ?_ NB103_107.out _; (with_reducible repeat (first | refine blk_drewN ?_ _ | refine blk_drew ?_ | refine blk_alloc ?_ _)); exact BK103.out) hb); have n2_ := Aside0.mk (blk_below (g := gb107) (o := .cells #[.int .i32 ((rd_T84 l0_1 x25_1).f0), .int .u32 ((rd_T84 l0_1 x25_1).f1), .int .u32 ((rd_T84 l0_1 x25_1).f2)] 84 (0, 0)) (by (with_reducible repeat (first | refine blk_drewN ?_ _ | refine blk_drew ?_ | refine blk_alloc ?_ _)); refine blk_put (cs := #[.int .i32 ((rd_T84 l0_1 x25_1).f0), .int .u32 ((rd_T84 l0_1 x25_1).f1), .int .u32 0]) ?_ 2 _ rfl; (with_reducible repeat (first | refine blk_drewN ?_ _ | refine blk_drew ?_ | refine blk_alloc ?_ _)); refine blk_put (cs := #[.int .i32 ((rd_T84 l0_1 x25_1).f0), .int .u32 0, .int .u32 0]) ?_ 1 _ rfl; (with_reducible repeat (first | refine blk_drewN ?_ _ | refine blk_drew ?_ | refine blk_alloc ?_ _)); refine blk_put (cs := #[.int .i32 0, .int .u32 0, .int .u32 0]) ?_ 0 _ rfl; (with_reducible repeat (first | refine blk_drewN ?_ _ | refine blk_drew ?_ | refine blk_alloc ?_ _)); exact BK107.out) hb); have n3_ := Aside0.mk (below_step (by repeat (first | (with_reducible first | exact HB.out | apply below_alloc | apply pw_below_drewN | apply below_drew1 | refine below_set ?_ GE103.out | refine below_set ?_ GE107.out) | exact HB.out)) hb); clear HO_9; clear BK103; clear BK107; clear HB; have HO_9 := n0_; have BK103 := n1_; have BK107 := n2_; have HB := n3_; clear n0_ n1_ n2_ n3_; (try clear hb); (try clear hb2); (try clear hk); (try clear hi); have hcz24_0 : w23.cell? ⟨gb107, 0, none⟩ = some (.int .i32 ((rd_T84 l0_1 x25_1).f0)) := (blk_cell BK107.out 0).trans rfl; have hcz24_1 : w23.cell? ⟨gb107, 1, none⟩ = some (.int .u32 ((rd_T84 l0_1 x25_1).f1)) := (blk_cell BK107.out 1).trans rfl; have hcz24_2 : w23.cell? ⟨gb107, 2, none⟩ = some (.int .u32 ((rd_T84 l0_1 x25_1).f2)) := (blk_cell BK107.out 2).trans rfl; have hfz24_0 := blk_frozen BK107.out 0; have hfz24_1 := blk_frozen BK107.out 1; have hfz24_2 := blk_frozen BK107.out 2) | ((with_reducible refine gate_builtin (b := .append) (xs := #[.tmp 33, .tmp 36]) rfl ?_); at_builtin; refine Kd.R_append (Kd.int .i32) (w0 := w) w.heap.size rfl (.tmp 33) (.tmp 36) 73 21 (.int .i32 0) 4 rfl Tryd.underlying73 info21 rfl (by decide) (by omega) u9 x9_1 ((rd_T84 l0_1 x25_1).f0) [.int .i32 ((rd_T84 l0_1 x25_1).f0)] (fun _ => True) (fun _ => False) rfl rfl ?aP (fun _ hk => hk.elim) ?aF ?aO ?aB ?aS ?aL ?_; (case aP => exact rfl); (case aB => exact (by repeat (first | (with_reducible first | exact HB.out | apply below_alloc | apply pw_below_drewN | apply below_drew1 | refine below_set ?_ GE103.out | refine below_set ?_ GE107.out) | exact HB.out))); (case aF => exact (fun _ _ => trivial)); (case aO => exact (by (with_reducible repeat (first | apply Kd.R_alloc | apply Kd.R_drewN | apply Kd.R_drew)); exact HO_9.out)); (case aS => exact (below_size (by repeat (first | (with_reducible first | exact HB.out | apply below_alloc | apply pw_below_drewN | apply below_drew1 | refine below_set ?_ GE103.out | refine below_set ?_ GE107.out) | exact HB.out)))); (case aL => have := LMc19.out; omega); intro v110 w25 ho hb hg hat; rw [← Ny109.out] at ho; have n0_ := Aside0.mk (blk_grown (g := gb103) (o := .cells #[.slice A0_0 l0_0.length c0_0, .slice (some ad106) l0_1.length c0_1] 25 (0, 0)) (by (with_reducible repeat (first | refine blk_drewN ?_ _ | refine blk_drew ?_ | refine blk_alloc ?_ _)); exact BK103.out) hg (Kd.R_ne HO_9.out BK103.out (by decide))); have n1_ := Aside0.mk (blk_grown (g := gb107) (o := .cells #[.int .i32 ((rd_T84 l0_1 x25_1).f0), .int .u32 ((rd_T84 l0_1 x25_1).f1), .int .u32 ((rd_T84 l0_1 x25_1).f2)] 84 (0, 0)) (by (with_reducible repeat (first | refine blk_drewN ?_ _ | refine blk_drew ?_ | refine blk_alloc ?_ _)); exact BK107.out) hg (Kd.R_ne HO_9.out BK107.out (by decide))); have n2_ := Aside0.mk (hb); have n3_ := Aside0.mk (ho); clear BK103; clear BK107; clear HB; clear HO_9; have BK103 := n0_; have BK107 := n1_; have HB := n2_; have HO111 := n3_; clear n0_ n1_ n2_ n3_; clear ho hb hg hat))
                    go_roundg k1
                    case measure => have := HK1.out; omega
                    case rel => exact ⟨(y109), (wrap64 (x25_1 + 1)), (by first | rfl | (simp; done) | (simp [*]; done)), H', ⟨by have := HK1.out; omega⟩, ⟨by (with_reducible repeat (first | apply Kd.R_alloc | apply Kd.R_drewN | apply Kd.R_drew)); exact HO111.out⟩, ⟨by (with_reducible repeat (first | refine blk_drewN ?_ _ | refine blk_drew ?_ | refine blk_alloc ?_ _)); exact BK103.out⟩, ⟨by repeat (first | (with_reducible first | exact HB.out | apply below_alloc | apply pw_below_drewN | apply below_drew1 | refine below_set ?_ GE103.out | refine below_set ?_ GE107.out) | exact HB.out)⟩⟩
                  · rw [if_neg c19] at H
                    exact absurd H (by simp)
                · replace c18 := Bool.eq_false_iff.mpr c18
                  subst c18
                  have H1 : (feature_Class.l0 k1 a1 a2 x9_1 l0_1 (l0_1.length : Int) (wrap64 (x25_1 + 1))) = some (r1, r2) := by rw [if_neg (show ¬ (false = true) by decide)] at H; exact H
                  clear H
                  have H := H1
                  clear H1
                  have H' := Aside0.mk H
                  clear H
                  have p106 : 0 ≤ (x25_1 : Int) := of_decide_eq_true (by first | (with_reducible assumption) | assumption)
                  have q106 : x25_1 < (l0_1.length : Int) := of_decide_eq_true (by first | (with_reducible assumption) | assumption)
                  obtain ⟨ad106, e106, hx106_0, hx106_1, hx106_2⟩ := at_T84 HR0_1.out x25_1 p106 q106
                  cases e106
                  replace hx106_0 := (HB.out.cell (World.block_lt_of_cell? w _ hx106_0)).trans hx106_0
                  replace hx106_1 := (HB.out.cell (World.block_lt_of_cell? w _ hx106_1)).trans hx106_1
                  replace hx106_2 := (HB.out.cell (World.block_lt_of_cell? w _ hx106_2)).trans hx106_2
                  replace p106 := eq_true p106
                  replace q106 := eq_true q106
                  go_wp2_with (first | ((with_reducible refine gate_dst (N := 11) rfl ?_); refine box_event ?hg (N := 11) ?hd (cs := #[.int .i32 0, .int .u32 0, .int .u32 0]) (t := 84) ?hr ?_; (case hd => rfl); (case hg => rfl); (case hr => first | (go_simp; done) | (go_simp; rfl)); intro gb107 hg w26 hbox hb; have n0_ := Aside0.mk (Kd.R_below (by (with_reducible repeat (first | apply Kd.R_alloc | apply Kd.R_drewN | apply Kd.R_drew)); exact HO_9.out) hb); have n1_ := Aside0.mk (blk_below (g := gb103) (o := .cells #[.slice A0_0 l0_0.length c0_0, .slice (some ad106) l0_1.length c0_1] 25 (0, 0)) (by (with_reducible repeat (first | refine blk_drewN ?_ _ | refine blk_drew ?_ | refine blk_alloc ?_ _)); exact BK103.out) hb); have n2_ := Aside0.mk (below_step (by repeat (first | (with_reducible first | exact HB.out | apply below_alloc | apply pw_below_drewN | apply below_drew1 | refine below_set ?_ GE103.out) | exact HB.out)) hb); have n3_ := Aside0.mk (hbox); have n4_ := Aside0.mk ((by rw [hg]; exact (below_size (by repeat (first | (with_reducible first | exact HB.out | apply below_alloc | apply pw_below_drewN | apply below_drew1 | refine below_set ?_ GE103.out) | exact HB.out))) : w.heap.size ≤ gb107)); have n5_ := Aside0.mk ((by rw [hg]; exact (below_size (by repeat (first | (with_reducible first | exact HB.out | apply below_alloc | apply pw_below_drewN | apply below_drew1 | refine below_set ?_ GE103.out) | exact HB.out))) : w.heap.size ≤ gb107)); have n6_ := Aside0.mk ((by rw [hg]; exact Nat.ne_of_lt (blk_lt (g := gb103) (o := .cells #[.slice A0_0 l0_0.length c0_0, .slice (some ad106) l0_1.length c0_1] 25 (0, 0)) (by (with_reducible repeat (first | refine blk_drewN ?_ _ | refine blk_drew ?_ | refine blk_alloc ?_ _)); exact BK103.out)) : gb103 ≠ gb107)); have n7_ := Aside0.mk ((by rw [hg]; exact Nat.ne_of_gt (blk_lt (g := gb103) (o := .cells #[.slice A0_0 l0_0.length c0_0, .slice (some ad106) l0_1.length c0_1] 25 (0, 0)) (by (with_reducible repeat (first | refine blk_drewN ?_ _ | refine blk_drew ?_ | refine blk_alloc ?_ _)); exact BK103.out)) : gb107 ≠ gb103)); clear HO_9; clear BK103; clear HB; have HO_9 := n0_; have BK103 := n1_; have HB := n2_; have BK107 := n3_; have GW107 := n4_; have GE107 := n5_; have NB103_107 := n6_; have NB107_103 := n7_; clear n0_ n1_ n2_ n3_ n4_ n5_ n6_ n7_; clear hb hbox hg; have hnb27 := NB107_103.out; have hnc27 := NB103_107.out; have hcz28_0 : w26.cell? ⟨gb107, 0, none⟩ = some (.int .i32 0) := (blk_cell BK107.out 0).trans rfl; have hcz28_1 : w26.cell? ⟨gb107, 1, none⟩ = some (.int .u32 0) := (blk_cell BK107.out 1).trans rfl; have hcz28_2 : w26.cell? ⟨gb107, 2, none⟩ = some (.int .u32 0) := (blk_cell BK107.out 2).trans rfl; have hfz28_0 := blk_frozen BK107.out 0; have hfz28_1 := blk_frozen BK107.out 1; have hfz28_2 := blk_frozen BK107.out 2) | ((with_reducible refine gate_callee (f := 82) rfl ?_); refine goesL_ (some 32) rfl rfl Tryd.func82 (by kernel_rfl) rfl #[.agg #[.int .i32 ((rd_T84 l0_1 x25_1).f0), .int .u32 ((rd_T84 l0_1 x25_1).f1), .int .u32 ((rd_T84 l0_1 x25_1).f2)], .int .u32 a1, .int .u32 a2] rfl (by (try simp only [List.map_toArray, List.map_cons, List.map_nil]); first | done | rfl | (simp only [List.length_drop, List.length_take]; rfl)) ?_; (with_reducible refine (feature_like.calls ((rd_T84 l0_1 x25_1).f0) ((rd_T84 l0_1 x25_1).f1) ((rd_T84 l0_1 x25_1).f2) a1 a2 false _ A17.out).mono ?_); rintro e w29 ⟨rfl, hb⟩; refine ⟨_, rfl, ?_⟩; have n0_ := Aside0.mk (Kd.R_below (by (with_reducible repeat (first | apply Kd.R_alloc | apply Kd.R_drewN | apply Kd.R_drew)); exact (Kd.R_mono (Kd.R_far (p := ⟨gb107, 2, none⟩) (Kd.R_far (p := ⟨gb107, 1, none⟩) (Kd.R_far (p := ⟨gb107, 0, none⟩) (Kd.R_types HO_9.out BK107.out (by decide)) (fun _ hk => hk.2) (.int .i32 ((rd_T84 l0_1 x25_1).f0))) (fun _ hk => hk.2) (.int .u32 ((rd_T84 l0_1 x25_1).f1))) (fun _ hk => hk.2) (.int .u32 ((rd_T84 l0_1 x25_1).f2))) (fun _ h_ => h_.1))) hb); have n1_ := Aside0.mk (blk_below (g := gb103) (o := .cells #[.slice A0_0 l0_0.length c0_0, .slice (some ad106) l0_1.length c0_1] 25 (0, 0)) (by (with_reducible repeat (first | refine blk_drewN ?_ _ | refine blk_drew ?_ | refine blk_alloc ?_ _)); refine blk_far ?_ NB103_107.out _; (with_reducible repeat (first | refine blk_drewN ?_ _ | refine blk_drew ?_ | refine blk_alloc ?_ _)); refine blk_far ?_ NB103_107.out _; (with_reducible repeat (first | refine blk_drewN ?_ _ | refine blk_drew ?_ | refine blk_alloc ?_ _)); refine blk_far ?_ NB103_107.out _; (with_reducible repeat (first | refine blk_drewN ?_ _ | refine blk_drew ?_ | refine blk_alloc ?_ _)); exact BK103.out) hb); have n2_ := Aside0.mk (blk_below (g := gb107) (o := .cells #[.int .i32 ((rd_T84 l0_1 x25_1).f0), .int .u32 ((rd_T84 l0_1 x25_1).f1), .int .u32 ((rd_T84 l0_1 x25_1).f2)] 84 (0, 0)) (by (with_reducible repeat (first | refine blk_drewN ?_ _ | refine blk_drew ?_ | refine blk_alloc ?_ _)); refine blk_put (cs := #[.int .i32 ((rd_T84 l0_1 x25_1).f0), .int .u32 ((rd_T84 l0_1 x25_1).f1), .int .u32 0]) ?_ 2 _ rfl; (with_reducible repeat (first | refine blk_drewN ?_ _ | refine blk_drew ?_ | refine blk_alloc ?_ _)); refine blk_put (cs := #[.int .i32 ((rd_T84 l0_1 x25_1).f0), .int .u32 0, .int .u32 0]) ?_ 1 _ rfl; (with_reducible repeat (first | refine blk_drewN ?_ _ | refine blk_drew ?_ | refine blk_alloc ?_ _)); refine blk_put (cs := #[.int .i32 0, .int .u32 0, .int .u32 0]) ?_ 0 _ rfl; (with_reducible repeat (first | refine blk_drewN ?_ _ | refine blk_drew ?_ | refine blk_alloc ?_ _)); exact BK107.out) hb); have n3_ := Aside0.mk (below_step (by repeat (first | (with_reducible first | exact HB.out | apply below_alloc | apply pw_below_drewN | apply below_drew1 | refine below_set ?_ GE103.out | refine below_set ?_ GE107.out) | exact HB.out)) hb); clear HO_9; clear BK103; clear BK107; clear HB; have HO_9 := n0_; have BK103 := n1_; have BK107 := n2_; have HB := n3_; clear n0_ n1_ n2_ n3_; (try clear hb); (try clear hb2); (try clear hk); (try clear hi)))
                  go_roundg k1
                  case measure => have := HK1.out; omega
                  case rel => exact ⟨(x9_1), (wrap64 (x25_1 + 1)), (by first | rfl | (simp; done) | (simp [*]; done)), H', ⟨by have := HK1.out; omega⟩, ⟨by (with_reducible repeat (first | apply Kd.R_alloc | apply Kd.R_drewN | apply Kd.R_drew)); exact HO_9.out⟩, ⟨by (with_reducible repeat (first | refine blk_drewN ?_ _ | refine blk_drew ?_ | refine blk_alloc ?_ _)); exact BK103.out⟩, ⟨by repeat (first | (with_reducible first | exact HB.out | apply below_alloc | apply pw_below_drewN | apply below_drew1 | refine below_set ?_ GE103.out | refine below_set ?_ GE107.out) | exact HB.out)⟩⟩
              · rw [if_neg c16] at H
                exact absurd H (by simp)
            · rw [if_neg c15] at H
              exact absurd H (by simp)
          · rw [if_neg c14] at H
            have c14b0 : decide (x25_1 < (l0_1.length : Int)) = false := decide_eq_false c14
            clear c14
            simp only [Option.some.injEq, Prod.mk.injEq] at H
            obtain ⟨rfl, rfl⟩ := H
            go_wp2
            go_ret2
            exact ⟨_, by first | rfl | (simp [errW_none, errW_some] <;> rfl) | (simp [*, errW_none, errW_some] <;> rfl), by (with_reducible repeat (first | apply Kd.R_alloc | apply Kd.R_drewN | apply Kd.R_drew)); exact HO_9.out, by repeat (first | (with_reducible first | exact HB.out | apply below_alloc | apply pw_below_drewN | apply below_drew1 | refine below_set ?_ GE103.out) | exact HB.out)⟩
    · replace c7 := Bool.eq_false_iff.mpr c7
      subst c7
      have H1 : (some (([] : List Int), 20)) = some (r1, r2) := by rw [if_neg (show ¬ (false = true) by decide)] at H; exact H
      clear H
      have H := H1
      clear H1
      simp only [Option.some.injEq, Prod.mk.injEq] at H
      obtain ⟨rfl, rfl⟩ := H
      go_enter Tryd.func67, Tryd.ntmps67
      go_wp2_with (first | ((with_reducible refine gate_dst (N := 3) rfl ?_); refine box_event ?hg (N := 3) ?hd (cs := #[.slice A0_0 l0_0.length c0_0, .slice A0_1 l0_1.length c0_1]) (t := 25) ?hr ?_; (case hd => rfl); (case hg => rfl); (case hr => first | (go_simp; done) | (go_simp; rfl)); intro gb103 hg w30 hbox hb; have n0_ := Aside0.mk (below_step (by repeat (first | (with_reducible first | exact HB.out | apply below_alloc | apply pw_below_drewN | apply below_drew1) | exact HB.out)) hb); have n1_ := Aside0.mk (hbox); have n2_ := Aside0.mk ((by rw [hg]; exact (below_size (by repeat (first | (with_reducible first | exact HB.out | apply below_alloc | apply pw_below_drewN | apply below_drew1) | exact HB.out))) : w.heap.size ≤ gb103)); have n3_ := Aside0.mk ((by rw [hg]; exact (below_size (by repeat (first | (with_reducible first | exact HB.out | apply below_alloc | apply pw_below_drewN | apply below_drew1) | exact HB.out))) : w.heap.size ≤ gb103)); clear HB; have HB := n0_; have BK103 := n1_; have GW103 := n2_; have GE103 := n3_; clear n0_ n1_ n2_ n3_; clear hb hbox hg; have hcz31_0 : w30.cell? ⟨gb103, 0, none⟩ = some (.slice A0_0 l0_0.length c0_0) := (blk_cell BK103.out 0).trans rfl; have hcz31_1 : w30.cell? ⟨gb103, 1, none⟩ = some (.slice A0_1 l0_1.length c0_1) := (blk_cell BK103.out 1).trans rfl; have hfz31_0 := blk_frozen BK103.out 0; have hfz31_1 := blk_frozen BK103.out 1) | ((with_reducible refine gate_callee (f := 39) rfl ?_); refine goesL_ (some 13) rfl rfl Tryd.func39 (by kernel_rfl) rfl #[.agg #[.slice A0_0 l0_0.length c0_0, .slice A0_1 l0_1.length c0_1]] rfl (by (try simp only [List.map_toArray, List.map_cons, List.map_nil]); first | done | rfl | (simp only [List.length_drop, List.length_take]; rfl)) ?_; (with_reducible refine (feature_Check.calls _ _ l0_0 _ _ l0_1 t104 _ ?side1 ?side2 ?side3 ?side4 A4.out).mono ?_); (case side1 => repeat (first | exact (Kd.C_below HR0_0.out HB.out) | (with_reducible refine Kd.C_alloc ?_ _) | (with_reducible refine Kd.C_drewN ?_ _) | (with_reducible refine Kd.C_drew ?_))); (case side2 => exact HC0_0.out); (case side3 => repeat (first | exact (Kd.C_below HR0_1.out HB.out) | (with_reducible refine Kd.C_alloc ?_ _) | (with_reducible refine Kd.C_drewN ?_ _) | (with_reducible refine Kd.C_drew ?_))); (case side4 => exact HC0_1.out); rintro e w32 ⟨rfl, hb⟩; refine ⟨_, rfl, ?_⟩; have n0_ := Aside0.mk (blk_below (g := gb103) (o := .cells #[.slice A0_0 l0_0.length c0_0, .slice A0_1 l0_1.length c0_1] 25 (0, 0)) (by (with_reducible repeat (first | refine blk_drewN ?_ _ | refine blk_drew ?_ | refine blk_alloc ?_ _)); exact BK103.out) hb); have n1_ := Aside0.mk (below_step (by repeat (first | (with_reducible first | exact HB.out | apply below_alloc | apply pw_below_drewN | apply below_drew1 | refine below_set ?_ GE103.out) | exact HB.out)) hb); clear BK103; clear HB; have BK103 := n0_; have HB := n1_; clear n0_ n1_; (try clear hb); (try clear hb2); (try clear hk); (try clear hi); have hcz33_0 : w32.cell? ⟨gb103, 0, none⟩ = some (.slice A0_0 l0_0.length c0_0) := (blk_cell BK103.out 0).trans rfl; have hcz33_1 : w32.cell? ⟨gb103, 1, none⟩ = some (.slice A0_1 l0_1.length c0_1) := (blk_cell BK103.out 1).trans rfl; have hfz33_0 := blk_frozen BK103.out 0; have hfz33_1 := blk_frozen BK103.out 1) | ((with_reducible refine gate_callee (f := 60) rfl ?_); refine goesL_ (some 20) rfl rfl Tryd.func60 (by kernel_rfl) rfl #[.agg #[.slice A0_0 l0_0.length c0_0, .slice A0_1 l0_1.length c0_1], .int .u32 a1, .int .u32 a2] rfl (by (try simp only [List.map_toArray, List.map_cons, List.map_nil]); first | done | rfl | (simp only [List.length_drop, List.length_take]; rfl)) ?_; (with_reducible refine (feature_within.calls _ _ l0_0 _ _ l0_1 a1 a2 false _ ?side1 ?side2 ?side3 ?side4 A6.out).mono ?_); (case side1 => repeat (first | exact (Kd.C_below HR0_0.out HB.out) | (with_reducible refine Kd.C_alloc ?_ _) | (with_reducible refine Kd.C_drewN ?_ _) | (with_reducible refine Kd.C_drew ?_))); (case side2 => exact HC0_0.out); (case side3 => repeat (first | exact (Kd.C_below HR0_1.out HB.out) | (with_reducible refine Kd.C_alloc ?_ _) | (with_reducible refine Kd.C_drewN ?_ _) | (with_reducible refine Kd.C_drew ?_))); (case side4 => exact HC0_1.out); rintro e w34 ⟨rfl, hb⟩; refine ⟨_, rfl, ?_⟩; have n0_ := Aside0.mk (blk_below (g := gb103) (o := .cells #[.slice A0_0 l0_0.length c0_0, .slice A0_1 l0_1.length c0_1] 25 (0, 0)) (by (with_reducible repeat (first | refine blk_drewN ?_ _ | refine blk_drew ?_ | refine blk_alloc ?_ _)); exact BK103.out) hb); have n1_ := Aside0.mk (below_step (by repeat (first | (with_reducible first | exact HB.out | apply below_alloc | apply pw_below_drewN | apply below_drew1 | refine below_set ?_ GE103.out) | exact HB.out)) hb); clear BK103; clear HB; have BK103 := n0_; have HB := n1_; clear n0_ n1_; (try clear hb); (try clear hb2); (try clear hk); (try clear hi)))
      go_ret2
      exact ⟨_, by first | rfl | (simp [errW_none, errW_some] <;> rfl) | (simp [*, errW_none, errW_some] <;> rfl), by first | exact Kd.R_nil _ _ _ _ _ | exact Kd.N_nil _ _ _ _ _ | exact Kd.V_nil _ _ _ _ _ | exact Kd.Q_nil _ _ _ _ _ | exact Kd.S_nil _ _ _ _ _, by repeat (first | (with_reducible first | exact HB.out | apply below_alloc | apply pw_below_drewN | apply below_drew1 | refine below_set ?_ GE103.out) | exact HB.out)⟩
  · rw [if_neg c5] at H
    have c5b0 : (t104 == 0) = false := beq_eq_false_iff_ne.mpr c5
    have c5b1 : (t104 != 0) = true := bne_iff_ne.mpr c5
    simp only [Option.some.injEq, Prod.mk.injEq] at H
    obtain ⟨rfl, rfl⟩ := H
    go_enter Tryd.func67, Tryd.ntmps67
    go_wp2_with (first | ((with_reducible refine gate_dst (N := 3) rfl ?_); refine box_event ?hg (N := 3) ?hd (cs := #[.slice A0_0 l0_0.length c0_0, .slice A0_1 l0_1.length c0_1]) (t := 25) ?hr ?_; (case hd => rfl); (case hg => rfl); (case hr => first | (go_simp; done) | (go_simp; rfl)); intro gb103 hg w35 hbox hb; have n0_ := Aside0.mk (below_step (by repeat (first | (with_reducible first | exact HB.out | apply below_alloc | apply pw_below_drewN | apply below_drew1) | exact HB.out)) hb); have n1_ := Aside0.mk (hbox); have n2_ := Aside0.mk ((by rw [hg]; exact (below_size (by repeat (first | (with_reducible first | exact HB.out | apply below_alloc | apply pw_below_drewN | apply below_drew1) | exact HB.out))) : w.heap.size ≤ gb103)); have n3_ := Aside0.mk ((by rw [hg]; exact (below_size (by repeat (first | (with_reducible first | exact HB.out | apply below_alloc | apply pw_below_drewN | apply below_drew1) | exact HB.out))) : w.heap.size ≤ gb103)); clear HB; have HB := n0_; have BK103 := n1_; have GW103 := n2_; have GE103 := n3_; clear n0_ n1_ n2_ n3_; clear hb hbox hg; have hcz36_0 : w35.cell? ⟨gb103, 0, none⟩ = some (.slice A0_0 l0_0.length c0_0) := (blk_cell BK103.out 0).trans rfl; have hcz36_1 : w35.cell? ⟨gb103, 1, none⟩ = some (.slice A0_1 l0_1.length c0_1) := (blk_cell BK103.out 1).trans rfl; have hfz36_0 := blk_frozen BK103.out 0; have hfz36_1 := blk_frozen BK103.out 1) | ((with_reducible refine gate_callee (f := 39) rfl ?_); refine goesL_ (some 13) rfl rfl Tryd.func39 (by kernel_rfl) rfl #[.agg #[.slice A0_0 l0_0.length c0_0, .slice A0_1 l0_1.length c0_1]] rfl (by (try simp only [List.map_toArray, List.map_cons, List.map_nil]); first | done | rfl | (simp only [List.length_drop, List.length_take]; rfl)) ?_; (with_reducible refine (feature_Check.calls _ _ l0_0 _ _ l0_1 t104 _ ?side1 ?side2 ?side3 ?side4 A4.out).mono ?_); (case side1 => repeat (first | exact (Kd.C_below HR0_0.out HB.out) | (with_reducible refine Kd.C_alloc ?_ _) | (with_reducible refine Kd.C_drewN ?_ _) | (with_reducible refine Kd.C_drew ?_))); (case side2 => exact HC0_0.out); (case side3 => repeat (first | exact (Kd.C_below HR0_1.out HB.out) | (with_reducible refine Kd.C_alloc ?_ _) | (with_reducible refine Kd.C_drewN ?_ _) | (with_reducible refine Kd.C_drew ?_))); (case side4 => exact HC0_1.out); rintro e w37 ⟨rfl, hb⟩; refine ⟨_, rfl, ?_⟩; have n0_ := Aside0.mk (blk_below (g := gb103) (o := .cells #[.slice A0_0 l0_0.length c0_0, .slice A0_1 l0_1.length c0_1] 25 (0, 0)) (by (with_reducible repeat (first | refine blk_drewN ?_ _ | refine blk_drew ?_ | refine blk_alloc ?_ _)); exact BK103.out) hb); have n1_ := Aside0.mk (below_step (by repeat (first | (with_reducible first | exact HB.out | apply below_alloc | apply pw_below_drewN | apply below_drew1 | refine below_set ?_ GE103.out) | exact HB.out)) hb); clear BK103; clear HB; have BK103 := n0_; have HB := n1_; clear n0_ n1_; (try clear hb); (try clear hb2); (try clear hk); (try clear hi)))
    go_ret2
    exact ⟨_, by first | rfl | (simp [errW_none, errW_some] <;> rfl) | (simp [*, errW_none, errW_some] <;> rfl), by first | exact Kd.R_nil _ _ _ _ _ | exact Kd.N_nil _ _ _ _ _ | exact Kd.V_nil _ _ _ _ _ | exact Kd.Q_nil _ _ _ _ _ | exact Kd.S_nil _ _ _ _ _, by repeat (first | (with_reducible first | exact HB.out | apply below_alloc | apply pw_below_drewN | apply below_drew1 | refine below_set ?_ GE103.out) | exact HB.out)⟩

/-! ### word_Check: function 28 -/
def word_Check.f (l0_0 : List ByteArray) (l0_1 : List (S84)) (a1 : ByteArray) : Option (Int) := (word_Letters.f l0_0 l0_1 a1).bind fun bt113 => (some bt113.2)
set_option maxHeartbeats 8000000 in
set_option maxRecDepth 100000 in
theorem word_Check.calls (A0_0 : Option Addr) (c0_0 : Nat) (l0_0 : List ByteArray) (A0_1 : Option Addr) (c0_1 : Nat) (l0_1 : List (S84)) (a1 : ByteArray) (r : Int) (w : World) (hr0_0 : Kd.C Kd.string w A0_0 l0_0.length l0_0) (hc0_0 : l0_0.length ≤ c0_0) (hr0_1 : Kd.C k84 w A0_1 l0_1.length l0_1) (hc0_1 : l0_1.length ≤ c0_1) (hT : Tabs w) (h : word_Check.f l0_0 l0_1 a1 = some r) :
    Calls Tryd.prog 28 #[.agg #[.slice A0_0 l0_0.length c0_0, .slice A0_1 l0_1.length c0_1], .string a1] w fun e w' => e = .returned (.int .i64 r) ∧ Below w.heap.size w w' := by
  have hu25 := Tryd.underlying25
  have HR0_0 := Aside0.mk hr0_0
  have HC0_0 := Aside0.mk hc0_0
  clear hr0_0 hc0_0
  have HR0_1 := Aside0.mk hr0_1
  have HC0_1 := Aside0.mk hc0_1
  clear hr0_1 hc0_1
  have HB := Aside0.mk (Below.refl w.heap.size w)
  have HT := Aside0.mk hT
  clear hT
  have H : ((word_Letters.f l0_0 l0_1 a1).bind fun bt113 => (some bt113.2)) = some r := h
  clear h
  replace H := Option.bind_eq_some_iff.mp H
  obtain ⟨⟨t113, t116⟩, A30, H⟩ := H
  replace H : (some t116) = some r := H
  have A3 := Aside0.mk A30
  clear A30
  obtain rfl := Option.some.inj H
  go_enter Tryd.func28, Tryd.ntmps28
  go_wp2_with (first | ((with_reducible refine gate_dst (N := 2) rfl ?_); refine box_event ?hg (N := 2) ?hd (cs := #[.slice A0_0 l0_0.length c0_0, .slice A0_1 l0_1.length c0_1]) (t := 25) ?hr ?_; (case hd => rfl); (case hg => rfl); (case hr => first | (go_simp; done) | (go_simp; rfl)); intro gb112 hg w4 hbox hb; have n0_ := Aside0.mk (below_step (by repeat (first | (with_reducible first | exact HB.out | apply below_alloc | apply pw_below_drewN | apply below_drew1) | exact HB.out)) hb); have n1_ := Aside0.mk (hbox); have n2_ := Aside0.mk ((by rw [hg]; exact (below_size (by repeat (first | (with_reducible first | exact HB.out | apply below_alloc | apply pw_below_drewN | apply below_drew1) | exact HB.out))) : w.heap.size ≤ gb112)); have n3_ := Aside0.mk ((by rw [hg]; exact (below_size (by repeat (first | (with_reducible first | exact HB.out | apply below_alloc | apply pw_below_drewN | apply below_drew1) | exact HB.out))) : w.heap.size ≤ gb112)); clear HB; have HB := n0_; have BK112 := n1_; have GW112 := n2_; have GE112 := n3_; clear n0_ n1_ n2_ n3_; clear hb hbox hg; have hcz5_0 : w4.cell? ⟨gb112, 0, none⟩ = some (.slice A0_0 l0_0.length c0_0) := (blk_cell BK112.out 0).trans rfl; have hcz5_1 : w4.cell? ⟨gb112, 1, none⟩ = some (.slice A0_1 l0_1.length c0_1) := (blk_cell BK112.out 1).trans rfl; have hfz5_0 := blk_frozen BK112.out 0; have hfz5_1 := blk_frozen BK112.out 1) | ((with_reducible refine gate_callee (f := 37) rfl ?_); refine goesL_ (some 10) rfl rfl Tryd.func37 (by kernel_rfl) rfl #[.agg #[.slice A0_0 l0_0.length c0_0, .slice A0_1 l0_1.length c0_1], .string a1] rfl (by (try simp only [List.map_toArray, List.map_cons, List.map_nil]); first | done | rfl | (simp only [List.length_drop, List.length_take]; rfl)) ?_; (with_reducible refine (word_Letters.calls _ _ l0_0 _ _ l0_1 a1 t113 t116 _ ?side1 ?side2 ?side3 ?side4 ?side5 A3.out).mono ?_); (case side1 => repeat (first | exact (Kd.C_below HR0_0.out HB.out) | (with_reducible refine Kd.C_alloc ?_ _) | (with_reducible refine Kd.C_drewN ?_ _) | (with_reducible refine Kd.C_drew ?_))); (case side2 => exact HC0_0.out); (case side3 => repeat (first | exact (Kd.C_below HR0_1.out HB.out) | (with_reducible refine Kd.C_alloc ?_ _) | (with_reducible refine Kd.C_drewN ?_ _) | (with_reducible refine Kd.C_drew ?_))); (case side4 => exact HC0_1.out); (case side5 => exact Tabs.below HT.out (by repeat (first | (with_reducible first | exact HB.out | apply below_alloc | apply pw_below_drewN | apply below_drew1 | refine below_set ?_ GE112.out) | exact HB.out))); rintro e w6 ⟨v114, rfl, ho0, hb⟩; refine ⟨_, rfl, ?_⟩; have n0_ := Aside0.mk (Kd.R_lower ho0 (below_size (by repeat (first | (with_reducible first | exact HB.out | apply below_alloc | apply pw_below_drewN | apply below_drew1 | refine below_set ?_ GE112.out) | exact HB.out)))); have n1_ := Aside0.mk (blk_below (g := gb112) (o := .cells #[.slice A0_0 l0_0.length c0_0, .slice A0_1 l0_1.length c0_1] 25 (0, 0)) (by (with_reducible repeat (first | refine blk_drewN ?_ _ | refine blk_drew ?_ | refine blk_alloc ?_ _)); exact BK112.out) hb); have n2_ := Aside0.mk (below_step (by repeat (first | (with_reducible first | exact HB.out | apply below_alloc | apply pw_below_drewN | apply below_drew1 | refine below_set ?_ GE112.out) | exact HB.out)) hb); clear BK112; clear HB; have HO115 := n0_; have BK112 := n1_; have HB := n2_; clear n0_ n1_ n2_; (try clear hb); (try clear hb2); (try clear hk); (try clear hi); (try clear ho0)))
  go_ret
  exact ⟨by first | rfl | (simp [errW_none, errW_some] <;> rfl) | (simp [*, errW_none, errW_some] <;> rfl), by repeat (first | (with_reducible first | exact HB.out | apply below_alloc | apply pw_below_drewN | apply below_drew1 | refine below_set ?_ GE112.out) | exact HB.out)⟩

/-! ### paradigm_Find: function 29 -/
def paradigm_Find.l0 : Nat → Int → List Int → List (S56) → Int → Int → Option (List Int)
  | 0, _, _, _, _, _ => none
  | k + 1, x1, x5, x9, x10, x11 => if x11 < x10 then (if 0 ≤ x11 then (if x11 < (x9.length : Int) then (if (Go.bits .andNot .u64 x1 ((rd_T56 x9 x11).f0)) = 0 then (if x5.length < 17592186044416 then (paradigm_Find.l0 k x1 (x5 ++ [x11]) x9 x10 (wrap64 (x11 + 1))) else (none)) else (paradigm_Find.l0 k x1 x5 x9 x10 (wrap64 (x11 + 1)))) else (none)) else (none)) else (some x5)
def paradigm_Find.f (k : Nat) (a0_0 : ByteArray) (l0_1 : List (S56)) (a1 : Int) : Option (List Int) := paradigm_Find.l0 k a1 ([] : List Int) l0_1 (l0_1.length : Int) 0
set_option maxHeartbeats 8000000 in
set_option maxRecDepth 100000 in
theorem paradigm_Find.calls (k : Nat) (a0_0 : ByteArray) (A0_1 : Option Addr) (c0_1 : Nat) (l0_1 : List (S56)) (a1 : Int) (r : List Int) (w : World) (hr0_1 : Kd.C k56 w A0_1 l0_1.length l0_1) (hc0_1 : l0_1.length ≤ c0_1) (h : paradigm_Find.f k a0_0 l0_1 a1 = some r) :
    Calls Tryd.prog 29 #[.agg #[.string a0_0, .slice A0_1 l0_1.length c0_1], .int .u64 a1] w fun e w' => ∃ v0_ : Value, e = .returned (v0_) ∧ Kd.R (Kd.int .i64) 3 w' w.heap.size (fun _ => True) v0_ r ∧ Below w.heap.size w w' := by
  have hu45 := Tryd.underlying45
  have hu56 := Tryd.underlying56
  have HR0_1 := Aside0.mk hr0_1
  have HC0_1 := Aside0.mk hc0_1
  clear hr0_1 hc0_1
  have HB := Aside0.mk (Below.refl w.heap.size w)
  have H : (paradigm_Find.l0 k a1 ([] : List Int) l0_1 (l0_1.length : Int) 0) = some r := h
  clear h
  have H' := Aside0.mk H
  clear H
  go_enter Tryd.func29, Tryd.ntmps29
  go_wp2_with (first | ((with_reducible refine gate_dst (N := 2) rfl ?_); refine box_event ?hg (N := 2) ?hd (cs := #[.string a0_0, .slice A0_1 l0_1.length c0_1]) (t := 45) ?hr ?_; (case hd => rfl); (case hg => rfl); (case hr => first | (go_simp; done) | (go_simp; rfl)); intro gb117 hg w3 hbox hb; have n0_ := Aside0.mk (below_step (by repeat (first | (with_reducible first | exact HB.out | apply below_alloc | apply pw_below_drewN | apply below_drew1) | exact HB.out)) hb); have n1_ := Aside0.mk (hbox); have n2_ := Aside0.mk ((by rw [hg]; exact (below_size (by repeat (first | (with_reducible first | exact HB.out | apply below_alloc | apply pw_below_drewN | apply below_drew1) | exact HB.out))) : w.heap.size ≤ gb117)); have n3_ := Aside0.mk ((by rw [hg]; exact (below_size (by repeat (first | (with_reducible first | exact HB.out | apply below_alloc | apply pw_below_drewN | apply below_drew1) | exact HB.out))) : w.heap.size ≤ gb117)); clear HB; have HB := n0_; have BK117 := n1_; have GW117 := n2_; have GE117 := n3_; clear n0_ n1_ n2_ n3_; clear hb hbox hg; have hcz4_0 : w3.cell? ⟨gb117, 0, none⟩ = some (.string a0_0) := (blk_cell BK117.out 0).trans rfl; have hcz4_1 : w3.cell? ⟨gb117, 1, none⟩ = some (.slice A0_1 l0_1.length c0_1) := (blk_cell BK117.out 1).trans rfl; have hfz4_0 := blk_frozen BK117.out 0; have hfz4_1 := blk_frozen BK117.out 1))
  go_loopg [5, 11] k (fun kq v5 v11 w' => ∃ (x5_1 : List Int) (x11_1 : Int), v11 = .int .i64 x11_1 ∧ Aside0 (paradigm_Find.l0 kq a1 x5_1 l0_1 (l0_1.length : Int) x11_1 = some r) ∧ Aside0 (kq ≤ k) ∧ Aside0 (Kd.R (Kd.int .i64) 3 w' w.heap.size (fun _ => True) v5 x5_1) ∧ Aside0 (w'.heap[gb117]? = some (.cells #[.string a0_0, (.slice A0_1 l0_1.length c0_1)] 45 (0, 0))) ∧ Aside0 (Below w.heap.size w w'))
  case atStart => exact ⟨(([] : List Int)), (0), (by first | rfl | (simp; done) | (simp [*]; done)), H', ⟨Nat.le_refl _⟩, ⟨by first | exact Kd.R_nil _ _ _ _ _ | exact Kd.N_nil _ _ _ _ _ | exact Kd.V_nil _ _ _ _ _ | exact Kd.Q_nil _ _ _ _ _ | exact Kd.S_nil _ _ _ _ _⟩, ⟨by (with_reducible repeat (first | refine blk_drewN ?_ _ | refine blk_drew ?_ | refine blk_alloc ?_ _)); exact BK117.out⟩, ⟨by repeat (first | (with_reducible first | exact HB.out | apply below_alloc | apply pw_below_drewN | apply below_drew1 | refine below_set ?_ GE117.out) | exact HB.out)⟩⟩
  case round =>
    clear H'
    try clear c2
    try clear p2
    try clear hcz4_0
    try clear hcz4_1
    try clear hfz4_0
    try clear hfz4_1
    obtain ⟨x5_1, x11_1, rfl, HA, HK1, HO_5, BK117, HB⟩ := hrel
    cases gk with
    | zero => exact absurd HA.out (by simp [paradigm_Find.l0])
    | succ k1 =>
      have H := HA.out
      clear HA
      simp only [paradigm_Find.l0] at H
      by_cases c5 : x11_1 < (l0_1.length : Int)
      · rw [if_pos c5] at H
        have c5b0 : decide (x11_1 < (l0_1.length : Int)) = true := decide_eq_true c5
        clear c5
        by_cases c6 : 0 ≤ x11_1
        · rw [if_pos c6] at H
          have c6b0 : decide (0 ≤ x11_1) = true := decide_eq_true c6
          clear c6
          by_cases c7 : x11_1 < (l0_1.length : Int)
          · rw [if_pos c7] at H
            have c7b0 : decide (x11_1 < (l0_1.length : Int)) = true := decide_eq_true c7
            clear c7
            by_cases c8 : (Go.bits .andNot .u64 a1 ((rd_T56 l0_1 x11_1).f0)) = 0
            · rw [if_pos c8] at H
              have c8b0 : ((Go.bits .andNot .u64 a1 ((rd_T56 l0_1 x11_1).f0)) == 0) = true := beq_iff_eq.mpr c8
              have c8b1 : ((Go.bits .andNot .u64 a1 ((rd_T56 l0_1 x11_1).f0)) != 0) = false := bne_eq_false_iff_eq.mpr c8
              clear c8
              by_cases c9 : x5_1.length < 17592186044416
              · rw [if_pos c9] at H
                have LMc9 := Aside0.mk c9
                clear c9
                obtain ⟨y120, hy120⟩ : ∃ y_ : List Int, y_ = (x5_1 ++ [x11_1]) := ⟨_, rfl⟩
                replace H : (paradigm_Find.l0 k1 a1 y120 l0_1 (l0_1.length : Int) (wrap64 (x11_1 + 1))) = some r := by first | (rw [hy120]; with_reducible exact H) | (have H2_ := (Option.bind_some _ _).symm.trans H; rw [hy120]; with_reducible exact H2_) | (have H2_ := (Option.bind_some _ _).symm.trans H; with_reducible exact H2_) | with_reducible exact H | (rw [hy120]; exact H) | exact H
                have Ny120 := Aside0.mk hy120
                clear hy120
                have H' := Aside0.mk H
                clear H
                have p118 : 0 ≤ (x11_1 : Int) := of_decide_eq_true (by first | (with_reducible assumption) | assumption)
                have q118 : x11_1 < (l0_1.length : Int) := of_decide_eq_true (by first | (with_reducible assumption) | assumption)
                obtain ⟨ad118, A118_1, c118_1, e118, hx118_0, hx118_1, hl118_1, hi118_1⟩ := at_T56 HR0_1.out x11_1 p118 q118
                cases e118
                replace hx118_0 := (HB.out.cell (World.block_lt_of_cell? w _ hx118_0)).trans hx118_0
                replace hx118_1 := (HB.out.cell (World.block_lt_of_cell? w _ hx118_1)).trans hx118_1
                have HR118_1 := Aside0.mk hi118_1
                have HC118_1 := Aside0.mk hl118_1
                clear hi118_1 hl118_1
                replace p118 := eq_true p118
                replace q118 := eq_true q118
                go_wp2_with (first | ((with_reducible refine gate_dst (N := 7) rfl ?_); refine box_event ?hg (N := 7) ?hd (cs := #[.int .u64 0, .slice none 0 0]) (t := 56) ?hr ?_; (case hd => rfl); (case hg => rfl); (case hr => first | (go_simp; done) | (go_simp; rfl)); intro gb119 hg w10 hbox hb; have n0_ := Aside0.mk (Kd.R_below (by (with_reducible repeat (first | apply Kd.R_alloc | apply Kd.R_drewN | apply Kd.R_drew)); exact HO_5.out) hb); have n1_ := Aside0.mk (blk_below (g := gb117) (o := .cells #[.string a0_0, .slice (some ad118) l0_1.length c0_1] 45 (0, 0)) (by (with_reducible repeat (first | refine blk_drewN ?_ _ | refine blk_drew ?_ | refine blk_alloc ?_ _)); exact BK117.out) hb); have n2_ := Aside0.mk (below_step (by repeat (first | (with_reducible first | exact HB.out | apply below_alloc | apply pw_below_drewN | apply below_drew1 | refine below_set ?_ GE117.out) | exact HB.out)) hb); have n3_ := Aside0.mk (hbox); have n4_ := Aside0.mk ((by rw [hg]; exact (below_size (by repeat (first | (with_reducible first | exact HB.out | apply below_alloc | apply pw_below_drewN | apply below_drew1 | refine below_set ?_ GE117.out) | exact HB.out))) : w.heap.size ≤ gb119)); have n5_ := Aside0.mk ((by rw [hg]; exact (below_size (by repeat (first | (with_reducible first | exact HB.out | apply below_alloc | apply pw_below_drewN | apply below_drew1 | refine below_set ?_ GE117.out) | exact HB.out))) : w.heap.size ≤ gb119)); have n6_ := Aside0.mk ((by rw [hg]; exact Nat.ne_of_lt (blk_lt (g := gb117) (o := .cells #[.string a0_0, .slice (some ad118) l0_1.length c0_1] 45 (0, 0)) (by (with_reducible repeat (first | refine blk_drewN ?_ _ | refine blk_drew ?_ | refine blk_alloc ?_ _)); exact BK117.out)) : gb117 ≠ gb119)); have n7_ := Aside0.mk ((by rw [hg]; exact Nat.ne_of_gt (blk_lt (g := gb117) (o := .cells #[.string a0_0, .slice (some ad118) l0_1.length c0_1] 45 (0, 0)) (by (with_reducible repeat (first | refine blk_drewN ?_ _ | refine blk_drew ?_ | refine blk_alloc ?_ _)); exact BK117.out)) : gb119 ≠ gb117)); clear HO_5; clear BK117; clear HB; have HO_5 := n0_; have BK117 := n1_; have HB := n2_; have BK119 := n3_; have GW119 := n4_; have GE119 := n5_; have NB117_119 := n6_; have NB119_117 := n7_; clear n0_ n1_ n2_ n3_ n4_ n5_ n6_ n7_; clear hb hbox hg; have hnb11 := NB119_117.out; have hnc11 := NB117_119.out; have hcz12_0 : w10.cell? ⟨gb119, 0, none⟩ = some (.int .u64 0) := (blk_cell BK119.out 0).trans rfl; have hcz12_1 : w10.cell? ⟨gb119, 1, none⟩ = some (.slice none 0 0) := (blk_cell BK119.out 1).trans rfl; have hfz12_0 := blk_frozen BK119.out 0; have hfz12_1 := blk_frozen BK119.out 1) | ((with_reducible refine gate_builtin (b := .append) (xs := #[.tmp 21, .tmp 23]) rfl ?_); at_builtin; refine Kd.R_append (Kd.int .i64) (w0 := w) w.heap.size rfl (.tmp 21) (.tmp 23) 35 3 (.int .i64 0) 8 rfl Tryd.underlying35 info3 rfl (by decide) (by omega) u5 x5_1 x11_1 [.int .i64 x11_1] (fun _ => True) (fun _ => False) rfl (by first | (go_simp; done) | (go_simp; rfl)) ?aP (fun _ hk => hk.elim) ?aF ?aO ?aB ?aS ?aL ?_; (case aP => exact rfl); (case aB => exact (by repeat (first | (with_reducible first | exact HB.out | apply below_alloc | apply pw_below_drewN | apply below_drew1 | refine below_set ?_ GE117.out | refine below_set ?_ GE119.out) | exact HB.out))); (case aF => exact (fun _ _ => trivial)); (case aO => exact (by (with_reducible repeat (first | apply Kd.R_alloc | apply Kd.R_drewN | apply Kd.R_drew)); exact Kd.R_mono (Kd.R_far (p := ⟨gb119, 1, none⟩) (Kd.R_far (p := ⟨gb119, 0, none⟩) (Kd.R_types HO_5.out BK119.out (by decide)) (fun _ hk => hk.2) (.int .u64 ((rd_T56 l0_1 x11_1).f0))) (fun _ hk => hk.2) (.slice A118_1 ((rd_T56 l0_1 x11_1).f1).length c118_1)) (fun _ hk => trivial))); (case aS => exact (below_size (by repeat (first | (with_reducible first | exact HB.out | apply below_alloc | apply pw_below_drewN | apply below_drew1 | refine below_set ?_ GE117.out | refine below_set ?_ GE119.out) | exact HB.out)))); (case aL => have := LMc9.out; omega); intro v121 w13 ho hb hg hat; rw [← Ny120.out] at ho; have n0_ := Aside0.mk (blk_grown (g := gb117) (o := .cells #[.string a0_0, .slice (some ad118) l0_1.length c0_1] 45 (0, 0)) (by (with_reducible repeat (first | refine blk_drewN ?_ _ | refine blk_drew ?_ | refine blk_alloc ?_ _)); refine blk_far ?_ NB117_119.out _; (with_reducible repeat (first | refine blk_drewN ?_ _ | refine blk_drew ?_ | refine blk_alloc ?_ _)); refine blk_far ?_ NB117_119.out _; (with_reducible repeat (first | refine blk_drewN ?_ _ | refine blk_drew ?_ | refine blk_alloc ?_ _)); exact BK117.out) hg (Kd.R_ne HO_5.out BK117.out (by decide))); have n1_ := Aside0.mk (blk_grown (g := gb119) (o := .cells #[.int .u64 ((rd_T56 l0_1 x11_1).f0), .slice A118_1 ((rd_T56 l0_1 x11_1).f1).length c118_1] 56 (0, 0)) (by (with_reducible repeat (first | refine blk_drewN ?_ _ | refine blk_drew ?_ | refine blk_alloc ?_ _)); refine blk_put (cs := #[.int .u64 ((rd_T56 l0_1 x11_1).f0), .slice none 0 0]) ?_ 1 _ rfl; (with_reducible repeat (first | refine blk_drewN ?_ _ | refine blk_drew ?_ | refine blk_alloc ?_ _)); refine blk_put (cs := #[.int .u64 0, .slice none 0 0]) ?_ 0 _ rfl; (with_reducible repeat (first | refine blk_drewN ?_ _ | refine blk_drew ?_ | refine blk_alloc ?_ _)); exact BK119.out) hg (Kd.R_ne HO_5.out BK119.out (by decide))); have n2_ := Aside0.mk (hb); have n3_ := Aside0.mk (ho); clear BK117; clear BK119; clear HB; clear HO_5; have BK117 := n0_; have BK119 := n1_; have HB := n2_; have HO122 := n3_; clear n0_ n1_ n2_ n3_; clear ho hb hg hat))
                go_roundg k1
                case measure => have := HK1.out; omega
                case rel => exact ⟨(y120), (wrap64 (x11_1 + 1)), (by first | rfl | (simp; done) | (simp [*]; done)), H', ⟨by have := HK1.out; omega⟩, ⟨by (with_reducible repeat (first | apply Kd.R_alloc | apply Kd.R_drewN | apply Kd.R_drew)); exact HO122.out⟩, ⟨by (with_reducible repeat (first | refine blk_drewN ?_ _ | refine blk_drew ?_ | refine blk_alloc ?_ _)); exact BK117.out⟩, ⟨by repeat (first | (with_reducible first | exact HB.out | apply below_alloc | apply pw_below_drewN | apply below_drew1 | refine below_set ?_ GE117.out | refine below_set ?_ GE119.out) | exact HB.out)⟩⟩
              · rw [if_neg c9] at H
                exact absurd H (by simp)
            · rw [if_neg c8] at H
              have c8b0 : ((Go.bits .andNot .u64 a1 ((rd_T56 l0_1 x11_1).f0)) == 0) = false := beq_eq_false_iff_ne.mpr c8
              have c8b1 : ((Go.bits .andNot .u64 a1 ((rd_T56 l0_1 x11_1).f0)) != 0) = true := bne_iff_ne.mpr c8
              have H' := Aside0.mk H
              clear H
              have p118 : 0 ≤ (x11_1 : Int) := of_decide_eq_true (by first | (with_reducible assumption) | assumption)
              have q118 : x11_1 < (l0_1.length : Int) := of_decide_eq_true (by first | (with_reducible assumption) | assumption)
              obtain ⟨ad118, A118_1, c118_1, e118, hx118_0, hx118_1, hl118_1, hi118_1⟩ := at_T56 HR0_1.out x11_1 p118 q118
              cases e118
              replace hx118_0 := (HB.out.cell (World.block_lt_of_cell? w _ hx118_0)).trans hx118_0
              replace hx118_1 := (HB.out.cell (World.block_lt_of_cell? w _ hx118_1)).trans hx118_1
              have HR118_1 := Aside0.mk hi118_1
              have HC118_1 := Aside0.mk hl118_1
              clear hi118_1 hl118_1
              replace p118 := eq_true p118
              replace q118 := eq_true q118
              go_wp2_with (first | ((with_reducible refine gate_dst (N := 7) rfl ?_); refine box_event ?hg (N := 7) ?hd (cs := #[.int .u64 0, .slice none 0 0]) (t := 56) ?hr ?_; (case hd => rfl); (case hg => rfl); (case hr => first | (go_simp; done) | (go_simp; rfl)); intro gb119 hg w14 hbox hb; have n0_ := Aside0.mk (Kd.R_below (by (with_reducible repeat (first | apply Kd.R_alloc | apply Kd.R_drewN | apply Kd.R_drew)); exact HO_5.out) hb); have n1_ := Aside0.mk (blk_below (g := gb117) (o := .cells #[.string a0_0, .slice (some ad118) l0_1.length c0_1] 45 (0, 0)) (by (with_reducible repeat (first | refine blk_drewN ?_ _ | refine blk_drew ?_ | refine blk_alloc ?_ _)); exact BK117.out) hb); have n2_ := Aside0.mk (below_step (by repeat (first | (with_reducible first | exact HB.out | apply below_alloc | apply pw_below_drewN | apply below_drew1 | refine below_set ?_ GE117.out) | exact HB.out)) hb); have n3_ := Aside0.mk (hbox); have n4_ := Aside0.mk ((by rw [hg]; exact (below_size (by repeat (first | (with_reducible first | exact HB.out | apply below_alloc | apply pw_below_drewN | apply below_drew1 | refine below_set ?_ GE117.out) | exact HB.out))) : w.heap.size ≤ gb119)); have n5_ := Aside0.mk ((by rw [hg]; exact (below_size (by repeat (first | (with_reducible first | exact HB.out | apply below_alloc | apply pw_below_drewN | apply below_drew1 | refine below_set ?_ GE117.out) | exact HB.out))) : w.heap.size ≤ gb119)); have n6_ := Aside0.mk ((by rw [hg]; exact Nat.ne_of_lt (blk_lt (g := gb117) (o := .cells #[.string a0_0, .slice (some ad118) l0_1.length c0_1] 45 (0, 0)) (by (with_reducible repeat (first | refine blk_drewN ?_ _ | refine blk_drew ?_ | refine blk_alloc ?_ _)); exact BK117.out)) : gb117 ≠ gb119)); have n7_ := Aside0.mk ((by rw [hg]; exact Nat.ne_of_gt (blk_lt (g := gb117) (o := .cells #[.string a0_0, .slice (some ad118) l0_1.length c0_1] 45 (0, 0)) (by (with_reducible repeat (first | refine blk_drewN ?_ _ | refine blk_drew ?_ | refine blk_alloc ?_ _)); exact BK117.out)) : gb119 ≠ gb117)); clear HO_5; clear BK117; clear HB; have HO_5 := n0_; have BK117 := n1_; have HB := n2_; have BK119 := n3_; have GW119 := n4_; have GE119 := n5_; have NB117_119 := n6_; have NB119_117 := n7_; clear n0_ n1_ n2_ n3_ n4_ n5_ n6_ n7_; clear hb hbox hg; have hnb15 := NB119_117.out; have hnc15 := NB117_119.out; have hcz16_0 : w14.cell? ⟨gb119, 0, none⟩ = some (.int .u64 0) := (blk_cell BK119.out 0).trans rfl; have hcz16_1 : w14.cell? ⟨gb119, 1, none⟩ = some (.slice none 0 0) := (blk_cell BK119.out 1).trans rfl; have hfz16_0 := blk_frozen BK119.out 0; have hfz16_1 := blk_frozen BK119.out 1))
              go_roundg k1
              case measure => have := HK1.out; omega
              case rel => exact ⟨(x5_1), (wrap64 (x11_1 + 1)), (by first | rfl | (simp; done) | (simp [*]; done)), H', ⟨by have := HK1.out; omega⟩, ⟨by (with_reducible repeat (first | apply Kd.R_alloc | apply Kd.R_drewN | apply Kd.R_drew)); exact Kd.R_mono (Kd.R_far (p := ⟨gb119, 1, none⟩) (Kd.R_far (p := ⟨gb119, 0, none⟩) (Kd.R_types HO_5.out BK119.out (by decide)) (fun _ hk => hk.2) (.int .u64 ((rd_T56 l0_1 x11_1).f0))) (fun _ hk => hk.2) (.slice A118_1 ((rd_T56 l0_1 x11_1).f1).length c118_1)) (fun _ hk => trivial)⟩, ⟨by (with_reducible repeat (first | refine blk_drewN ?_ _ | refine blk_drew ?_ | refine blk_alloc ?_ _)); refine blk_far ?_ NB117_119.out _; (with_reducible repeat (first | refine blk_drewN ?_ _ | refine blk_drew ?_ | refine blk_alloc ?_ _)); refine blk_far ?_ NB117_119.out _; (with_reducible repeat (first | refine blk_drewN ?_ _ | refine blk_drew ?_ | refine blk_alloc ?_ _)); exact BK117.out⟩, ⟨by repeat (first | (with_reducible first | exact HB.out | apply below_alloc | apply pw_below_drewN | apply below_drew1 | refine below_set ?_ GE117.out | refine below_set ?_ GE119.out) | exact HB.out)⟩⟩
          · rw [if_neg c7] at H
            exact absurd H (by simp)
        · rw [if_neg c6] at H
          exact absurd H (by simp)
      · rw [if_neg c5] at H
        have c5b0 : decide (x11_1 < (l0_1.length : Int)) = false := decide_eq_false c5
        clear c5
        obtain rfl := Option.some.inj H
        go_wp2
        go_ret
        exact ⟨_, by first | rfl | (simp [errW_none, errW_some] <;> rfl) | (simp [*, errW_none, errW_some] <;> rfl), by (with_reducible repeat (first | apply Kd.R_alloc | apply Kd.R_drewN | apply Kd.R_drew)); exact HO_5.out, by repeat (first | (with_reducible first | exact HB.out | apply below_alloc | apply pw_below_drewN | apply below_drew1 | refine below_set ?_ GE117.out) | exact HB.out)⟩

/-! ### cognatelaw17_much: function 26 -/
mutual
def cognatelaw17_much.j0 : Nat → Bool → ByteArray → List (S56) → Option (Bool)
  | 0, _, _, _ => none
  | k + 1, x14, x124000, x124001 => if x14 = true then (some true) else (cognatelaw17_much.l0 k 0 x124000 x124001)
def cognatelaw17_much.l0 : Nat → Int → ByteArray → List (S56) → Option (Bool)
  | 0, _, _, _ => none
  | k + 1, x5, x124000, x124001 => if x5 < (x124001.length : Int) then (if 0 ≤ x5 then (if (((rd_T56 x124001 x5).f1).length : Int) > 60 then (some true) else (cognatelaw17_much.l0 k (wrap64 (x5 + 1)) x124000 x124001)) else (none)) else (some false)
end
def cognatelaw17_much.f (k : Nat) (a0_0 : ByteArray) (l0_1 : List (S56)) (a1 : ByteArray) : Option (Bool) := if (a1.size : Int) > 2000 then (cognatelaw17_much.j0 k true a0_0 l0_1) else (cognatelaw17_much.j0 k (decide ((l0_1.length : Int) > 600)) a0_0 l0_1)
set_option maxHeartbeats 8000000 in
set_option maxRecDepth 100000 in
theorem cognatelaw17_much.calls (k : Nat) (a0_0 : ByteArray) (A0_1 : Option Addr) (c0_1 : Nat) (l0_1 : List (S56)) (a1 : ByteArray) (r : Bool) (w : World) (hr0_1 : Kd.C k56 w A0_1 l0_1.length l0_1) (hc0_1 : l0_1.length ≤ c0_1) (h : cognatelaw17_much.f k a0_0 l0_1 a1 = some r) :
    Calls Tryd.prog 26 #[.agg #[.string a0_0, .slice A0_1 l0_1.length c0_1], .string a1] w fun e w' => e = .returned (.bool r) ∧ Below w.heap.size w w' := by
  have hu45 := Tryd.underlying45
  have HR0_1 := Aside0.mk hr0_1
  have HC0_1 := Aside0.mk hc0_1
  clear hr0_1 hc0_1
  have HB := Aside0.mk (Below.refl w.heap.size w)
  have H : (if (a1.size : Int) > 2000 then (cognatelaw17_much.j0 k true a0_0 l0_1) else (cognatelaw17_much.j0 k (decide ((l0_1.length : Int) > 600)) a0_0 l0_1)) = some r := h
  clear h
  have HC3 := Aside0.mk H
  clear H
  go_enter Tryd.func26, Tryd.ntmps26
  go_upto_region 1 with (first | ((with_reducible refine gate_dst (N := 2) rfl ?_); (try (refine gate_guard (by rfl) ?_; dsimp only)); refine box_event ?hg (N := 2) ?hd (cs := #[.string a0_0, .slice A0_1 l0_1.length c0_1]) (t := 45) ?hr ?_; (case hd => rfl); (case hg => rfl); (case hr => first | (go_simp; done) | (go_simp; rfl)); intro gb123 hg w4 hbox hb; have n0_ := Aside0.mk (below_step (by repeat (first | (with_reducible first | exact HB.out | apply below_alloc | apply pw_below_drewN | apply below_drew1) | exact HB.out)) hb); have n1_ := Aside0.mk (hbox); have n2_ := Aside0.mk ((by rw [hg]; exact (below_size (by repeat (first | (with_reducible first | exact HB.out | apply below_alloc | apply pw_below_drewN | apply below_drew1) | exact HB.out))) : w.heap.size ≤ gb123)); have n3_ := Aside0.mk ((by rw [hg]; exact (below_size (by repeat (first | (with_reducible first | exact HB.out | apply below_alloc | apply pw_below_drewN | apply below_drew1) | exact HB.out))) : w.heap.size ≤ gb123)); clear HB; have HB := n0_; have BK123 := n1_; have GW123 := n2_; have GE123 := n3_; clear n0_ n1_ n2_ n3_; clear hb hbox hg))
  (try simp only [Act.put, List.setIfInBounds_toArray, List.set_cons_zero, List.set_cons_succ])
  go_cut [14] (fun v14 wc => ∃ (kq : Nat) (x14_2 : Bool), v14 = .bool x14_2 ∧ Aside0 (cognatelaw17_much.j0 kq x14_2 a0_0 l0_1 = some r) ∧ Aside0 (kq ≤ k) ∧ Aside0 (wc.heap[gb123]? = some (.cells #[.string a0_0, (.slice A0_1 l0_1.length c0_1)] 45 (0, 0))) ∧ Aside0 (Below w.heap.size w wc))
  case first =>
    have H := HC3.out
    clear HC3
    by_cases c5 : (a1.size : Int) > 2000
    · rw [if_pos c5] at H
      have c5b0 : decide (2000 < (a1.size : Int)) = true := decide_eq_true c5
      have c5b1 : decide (2000 < a1.size) = true := decide_eq_true (by omega)
      clear c5
      (first | rw [c5b0] | (simp only [i64_w, i32_w]; rw [c5b0]) | skip)
      have H' := Aside0.mk H
      clear H
      go_wp2
      go_meet
      case rel => exact ⟨_, (true), (by first | rfl | (simp; done) | (simp [*]; done)), H', ⟨by first | omega | exact Nat.le_refl _⟩, ⟨by (with_reducible repeat (first | refine blk_drewN ?_ _ | refine blk_drew ?_ | refine blk_alloc ?_ _)); exact BK123.out⟩, ⟨by repeat (first | (with_reducible first | exact HB.out | apply below_alloc | apply pw_below_drewN | apply below_drew1 | refine below_set ?_ GE123.out) | exact HB.out)⟩⟩
    · rw [if_neg c5] at H
      have c5b0 : decide (2000 < (a1.size : Int)) = false := decide_eq_false c5
      have c5b1 : decide (2000 < a1.size) = false := decide_eq_false (by omega)
      clear c5
      (first | rw [c5b0] | (simp only [i64_w, i32_w]; rw [c5b0]) | skip)
      have H' := Aside0.mk H
      clear H
      have hcz6_0 : w4.cell? ⟨gb123, 0, none⟩ = some (.string a0_0) := (blk_cell BK123.out 0).trans rfl
      have hcz6_1 : w4.cell? ⟨gb123, 1, none⟩ = some (.slice A0_1 l0_1.length c0_1) := (blk_cell BK123.out 1).trans rfl
      have hfz6_0 := blk_frozen BK123.out 0
      have hfz6_1 := blk_frozen BK123.out 1
      go_wp2
      go_meet
      case rel => exact ⟨_, (decide ((l0_1.length : Int) > 600)), (by first | rfl | (simp; done) | (simp [*]; done)), H', ⟨by first | omega | exact Nat.le_refl _⟩, ⟨by (with_reducible repeat (first | refine blk_drewN ?_ _ | refine blk_drew ?_ | refine blk_alloc ?_ _)); exact BK123.out⟩, ⟨by repeat (first | (with_reducible first | exact HB.out | apply below_alloc | apply pw_below_drewN | apply below_drew1 | refine below_set ?_ GE123.out) | exact HB.out)⟩⟩
  case rest =>
    clear HC3
    try clear c2
    try clear p2
    try clear c5
    try clear c5b0
    try clear c5b1
    try clear hcz6_0
    try clear hcz6_1
    try clear hfz6_0
    try clear hfz6_1
    obtain ⟨kq, x14_2, rfl, HA, HJ2, BK123, HB⟩ := hcut
    cases kq with
    | zero => exact absurd HA.out (by simp [cognatelaw17_much.j0])
    | succ kj2 =>
      have H := HA.out
      clear HA
      simp only [cognatelaw17_much.j0] at H
      by_cases c7 : x14_2 = true
      · subst c7
        have H1 : (some true) = some r := by rw [if_pos rfl] at H; exact H
        clear H
        have H := H1
        clear H1
        obtain rfl := Option.some.inj H
        go_wp2
        go_ret
        exact ⟨by first | rfl | (simp [errW_none, errW_some] <;> rfl) | (simp [*, errW_none, errW_some] <;> rfl), by repeat (first | (with_reducible first | exact HB.out | apply below_alloc | apply pw_below_drewN | apply below_drew1 | refine below_set ?_ GE123.out) | exact HB.out)⟩
      · replace c7 := Bool.eq_false_iff.mpr c7
        subst c7
        have H1 : (cognatelaw17_much.l0 kj2 0 a0_0 l0_1) = some r := by rw [if_neg (show ¬ (false = true) by decide)] at H; exact H
        clear H
        have H := H1
        clear H1
        have H' := Aside0.mk H
        clear H
        go_wp2
        go_loopg [5] kj2 (fun kq v5 w' => ∃ (x5_2 : Int), v5 = .int .i64 x5_2 ∧ Aside0 (cognatelaw17_much.l0 kq x5_2 a0_0 l0_1 = some r) ∧ Aside0 (kq ≤ kj2) ∧ Aside0 (w'.heap[gb123]? = some (.cells #[.string a0_0, (.slice A0_1 l0_1.length c0_1)] 45 (0, 0))) ∧ Aside0 (Below w.heap.size w w'))
        case atStart => exact ⟨(0), (by first | rfl | (simp; done) | (simp [*]; done)), H', ⟨Nat.le_refl _⟩, ⟨by (with_reducible repeat (first | refine blk_drewN ?_ _ | refine blk_drew ?_ | refine blk_alloc ?_ _)); exact BK123.out⟩, ⟨by repeat (first | (with_reducible first | exact HB.out | apply below_alloc | apply pw_below_drewN | apply below_drew1 | refine below_set ?_ GE123.out) | exact HB.out)⟩⟩
        case round =>
          clear H'
          try clear c2
          try clear p2
          try clear c5
          try clear c5b0
          try clear c5b1
          try clear c7
          try clear hcz6_0
          try clear hcz6_1
          try clear hfz6_0
          try clear hfz6_1
          try clear p2
          obtain ⟨x5_2, rfl, HA, HK2, BK123, HB⟩ := hrel
          cases gk with
          | zero => exact absurd HA.out (by simp [cognatelaw17_much.l0])
          | succ k2 =>
            have H := HA.out
            clear HA
            simp only [cognatelaw17_much.l0] at H
            by_cases c8 : x5_2 < (l0_1.length : Int)
            · rw [if_pos c8] at H
              have c8b0 : decide (x5_2 < (l0_1.length : Int)) = true := decide_eq_true c8
              clear c8
              by_cases c9 : 0 ≤ x5_2
              · rw [if_pos c9] at H
                have c9b0 : decide (0 ≤ x5_2) = true := decide_eq_true c9
                clear c9
                by_cases c10 : (((rd_T56 l0_1 x5_2).f1).length : Int) > 60
                · rw [if_pos c10] at H
                  have c10b0 : decide (60 < (((rd_T56 l0_1 x5_2).f1).length : Int)) = true := decide_eq_true c10
                  have c10b1 : decide (60 < ((rd_T56 l0_1 x5_2).f1).length) = true := decide_eq_true (by omega)
                  clear c10
                  obtain rfl := Option.some.inj H
                  have hcz11_0 : wr.cell? ⟨gb123, 0, none⟩ = some (.string a0_0) := (blk_cell BK123.out 0).trans rfl
                  have hcz11_1 : wr.cell? ⟨gb123, 1, none⟩ = some (.slice A0_1 l0_1.length c0_1) := (blk_cell BK123.out 1).trans rfl
                  have hfz11_0 := blk_frozen BK123.out 0
                  have hfz11_1 := blk_frozen BK123.out 1
                  have p124 : 0 ≤ (x5_2 : Int) := of_decide_eq_true (by first | (with_reducible assumption) | assumption)
                  have q124 : x5_2 < (l0_1.length : Int) := of_decide_eq_true (by first | (with_reducible assumption) | assumption)
                  obtain ⟨ad124, A124_1, c124_1, e124, hx124_0, hx124_1, hl124_1, hi124_1⟩ := at_T56 HR0_1.out x5_2 p124 q124
                  cases e124
                  replace hx124_0 := (HB.out.cell (World.block_lt_of_cell? w _ hx124_0)).trans hx124_0
                  replace hx124_1 := (HB.out.cell (World.block_lt_of_cell? w _ hx124_1)).trans hx124_1
                  have HR124_1 := Aside0.mk hi124_1
                  have HC124_1 := Aside0.mk hl124_1
                  clear hi124_1 hl124_1
                  replace p124 := eq_true p124
                  replace q124 := eq_true q124
                  go_wp2
                  go_ret
                  exact ⟨by first | rfl | (simp [errW_none, errW_some] <;> rfl) | (simp [*, errW_none, errW_some] <;> rfl), by repeat (first | (with_reducible first | exact HB.out | apply below_alloc | apply pw_below_drewN | apply below_drew1 | refine below_set ?_ GE123.out) | exact HB.out)⟩
                · rw [if_neg c10] at H
                  have c10b0 : decide (60 < (((rd_T56 l0_1 x5_2).f1).length : Int)) = false := decide_eq_false c10
                  have c10b1 : decide (60 < ((rd_T56 l0_1 x5_2).f1).length) = false := decide_eq_false (by omega)
                  clear c10
                  have H' := Aside0.mk H
                  clear H
                  have hcz12_0 : wr.cell? ⟨gb123, 0, none⟩ = some (.string a0_0) := (blk_cell BK123.out 0).trans rfl
                  have hcz12_1 : wr.cell? ⟨gb123, 1, none⟩ = some (.slice A0_1 l0_1.length c0_1) := (blk_cell BK123.out 1).trans rfl
                  have hfz12_0 := blk_frozen BK123.out 0
                  have hfz12_1 := blk_frozen BK123.out 1
                  have p124 : 0 ≤ (x5_2 : Int) := of_decide_eq_true (by first | (with_reducible assumption) | assumption)
                  have q124 : x5_2 < (l0_1.length : Int) := of_decide_eq_true (by first | (with_reducible assumption) | assumption)
                  obtain ⟨ad124, A124_1, c124_1, e124, hx124_0, hx124_1, hl124_1, hi124_1⟩ := at_T56 HR0_1.out x5_2 p124 q124
                  cases e124
                  replace hx124_0 := (HB.out.cell (World.block_lt_of_cell? w _ hx124_0)).trans hx124_0
                  replace hx124_1 := (HB.out.cell (World.block_lt_of_cell? w _ hx124_1)).trans hx124_1
                  have HR124_1 := Aside0.mk hi124_1
                  have HC124_1 := Aside0.mk hl124_1
                  clear hi124_1 hl124_1
                  replace p124 := eq_true p124
                  replace q124 := eq_true q124
                  go_wp2
                  go_roundg k2
                  case measure => have := HJ2.out; have := HK2.out; omega
                  case rel => exact ⟨(wrap64 (x5_2 + 1)), (by first | rfl | (simp; done) | (simp [*]; done)), H', ⟨by have := HJ2.out; have := HK2.out; omega⟩, ⟨by (with_reducible repeat (first | refine blk_drewN ?_ _ | refine blk_drew ?_ | refine blk_alloc ?_ _)); exact BK123.out⟩, ⟨by repeat (first | (with_reducible first | exact HB.out | apply below_alloc | apply pw_below_drewN | apply below_drew1 | refine below_set ?_ GE123.out) | exact HB.out)⟩⟩
              · rw [if_neg c9] at H
                exact absurd H (by simp)
            · rw [if_neg c8] at H
              have c8b0 : decide (x5_2 < (l0_1.length : Int)) = false := decide_eq_false c8
              clear c8
              obtain rfl := Option.some.inj H
              have hcz13_0 : wr.cell? ⟨gb123, 0, none⟩ = some (.string a0_0) := (blk_cell BK123.out 0).trans rfl
              have hcz13_1 : wr.cell? ⟨gb123, 1, none⟩ = some (.slice A0_1 l0_1.length c0_1) := (blk_cell BK123.out 1).trans rfl
              have hfz13_0 := blk_frozen BK123.out 0
              have hfz13_1 := blk_frozen BK123.out 1
              go_wp2
              go_ret
              exact ⟨by first | rfl | (simp [errW_none, errW_some] <;> rfl) | (simp [*, errW_none, errW_some] <;> rfl), by repeat (first | (with_reducible first | exact HB.out | apply below_alloc | apply pw_below_drewN | apply below_drew1 | refine below_set ?_ GE123.out) | exact HB.out)⟩

end Go.Proofs.YthmjheclhcdinaaDoor.RF2
end
section
/-
  Affixes and cells over texts, in plain words: put and taken off, there and back. No program in sight.
-/
set_option linter.unusedSimpArgs false
set_option linter.unusedVariables false
namespace Go.Proofs.YthmjheclhcdinaaDoor
open Go.RowKit Go.Proofs.YthmjheclhcdinaaDoorW.PrintWords Go.Proofs.YthmjheclhcdinaaDoorW.PrintLast Go.Proofs.YthmjheclhcdinaaDoorW.PrintMore Go.Proofs.YthmjheclhcdinaaDoor.Ext

abbrev Affix := S49
def affOf (x : Affix) : Aff := ⟨x.f0, runesOf x.f1, runesOf x.f2, x.f3.toNat⟩
def wordB (l0 : List ByteArray) (l1 : List Letter) (s : ByteArray) : Bool := decide ((lettersOf l0 l1 s).2 = 0)
def placeB (i : Int) : Bool := decide (0 ≤ i) && decide (i ≤ 64)
/-- May an affix be? (Of an alphabet that may be.) -/
def affOk (l0 : List ByteArray) (l1 : List Letter) (x : Affix) : Bool :=
  if x.f0 = 1 ∨ x.f0 = 2 then wordB l0 l1 x.f1 && decide (x.f2.size = 0) && decide (x.f3 = 0)
  else if x.f0 = 3 then wordB l0 l1 x.f1 && wordB l0 l1 x.f2 && decide (x.f3 = 0)
  else if x.f0 = 4 then wordB l0 l1 x.f1 && decide (x.f2.size = 0) && placeB x.f3
  else if x.f0 = 5 then decide (chkS l0 l1 noB x.f1 = 0) && decide (x.f2.size = 0) && decide (x.f3 = 0)
  else if x.f0 = 6 then decide (x.f1.size = 0) && decide (x.f2.size = 0) && placeB x.f3
  else false
def capped (p : List Int × Int) : List Int × Int := if p.2 = 0 then (if p.1.length ≤ 256 then p else ([], 9)) else ([], p.2)
def toText (p : List Int × Int) : ByteArray × Int := if p.2 = 0 then (runesBytes p.1, 0) else (noB, p.2)
def putS (l0 : List ByteArray) (l1 : List Letter) (v : Int) (w : ByteArray) (x : Affix) : ByteArray × Int :=
  if (classOf l0 l1 v 0).2 = 0 then (if (lettersOf l0 l1 w).2 = 0 then (if affOk l0 l1 x = true then toText (capped (putL (kindsOf l1) (classOf l0 l1 v 0).1 (affOf x) (lettersOf l0 l1 w).1)) else (noB, 170)) else (noB, (lettersOf l0 l1 w).2)) else (noB, (classOf l0 l1 v 0).2)
def oneText (o : Option (List Int)) : List ByteArray := match o with | some m => [runesBytes m] | none => []
def offS (l0 : List ByteArray) (l1 : List Letter) (v : Int) (w : ByteArray) (x : Affix) : List ByteArray × Int :=
  if (classOf l0 l1 v 0).2 = 0 then (if (lettersOf l0 l1 w).2 = 0 then (if affOk l0 l1 x = true then (oneText (takenL (kindsOf l1) (classOf l0 l1 v 0).1 (affOf x) (lettersOf l0 l1 w).1), 0) else ([], 170)) else ([], (lettersOf l0 l1 w).2)) else ([], (classOf l0 l1 v 0).2)
/-- A cell's affixes put to letters, one behind the other. -/
def putC (ks cls : List Int) : List Aff → List Int → List Int × Int
  | [], l => (l, 0)
  | x :: xs, l => if (capped (putL ks cls x l)).2 = 0 then putC ks cls xs (capped (putL ks cls x l)).1 else ([], (capped (putL ks cls x l)).2)
/-- Taken off; the list is the affixes', the last one first. -/
def offC (ks cls : List Int) : List Aff → List Int → Option (List Int)
  | [], l => some l
  | x :: xs, l => match takenL ks cls x l with | some m => offC ks cls xs m | none => none

theorem piecesFrom_size (s : ByteArray) : ∀ f pos, (piecesFrom s f pos).all (fun p => !p.f3) = true → s.size - pos ≤ f → s.size ≤ pos + 4 * (piecesFrom s f pos).length
  | 0, pos, _, h => by simp [piecesFrom]; omega
  | f + 1, pos, ha, h => by
    unfold piecesFrom at ha ⊢
    by_cases hp : pos < s.size
    · rw [if_pos hp] at ha ⊢
      simp only [List.all_cons, Bool.and_eq_true] at ha
      have h1 := dec_pos s pos
      have h2 := (dec_shape s pos).2
      have ih := piecesFrom_size s f (pos + (Utf8.decode s pos).2) ha.2 (by omega)
      simp only [List.length_cons]
      omega
    · rw [if_neg hp]
      omega
/-- A word is short. -/
theorem letters_size {l0 : List ByteArray} {l1 : List Letter} {s : ByteArray} (h : (lettersOf l0 l1 s).2 = 0) : s.size ≤ 256 := by
  obtain ⟨l, e, hl⟩ : ∃ l e, lettersOf l0 l1 s = (l, e) := ⟨_, _, rfl⟩
  rw [hl] at h
  dsimp only at h
  subst h
  unfold lettersOf at hl
  split at hl
  · have hr := readP_ok _ _ _ _ (by simp) hl
    have hz := piecesFrom_size (cut s) (cut s).size 0 hr.2.1 (by omega)
    have hn := hr.2.2.2
    unfold pieces at hn
    simp only [List.length_nil, Nat.zero_add] at hn hz
    unfold cut at hz hn
    split at hz
    · rename_i hs
      rw [if_pos hs] at hn
      omega
    · rename_i hs
      rw [if_neg hs] at hn
      have : (s.extract 0 65536).size = 65536 := by simp; omega
      omega
  · simp at hl
theorem wordB_ok {l0 : List ByteArray} {l1 : List Letter} {s : ByteArray} (h : wordB l0 l1 s = true) : lettersOf l0 l1 s = (runesOf s, 0) ∧ (∀ x ∈ runesOf s, (kindsOf l1).contains x = true) ∧ (runesOf s).length ≤ 64 := by
  have h2 := of_decide_eq_true h
  have hs := letters_size h2
  have hl : lettersOf l0 l1 s = ((lettersOf l0 l1 s).1, 0) := by rw [← h2]
  have ho := letters_ok (by omega) hl
  rw [ho.2.1] at hl ho
  exact ⟨hl, ho.2.2.2.1, ho.2.2.2.2⟩
theorem runes_empty {s : ByteArray} (h : s.size = 0) : runesOf s = [] := by
  rw [runesOf_pieces]
  unfold pieces
  rw [h]
  rfl
/-- What an affix that may be gives. -/
theorem affOk_kinds {l0 : List ByteArray} {l1 : List Letter} {x : Affix} (h : affOk l0 l1 x = true) :
    ((affOf x).kind = 1 ∨ (affOf x).kind = 2 ∨ (affOf x).kind = 3 ∨ (affOf x).kind = 4 ∨ (affOf x).kind = 5 ∨ (affOf x).kind = 6) ∧
    (∀ y ∈ (affOf x).form, (kindsOf l1).contains y = true ∨ ((affOf x).kind = 5 ∧ y = 95)) ∧ (∀ y ∈ (affOf x).other, (kindsOf l1).contains y = true) ∧ (affOf x).form.length ≤ 64 ∧ (affOf x).other.length ≤ 64 ∧ (affOf x).place ≤ 64 := by
  unfold affOk at h
  unfold affOf
  dsimp only
  by_cases h12 : x.f0 = 1 ∨ x.f0 = 2
  · rw [if_pos h12] at h
    simp only [Bool.and_eq_true, decide_eq_true_eq] at h
    have hw := wordB_ok h.1.1
    rw [runes_empty h.1.2]
    exact ⟨by omega, fun y hy => .inl (hw.2.1 y hy), by simp, hw.2.2, by simp, by omega⟩
  · rw [if_neg h12] at h
    by_cases h3 : x.f0 = 3
    · rw [if_pos h3] at h
      simp only [Bool.and_eq_true, decide_eq_true_eq] at h
      have hw := wordB_ok h.1.1
      have hw2 := wordB_ok h.1.2
      exact ⟨by omega, fun y hy => .inl (hw.2.1 y hy), hw2.2.1, hw.2.2, hw2.2.2, by omega⟩
    · rw [if_neg h3] at h
      by_cases h4 : x.f0 = 4
      · rw [if_pos h4] at h
        unfold placeB at h
        simp only [Bool.and_eq_true, decide_eq_true_eq] at h
        have hw := wordB_ok h.1.1
        rw [runes_empty h.1.2]
        exact ⟨by omega, fun y hy => .inl (hw.2.1 y hy), by simp, hw.2.2, by simp, by omega⟩
      · rw [if_neg h4] at h
        by_cases h5 : x.f0 = 5
        · rw [if_pos h5] at h
          simp only [Bool.and_eq_true, decide_eq_true_eq] at h
          have hf := formS_ok (chkS_zero h.1.1).2.2
          rw [runes_empty h.1.2]
          exact ⟨by omega, fun y hy => (hf.2.2 y hy).imp id (fun e => ⟨h5, e⟩), by simp, hf.2.1, by simp, by omega⟩
        · rw [if_neg h5] at h
          by_cases h6 : x.f0 = 6
          · rw [if_pos h6] at h
            unfold placeB at h
            simp only [Bool.and_eq_true, decide_eq_true_eq] at h
            rw [runes_empty h.1.1, runes_empty h.1.2]
            exact ⟨by omega, by simp, by simp, by simp, by simp, by omega⟩
          · rw [if_neg h6] at h
            cases h
theorem cons_notC {ks cls l : List Int} (h : ∀ y ∈ l, ks.contains y = true) : l.filter (consB ks cls) = l.filter (notC cls) := by
  apply List.filter_congr
  intro y hy
  unfold consB notC
  rw [h y hy, Bool.true_and]
theorem capped_ok {p : List Int × Int} {m : List Int} (h : capped p = (m, 0)) : p = (m, 0) ∧ m.length ≤ 256 := by
  obtain ⟨q, e⟩ := p
  unfold capped at h
  dsimp only at h
  by_cases he : e = 0
  · rw [if_pos he] at h
    by_cases hl : q.length ≤ 256
    · rw [if_pos hl] at h
      obtain ⟨rfl, rfl⟩ := Prod.mk.inj h
      exact ⟨rfl, hl⟩
    · rw [if_neg hl] at h
      simp at h
  · rw [if_neg he] at h
    exact absurd (Prod.mk.inj h).2 he
theorem capped_mk {m : List Int} (h : m.length ≤ 256) : capped (m, 0) = (m, 0) := by
  unfold capped
  rw [if_pos rfl, if_pos h]
theorem put_ok {l0 : List ByteArray} {l1 : List Letter} {v : Int} {w s : ByteArray} {x : Affix} (h : putS l0 l1 v w x = (s, 0)) :
    ∃ cls l m, classOf l0 l1 v 0 = (cls, 0) ∧ lettersOf l0 l1 w = (l, 0) ∧ affOk l0 l1 x = true ∧ putL (kindsOf l1) cls (affOf x) l = (m, 0) ∧ m.length ≤ 256 ∧ s = runesBytes m ∧ ∀ y ∈ m, (kindsOf l1).contains y = true := by
  unfold putS at h
  obtain ⟨cls, e, hc⟩ : ∃ cls e, classOf l0 l1 v 0 = (cls, e) := ⟨_, _, rfl⟩
  obtain ⟨l, e2, hl⟩ : ∃ l e2, lettersOf l0 l1 w = (l, e2) := ⟨_, _, rfl⟩
  rw [hc, hl] at h
  dsimp only at h
  by_cases he : e = 0
  · rw [if_pos he] at h
    by_cases he2 : e2 = 0
    · rw [if_pos he2] at h
      by_cases ha : affOk l0 l1 x = true
      · rw [if_pos ha] at h
        obtain ⟨m, e3, hm⟩ : ∃ m e3, capped (putL (kindsOf l1) cls (affOf x) l) = (m, e3) := ⟨_, _, rfl⟩
        rw [hm] at h
        unfold toText at h
        dsimp only at h
        by_cases he3 : e3 = 0
        · rw [if_pos he3] at h
          subst he3
          subst he
          subst he2
          have hcp := capped_ok hm
          have hlo := letters_ok (by have := letters_size (l0 := l0) (l1 := l1) (s := w) (by rw [hl]); omega) hl
          have hk := affOk_kinds ha
          exact ⟨cls, l, m, hc, hl, ha, hcp.1, hcp.2, (Prod.mk.inj h).1.symm, put_mem hcp.1 hlo.2.2.2.1 hk.2.1 hk.2.2.1⟩
        · rw [if_neg he3] at h
          exact absurd (Prod.mk.inj h).2 he3
      · rw [if_neg ha] at h
        simp at h
    · rw [if_neg he2] at h
      exact absurd (Prod.mk.inj h).2 he2
  · rw [if_neg he] at h
    exact absurd (Prod.mk.inj h).2 he
/-- What an affix made, as long as it may be handed in, is taken off again. -/
theorem put_back {l0 : List ByteArray} {l1 : List Letter} {v : Int} {w s : ByteArray} {x : Affix} (h : putS l0 l1 v w x = (s, 0)) (hl : (runesOf s).length ≤ 64) :
    ∃ cls l, partsOf l0 l1 w v = (l, cls, 0) ∧ offS l0 l1 v s x = ([if x.f0 = 5 then runesBytes (l.filter (notC cls)) else w], 0) := by
  obtain ⟨cls, l, m, hc, hw, ha, hp, hm, rfl, hks⟩ := put_ok h
  have hsz := letters_size (l0 := l0) (l1 := l1) (s := w) (by rw [hw])
  have hlo := letters_ok (by omega) hw
  have hv : ∀ y ∈ m, Utf8.valid y = true := fun y hy => rune_valid (kinds_valid hlo.1 (hks y hy))
  rw [(runes_forth m hv).1] at hl
  have hlm := letters_forth (l0 := l0) hlo.1 hks hl
  have htk := put_off (affOk_kinds ha).1 hp
  refine ⟨cls, l, parts_mk hw hc, ?_⟩
  unfold offS
  rw [hc, if_pos rfl, hlm, if_pos rfl, if_pos ha, htk]
  unfold oneText wantL
  dsimp only
  have hk : (affOf x).kind = x.f0 := rfl
  rw [hk]
  by_cases h5 : x.f0 = 5
  · rw [if_pos h5, if_pos h5, cons_notC hlo.2.2.2.1]
  · rw [if_neg h5, if_neg h5, letters_back (by omega) hw]
theorem off_ok {l0 : List ByteArray} {l1 : List Letter} {v : Int} {w : ByteArray} {x : Affix} {L : List ByteArray} (h : offS l0 l1 v w x = (L, 0)) :
    ∃ cls l, classOf l0 l1 v 0 = (cls, 0) ∧ lettersOf l0 l1 w = (l, 0) ∧ affOk l0 l1 x = true ∧ L = oneText (takenL (kindsOf l1) cls (affOf x) l) := by
  unfold offS at h
  obtain ⟨cls, e, hc⟩ : ∃ cls e, classOf l0 l1 v 0 = (cls, e) := ⟨_, _, rfl⟩
  obtain ⟨l, e2, hl⟩ : ∃ l e2, lettersOf l0 l1 w = (l, e2) := ⟨_, _, rfl⟩
  rw [hc, hl] at h
  dsimp only at h
  by_cases he : e = 0
  · rw [if_pos he] at h
    by_cases he2 : e2 = 0
    · rw [if_pos he2] at h
      by_cases ha : affOk l0 l1 x = true
      · rw [if_pos ha] at h
        subst he
        subst he2
        exact ⟨cls, l, hc, hl, ha, (Prod.mk.inj h).1.symm⟩
      · rw [if_neg ha] at h
        simp at h
    · rw [if_neg he2] at h
      exact absurd (Prod.mk.inj h).2 he2
  · rw [if_neg he] at h
    exact absurd (Prod.mk.inj h).2 he
/-- What is taken off, put, is the word. -/
theorem off_back {l0 : List ByteArray} {l1 : List Letter} {v : Int} {w r : ByteArray} {x : Affix} {L : List ByteArray} (h : offS l0 l1 v w x = (L, 0)) (hr : r ∈ L) : L = [r] ∧ putS l0 l1 v r x = (w, 0) := by
  obtain ⟨cls, l, hc, hw, ha, rfl⟩ := off_ok h
  have hsz := letters_size (l0 := l0) (l1 := l1) (s := w) (by rw [hw])
  have hlo := letters_ok (by omega) hw
  unfold oneText at hr ⊢
  cases ht : takenL (kindsOf l1) cls (affOf x) l with
  | none => rw [ht] at hr; simp at hr
  | some m =>
    rw [ht] at hr
    dsimp only at hr ⊢
    obtain rfl : r = runesBytes m := by simpa using hr
    have hmem := off_mem (taken_off ht)
    have hlm := letters_forth (l0 := l0) hlo.1 (fun y hy => hlo.2.2.2.1 y (hmem.1 y hy)) (Nat.le_trans hmem.2 hlo.2.2.2.2)
    refine ⟨rfl, ?_⟩
    unfold putS
    rw [hc, if_pos rfl, hlm, if_pos rfl, if_pos ha]
    dsimp only
    rw [taken_put ht, capped_mk (by omega)]
    unfold toText
    rw [if_pos rfl, letters_back (by omega) hw]

/-! ### chains of affixes -/
theorem putC_append (ks cls : List Int) : ∀ (xs ys : List Aff) (l m : List Int), putC ks cls xs l = (m, 0) → putC ks cls (xs ++ ys) l = putC ks cls ys m
  | [], ys, l, m, h => by
    simp only [putC, Prod.mk.injEq, and_true] at h
    subst h
    rfl
  | x :: xs, ys, l, m, h => by
    simp only [putC, List.cons_append] at h ⊢
    by_cases he : (capped (putL ks cls x l)).2 = 0
    · rw [if_pos he] at h ⊢
      exact putC_append ks cls xs ys _ m h
    · rw [if_neg he] at h
      exact absurd (Prod.mk.inj h).2 he
/-- Stems, put, make the word. -/
theorem offC_put (ks cls : List Int) : ∀ (xs : List Aff) (l m : List Int), l.length ≤ 256 → offC ks cls xs l = some m → putC ks cls xs.reverse m = (l, 0) ∧ (∀ y ∈ m, y ∈ l) ∧ m.length ≤ l.length
  | [], l, m, hl, h => by
    simp only [offC, Option.some.injEq] at h
    subst h
    simp [putC]
  | x :: xs, l, m, hl, h => by
    unfold offC at h
    cases ht : takenL ks cls x l with
    | none => rw [ht] at h; cases h
    | some q =>
      rw [ht] at h
      dsimp only at h
      have hmem := off_mem (taken_off ht)
      have ih := offC_put ks cls xs q m (by omega) h
      refine ⟨?_, fun y hy => hmem.1 y (ih.2.1 y hy), Nat.le_trans ih.2.2 hmem.2⟩
      rw [List.reverse_cons, putC_append ks cls _ _ _ _ ih.1]
      simp only [putC]
      rw [taken_put ht, capped_mk hl, if_pos rfl]
/-- The form of a cell without shapes has the stem again. -/
theorem putC_off (ks cls : List Int) : ∀ (xs : List Aff) (l m : List Int), (∀ x ∈ xs, (x.kind = 1 ∨ x.kind = 2 ∨ x.kind = 3 ∨ x.kind = 4 ∨ x.kind = 5 ∨ x.kind = 6) ∧ x.kind ≠ 5) → putC ks cls xs l = (m, 0) → offC ks cls xs.reverse m = some l
  | [], l, m, _, h => by
    simp only [putC, Prod.mk.injEq, and_true] at h
    subst h
    rfl
  | x :: xs, l, m, hx, h => by
    simp only [putC] at h
    obtain ⟨q, e, hq⟩ : ∃ q e, capped (putL ks cls x l) = (q, e) := ⟨_, _, rfl⟩
    rw [hq] at h
    dsimp only at h
    by_cases he : e = 0
    · subst he
      rw [if_pos rfl] at h
      have ih := putC_off ks cls xs q m (fun y hy => hx y (List.mem_cons_of_mem _ hy)) h
      have hk := hx x (List.mem_cons_self ..)
      have htk := put_off hk.1 (capped_ok hq).1
      have happ : ∀ (us vs : List Aff) (z o : List Int), offC ks cls us z = some o → offC ks cls (us ++ vs) z = offC ks cls vs o := by
        intro us
        induction us with
        | nil =>
          intro vs z o h
          simp only [offC, Option.some.injEq] at h
          subst h
          rfl
        | cons a us iha =>
          intro vs z o h
          simp only [offC, List.cons_append] at h ⊢
          cases ht : takenL ks cls a z with
          | none => rw [ht] at h; cases h
          | some q' =>
            rw [ht] at h
            exact iha vs q' o h
      rw [List.reverse_cons, happ _ _ _ _ ih]
      simp only [offC]
      rw [htk]
      unfold wantL
      rw [if_neg hk.2]
    · rw [if_neg he] at h
      exact absurd (Prod.mk.inj h).2 he
end Go.Proofs.YthmjheclhcdinaaDoor
end
section
/-
  paradigm.made by a walk.
-/
set_option linter.unusedSimpArgs false
set_option linter.unusedVariables false
namespace Go.Proofs.YthmjheclhcdinaaDoor.Ext
open Go.RowKit Go.Maps Go.Proofs.YthmjheclhcdinaaDoor Go.Proofs.YthmjheclhcdinaaDoorW.PrintWords Go.Proofs.YthmjheclhcdinaaDoorW.PrintLast Go.Proofs.YthmjheclhcdinaaDoorW.PrintMore
/-- What '[]rune(s)' lays: its cells, its capacity. -/
def cvC (s : ByteArray) (W : World) : Array Value := Conv.runesFrom s s.size 0 #[] ++ Array.replicate (grownCap W (Conv.runesFrom s s.size 0 #[]).size 0 21 - (Conv.runesFrom s s.size 0 #[]).size) (.int .i32 0)
def cvN (s : ByteArray) (W : World) : Nat := grownCap W (Conv.runesFrom s s.size 0 #[]).size 0 21
abbrev cvV (s : ByteArray) (W : World) : Value := .slice (some ⟨W.heap.size, 0, none⟩) (runesOf s).length (cvN s W)
theorem runes_any {P : Program} (w : World) (src dst e : TypeId) (s : ByteArray) (hs : P.underlying src = some .string) (hd : P.underlying dst = some (.slice e)) (he : P.underlying e = some (.int .i32)) :
    (convert src dst (.string s)).run P w = .ok (.slice (some ⟨w.heap.size, 0, none⟩) (Conv.runesFrom s s.size 0 #[]).size (grownCap w (Conv.runesFrom s s.size 0 #[]).size 0 e))
      (w.drew.alloc (.cells (Conv.runesFrom s s.size 0 #[] ++ Array.replicate (grownCap w (Conv.runesFrom s s.size 0 #[]).size 0 e - (Conv.runesFrom s s.size 0 #[]).size) (.int .i32 0)) e)) := by
  simp [convert, run_underlying hs, run_underlying hd, run_underlying he, Conv.stringToRunes, Question.forced, newRow, grownCap]
theorem cv_run (s : ByteArray) (hl : (s.size : Int) ≤ 140737488351232) (W : World) : (convert 9 73 (.string s)).run Tryd.prog W = .ok (cvV s W) (W.drew.alloc (.cells (cvC s W) 21)) := by
  have hn := runesOf_le s
  have hsz := runesOf_size s
  have hr := runes_any (P := Tryd.prog) W 9 73 21 s Tryd.underlying9 Tryd.underlying73 Tryd.underlying21
  rw [hr]
  unfold cvV cvC cvN
  rw [hsz]
theorem cv_R (s : ByteArray) (hl : (s.size : Int) ≤ 140737488351232) (W W' : World) (base : Nat) (hbase : base ≤ W.heap.size) (hb : W'.heap[W.heap.size]? = some (.cells (cvC s W) 21 (0, 0))) : RI W' base (cvV s W) (runesOf s) := by
  have hn := runesOf_le s
  have hsz := runesOf_size s
  have hlen : (Conv.runesFrom s s.size 0 #[]).toList.length = (runesOf s).length := by rw [runesOf_cells, List.length_map]
  have hcap := grownCap_ge W (Conv.runesFrom s s.size 0 #[]).size 0 21
  have hcm := grownCap_le_maxLen W (Conv.runesFrom s s.size 0 #[]).size 0 21 (by rw [hsz]; unfold maxLen; omega)
  refine ⟨fun _ _ => trivial, (runesOf s).map (Value.int .i32), ?_, ?_⟩
  · show World.ownsRow _ base _ 1 _ _ _
    refine ⟨by rw [List.length_map, Nat.mul_one], .inr ⟨W.heap.size, cvN s W, cvC s W, rfl, hbase, hb, by rw [← hsz]; exact hcap, hcm, ?_, ?_⟩⟩
    · unfold cvC cvN
      simp
      omega
    · unfold cvC
      rw [Nat.mul_one, Array.toList_append, List.take_append_of_le_length (by rw [hlen]; exact Nat.le_refl _), ← hlen, List.take_length, runesOf_cells]
  · show Reps _ 1 _ _
    refine ⟨by rw [List.length_map, Nat.mul_one], fun j p hj => ?_⟩
    show (((runesOf s).map (Value.int .i32)).drop (j * 1)).take 1 = [Value.int .i32 p]
    rw [Nat.mul_one, ← List.map_drop, ← List.map_take]
    have hlt : j < (runesOf s).length := (List.getElem?_eq_some_iff.1 hj).1
    have hp : (runesOf s)[j] = p := (List.getElem?_eq_some_iff.1 hj).2
    rw [List.drop_eq_getElem_cons hlt, hp]
    rfl
theorem runes_zero (s : ByteArray) : (runesOf s).length = 0 ↔ s.size = 0 := by
  constructor
  · intro h
    rw [runesOf_pieces, List.length_map] at h
    unfold pieces at h
    by_cases h0 : s.size = 0
    · exact h0
    · obtain ⟨n, hn⟩ : ∃ n, s.size = n + 1 := ⟨s.size - 1, by omega⟩
      rw [hn] at h
      unfold piecesFrom at h
      rw [if_pos (by omega)] at h
      simp at h
  · intro h
    rw [runes_empty h]
    rfl
/-- What stands for an affix. -/
def AffIs (w : World) (v : Value) (x : Aff) : Prop :=
  ((x.kind = 1 ∨ x.kind = 2 ∨ x.kind = 3) ∧ ∃ A1 c1 f A2 c2 b, v = .iface 117 (.agg #[.slice A1 f.length c1, .slice A2 b.length c2]) ∧ Kd.C (Kd.int .i32) w A1 f.length f ∧ Kd.C (Kd.int .i32) w A2 b.length b ∧
    (f = if x.kind = 2 then [] else x.form) ∧ (b = if x.kind = 1 then [] else if x.kind = 2 then x.form else x.other)) ∨
  (x.kind = 4 ∧ ∃ A1 c1, v = .iface 119 (.agg #[.slice A1 x.form.length c1, .int .i64 (x.place : Int)]) ∧ Kd.C (Kd.int .i32) w A1 x.form.length x.form) ∨
  (x.kind = 5 ∧ ∃ A1 c1, v = .iface 121 (.agg #[.slice A1 x.form.length c1]) ∧ Kd.C (Kd.int .i32) w A1 x.form.length x.form) ∨
  (x.kind = 6 ∧ v = .iface 124 (.agg #[.int .i64 (x.place : Int)]))
def MadePost (l0 : List ByteArray) (l1 : List Letter) (x : Affix) (w w' : World) (e : Ending) : Prop :=
  ∃ v, e = .returned (.tuple #[v, .bool (affOk l0 l1 x)]) ∧ (affOk l0 l1 x = true → AffIs w' v (affOf x)) ∧ Below w.heap.size w w'
theorem wordB_empty {l0 : List ByteArray} {l1 : List Letter} {s e : ByteArray} (h : wordB l0 l1 s = true) (he : e.size = 0) : wordB l0 l1 e = true := by
  have hs := letters_size (of_decide_eq_true h)
  have hc := (letters_ok (by omega) (wordB_ok h).1).1
  have hr := runes_empty he
  have hp : pieces e = [] := by
    unfold pieces
    rw [he]
    rfl
  have := letters_mk (l0 := l0) (l1 := l1) (s := e) (by omega) hc (by rw [hp]; rfl) (by rw [hr]; simp) (by rw [hr]; simp)
  unfold wordB
  rw [this]
  rfl
theorem aff12 (l0 : List ByteArray) (l1 : List Letter) (kd : Int) (f1 f2 : ByteArray) (at_ : Int) (hk : kd = 1 ∨ kd = 2) : affOk l0 l1 ⟨kd, f1, f2, at_⟩ = ((wordB l0 l1 f1 && wordB l0 l1 f2) && decide (at_ = 0) && decide (f2.size = 0)) := by
  unfold affOk
  rw [if_pos hk]
  dsimp only
  cases h1 : wordB l0 l1 f1 with
  | false => simp
  | true =>
    by_cases h2 : f2.size = 0
    · rw [wordB_empty h1 h2]
      simp [h2]
    · simp [h2]
theorem aff3 (l0 : List ByteArray) (l1 : List Letter) (f1 f2 : ByteArray) (at_ : Int) : affOk l0 l1 ⟨3, f1, f2, at_⟩ = ((wordB l0 l1 f1 && wordB l0 l1 f2) && decide (at_ = 0)) := by
  unfold affOk
  rw [if_neg (by dsimp only; omega), if_pos rfl]
theorem aff4 (l0 : List ByteArray) (l1 : List Letter) (f1 f2 : ByteArray) (at_ : Int) : affOk l0 l1 ⟨4, f1, f2, at_⟩ = ((wordB l0 l1 f1 && wordB l0 l1 f2) && placeB at_ && decide (f2.size = 0)) := by
  unfold affOk
  rw [if_neg (by dsimp only; omega), if_neg (by dsimp only; omega), if_pos rfl]
  dsimp only
  cases h1 : wordB l0 l1 f1 with
  | false => simp
  | true =>
    by_cases h2 : f2.size = 0
    · rw [wordB_empty h1 h2]
      simp [h2]
    · simp [h2]
theorem aff5 (l0 : List ByteArray) (l1 : List Letter) (f1 f2 : ByteArray) (at_ : Int) : affOk l0 l1 ⟨5, f1, f2, at_⟩ = (decide (chkS l0 l1 noB f1 = 0) && decide (f2.size = 0) && decide (at_ = 0)) := by
  unfold affOk
  rw [if_neg (by dsimp only; omega), if_neg (by dsimp only; omega), if_neg (by dsimp only; omega), if_pos rfl]
theorem aff6 (l0 : List ByteArray) (l1 : List Letter) (f1 f2 : ByteArray) (at_ : Int) : affOk l0 l1 ⟨6, f1, f2, at_⟩ = (placeB at_ && decide (f1.size = 0) && decide (f2.size = 0)) := by
  unfold affOk
  rw [if_neg (by dsimp only; omega), if_neg (by dsimp only; omega), if_neg (by dsimp only; omega), if_neg (by dsimp only; omega), if_pos rfl]
  dsimp only
  cases placeB at_ <;> simp
theorem aff0 (l0 : List ByteArray) (l1 : List Letter) (kd : Int) (f1 f2 : ByteArray) (at_ : Int) (h : kd ≠ 1 ∧ kd ≠ 2 ∧ kd ≠ 3 ∧ kd ≠ 4 ∧ kd ≠ 5 ∧ kd ≠ 6) : affOk l0 l1 ⟨kd, f1, f2, at_⟩ = false := by
  unfold affOk
  rw [if_neg (by dsimp only; omega), if_neg (by dsimp only; omega), if_neg (by dsimp only; omega), if_neg (by dsimp only; omega), if_neg (by dsimp only; omega)]
theorem ta_aa (v : Value) (W : World) : (Instr.typeAssert (.iface 117 v) 88 117 true).run Tryd.prog W = .ok (.tuple #[v, .bool true]) W := by kernel_rfl
theorem ta_wa (v : Value) (W : World) : (Instr.typeAssert (.iface 119 v) 88 117 true).run Tryd.prog W = .ok (.tuple #[.agg #[.slice none 0 0, .slice none 0 0], .bool false]) W := by kernel_rfl
theorem ta_ww (v : Value) (W : World) : (Instr.typeAssert (.iface 119 v) 88 119 true).run Tryd.prog W = .ok (.tuple #[v, .bool true]) W := by kernel_rfl
theorem ta_sa (v : Value) (W : World) : (Instr.typeAssert (.iface 121 v) 88 117 true).run Tryd.prog W = .ok (.tuple #[.agg #[.slice none 0 0, .slice none 0 0], .bool false]) W := by kernel_rfl
theorem ta_sw (v : Value) (W : World) : (Instr.typeAssert (.iface 121 v) 88 119 true).run Tryd.prog W = .ok (.tuple #[.agg #[.slice none 0 0, .int .i64 0], .bool false]) W := by kernel_rfl
theorem ta_ss (v : Value) (W : World) : (Instr.typeAssert (.iface 121 v) 88 121 true).run Tryd.prog W = .ok (.tuple #[v, .bool true]) W := by kernel_rfl
theorem ta_da (v : Value) (W : World) : (Instr.typeAssert (.iface 124 v) 88 117 true).run Tryd.prog W = .ok (.tuple #[.agg #[.slice none 0 0, .slice none 0 0], .bool false]) W := by kernel_rfl
theorem ta_dw (v : Value) (W : World) : (Instr.typeAssert (.iface 124 v) 88 119 true).run Tryd.prog W = .ok (.tuple #[.agg #[.slice none 0 0, .int .i64 0], .bool false]) W := by kernel_rfl
theorem ta_ds (v : Value) (W : World) : (Instr.typeAssert (.iface 124 v) 88 121 true).run Tryd.prog W = .ok (.tuple #[.agg #[.slice none 0 0], .bool false]) W := by kernel_rfl
theorem ta_dd (v : Value) (W : World) : (Instr.typeAssert (.iface 124 v) 88 124 true).run Tryd.prog W = .ok (.tuple #[v, .bool true]) W := by kernel_rfl
theorem ba_empty {s : ByteArray} (h : s.size = 0) : s = ⟨#[]⟩ := by
  have : s = ByteArray.empty := by simpa using h
  exact this
theorem ba_full {s : ByteArray} (h : ¬ s.size = 0) : s.toList.isEmpty = false := by
  rw [ByteArray.toList_eq]
  cases hl : s.data.toList with
  | nil => exact absurd (by have := congrArg List.length hl; simpa using this) (fun e : s = ByteArray.empty => h (by rw [e]; rfl))
  | cons _ _ => rfl
theorem madePost_mk {l0 : List ByteArray} {l1 : List Letter} {x : Affix} {w w' : World} {b : Bool} {v : Value} (hok : affOk l0 l1 x = b) (hA : b = true → AffIs w' v (affOf x)) (hb : Below w.heap.size w w') : MadePost l0 l1 x w w' (.returned (.tuple #[v, .bool b])) :=
  ⟨v, by rw [hok], fun h => hA (by rw [← hok]; exact h), hb⟩
set_option maxHeartbeats 4000000 in
set_option maxRecDepth 100000 in
theorem made.calls (A0 A1 : Option Addr) (c0 c1 : Nat) (l0 : List ByteArray) (l1 : List Letter) (x : Affix) (w : World) (hF : Kd.C Kd.string w A0 l0.length l0) (hcF : l0.length ≤ c0) (hL : Kd.C kLetter w A1 l1.length l1) (hcL : l1.length ≤ c1) (hT : Tabs w)
    (h1 : (x.f1.size : Int) ≤ 140737488351232) (h2 : (x.f2.size : Int) ≤ 140737488351232) :
    Calls Tryd.prog 41 #[.agg #[.slice A0 l0.length c0, .slice A1 l1.length c1], .agg #[.int .u8 x.f0, .string x.f1, .string x.f2, .int .i64 x.f3]] w fun e w' => MadePost l0 l1 x w w' e := by
  have HB0 := boxes2 w (.cells #[.slice A0 l0.length c0, .slice A1 l1.length c1] 25) (.cells #[.int .u8 x.f0, .string x.f1, .string x.f2, .int .i64 x.f3] 49)
  have hck := fun W (hb : Below w.heap.size w W) s => RF2.word_Check.calls A0 c0 l0 A1 c1 l1 s (lettersOf l0 l1 s).2 W (Kd.C_below hF hb) hcF (Kd.C_below hL hb) hcL (hT.below hb) (by unfold RF2.word_Check.f word_Letters.f; rfl)
  have hrc := fun W (hb : Below w.heap.size w W) => radical_Check.calls A0 c0 l0 A1 c1 l1 noB x.f1 (chkS l0 l1 noB x.f1) W (Kd.C_below hF hb) hcF (Kd.C_below hL hb) hcL (hT.below hb) (by unfold radical_Check.f; rw [if_pos ⟨by decide, by omega⟩])
  have hcv1 := cv_run x.f1 h1
  have hcv2 := cv_run x.f2 h2
  clear hF hL hT
  obtain ⟨kd, f1, f2, at_⟩ := x
  dsimp only at *
  go_enter Tryd.func41, Tryd.ntmps41
  skip
  go_upto_region 1 with (fail)
  skip
  go_cut [6] (fun s6 wc => s6 = .bool (placeB at_) ∧ (w.alloc (.cells #[.slice A0 l0.length c0, .slice A1 l1.length c1] 25)).alloc (.cells #[.int .u8 kd, .string f1, .string f2, .int .i64 at_] 49) = wc)
  case first =>
    skip
    by_cases ha : 0 ≤ at_
    · by_cases hb : at_ ≤ 64
      · have hp : Hid (placeB at_ = true) := by unfold placeB; simp [Hid, ha, hb]
        go_wp2_with fail
        skip
        go_meet
        exact ⟨by rw [hp.out], rfl⟩
      · have hp : Hid (placeB at_ = false) := by unfold placeB; simp [Hid, hb]
        go_wp2_with fail
        go_meet
        exact ⟨by rw [hp.out], rfl⟩
    · have hp : Hid (placeB at_ = false) := by unfold placeB; simp [Hid, ha]
      go_wp2_with fail
      go_meet
      exact ⟨by rw [hp.out], rfl⟩
  case rest =>
    obtain ⟨rfl, rfl⟩ := hcut
    go_upto_region 2 with (fail)
    go_cut [7, 8] (fun s7 s8 wc => Hid (RI wc w.heap.size s7 (runesOf f1)) ∧ Hid (RI wc w.heap.size s8 (runesOf f2)) ∧ Hid (Below ((w.alloc (.cells #[.slice A0 l0.length c0, .slice A1 l1.length c1] 25)).alloc (.cells #[.int .u8 kd, .string f1, .string f2, .int .i64 at_] 49)).heap.size ((w.alloc (.cells #[.slice A0 l0.length c0, .slice A1 l1.length c1] 25)).alloc (.cells #[.int .u8 kd, .string f1, .string f2, .int .i64 at_] 49)) wc))
    case first =>
      have HB2 := Lib.hid HB0.1
      go_region
      all_goals (go_wp2_with fail; go_meet)
      · exact ⟨cv_R f1 h1 _ _ _ (by simp; omega) (blk_alloc (blk_new _ _) _), cv_R f2 h2 _ _ _ (by simp; omega) (blk_new _ _), (((Below.refl _ _).alloc (Nat.le_refl _) _).alloc (by simp) _).drew.drew.drew⟩
      · exact ⟨cv_R f1 h1 _ _ _ (by simp; omega) (blk_new _ _), cv_R f2 h2 _ _ _ (by simp; omega) (blk_alloc (blk_new _ _) _), (((Below.refl _ _).alloc (Nat.le_refl _) _).alloc (by simp) _).drew.drew.drew⟩
    case rest =>
      obtain ⟨HR1, HR2, HBw⟩ := hcut
      obtain ⟨wq, rfl⟩ : ∃ wq : World, wq = wc := ⟨_, rfl⟩
      have BA := Lib.hid (blk_below HB0.2.1 HBw.out)
      have BX := Lib.hid (blk_below HB0.2.2 HBw.out)
      have HB := Lib.hid (below_step HB0.1 HBw.out)
      have ha0 := (blk_cell BA.out 0).trans rfl
      have ha1 := (blk_cell BA.out 1).trans rfl
      have hx0 := (blk_cell BX.out 0).trans rfl
      have hx1 := (blk_cell BX.out 1).trans rfl
      have hx2 := (blk_cell BX.out 2).trans rfl
      have hx3 := (blk_cell BX.out 3).trans rfl
      clear HBw HB0 hcv1 hcv2
      go_upto_region 3 with (fail)
      go_cut [9] (fun s9 wc => s9 = .bool (wordB l0 l1 f1 && wordB l0 l1 f2) ∧ Hid (Below wq.heap.size wq wc))
      case first =>
        have hck1 := fun W hb => hck W hb f1
        have hck2 := fun W hb => hck W hb f2
        have hd1 : wordB l0 l1 f1 = decide ((lettersOf l0 l1 f1).2 = 0) := rfl
        have hd2 : wordB l0 l1 f2 = decide ((lettersOf l0 l1 f2).2 = 0) := rfl
        obtain ⟨e1, he1⟩ : ∃ e1, e1 = (lettersOf l0 l1 f1).2 := ⟨_, rfl⟩
        obtain ⟨e2, he2⟩ : ∃ e2, e2 = (lettersOf l0 l1 f2).2 := ⟨_, rfl⟩
        rw [← he1] at hck1 hd1
        rw [← he2] at hck2 hd2
        clear he1 he2 hck
        by_cases h01 : e1 = 0
        · subst h01
          have Hd1 : Hid (wordB l0 l1 f1 = true) := by rw [Hid, hd1]; rfl
          by_cases h02 : e2 = 0
          · subst h02
            have Hd2 : Hid (wordB l0 l1 f2 = true) := by rw [Hid, hd2]; rfl
            clear hd1 hd2
            go_wp2_with (first | (go_at_call 28; refine (hck1 _ HB.out).mono ?_; rintro e w1 ⟨rfl, hb⟩; clear hck1; have HB1 := Lib.hid (below_step HB.out hb); have HBq := Lib.hid hb; clear hb ha0 ha1 hx0 hx1 hx2 hx3; have ha0 := (blk_cell (blk_below BA.out HBq.out) 0).trans rfl; have ha1 := (blk_cell (blk_below BA.out HBq.out) 1).trans rfl; have hx2 := (blk_cell (blk_below BX.out HBq.out) 2).trans rfl) | (go_at_call 28; refine (hck2 _ HB1.out).mono ?_; rintro e w2 ⟨rfl, hb⟩; have HBq2 := Lib.hid (below_step HBq.out hb)))
            go_meet
            exact ⟨by rw [Hd1.out, Hd2.out]; rfl, HBq2⟩
          · have Hd2 : Hid (wordB l0 l1 f2 = false) := by rw [Hid, hd2]; exact decide_eq_false h02
            have hb2 : (e2 == 0) = false := beq_eq_false_iff_ne.mpr h02
            clear hd1 hd2 h02
            go_wp2_with (first | (go_at_call 28; refine (hck1 _ HB.out).mono ?_; rintro e w1 ⟨rfl, hb⟩; clear hck1; have HB1 := Lib.hid (below_step HB.out hb); have HBq := Lib.hid hb; clear hb ha0 ha1 hx0 hx1 hx2 hx3; have ha0 := (blk_cell (blk_below BA.out HBq.out) 0).trans rfl; have ha1 := (blk_cell (blk_below BA.out HBq.out) 1).trans rfl; have hx2 := (blk_cell (blk_below BX.out HBq.out) 2).trans rfl) | (go_at_call 28; refine (hck2 _ HB1.out).mono ?_; rintro e w2 ⟨rfl, hb⟩; have HBq2 := Lib.hid (below_step HBq.out hb)))
            go_meet
            exact ⟨by rw [Hd1.out, Hd2.out]; rfl, HBq2⟩
        · have Hd1 : Hid (wordB l0 l1 f1 = false) := by rw [Hid, hd1]; exact decide_eq_false h01
          have hb1 : (e1 == 0) = false := beq_eq_false_iff_ne.mpr h01
          clear hd1 hd2 h01
          go_wp2_with (first | (go_at_call 28; refine (hck1 _ HB.out).mono ?_; rintro e w1 ⟨rfl, hb⟩; clear hck1; have HB1 := Lib.hid (below_step HB.out hb); have HBq := Lib.hid hb; clear hb ha0 ha1 hx0 hx1 hx2 hx3; have ha0 := (blk_cell (blk_below BA.out HBq.out) 0).trans rfl; have ha1 := (blk_cell (blk_below BA.out HBq.out) 1).trans rfl; have hx2 := (blk_cell (blk_below BX.out HBq.out) 2).trans rfl))
          go_meet
          exact ⟨by rw [Hd1.out]; rfl, HBq⟩
      case rest =>
        obtain ⟨rfl, HBq⟩ := hcut
        obtain ⟨wr, rfl⟩ : ∃ wr : World, wr = wc := ⟨_, rfl⟩
        have HB1 := Lib.hid (below_step HB.out HBq.out)
        have HR3 := Lib.hid (Kd.R_below HR1.out HBq.out)
        have HR4 := Lib.hid (Kd.R_below HR2.out HBq.out)
        have BA1 := Lib.hid (blk_below BA.out HBq.out)
        have BX1 := Lib.hid (blk_below BX.out HBq.out)
        clear ha0 ha1 hx0 hx1 hx2 hx3 HB BA BX HR1 HR2 HBq hck
        have ha0 := (blk_cell BA1.out 0).trans rfl
        have ha1 := (blk_cell BA1.out 1).trans rfl
        have hx0 := (blk_cell BX1.out 0).trans rfl
        have hx1 := (blk_cell BX1.out 1).trans rfl
        have hx2 := (blk_cell BX1.out 2).trans rfl
        have hx3 := (blk_cell BX1.out 3).trans rfl
        have hq0 := fun o => (blk_cell (blk_alloc BX1.out o) 0).trans rfl
        have hq1 := fun o => (blk_cell (blk_alloc BX1.out o) 1).trans rfl
        have hq2 := fun o => (blk_cell (blk_alloc BX1.out o) 2).trans rfl
        have hq3 := fun o => (blk_cell (blk_alloc BX1.out o) 3).trans rfl
        obtain ⟨A7, c7, rfl, hc7, hC7⟩ := Kd.R_reads HR3.out
        obtain ⟨A8, c8, rfl, hc8, hC8⟩ := Kd.R_reads HR4.out
        have HC7 := Lib.hid hC7
        have HC8 := Lib.hid hC8
        have Hn2 := Lib.hid (runes_zero f2)
        clear hC7 hC8 HR3 HR4
        obtain ⟨bw, hbw⟩ : ∃ bw, bw = (wordB l0 l1 f1 && wordB l0 l1 f2) := ⟨_, rfl⟩
        rw [← hbw]
        have Hbw := Lib.hid hbw
        clear hbw
        by_cases k1 : kd = 1
        · subst k1
          have hta := fun v W => ta_aa v W
          have hok := aff12 l0 l1 1 f1 f2 at_ (by omega)
          rw [← Hbw.out] at hok
          have Hok := Lib.hid hok
          clear hok
          go_upto_region 25 with (fail)
          have hAff : ∀ W, Below wr.heap.size wr W → AffIs W (.iface 117 (.agg #[.slice A7 (runesOf f1).length c7, .slice none 0 0])) (affOf ⟨1, f1, f2, at_⟩) := fun W hb => .inl ⟨by unfold affOf; dsimp only; omega, A7, c7, runesOf f1, none, 0, [], rfl, Kd.C_below HC7.out hb, Kd.C_nil _ _, rfl, rfl⟩
          have HAff := Lib.hid hAff
          clear hAff
          cases bw with
          | false =>
            go_wp2_with fail
            go_ret2
            exact madePost_mk (by rw [Hok.out]; rfl) (fun h => by cases h) (HB1.out.alloc HB1.out.size _)
          | true =>
            by_cases ha : at_ = 0
            · by_cases hz : f2.size = 0
              · have hz2 : (runesOf f2).length = 0 := Hn2.out.2 hz
                have Hz := Lib.hid hz
                have hz3 : (((runesOf f2).length : Int) == 0) = true := by simp [hz2]
                clear hz
                subst ha
                go_wp2_with fail
                go_ret2
                exact madePost_mk (by rw [Hok.out, Hz.out]; rfl) (fun _ => HAff.out _ ((Below.refl _ _).alloc (Nat.le_refl _) _)) (HB1.out.alloc HB1.out.size _)
              · have hz2 : ¬ (runesOf f2).length = 0 := fun h => hz (Hn2.out.1 h)
                have Hz := Lib.hid hz
                have hz3 : (((runesOf f2).length : Int) == 0) = false := beq_eq_false_iff_ne.mpr (by omega)
                clear hz
                subst ha
                go_wp2_with fail
                go_ret2
                exact madePost_mk (by rw [Hok.out, decide_eq_false Hz.out]; rfl) (fun h => by cases h) (HB1.out.alloc HB1.out.size _)
            · have Ha := Lib.hid (decide_eq_false ha)
              have ha2 : (at_ == 0) = false := beq_eq_false_iff_ne.mpr ha
              clear ha
              go_wp2_with fail
              go_ret2
              exact madePost_mk (by rw [Hok.out, Ha.out]; rfl) (fun h => by cases h) (HB1.out.alloc HB1.out.size _)
        by_cases k2 : kd = 2
        · subst k2
          have hta := fun v W => ta_aa v W
          have hok := aff12 l0 l1 2 f1 f2 at_ (by omega)
          rw [← Hbw.out] at hok
          have Hok := Lib.hid hok
          clear hok
          go_upto_region 25 with (fail)
          have hAff : ∀ W, Below wr.heap.size wr W → AffIs W (.iface 117 (.agg #[.slice none 0 0, .slice A7 (runesOf f1).length c7])) (affOf ⟨2, f1, f2, at_⟩) := fun W hb => .inl ⟨by unfold affOf; dsimp only; omega, none, 0, [], A7, c7, runesOf f1, rfl, Kd.C_nil _ _, Kd.C_below HC7.out hb, rfl, rfl⟩
          have HAff := Lib.hid hAff
          clear hAff
          cases bw with
          | false =>
            go_wp2_with fail
            go_ret2
            exact madePost_mk (by rw [Hok.out]; rfl) (fun h => by cases h) (HB1.out.alloc HB1.out.size _)
          | true =>
            by_cases ha : at_ = 0
            · by_cases hz : f2.size = 0
              · have hz2 : (runesOf f2).length = 0 := Hn2.out.2 hz
                have Hz := Lib.hid hz
                have hz3 : (((runesOf f2).length : Int) == 0) = true := by simp [hz2]
                clear hz
                subst ha
                go_wp2_with fail
                go_ret2
                exact madePost_mk (by rw [Hok.out, Hz.out]; rfl) (fun _ => HAff.out _ ((Below.refl _ _).alloc (Nat.le_refl _) _)) (HB1.out.alloc HB1.out.size _)
              · have hz2 : ¬ (runesOf f2).length = 0 := fun h => hz (Hn2.out.1 h)
                have Hz := Lib.hid hz
                have hz3 : (((runesOf f2).length : Int) == 0) = false := beq_eq_false_iff_ne.mpr (by omega)
                clear hz
                subst ha
                go_wp2_with fail
                go_ret2
                exact madePost_mk (by rw [Hok.out, decide_eq_false Hz.out]; rfl) (fun h => by cases h) (HB1.out.alloc HB1.out.size _)
            · have Ha := Lib.hid (decide_eq_false ha)
              have ha2 : (at_ == 0) = false := beq_eq_false_iff_ne.mpr ha
              clear ha
              go_wp2_with fail
              go_ret2
              exact madePost_mk (by rw [Hok.out, Ha.out]; rfl) (fun h => by cases h) (HB1.out.alloc HB1.out.size _)
        by_cases k3 : kd = 3
        · subst k3
          have hta := fun v W => ta_aa v W
          have hok := aff3 l0 l1 f1 f2 at_
          rw [← Hbw.out] at hok
          have Hok := Lib.hid hok
          clear hok
          go_upto_region 25 with (fail)
          have hAff : ∀ W, Below wr.heap.size wr W → AffIs W (.iface 117 (.agg #[.slice A7 (runesOf f1).length c7, .slice A8 (runesOf f2).length c8])) (affOf ⟨3, f1, f2, at_⟩) := fun W hb => .inl ⟨by unfold affOf; dsimp only; omega, A7, c7, runesOf f1, A8, c8, runesOf f2, rfl, Kd.C_below HC7.out hb, Kd.C_below HC8.out hb, rfl, rfl⟩
          have HAff := Lib.hid hAff
          clear hAff
          cases bw with
          | false =>
            go_wp2_with fail
            go_ret2
            exact madePost_mk (by rw [Hok.out]; rfl) (fun h => by cases h) (HB1.out.alloc HB1.out.size _)
          | true =>
            by_cases ha : at_ = 0
            · subst ha
              go_wp2_with fail
              go_ret2
              exact madePost_mk (by rw [Hok.out]; rfl) (fun _ => HAff.out _ ((Below.refl _ _).alloc (Nat.le_refl _) _)) (HB1.out.alloc HB1.out.size _)
            · have Ha := Lib.hid (decide_eq_false ha)
              have ha2 : (at_ == 0) = false := beq_eq_false_iff_ne.mpr ha
              clear ha
              go_wp2_with fail
              go_ret2
              exact madePost_mk (by rw [Hok.out, Ha.out]; rfl) (fun h => by cases h) (HB1.out.alloc HB1.out.size _)
        by_cases k4 : kd = 4
        · subst k4
          have hta := fun v W => ta_wa v W
          have htb := fun v W => ta_ww v W
          have hok := aff4 l0 l1 f1 f2 at_
          rw [← Hbw.out] at hok
          obtain ⟨pb, hpb⟩ : ∃ pb, pb = placeB at_ := ⟨_, rfl⟩
          rw [← hpb] at hok ⊢
          have Hok := Lib.hid hok
          have Hpb := Lib.hid hpb
          clear hok hpb
          go_upto_region 28 with (fail)
          cases bw with
          | false =>
            go_wp2_with fail
            go_ret2
            exact madePost_mk (by rw [Hok.out]; rfl) (fun h => by cases h) (HB1.out.alloc HB1.out.size _)
          | true =>
            cases pb with
            | false =>
              go_wp2_with fail
              go_ret2
              exact madePost_mk (by rw [Hok.out]; rfl) (fun h => by cases h) (HB1.out.alloc HB1.out.size _)
            | true =>
              by_cases hz : f2.size = 0
              · have hz2 : (runesOf f2).length = 0 := Hn2.out.2 hz
                have Hz := Lib.hid hz
                have hz3 : (((runesOf f2).length : Int) == 0) = true := by simp [hz2]
                clear hz
                go_wp2_with fail
                go_ret2
                have hp : ((at_.toNat : Nat) : Int) = at_ := by have := Hpb.out.symm; unfold placeB at this; simp at this; omega
                refine madePost_mk (by rw [Hok.out, Hz.out]; rfl) (fun _ => .inr (.inl ⟨rfl, A7, c7, ?_, Kd.C_below HC7.out ((Below.refl _ _).alloc (Nat.le_refl _) _)⟩)) (HB1.out.alloc HB1.out.size _)
                unfold affOf
                dsimp only
                rw [hp]
                rfl
              · have hz2 : ¬ (runesOf f2).length = 0 := fun h => hz (Hn2.out.1 h)
                have Hz := Lib.hid hz
                have hz3 : (((runesOf f2).length : Int) == 0) = false := beq_eq_false_iff_ne.mpr (by omega)
                clear hz
                go_wp2_with fail
                go_ret2
                exact madePost_mk (by rw [Hok.out, decide_eq_false Hz.out]; rfl) (fun h => by cases h) (HB1.out.alloc HB1.out.size _)
        by_cases k5 : kd = 5
        · subst k5
          have hta := fun v W => ta_sa v W
          have htb := fun v W => ta_sw v W
          have htc := fun v W => ta_ss v W
          have hok := aff5 l0 l1 f1 f2 at_
          obtain ⟨ck, hck⟩ : ∃ ck, ck = chkS l0 l1 noB f1 := ⟨_, rfl⟩
          rw [← hck] at hok hrc
          have Hok := Lib.hid hok
          clear hok hck
          go_upto_region 31 with (go_at_call 61; refine (hrc _ HB1.out).mono ?_; rintro e w1 ⟨rfl, hb⟩; have HB2 := Lib.hid (below_step HB1.out hb); have Hb := Lib.hid hb; have BX2 := Lib.hid (blk_below BX1.out hb); clear hb hrc ha0 ha1 hx0 hx1 hx2 hx3 hq0 hq1 hq2 hq3; have hq0 := fun o => (blk_cell (blk_alloc BX2.out o) 0).trans rfl; have hq1 := fun o => (blk_cell (blk_alloc BX2.out o) 1).trans rfl; have hq2 := fun o => (blk_cell (blk_alloc BX2.out o) 2).trans rfl; have hq3 := fun o => (blk_cell (blk_alloc BX2.out o) 3).trans rfl)
          have hAff : ∀ n, AffIs ((w1.alloc (.cells #[.slice A7 (runesOf f1).length c7] 121)).drewN n) (.iface 121 (.agg #[.slice A7 (runesOf f1).length c7])) (affOf ⟨5, f1, f2, at_⟩) := fun n => .inr (.inr (.inl ⟨rfl, A7, c7, rfl, Kd.C_below HC7.out (pw_below_drewN (Hb.out.alloc Hb.out.size _) n)⟩))
          have HAff := Lib.hid hAff
          have HB3 := Lib.hid (HB2.out.alloc HB2.out.size (.cells #[.slice A7 (runesOf f1).length c7] 121))
          clear hAff
          by_cases hc : ck = 0
          · subst hc
            by_cases hz : f2.size = 0
            · have hz2 : f2 = ⟨#[]⟩ := ba_empty hz
              subst hz2
              clear hz
              by_cases ha : at_ = 0
              · subst ha
                go_quiet (fail)
                go_wp2_with fail
                go_ret2
                exact madePost_mk (by rw [Hok.out]; rfl) (fun _ => HAff.out _) (pw_below_drewN HB3.out _)
              · have Ha := Lib.hid (decide_eq_false ha)
                have ha2 : (at_ == 0) = false := beq_eq_false_iff_ne.mpr ha
                clear ha
                go_quiet (fail)
                go_wp2_with fail
                go_ret2
                exact madePost_mk (by rw [Hok.out, Ha.out]; rfl) (fun h => by cases h) (pw_below_drewN HB3.out _)
            · have Hz := Lib.hid (decide_eq_false hz)
              have hz3 := ba_full hz
              clear hz
              go_quiet (fail)
              go_wp2_with fail
              go_ret2
              exact madePost_mk (by rw [Hok.out, Hz.out]; rfl) (fun h => by cases h) (pw_below_drewN HB3.out _)
          · have Hc := Lib.hid (decide_eq_false hc)
            have hc2 : (ck == 0) = false := beq_eq_false_iff_ne.mpr hc
            clear hc
            go_quiet (fail)
            go_wp2_with fail
            go_ret2
            exact madePost_mk (by rw [Hok.out, Hc.out]; rfl) (fun h => by cases h) (pw_below_drewN HB3.out _)
        by_cases k6 : kd = 6
        · subst k6
          have hta := fun v W => ta_da v W
          have htb := fun v W => ta_dw v W
          have htc := fun v W => ta_ds v W
          have htd := fun v W => ta_dd v W
          have hok := aff6 l0 l1 f1 f2 at_
          obtain ⟨pb, hpb⟩ : ∃ pb, pb = placeB at_ := ⟨_, rfl⟩
          rw [← hpb] at hok ⊢
          have Hok := Lib.hid hok
          have Hpb := Lib.hid hpb
          clear hok hpb
          go_upto_region 34 with (fail)
          have hAff : ∀ n, placeB at_ = true → AffIs ((wr.alloc (.cells #[.int .i64 at_] 124)).drewN n) (.iface 124 (.agg #[.int .i64 at_])) (affOf ⟨6, f1, f2, at_⟩) := fun n hp => .inr (.inr (.inr ⟨rfl, by
            have hp : ((at_.toNat : Nat) : Int) = at_ := by unfold placeB at hp; simp at hp; omega
            unfold affOf
            dsimp only
            rw [hp]⟩))
          have HAff := Lib.hid hAff
          have HB3 := Lib.hid (HB1.out.alloc HB1.out.size (.cells #[.int .i64 at_] 124))
          clear hAff
          cases pb with
          | false =>
            go_quiet (fail)
            go_wp2_with fail
            go_ret2
            exact madePost_mk (by rw [Hok.out]; rfl) (fun h => by cases h) (pw_below_drewN HB3.out _)
          | true =>
            by_cases hy : f1.size = 0
            · have hy2 : f1 = ⟨#[]⟩ := ba_empty hy
              subst hy2
              clear hy
              by_cases hz : f2.size = 0
              · have hz2 : f2 = ⟨#[]⟩ := ba_empty hz
                subst hz2
                clear hz
                go_quiet (fail)
                go_wp2_with fail
                go_ret2
                exact madePost_mk (by rw [Hok.out]; rfl) (fun _ => HAff.out _ Hpb.out.symm) (pw_below_drewN HB3.out _)
              · have Hz := Lib.hid (decide_eq_false hz)
                have hz3 := ba_full hz
                clear hz
                go_quiet (fail)
                go_wp2_with fail
                go_ret2
                exact madePost_mk (by rw [Hok.out, Hz.out]; rfl) (fun h => by cases h) (pw_below_drewN HB3.out _)
            · have Hy := Lib.hid (decide_eq_false hy)
              have hz3 := ba_full hy
              clear hy
              go_quiet (fail)
              go_wp2_with fail
              go_ret2
              exact madePost_mk (by rw [Hok.out, Hy.out]; rfl) (fun h => by cases h) (pw_below_drewN HB3.out _)
        have Hok := Lib.hid (aff0 l0 l1 kd f1 f2 at_ ⟨k1, k2, k3, k4, k5, k6⟩)
        have e1 : (kd == 1) = false := beq_eq_false_iff_ne.mpr k1
        have e2 : (kd == 2) = false := beq_eq_false_iff_ne.mpr k2
        have e3 : (kd == 3) = false := beq_eq_false_iff_ne.mpr k3
        have e4 : (kd == 4) = false := beq_eq_false_iff_ne.mpr k4
        have e5 : (kd == 5) = false := beq_eq_false_iff_ne.mpr k5
        have e6 : (kd == 6) = false := beq_eq_false_iff_ne.mpr k6
        clear k1 k2 k3 k4 k5 k6
        go_wp2_with fail
        go_ret2
        exact madePost_mk (by rw [Hok.out]) (fun h => by cases h) HB1.out
end Go.Proofs.YthmjheclhcdinaaDoor.Ext
end
section
-- printed by a program of this session (wip/tools/prx.sh: a turned copy of the kit's print, with functions given from outside)
namespace Go.Proofs.YthmjheclhcdinaaDoor.RF3
open Go.RowKit Go.Proofs.YthmjheclhcdinaaDoor Go.Proofs.YthmjheclhcdinaaDoor.Ext Go.Proofs.YthmjheclhcdinaaDoorW.PrintWords Go.Proofs.YthmjheclhcdinaaDoorW.PrintLast Go.Proofs.YthmjheclhcdinaaDoorW.PrintMore
attribute [local go_sem] max2_int min2_int max_two min_two max_three min_three max_four min_four   -- for this text's walks alone
set_option linter.unusedVariables false
set_option linter.unusedSimpArgs false



end Go.Proofs.YthmjheclhcdinaaDoor.RF3
end
section
-- printed by a program of this session (wip/tools/prx.sh: a turned copy of the kit's print, with functions given from outside)
namespace Go.Proofs.YthmjheclhcdinaaDoor.RF3
open Go.RowKit Go.Proofs.YthmjheclhcdinaaDoor Go.Proofs.YthmjheclhcdinaaDoor.Ext Go.Proofs.YthmjheclhcdinaaDoorW.PrintWords Go.Proofs.YthmjheclhcdinaaDoorW.PrintLast Go.Proofs.YthmjheclhcdinaaDoorW.PrintMore
attribute [local go_sem] max2_int min2_int max_two min_two max_three min_three max_four min_four   -- for this text's walks alone
set_option linter.unusedVariables false
set_option linter.unusedSimpArgs false

/-! ### slices_Equal_rune_rune: function 64 -/
def slices_Equal_rune_rune.l0 : Nat → List Int → List Int → Int → Int → Option (Bool)
  | 0, _, _, _, _ => none
  | k + 1, x0, x1, x12, x13 => if x13 < x12 then (if 0 ≤ x13 then (if x13 < (x0.length : Int) then (if x13 < (x1.length : Int) then (if (rd x0 x13) = (rd x1 x13) then (slices_Equal_rune_rune.l0 k x0 x1 x12 (wrap64 (x13 + 1))) else (some false)) else (none)) else (none)) else (none)) else (some true)
def slices_Equal_rune_rune.f (k : Nat) (l0 : List Int) (l1 : List Int) : Option (Bool) := if (l0.length : Int) = (l1.length : Int) then (slices_Equal_rune_rune.l0 k l0 l1 (l0.length : Int) 0) else (some false)
set_option maxHeartbeats 8000000 in
set_option maxRecDepth 100000 in
theorem slices_Equal_rune_rune.calls (k : Nat) (A0 : Option Addr) (c0 : Nat) (l0 : List Int) (A1 : Option Addr) (c1 : Nat) (l1 : List Int) (r : Bool) (w : World) (hr0 : Kd.C (Kd.int .i32) w A0 l0.length l0) (hc0 : l0.length ≤ c0) (hr1 : Kd.C (Kd.int .i32) w A1 l1.length l1) (hc1 : l1.length ≤ c1) (h : slices_Equal_rune_rune.f k l0 l1 = some r) :
    Calls Tryd.prog 64 #[.slice A0 l0.length c0, .slice A1 l1.length c1] w fun e w' => e = .returned (.bool r) ∧ Drawn0 w w' := by
  have HR0 := Aside0.mk hr0
  have HC0 := Aside0.mk hc0
  clear hr0 hc0
  have HR1 := Aside0.mk hr1
  have HC1 := Aside0.mk hc1
  clear hr1 hc1
  have H : (if (l0.length : Int) = (l1.length : Int) then (slices_Equal_rune_rune.l0 k l0 l1 (l0.length : Int) 0) else (some false)) = some r := h
  clear h
  by_cases c3 : (l0.length : Int) = (l1.length : Int)
  · rw [if_pos c3] at H
    have c3b0 : ((l0.length : Int) == (l1.length : Int)) = true := beq_iff_eq.mpr c3
    have c3b1 : ((l0.length : Int) != (l1.length : Int)) = false := bne_eq_false_iff_eq.mpr c3
    have c3b2 : (l0.length == l1.length) = true := by first | simpa using c3 | (simp at c3 ⊢; omega)
    clear c3
    have H' := Aside0.mk H
    clear H
    go_enter Tryd.func64, Tryd.ntmps64
    go_wp2
    repeat (go_quiet (fail); try go_wp2)
    go_loopg [13] k (fun kq v13 w' => ∃ (x13_1 : Int), v13 = .int .i64 x13_1 ∧ Aside0 (slices_Equal_rune_rune.l0 kq l0 l1 (l0.length : Int) x13_1 = some r) ∧ Aside0 (kq ≤ k) ∧ Drawn0 w w')
    case atStart => exact ⟨(0), (by first | rfl | (simp; done) | (simp [*]; done)), H', ⟨Nat.le_refl _⟩, by repeat (first | exact Drawn0.refl _ | apply Drawn0.step)⟩
    case round =>
      clear H'
      try clear c1
      try clear p2
      try clear c3
      try clear c3b0
      try clear c3b1
      try clear c3b2
      obtain ⟨x13_1, rfl, HA, HK1, ⟨m1, rfl⟩⟩ := hrel
      cases gk with
      | zero => exact absurd HA.out (by simp [slices_Equal_rune_rune.l0])
      | succ k1 =>
        have H := HA.out
        clear HA
        simp only [slices_Equal_rune_rune.l0] at H
        by_cases c4 : x13_1 < (l0.length : Int)
        · rw [if_pos c4] at H
          have c4b0 : decide (x13_1 < (l0.length : Int)) = true := decide_eq_true c4
          clear c4
          by_cases c5 : 0 ≤ x13_1
          · rw [if_pos c5] at H
            have c5b0 : decide (0 ≤ x13_1) = true := decide_eq_true c5
            clear c5
            by_cases c6 : x13_1 < (l0.length : Int)
            · rw [if_pos c6] at H
              have c6b0 : decide (x13_1 < (l0.length : Int)) = true := decide_eq_true c6
              clear c6
              by_cases c7 : x13_1 < (l1.length : Int)
              · rw [if_pos c7] at H
                have c7b0 : decide (x13_1 < (l1.length : Int)) = true := decide_eq_true c7
                clear c7
                by_cases c8 : (rd l0 x13_1) = (rd l1 x13_1)
                · rw [if_pos c8] at H
                  have c8b0 : ((rd l0 x13_1) == (rd l1 x13_1)) = true := beq_iff_eq.mpr c8
                  have c8b1 : ((rd l0 x13_1) != (rd l1 x13_1)) = false := bne_eq_false_iff_eq.mpr c8
                  clear c8
                  have H' := Aside0.mk H
                  clear H
                  have p101 : 0 ≤ (x13_1 : Int) := of_decide_eq_true (by first | (with_reducible assumption) | assumption)
                  have q101 : x13_1 < (l0.length : Int) := of_decide_eq_true (by first | (with_reducible assumption) | assumption)
                  obtain ⟨ad101, e101, hx101_0⟩ := Kd.at_int HR0.out x13_1 p101 q101
                  cases e101
                  replace p101 := eq_true p101
                  replace q101 := eq_true q101
                  have p102 : 0 ≤ (x13_1 : Int) := of_decide_eq_true (by first | (with_reducible assumption) | assumption)
                  have q102 : x13_1 < (l1.length : Int) := of_decide_eq_true (by first | (with_reducible assumption) | assumption)
                  obtain ⟨ad102, e102, hx102_0⟩ := Kd.at_int HR1.out x13_1 p102 q102
                  cases e102
                  replace p102 := eq_true p102
                  replace q102 := eq_true q102
                  go_wp2
                  repeat (go_quiet (fail); try go_wp2)
                  go_roundg k1
                  case measure => have := HK1.out; omega
                  case rel => exact ⟨(wrap64 (x13_1 + 1)), (by first | rfl | (simp; done) | (simp [*]; done)), H', ⟨by have := HK1.out; omega⟩, by repeat (first | exact Drawn0.refl _ | apply Drawn0.step)⟩
                · rw [if_neg c8] at H
                  have c8b0 : ((rd l0 x13_1) == (rd l1 x13_1)) = false := beq_eq_false_iff_ne.mpr c8
                  have c8b1 : ((rd l0 x13_1) != (rd l1 x13_1)) = true := bne_iff_ne.mpr c8
                  obtain rfl := Option.some.inj H
                  have p101 : 0 ≤ (x13_1 : Int) := of_decide_eq_true (by first | (with_reducible assumption) | assumption)
                  have q101 : x13_1 < (l0.length : Int) := of_decide_eq_true (by first | (with_reducible assumption) | assumption)
                  obtain ⟨ad101, e101, hx101_0⟩ := Kd.at_int HR0.out x13_1 p101 q101
                  cases e101
                  replace p101 := eq_true p101
                  replace q101 := eq_true q101
                  have p102 : 0 ≤ (x13_1 : Int) := of_decide_eq_true (by first | (with_reducible assumption) | assumption)
                  have q102 : x13_1 < (l1.length : Int) := of_decide_eq_true (by first | (with_reducible assumption) | assumption)
                  obtain ⟨ad102, e102, hx102_0⟩ := Kd.at_int HR1.out x13_1 p102 q102
                  cases e102
                  replace p102 := eq_true p102
                  replace q102 := eq_true q102
                  go_wp2
                  repeat (go_quiet (fail); try go_wp2)
                  go_ret
                  exact ⟨by first | rfl | (simp; done) | (simp [*]; done), by repeat (first | exact Drawn0.refl _ | apply Drawn0.step)⟩
              · rw [if_neg c7] at H
                exact absurd H (by simp)
            · rw [if_neg c6] at H
              exact absurd H (by simp)
          · rw [if_neg c5] at H
            exact absurd H (by simp)
        · rw [if_neg c4] at H
          have c4b0 : decide (x13_1 < (l0.length : Int)) = false := decide_eq_false c4
          clear c4
          obtain rfl := Option.some.inj H
          go_wp2
          repeat (go_quiet (fail); try go_wp2)
          go_ret
          exact ⟨by first | rfl | (simp; done) | (simp [*]; done), by repeat (first | exact Drawn0.refl _ | apply Drawn0.step)⟩
  · rw [if_neg c3] at H
    have c3b0 : ((l0.length : Int) == (l1.length : Int)) = false := beq_eq_false_iff_ne.mpr c3
    have c3b1 : ((l0.length : Int) != (l1.length : Int)) = true := bne_iff_ne.mpr c3
    have c3b2 : (l0.length == l1.length) = false := by first | simpa using c3 | (simp at c3 ⊢; omega)
    obtain rfl := Option.some.inj H
    go_enter Tryd.func64, Tryd.ntmps64
    go_wp2
    repeat (go_quiet (fail); try go_wp2)
    go_ret
    exact ⟨by first | rfl | (simp; done) | (simp [*]; done), by repeat (first | exact Drawn0.refl _ | apply Drawn0.step)⟩

/-! ### slices_Index_rune_rune: function 83 -/
def slices_Index_rune_rune.l0 : Nat → List Int → Int → Int → Int → Option (Int)
  | 0, _, _, _, _ => none
  | k + 1, x0, x1, x7, x8 => if x8 < x7 then (if 0 ≤ x8 then (if x8 < (x0.length : Int) then (if x1 = (rd x0 x8) then (some x8) else (slices_Index_rune_rune.l0 k x0 x1 x7 (wrap64 (x8 + 1)))) else (none)) else (none)) else (some (-1))
def slices_Index_rune_rune.f (k : Nat) (l0 : List Int) (a1 : Int) : Option (Int) := slices_Index_rune_rune.l0 k l0 a1 (l0.length : Int) 0
set_option maxHeartbeats 8000000 in
set_option maxRecDepth 100000 in
theorem slices_Index_rune_rune.calls (k : Nat) (A0 : Option Addr) (c0 : Nat) (l0 : List Int) (a1 : Int) (r : Int) (w : World) (hr0 : Kd.C (Kd.int .i32) w A0 l0.length l0) (hc0 : l0.length ≤ c0) (h : slices_Index_rune_rune.f k l0 a1 = some r) :
    Calls Tryd.prog 83 #[.slice A0 l0.length c0, .int .i32 a1] w fun e w' => e = .returned (.int .i64 r) ∧ Drawn0 w w' := by
  have HR0 := Aside0.mk hr0
  have HC0 := Aside0.mk hc0
  clear hr0 hc0
  have H : (slices_Index_rune_rune.l0 k l0 a1 (l0.length : Int) 0) = some r := h
  clear h
  have H' := Aside0.mk H
  clear H
  go_enter Tryd.func83, Tryd.ntmps83
  go_wp2
  go_loopg [8] k (fun kq v8 w' => ∃ (x8_1 : Int), v8 = .int .i64 x8_1 ∧ Aside0 (slices_Index_rune_rune.l0 kq l0 a1 (l0.length : Int) x8_1 = some r) ∧ Aside0 (kq ≤ k) ∧ Drawn0 w w')
  case atStart => exact ⟨(0), (by first | rfl | (simp; done) | (simp [*]; done)), H', ⟨Nat.le_refl _⟩, by repeat (first | exact Drawn0.refl _ | apply Drawn0.step)⟩
  case round =>
    clear H'
    try clear p2
    obtain ⟨x8_1, rfl, HA, HK1, ⟨m1, rfl⟩⟩ := hrel
    cases gk with
    | zero => exact absurd HA.out (by simp [slices_Index_rune_rune.l0])
    | succ k1 =>
      have H := HA.out
      clear HA
      simp only [slices_Index_rune_rune.l0] at H
      by_cases c3 : x8_1 < (l0.length : Int)
      · rw [if_pos c3] at H
        have c3b0 : decide (x8_1 < (l0.length : Int)) = true := decide_eq_true c3
        clear c3
        by_cases c4 : 0 ≤ x8_1
        · rw [if_pos c4] at H
          have c4b0 : decide (0 ≤ x8_1) = true := decide_eq_true c4
          clear c4
          by_cases c5 : x8_1 < (l0.length : Int)
          · rw [if_pos c5] at H
            have c5b0 : decide (x8_1 < (l0.length : Int)) = true := decide_eq_true c5
            clear c5
            by_cases c6 : a1 = (rd l0 x8_1)
            · rw [if_pos c6] at H
              have c6b0 : (a1 == (rd l0 x8_1)) = true := beq_iff_eq.mpr c6
              have c6b1 : (a1 != (rd l0 x8_1)) = false := bne_eq_false_iff_eq.mpr c6
              clear c6
              obtain rfl := Option.some.inj H
              have p103 : 0 ≤ (x8_1 : Int) := of_decide_eq_true (by first | (with_reducible assumption) | assumption)
              have q103 : x8_1 < (l0.length : Int) := of_decide_eq_true (by first | (with_reducible assumption) | assumption)
              obtain ⟨ad103, e103, hx103_0⟩ := Kd.at_int HR0.out x8_1 p103 q103
              cases e103
              replace p103 := eq_true p103
              replace q103 := eq_true q103
              go_wp2
              go_ret
              exact ⟨by first | rfl | (simp; done) | (simp [*]; done), by repeat (first | exact Drawn0.refl _ | apply Drawn0.step)⟩
            · rw [if_neg c6] at H
              have c6b0 : (a1 == (rd l0 x8_1)) = false := beq_eq_false_iff_ne.mpr c6
              have c6b1 : (a1 != (rd l0 x8_1)) = true := bne_iff_ne.mpr c6
              have H' := Aside0.mk H
              clear H
              have p103 : 0 ≤ (x8_1 : Int) := of_decide_eq_true (by first | (with_reducible assumption) | assumption)
              have q103 : x8_1 < (l0.length : Int) := of_decide_eq_true (by first | (with_reducible assumption) | assumption)
              obtain ⟨ad103, e103, hx103_0⟩ := Kd.at_int HR0.out x8_1 p103 q103
              cases e103
              replace p103 := eq_true p103
              replace q103 := eq_true q103
              go_wp2
              go_roundg k1
              case measure => have := HK1.out; omega
              case rel => exact ⟨(wrap64 (x8_1 + 1)), (by first | rfl | (simp; done) | (simp [*]; done)), H', ⟨by have := HK1.out; omega⟩, by repeat (first | exact Drawn0.refl _ | apply Drawn0.step)⟩
          · rw [if_neg c5] at H
            exact absurd H (by simp)
        · rw [if_neg c4] at H
          exact absurd H (by simp)
      · rw [if_neg c3] at H
        have c3b0 : decide (x8_1 < (l0.length : Int)) = false := decide_eq_false c3
        clear c3
        obtain rfl := Option.some.inj H
        go_wp2
        go_ret
        exact ⟨by first | rfl | (simp; done) | (simp [*]; done), by repeat (first | exact Drawn0.refl _ | apply Drawn0.step)⟩

/-! ### slices_Contains_rune_rune: function 68 -/
def slices_Contains_rune_rune.f (k : Nat) (l0 : List Int) (a1 : Int) : Option (Bool) := (slices_Index_rune_rune.f k l0 a1).bind fun t104 => (some (decide (t104 ≥ 0)))
set_option maxHeartbeats 8000000 in
set_option maxRecDepth 100000 in
theorem slices_Contains_rune_rune.calls (k : Nat) (A0 : Option Addr) (c0 : Nat) (l0 : List Int) (a1 : Int) (r : Bool) (w : World) (hr0 : Kd.C (Kd.int .i32) w A0 l0.length l0) (hc0 : l0.length ≤ c0) (h : slices_Contains_rune_rune.f k l0 a1 = some r) :
    Calls Tryd.prog 68 #[.slice A0 l0.length c0, .int .i32 a1] w fun e w' => e = .returned (.bool r) ∧ Drawn0 w w' := by
  have HR0 := Aside0.mk hr0
  have HC0 := Aside0.mk hc0
  clear hr0 hc0
  have H : ((slices_Index_rune_rune.f k l0 a1).bind fun t104 => (some (decide (t104 ≥ 0)))) = some r := h
  clear h
  replace H := Option.bind_eq_some_iff.mp H
  obtain ⟨t104, A30, H⟩ := H
  replace H : (some (decide (t104 ≥ 0))) = some r := H
  have A3 := Aside0.mk A30
  clear A30
  obtain rfl := Option.some.inj H
  go_enter Tryd.func68, Tryd.ntmps68
  go_wp2_with (first | ((with_reducible refine gate_callee (f := 83) rfl ?_); refine goesL_ (some 7) rfl rfl Tryd.func83 (by kernel_rfl) rfl #[.slice A0 l0.length c0, .int .i32 a1] rfl (by (try simp only [List.map_toArray, List.map_cons, List.map_nil]); first | done | rfl | (simp only [List.length_drop, List.length_take]; rfl)) ?_; (with_reducible refine (slices_Index_rune_rune.calls k _ _ l0 a1 t104 _ ?side1 ?side2 A3.out).mono ?_); (case side1 => repeat (first | exact HR0.out | (with_reducible refine Kd.C_alloc ?_ _) | (with_reducible refine Kd.C_drewN ?_ _) | (with_reducible refine Kd.C_drew ?_))); (case side2 => exact HC0.out); rintro e w' ⟨rfl, ⟨nd, rfl⟩⟩; refine ⟨_, rfl, ?_⟩))
  go_ret
  exact ⟨by first | rfl | (simp; done) | (simp [*]; done), by repeat (first | exact Drawn0.refl _ | apply Drawn0.step)⟩

end Go.Proofs.YthmjheclhcdinaaDoor.RF3
end
