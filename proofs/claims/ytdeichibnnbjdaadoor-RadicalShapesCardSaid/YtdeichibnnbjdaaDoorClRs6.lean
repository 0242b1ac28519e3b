/-
  RadicalShapes: of any alphabet, words, shape and list of shapes: what is merged, split, found by the program is the document's, and what comes in stays; no condition but that the tables of utf8 stand as their text lays them.
-/
import Derived.Test.YtdeichibnnbjdaaDoorClRs5
import Derived.Deep.RegionHeld3
import Derived.Deep.DeepCutAuto
import Derived.Deep.QuietTactic
import Derived.BigQuiet
section
/-
  RadicalShapes by a walk.
-/
set_option linter.unusedSimpArgs false
set_option linter.unusedVariables false
set_option linter.unusedSectionVars false
namespace Go.Proofs.YtdeichibnnbjdaaDoor
open Go.RowKit Go.Proofs.YtdeichibnnbjdaaDoorW.PrintWords Go.Proofs.YtdeichibnnbjdaaDoorW.PrintLast Go.Proofs.YtdeichibnnbjdaaDoorW.PrintMore Go.Proofs.YtdeichibnnbjdaaDoor.Ext
namespace SR
theorem allG_len (l0 : List ByteArray) (l1 : List Letter) (x : List Int) : ∀ (L : List Shape) (i : Nat) (rs : List ByteArray) (ns : List Int), rs.length = ns.length → (allG l0 l1 x L i rs ns).1.length = (allG l0 l1 x L i rs ns).2.1.length ∧ (allG l0 l1 x L i rs ns).1.length ≤ rs.length + L.length
  | [], i, rs, ns, h => by simp [allG, h]
  | s :: ss, i, rs, ns, h => by
    unfold allG
    split
    · split
      · have := allG_len l0 l1 x ss (i + 1) (rs ++ [runesBytes ‹List Int›]) (ns ++ [(i : Int)]) (by simp [h])
        simp only [List.length_append, List.length_cons, List.length_nil] at this ⊢
        omega
      · have := allG_len l0 l1 x ss (i + 1) rs ns h
        simp only [List.length_cons]
        omega
    · simp
theorem allOf_len (l0 : List ByteArray) (l1 : List Letter) (w : ByteArray) (L : List Shape) : (allOf l0 l1 w L).1.length = (allOf l0 l1 w L).2.1.length ∧ (allOf l0 l1 w L).1.length ≤ L.length := by
  unfold allOf
  split
  · split
    · simp
    · have := allG_len l0 l1 (lettersOf l0 l1 w).1 L 0 [] [] rfl
      simpa using this
  · simp
abbrev s77 : Shape := ⟨⟨#[55, 55]⟩, noB⟩
theorem K_to_M {W : World} {base : Nat} {okp : Nat → Prop} (x : Shape) (cs : List Value) (h : kShape.K W x cs) : kShape.M W base okp x cs := by
  obtain rfl := k32_open h
  exact k32_mkM W base okp x
theorem long_cases (l0 : List ByteArray) (l1 : List Letter) (r : ByteArray) (L : List Shape) : ∃ b, RRr.cognatelaw13_long.f l0 l1 r L = some b ∧ (b = false → l1.length ≤ 300 ∧ l0.length ≤ 60 ∧ r.size ≤ 3000 ∧ L.length ≤ 5000) := by
  unfold RRr.cognatelaw13_long.f
  by_cases a : (l1.length : Int) > 300
  · exact ⟨true, by rw [if_pos a], by simp⟩
  · by_cases b : (l0.length : Int) > 60
    · exact ⟨true, by rw [if_neg a, if_pos b], by simp⟩
    · by_cases c : (r.size : Int) > 3000
      · exact ⟨true, by rw [if_neg a, if_neg b, if_pos c], by simp⟩
      · by_cases d : (L.length : Int) > 300
        · by_cases e : (L.length : Int) ≤ 4096
          · exact ⟨true, by rw [if_neg a, if_neg b, if_neg c, if_pos d, if_pos e], by simp⟩
          · exact ⟨decide ((L.length : Int) > 5000), by rw [if_neg a, if_neg b, if_neg c, if_pos d, if_neg e], fun h => by have := of_decide_eq_false h; omega⟩
        · exact ⟨decide ((L.length : Int) > 5000), by rw [if_neg a, if_neg b, if_neg c, if_neg d], fun h => by have := of_decide_eq_false h; omega⟩
section
variable (A0 : Option Addr) (c0 : Nat) (l0 : List ByteArray) (A1 : Option Addr) (c1 : Nat) (l1 : List Letter) (root s n f : ByteArray) (A4 : Option Addr) (c4 : Nat) (L : List Shape) (w : World)
  (hF : Kd.C Kd.string w A0 l0.length l0) (hcF : l0.length ≤ c0) (hL : Kd.C kLetter w A1 l1.length l1) (hcL : l1.length ≤ c1) (hS : Kd.C kShape w A4 L.length L) (hcS : L.length ≤ c4) (hT : Tabs w) (hwf : wfA l1)
include hF hcF hL hcL hS hcS hT hwf
set_option maxHeartbeats 3000000 in
set_option maxRecDepth 100000 in
/-- The way on which things are larger than statements go through. -/
theorem large (hlong : RRr.cognatelaw13_long.f l0 l1 root L = some true ∨ (RRr.cognatelaw13_long.f l0 l1 root L = some false ∧ (s.size > 3000 ∨ f.size > 3000 ∨ n.size > 3000))) :
    Calls Tryd.prog 4 #[.agg #[.slice A0 l0.length c0, .slice A1 l1.length c1], .string root, .string s, .agg #[.string n, .string f], .slice A4 L.length c4] w fun e w' => e = .returned (.bool true) ∧ Below w.heap.size w w' := by
  have HX := Lib.hid (boxes2 w (.cells #[.slice A0 l0.length c0, .slice A1 l1.length c1] 25) (.cells #[.string n, .string f] 32))
  have hlc := fun b (hb : RRr.cognatelaw13_long.f l0 l1 root L = some b) W (h : Below w.heap.size w W) => RRr.cognatelaw13_long.calls A0 c0 l0 A1 c1 l1 root A4 c4 L b W (Kd.C_below hF h) hcF (Kd.C_below hL h) hcL (Kd.C_below hS h) hcS hb
  clear hF hL hS hT
  rcases hlong with hl | ⟨hl, hsz⟩
  · have hlc := hlc true hl
    clear hl
    go_enter Tryd.func4, Tryd.ntmps4
    go_wp2_with (go_at_call 7; refine (hlc _ HX.out.1).mono ?_; rintro e w1 ⟨rfl, hb⟩; have HB := Lib.hid (below_step HX.out.1 hb); clear hb)
    go_ret
    exact ⟨rfl, HB.out⟩
  · have hlc := hlc false hl
    clear hl
    rcases hsz with hs | hs | hs
    all_goals (have hd := decide_eq_true (show (3000 : Int) < _ from Int.ofNat_lt.2 hs))
    all_goals (by_cases h1 : s.size ≤ 3000 <;> by_cases h2 : f.size ≤ 3000)
    all_goals (try (exfalso; omega))
    all_goals
      first | (have e1 := decide_eq_false (show ¬ (3000 : Int) < (s.size : Int) by omega)) | (have e1 := decide_eq_true (show (3000 : Int) < (s.size : Int) by omega))
      first | (have e2 := decide_eq_false (show ¬ (3000 : Int) < (f.size : Int) by omega)) | (have e2 := decide_eq_true (show (3000 : Int) < (f.size : Int) by omega))
      clear h1 h2 hs
      go_enter Tryd.func4, Tryd.ntmps4
      go_wp2_with (go_at_call 7; refine (hlc _ HX.out.1).mono ?_; rintro e w1 ⟨rfl, hb⟩; have HB := Lib.hid (below_step HX.out.1 hb); have BS := Lib.hid (blk_below HX.out.2.2 hb); have hs0 := (blk_cell BS.out 0).trans rfl; have hs1 := (blk_cell BS.out 1).trans rfl; clear hb)
      go_ret
      exact ⟨rfl, HB.out⟩
set_option maxHeartbeats 6000000 in
set_option maxRecDepth 100000 in
/-- The way through. -/
theorem small (hlong : RRr.cognatelaw13_long.f l0 l1 root L = some false) (g1 : l1.length ≤ 300) (g0 : l0.length ≤ 60) (gr : root.size ≤ 3000) (gs : s.size ≤ 3000) (gf : f.size ≤ 3000) (gn : n.size ≤ 3000) (gL : L.length ≤ 5000) (hz : ∀ x ∈ L, sizedR x.f0 x.f1) :
    Calls Tryd.prog 4 #[.agg #[.slice A0 l0.length c0, .slice A1 l1.length c1], .string root, .string s, .agg #[.string n, .string f], .slice A4 L.length c4] w fun e w' => e = .returned (.bool true) ∧ Below w.heap.size w w' := by
  have hsm : smallA l0 l1 := ⟨by omega, by omega, hwf⟩
  have hsR : sizedR n f := ⟨by omega, by omega⟩
  have hHX := boxes2 w (.cells #[.slice A0 l0.length c0, .slice A1 l1.length c1] 25) (.cells #[.string n, .string f] 32)
  have HB := Lib.hid hHX.1
  have BA := Lib.hid hHX.2.1
  have BS := Lib.hid hHX.2.2
  clear hHX
  obtain ⟨m, e1, hm⟩ : ∃ m e1, mergeOf l0 l1 root n f = (m, e1) := ⟨_, _, rfl⟩
  obtain ⟨q, is, e2, hq⟩ : ∃ q is e2, splitOf l0 l1 s n f = (q, is, e2) := ⟨_, _, _, rfl⟩
  obtain ⟨rs, ns, e3, ha⟩ : ∃ rs ns e3, allOf l0 l1 s L = (rs, ns, e3) := ⟨_, _, _, rfl⟩
  have hlen := allOf_len l0 l1 s L
  rw [ha] at hlen
  dsimp only at hlen
  obtain ⟨hlen1, hlen2⟩ := hlen
  have hns : ns.length ≤ 5000 := by omega
  have hlc := fun W (h : Below w.heap.size w W) => RRr.cognatelaw13_long.calls A0 c0 l0 A1 c1 l1 root A4 c4 L false W (Kd.C_below hF h) hcF (Kd.C_below hL h) hcL (Kd.C_below hS h) hcS hlong
  have hmg := fun W (h : Below w.heap.size w W) => radical_Merge.calls A0 c0 l0 A1 c1 l1 root n f m e1 W (Kd.C_below hF h) hcF (Kd.C_below hL h) hcL (hT.below h) ((if_pos ⟨by omega, by omega⟩ : radical_Merge.f l0 l1 root n f = some (mergeOf l0 l1 root n f)).trans (by rw [hm]))
  have hmr := fun W (h : Below w.heap.size w W) => cognateref13_Merge.calls A0 c0 l0 A1 c1 l1 root n f m e1 W (Kd.C_below hF h) hcF (Kd.C_below hL h) hcL (hT.below h) ((if_pos ⟨hsm, by omega, hsR⟩ : cognateref13_Merge.f l0 l1 root n f = some (mergeOf l0 l1 root n f)).trans (by rw [hm]))
  have hsp := fun W (h : Below w.heap.size w W) => radical_Split.calls A0 c0 l0 A1 c1 l1 s n f q is e2 W (Kd.C_below hF h) hcF (Kd.C_below hL h) hcL (hT.below h) ((if_pos ⟨by omega, by omega⟩ : radical_Split.f l0 l1 s n f = some (splitOf l0 l1 s n f)).trans (by rw [hq]))
  have hsr := fun W (h : Below w.heap.size w W) => cognateref13_Split.calls A0 c0 l0 A1 c1 l1 s n f q is e2 W (Kd.C_below hF h) hcF (Kd.C_below hL h) hcL (hT.below h) ((if_pos ⟨hsm, by omega, hsR⟩ : cognateref13_Split.f l0 l1 s n f = some (splitOf l0 l1 s n f)).trans (by rw [hq]))
  have hal := fun W A c (h : Below w.heap.size w W) (hC : Kd.C kShape W A L.length L) (hc : L.length ≤ c) => radical_All.calls A0 c0 l0 A1 c1 l1 s A c L rs ns e3 W (Kd.C_below hF h) hcF (Kd.C_below hL h) hcL hC hc (hT.below h) ((if_pos (fun x hx => ⟨by have := hz x hx; unfold sizedR at this; omega, by have := hz x hx; unfold sizedR at this; omega⟩) : radical_All.f l0 l1 s L = some (allOf l0 l1 s L)).trans (by rw [ha]))
  have har := fun W (h : Below w.heap.size w W) => cognateref13_All.calls A0 c0 l0 A1 c1 l1 s A4 c4 L rs ns e3 W (Kd.C_below hF h) hcF (Kd.C_below hL h) hcL (Kd.C_below hS h) hcS (hT.below h) ((if_pos ⟨hsm, by omega, hz⟩ : cognateref13_All.f l0 l1 s L = some (allOf l0 l1 s L)).trans (by rw [ha]))
  have hsw := fun W A c A' c' (hC : Kd.C Kd.string W A rs.length rs) (hc : rs.length ≤ c) (hC' : Kd.C Kd.string W A' rs.length rs) (hc' : rs.length ≤ c') => cognateref03_SameWords.calls A c rs A' c' rs true W hC hc hC' hc' ((if_pos (by omega) : cognateref03_SameWords.f rs rs = some (decide (rs = rs))).trans (by simp))
  have hsi := fun W A c A' c' (hC : Kd.C (Kd.int .i64) W A ns.length ns) (hc : ns.length ≤ c) (hC' : Kd.C (Kd.int .i64) W A' ns.length ns) (hc' : ns.length ≤ c') => cognateref03_SameInts.calls A c ns A' c' ns true W hC hc hC' hc' ((if_pos (by omega) : cognateref03_SameInts.f ns ns = some (decide (ns = ns))).trans (by simp))
  have hck := fun W (h : Below w.heap.size w W) => radical_Check.calls A0 c0 l0 A1 c1 l1 n f (chkS l0 l1 n f) W (Kd.C_below hF h) hcF (Kd.C_below hL h) hcL (hT.below h) (if_pos ⟨by omega, by omega⟩)
  have hcr := fun W (h : Below w.heap.size w W) => cognateref13_Check.calls A0 c0 l0 A1 c1 l1 n f (chkS l0 l1 n f) W (Kd.C_below hF h) hcF (Kd.C_below hL h) hcL (if_pos ⟨hsm, hsR⟩)
  have hho := fun W => radical_Holes.calls n f ((f.data.toList.count 95 : Nat) : Int) W rfl
  have hhr := fun W => cognateref13_Holes.calls n f ((f.data.toList.count 95 : Nat) : Int) W (if_pos hsR)
  obtain ⟨ck, hckq⟩ : ∃ ck, ck = chkS l0 l1 n f := ⟨_, rfl⟩
  rw [← hckq] at hck hcr
  obtain ⟨nh, hnh⟩ : ∃ nh, nh = ((f.data.toList.count 95 : Nat) : Int) := ⟨_, rfl⟩
  rw [← hnh] at hho hhr
  have HSL := Lib.hid (fun W (h : Below w.heap.size w W) => Kd.C_below hS h)
  have Hgs := Lib.hid gs
  have ds := decide_eq_false (show ¬ (3000 : Int) < (s.size : Int) by omega)
  have df := decide_eq_false (show ¬ (3000 : Int) < (f.size : Int) by omega)
  have dn := decide_eq_false (show ¬ (3000 : Int) < (n.size : Int) by omega)
  have hKM := fun W base okp x cs h => K_to_M (W := W) (base := base) (okp := okp) x cs h
  have Hlen1 := Lib.hid hlen1
  clear hlen1
  clear hF hL hS hT hm hq ha hlong hsm hsR hz hckq hnh hwf
  go_enter Tryd.func4, Tryd.ntmps4
  go_upto_region 3 with (go_at_call 7; refine (hlc _ HB.out).mono ?_; rintro e w1 ⟨rfl, hb⟩; have HB' := Lib.hid (below_step HB.out hb); have BA' := Lib.hid (blk_below BA.out hb); have BS' := Lib.hid (blk_below BS.out hb); (try (have HI' := Lib.hid (Kd.C_below HI.out hb); clear HI; have HI := HI'; clear HI')); (try (have HRX' := Lib.hid (Kd.R_below HRX.out hb); have HRY' := Lib.hid (Kd.R_below HRY.out hb); clear HRX HRY; have HRX := HRX'; have HRY := HRY'; clear HRX' HRY')); clear HB BA BS hb; (try clear ha0 ha1 hs0 hs1); have HB := HB'; have BA := BA'; have BS := BS'; clear HB' BA' BS'; have ha0 := (blk_cell BA.out 0).trans rfl; have ha1 := (blk_cell BA.out 1).trans rfl; have hs0 := (blk_cell BS.out 0).trans rfl; have hs1 := (blk_cell BS.out 1).trans rfl)
  go_upto_region 6 with (first | ((with_reducible refine gate_dst (N := 53) rfl ?_); (refine Kd.R_append_rows (w0 := w1) kShape w1.heap.size rfl (.tmp 51) (.tmp 52) 40 32 _ _ rfl Tryd.underlying40 info32 (by decide) (by decide) (by decide) _ [] L A4 L.length c4 (fun _ => True) (fun _ => False) rfl rfl (Kd.R_nil _ _ _ _ _) (HSL.out _ HB.out) (fun x cs h => hKM _ _ _ x cs h) (fun _ h => h.elim) (fun _ _ => trivial) (Below.refl _ _) (Nat.le_refl _) (by simp; omega) ?_); intro v1 w2 HR1 hb1 hg1 hat1; have HR1' := Lib.hid HR1; have Hb1 := Lib.hid hb1; clear HR1 hb1 hg1 hat1) | ((with_reducible refine gate_dst (N := 57) rfl ?_); (refine Kd.R_append (w0 := w1) kShape w1.heap.size rfl (.tmp 54) (.tmp 56) 40 32 _ _ rfl Tryd.underlying40 info32 (by decide) (by decide) (by decide) _ L s77 _ (fun _ => True) (fun _ => False) rfl (by first | rfl | simp [Act.eval]) (k32_mkM _ _ _ s77) (fun _ h => h.elim) (fun _ _ => trivial) HR1'.out Hb1.out Hb1.out.size (by omega) ?_); intro v2 w3 HR2 hb hg2 hat2; obtain ⟨AI, cI, rfl, hlI, hCI⟩ := Kd.R_reads HR2; have HI := Lib.hid hCI; clear HR2 hg2 hat2 hCI))
  have HB' := Lib.hid (below_step HB.out hb); have BA' := Lib.hid (blk_below BA.out hb); have BS' := Lib.hid (blk_below BS.out hb); (try (have HI' := Lib.hid (Kd.C_below HI.out hb); clear HI; have HI := HI'; clear HI')); (try (have HRX' := Lib.hid (Kd.R_below HRX.out hb); have HRY' := Lib.hid (Kd.R_below HRY.out hb); clear HRX HRY; have HRX := HRX'; have HRY := HRY'; clear HRX' HRY')); clear HB BA BS hb; (try clear ha0 ha1 hs0 hs1); have HB := HB'; have BA := BA'; have BS := BS'; clear HB' BA' BS'; have ha0 := (blk_cell BA.out 0).trans rfl; have ha1 := (blk_cell BA.out 1).trans rfl; have hs0 := (blk_cell BS.out 0).trans rfl; have hs1 := (blk_cell BS.out 1).trans rfl
  go_upto_region 7 with (go_at_call 15; refine (hmg _ HB.out).mono ?_; rintro e w4 ⟨rfl, hb⟩; have HB' := Lib.hid (below_step HB.out hb); have BA' := Lib.hid (blk_below BA.out hb); have BS' := Lib.hid (blk_below BS.out hb); (try (have HI' := Lib.hid (Kd.C_below HI.out hb); clear HI; have HI := HI'; clear HI')); (try (have HRX' := Lib.hid (Kd.R_below HRX.out hb); have HRY' := Lib.hid (Kd.R_below HRY.out hb); clear HRX HRY; have HRX := HRX'; have HRY := HRY'; clear HRX' HRY')); clear HB BA BS hb; (try clear ha0 ha1 hs0 hs1); have HB := HB'; have BA := BA'; have BS := BS'; clear HB' BA' BS'; have ha0 := (blk_cell BA.out 0).trans rfl; have ha1 := (blk_cell BA.out 1).trans rfl; have hs0 := (blk_cell BS.out 0).trans rfl; have hs1 := (blk_cell BS.out 1).trans rfl)
  go_upto_region 8 with (go_at_call 16; refine (hmr _ HB.out).mono ?_; rintro e w5 ⟨rfl, hb⟩; have HB' := Lib.hid (below_step HB.out hb); have BA' := Lib.hid (blk_below BA.out hb); have BS' := Lib.hid (blk_below BS.out hb); (try (have HI' := Lib.hid (Kd.C_below HI.out hb); clear HI; have HI := HI'; clear HI')); (try (have HRX' := Lib.hid (Kd.R_below HRX.out hb); have HRY' := Lib.hid (Kd.R_below HRY.out hb); clear HRX HRY; have HRX := HRX'; have HRY := HRY'; clear HRX' HRY')); clear HB BA BS hb; (try clear ha0 ha1 hs0 hs1); have HB := HB'; have BA := BA'; have BS := BS'; clear HB' BA' BS'; have ha0 := (blk_cell BA.out 0).trans rfl; have ha1 := (blk_cell BA.out 1).trans rfl; have hs0 := (blk_cell BS.out 0).trans rfl; have hs1 := (blk_cell BS.out 1).trans rfl)
  go_upto_region 9 with (go_at_call 17; refine (hsp _ HB.out).mono ?_; rintro e w6 ⟨rfl, hb⟩; have HB' := Lib.hid (below_step HB.out hb); have BA' := Lib.hid (blk_below BA.out hb); have BS' := Lib.hid (blk_below BS.out hb); (try (have HI' := Lib.hid (Kd.C_below HI.out hb); clear HI; have HI := HI'; clear HI')); (try (have HRX' := Lib.hid (Kd.R_below HRX.out hb); have HRY' := Lib.hid (Kd.R_below HRY.out hb); clear HRX HRY; have HRX := HRX'; have HRY := HRY'; clear HRX' HRY')); clear HB BA BS hb; (try clear ha0 ha1 hs0 hs1); have HB := HB'; have BA := BA'; have BS := BS'; clear HB' BA' BS'; have ha0 := (blk_cell BA.out 0).trans rfl; have ha1 := (blk_cell BA.out 1).trans rfl; have hs0 := (blk_cell BS.out 0).trans rfl; have hs1 := (blk_cell BS.out 1).trans rfl)
  go_upto_region 10 with (go_at_call 18; refine (hsr _ HB.out).mono ?_; rintro e w7 ⟨rfl, hb⟩; have HB' := Lib.hid (below_step HB.out hb); have BA' := Lib.hid (blk_below BA.out hb); have BS' := Lib.hid (blk_below BS.out hb); (try (have HI' := Lib.hid (Kd.C_below HI.out hb); clear HI; have HI := HI'; clear HI')); (try (have HRX' := Lib.hid (Kd.R_below HRX.out hb); have HRY' := Lib.hid (Kd.R_below HRY.out hb); clear HRX HRY; have HRX := HRX'; have HRY := HRY'; clear HRX' HRY')); clear HB BA BS hb; (try clear ha0 ha1 hs0 hs1); have HB := HB'; have BA := BA'; have BS := BS'; clear HB' BA' BS'; have ha0 := (blk_cell BA.out 0).trans rfl; have ha1 := (blk_cell BA.out 1).trans rfl; have hs0 := (blk_cell BS.out 0).trans rfl; have hs1 := (blk_cell BS.out 1).trans rfl)
  have hcI : L.length ≤ cI := by simp at hlI; omega
  have hcI' : L.length + 1 ≤ cI := by simpa using hlI
  have hIL := fun W (h : Kd.C kShape W AI (L ++ [s77]).length (L ++ [s77])) => Kd.C_take (m := L.length) h (by simp)
  have htk : (L ++ [s77]).take L.length = L := List.take_left
  rw [htk] at hIL
  have HIL := Lib.hid hIL
  clear hIL htk
  go_cut [22, 23, 24] (fun s22 s23 s24 wq => s24 = .int .i64 e3 ∧ Hid (Kd.R Kd.string 9 wq w7.heap.size (fun _ => True) s22 rs) ∧ Hid (Kd.R (Kd.int .i64) 3 wq w7.heap.size (fun _ => True) s23 ns) ∧ Hid (Below w7.heap.size w7 wq))
  case first =>
    go_region_held3 (fun w' => w'.cell? ⟨w.heap.size, 0, none⟩ = some (.slice A0 l0.length c0) ∧ w'.cell? ⟨w.heap.size, 1, none⟩ = some (.slice A1 l1.length c1)) (go_keep)
      (first | (go_at_call 19; refine (hal _ _ _ (below_drew1 HB.out) (HIL.out _ (Kd.C_below HI.out (below_drew1 (Below.refl _ _)))) hcI).mono ?_; rintro e w8 ⟨v8, v9, rfl, hR8, hR9, hb⟩; have hyb : w8.heap[w.heap.size]? = _ := (hb.block w.heap.size (blk_lt BA.out)).trans BA.out; have hy0 := (blk_cell hyb 0).trans rfl; have hy1 := (blk_cell hyb 1).trans rfl; have HR8 := Lib.hid hR8; have HR9 := Lib.hid hR9; have HBr : Hid (Below w7.heap.size w7 w8) := below_step (below_drew1 (Below.refl _ _)) hb; clear hb hyb hR8 hR9))
    all_goals (go_wp2_with fail; go_meet; exact ⟨rfl, HR8.out, HR9.out, HBr.out⟩)
  case rest =>
    obtain ⟨rfl, HRX, HRY, hb⟩ := hcut
    obtain ⟨wq, rfl⟩ : ∃ wq : World, wq = wc := ⟨_, rfl⟩
    have Hb7 := Lib.hid hb
    have HI7 := Lib.hid HI.out
    have HB7 := Lib.hid HB.out
    have BA7 := Lib.hid BA.out
    have BS7 := Lib.hid BS.out
    obtain ⟨A8, c8, rfl⟩ := Kd.R_slice HRX.out
    obtain ⟨A9, c9, rfl⟩ := Kd.R_slice HRY.out
    have HgX := Lib.hid (Kd.R_lt HRX.out)
    have HgY := Lib.hid (Kd.R_lt HRY.out)
    have HB' := Lib.hid (below_step HB.out hb); have BA' := Lib.hid (blk_below BA.out hb); have BS' := Lib.hid (blk_below BS.out hb); (try (have HI' := Lib.hid (Kd.C_below HI.out hb); clear HI; have HI := HI'; clear HI')); (try (have HRX' := Lib.hid (Kd.R_below HRX.out hb); have HRY' := Lib.hid (Kd.R_below HRY.out hb); clear HRX HRY; have HRX := HRX'; have HRY := HRY'; clear HRX' HRY')); clear HB BA BS hb; (try clear ha0 ha1 hs0 hs1); have HB := HB'; have BA := BA'; have BS := BS'; clear HB' BA' BS'; have ha0 := (blk_cell BA.out 0).trans rfl; have ha1 := (blk_cell BA.out 1).trans rfl; have hs0 := (blk_cell BS.out 0).trans rfl; have hs1 := (blk_cell BS.out 1).trans rfl
    go_upto_region 12 with (go_at_call 20; refine (har _ HB.out).mono ?_; rintro e w10 ⟨u8, u9, rfl, hU8, hU9, hb⟩; have Hb10 := Lib.hid hb; have HB' := Lib.hid (below_step HB.out hb); have BA' := Lib.hid (blk_below BA.out hb); have BS' := Lib.hid (blk_below BS.out hb); (try (have HI' := Lib.hid (Kd.C_below HI.out hb); clear HI; have HI := HI'; clear HI')); (try (have HRX' := Lib.hid (Kd.R_below HRX.out hb); have HRY' := Lib.hid (Kd.R_below HRY.out hb); clear HRX HRY; have HRX := HRX'; have HRY := HRY'; clear HRX' HRY')); clear HB BA BS hb; (try clear ha0 ha1 hs0 hs1); have HB := HB'; have BA := BA'; have BS := BS'; clear HB' BA' BS'; have ha0 := (blk_cell BA.out 0).trans rfl; have ha1 := (blk_cell BA.out 1).trans rfl; have hs0 := (blk_cell BS.out 0).trans rfl; have hs1 := (blk_cell BS.out 1).trans rfl; obtain ⟨A10, c10, rfl, hl10, hC10⟩ := Kd.R_reads hU8; obtain ⟨A11, c11, rfl, hl11, hC11⟩ := Kd.R_reads hU9; have HU8 := Lib.hid hC10; have HU9 := Lib.hid hC11; have HW8 := Lib.hid (Kd.R_bound hU8); have HW9 := Lib.hid (Kd.R_bound hU9); clear hU8 hU9 hC10 hC11)
    have HV8 := Lib.hid (Kd.R_mono (ok' := fun k => wq.heap.size ≤ k) HW8.out (fun k hk => hk.2.1))
    have HV9 := Lib.hid (Kd.R_mono (ok' := fun k => wq.heap.size ≤ k) HW9.out (fun k hk => hk.2.1))
    clear HW8 HW9
    have hc8 := (Kd.R_reads' HRX.out).2.1
    have hc9 := (Kd.R_reads' HRY.out).2.1
    have HX10 := Lib.hid (Kd.R_reads' HRX.out).2.2
    have HY10 := Lib.hid (Kd.R_reads' HRY.out).2.2
    go_cut [162] (fun s162 wc => s162 = .bool false ∧ Hid (Below w10.heap.size w10 wc))
    case first =>
      go_region_held3 (fun w' => w'.cell? ⟨w.heap.size, 0, none⟩ = some (.slice A0 l0.length c0) ∧ w'.cell? ⟨w.heap.size, 1, none⟩ = some (.slice A1 l1.length c1) ∧ w'.cell? ⟨w.heap.size + 1, 0, none⟩ = some (.string n) ∧ w'.cell? ⟨w.heap.size + 1, 1, none⟩ = some (.string f)) (go_keep)
        (first | (go_at_call 21; refine (hsw _ _ _ _ _ (Kd.C_below HX10.out (below_drew1 (Below.refl _ _))) hc8 (Kd.C_below HU8.out (below_drew1 (Below.refl _ _))) hl10).mono ?_; rintro e w11 ⟨rfl, hb⟩; have HW : Hid (Below w10.heap.size w10 w11) := below_step (below_drew1 (Below.refl _ _)) hb; clear hb; (try clear hy0 hy1 hy2 hy3); have BA' := blk_below BA.out HW.out; have BS' := blk_below BS.out HW.out; have hy0 := (blk_cell BA' 0).trans rfl; have hy1 := (blk_cell BA' 1).trans rfl; have hy2 := (blk_cell BS' 0).trans rfl; have hy3 := (blk_cell BS' 1).trans rfl; clear BA' BS') | (go_at_call 14; refine (hsi _ _ _ _ _ (Kd.C_below HY10.out HW.out) hc9 (Kd.C_below HU9.out HW.out) hl11).mono ?_; rintro e w12 ⟨rfl, hb⟩; have HW' := Lib.hid (below_step HW.out hb); clear HW hb; have HW := HW'; clear HW'; (try clear hy0 hy1 hy2 hy3); have BA' := blk_below BA.out HW.out; have BS' := blk_below BS.out HW.out; have hy0 := (blk_cell BA' 0).trans rfl; have hy1 := (blk_cell BA' 1).trans rfl; have hy2 := (blk_cell BS' 0).trans rfl; have hy3 := (blk_cell BS' 1).trans rfl; clear BA' BS') | (go_at_call 22; refine (hck _ (below_step HB.out HW.out)).mono ?_; rintro e w13 ⟨rfl, hb⟩; have HW' := Lib.hid (below_step HW.out hb); clear HW hb; have HW := HW'; clear HW'; (try clear hy0 hy1 hy2 hy3); have BA' := blk_below BA.out HW.out; have BS' := blk_below BS.out HW.out; have hy0 := (blk_cell BA' 0).trans rfl; have hy1 := (blk_cell BA' 1).trans rfl; have hy2 := (blk_cell BS' 0).trans rfl; have hy3 := (blk_cell BS' 1).trans rfl; clear BA' BS') | (go_at_call 23; refine (hcr _ (below_step HB.out HW.out)).mono ?_; rintro e w14 ⟨rfl, hb⟩; have HW' := Lib.hid (below_step HW.out hb); clear HW hb; have HW := HW'; clear HW'; (try clear hy0 hy1 hy2 hy3); have BA' := blk_below BA.out HW.out; have BS' := blk_below BS.out HW.out; have hy0 := (blk_cell BA' 0).trans rfl; have hy1 := (blk_cell BA' 1).trans rfl; have hy2 := (blk_cell BS' 0).trans rfl; have hy3 := (blk_cell BS' 1).trans rfl; clear BA' BS') | (go_at_call 24; refine (hho _).mono ?_; rintro e w15 ⟨rfl, hb⟩; have HW' := Lib.hid (below_step HW.out hb); clear HW hb; have HW := HW'; clear HW'; (try clear hy0 hy1 hy2 hy3); have BA' := blk_below BA.out HW.out; have BS' := blk_below BS.out HW.out; have hy0 := (blk_cell BA' 0).trans rfl; have hy1 := (blk_cell BA' 1).trans rfl; have hy2 := (blk_cell BS' 0).trans rfl; have hy3 := (blk_cell BS' 1).trans rfl; clear BA' BS') | (go_at_call 25; refine (hhr _).mono ?_; rintro e w16 ⟨rfl, hb⟩; have HW' := Lib.hid (below_step HW.out hb); clear HW hb; have HW := HW'; clear HW'; (try clear hy0 hy1 hy2 hy3); have BA' := blk_below BA.out HW.out; have BS' := blk_below BS.out HW.out; have hy0 := (blk_cell BA' 0).trans rfl; have hy1 := (blk_cell BA' 1).trans rfl; have hy2 := (blk_cell BS' 0).trans rfl; have hy3 := (blk_cell BS' 1).trans rfl; clear BA' BS'))
      all_goals (go_wp2_with fail; go_meet; exact ⟨rfl, HW.out⟩)
    case rest =>
      obtain ⟨rfl, hb⟩ := hcut
      have Hb12 := Lib.hid hb
      have HB' := Lib.hid (below_step HB.out hb); have BA' := Lib.hid (blk_below BA.out hb); have BS' := Lib.hid (blk_below BS.out hb); (try (have HI' := Lib.hid (Kd.C_below HI.out hb); clear HI; have HI := HI'; clear HI')); (try (have HRX' := Lib.hid (Kd.R_below HRX.out hb); have HRY' := Lib.hid (Kd.R_below HRY.out hb); clear HRX HRY; have HRX := HRX'; have HRY := HRY'; clear HRX' HRY')); clear HB BA BS hb; (try clear ha0 ha1 hs0 hs1); have HB := HB'; have BA := BA'; have BS := BS'; clear HB' BA' BS'; have ha0 := (blk_cell BA.out 0).trans rfl; have ha1 := (blk_cell BA.out 1).trans rfl; have hs0 := (blk_cell BS.out 0).trans rfl; have hs1 := (blk_cell BS.out 1).trans rfl
      have HV8' := Lib.hid (Kd.R_below HV8.out Hb12.out)
      have HV9' := Lib.hid (Kd.R_below HV9.out Hb12.out)
      have H7 := Lib.hid (below_step (below_step Hb7.out Hb10.out) Hb12.out)
      clear HV8 HV9 HU8 HU9 HX10 HY10
      go_wp2_with fail
      go_loopw [28] (fun i wr => ∃ (k : Nat) (X : List ByteArray) (Y : List Int), k ≤ rs.length ∧ i = .int .i64 k ∧ Hid (X.length = rs.length) ∧ Hid (Y.length = ns.length) ∧ Hid (Below w7.heap.size w7 wr) ∧ Hid (Kd.R Kd.string 9 wr w7.heap.size (fun _ => True) (.slice A8 rs.length c8) X) ∧ Hid (Kd.R (Kd.int .i64) 3 wr w7.heap.size (fun _ => True) (.slice A9 ns.length c9) Y) ∧
          Hid (Kd.R Kd.string 9 wr wq.heap.size (fun k => wq.heap.size ≤ k) (.slice A10 rs.length c10) rs) ∧ Hid (Kd.R (Kd.int .i64) 3 wr wq.heap.size (fun k => wq.heap.size ≤ k) (.slice A11 ns.length c11) ns))
        (fun i _ => rs.length - (intOf i).toNat)
      case atStart => exact ⟨0, rs, ns, Nat.zero_le _, rfl, rfl, rfl, H7.out, HRX.out, HRY.out, HV8'.out, HV9'.out⟩
      case round =>
        obtain ⟨k, X, Y, hk, rfl, hX, hY, hb, hRX, hRY, hV8, hV9⟩ := hrel
        by_cases hlt : k < rs.length
        · have hlt2 : k < ns.length := by have := Hlen1.out; omega
          obtain ⟨g, co, hv, hge, hgl, cells, hgc⟩ := Kd.R_form hRX.out (by have := hX.out; omega)
          injection hv with ha hn2 hco
          subst ha
          subst hco
          clear hn2
          obtain ⟨hx0, hf0⟩ := Kd.R_celln ByteArray.empty hRX.out (k : Int) (by omega) (by omega)
          have HPX := Lib.hid (Kd.R_putg hRX.out (k : Int) ⟨#[55, 55]⟩)
          rw [Int.toNat_natCast] at hx0 hf0 HPX
          have hgx := HgX.out g (by simp [Value.ownBlock])
          have hRY1 := Kd.R_set hRY.out hgc (by decide) k (.string ⟨#[55, 55]⟩)
          obtain ⟨g2, co2, hv2, hge2, hgl2, cells2, hgc2⟩ := Kd.R_form hRY1 (by have := hY.out; omega)
          injection hv2 with ha2 hn3 hco2
          subst ha2
          subst hco2
          clear hn3
          obtain ⟨hy0, hf1⟩ := Kd.R_celln 0 hRY1 (k : Int) (by omega) (by omega)
          have HPY := Lib.hid (Kd.R_putg hRY1 (k : Int) 77)
          rw [Int.toNat_natCast] at hy0 hf1 HPY
          have hgy := HgY.out g2 (by simp [Value.ownBlock])
          have HRX2 := Lib.hid (Kd.R_set HPX.out.1 hgc2 (by decide) k (.int .i64 77))
          have HV8k := Lib.hid (Kd.R_far (p := ⟨g2, k, none⟩) (Kd.R_far (p := ⟨g, k, none⟩) hV8.out (fun j hj => by show j ≠ g; omega) (.string ⟨#[55, 55]⟩)) (fun j hj => by show j ≠ g2; omega) (.int .i64 77))
          have HV9k := Lib.hid (Kd.R_far (p := ⟨g2, k, none⟩) (Kd.R_far (p := ⟨g, k, none⟩) hV9.out (fun j hj => by show j ≠ g; omega) (.string ⟨#[55, 55]⟩)) (fun j hj => by show j ≠ g2; omega) (.int .i64 77))
          have HBk : Hid (Below w7.heap.size w7 ((wr.setCell ⟨g, k, none⟩ (.string ⟨#[55, 55]⟩)).setCell ⟨g2, k, none⟩ (.int .i64 77))) := below_set (below_set hb.out hge) hge2
          clear hRY1 hgc hgc2 hgl hgl2
          go_wp2_with fail
          go_roundw
          case rel => exact ⟨k + 1, X.set k ⟨#[55, 55]⟩, Y.set k 77, by omega, by go_num, by have := hX.out; simpa [Hid] using this, by have := hY.out; simpa [Hid] using this, HBk.out, HRX2.out, HPY.out.1, HV8k.out, HV9k.out⟩
          case measure => simp [intOf]; omega
        · obtain rfl : k = rs.length := by omega
          have HBx := Lib.hid (below_step HB7.out hb.out)
          have BAx := Lib.hid (blk_below BA7.out hb.out)
          have BSx := Lib.hid (blk_below BS7.out hb.out)
          have HIx := Lib.hid (Kd.C_below HI7.out hb.out)
          clear HB BA BS HI HRX HRY ha0 ha1 hs0 hs1
          have ha0 := (blk_cell BAx.out 0).trans rfl
          have ha1 := (blk_cell BAx.out 1).trans rfl
          obtain ⟨w20, hw20⟩ : ∃ w20, w20 = wr := ⟨_, rfl⟩
          subst hw20
          go_upto_region 19 with fail
          go_cut [22, 23, 24] (fun s22 s23 s24 wc => s24 = .int .i64 e3 ∧ Hid (Kd.R Kd.string 9 wc w20.heap.size (fun _ => True) s22 rs) ∧ Hid (Kd.R (Kd.int .i64) 3 wc w20.heap.size (fun _ => True) s23 ns) ∧ Hid (Below w20.heap.size w20 wc))
          case first =>
            go_region_held3 (fun w' => w'.cell? ⟨w.heap.size, 0, none⟩ = some (.slice A0 l0.length c0) ∧ w'.cell? ⟨w.heap.size, 1, none⟩ = some (.slice A1 l1.length c1)) (go_keep)
              (first | (go_at_call 19; refine (hal _ _ _ (below_drew1 HBx.out) (HIL.out _ (Kd.C_below HIx.out (below_drew1 (Below.refl _ _)))) hcI).mono ?_; rintro e w8 ⟨v8, v9, rfl, hR8, hR9, hb9⟩; have hyb : w8.heap[w.heap.size]? = _ := (hb9.block w.heap.size (blk_lt BAx.out)).trans BAx.out; have hy0 := (blk_cell hyb 0).trans rfl; have hy1 := (blk_cell hyb 1).trans rfl; have HR8 := Lib.hid hR8; have HR9 := Lib.hid hR9; have HBr : Hid (Below w20.heap.size w20 w8) := below_step (below_drew1 (Below.refl _ _)) hb9; clear hb9 hyb hR8 hR9))
            all_goals (go_wp2_with fail; go_meet; exact ⟨rfl, HR8.out, HR9.out, HBr.out⟩)
          case rest =>
            obtain ⟨rfl, HRX, HRY, hb9⟩ := hcut
            obtain ⟨wp, rfl⟩ : ∃ wp : World, wp = wc := ⟨_, rfl⟩
            obtain ⟨A18, c18, rfl⟩ := Kd.R_slice HRX.out
            obtain ⟨A19, c19, rfl⟩ := Kd.R_slice HRY.out
            have Hb9 := Lib.hid hb9
            have HBp := Lib.hid (below_step HBx.out hb9)
            have HIp := Lib.hid (Kd.C_below HIx.out hb9)
            have HV8p := Lib.hid (Kd.R_below hV8.out hb9)
            have HV9p := Lib.hid (Kd.R_below hV9.out hb9)
            clear hb9 ha0 ha1
            go_wp2_with fail
            go_loopw [29] (fun i wx => ∃ k : Nat, k ≤ L.length ∧ i = .int .i64 k ∧ Hid (Below wp.heap.size wp wx)) (fun i _ => L.length - (intOf i).toNat)
            case atStart => exact ⟨0, Nat.zero_le _, rfl, Below.refl _ _⟩
            case round =>
              obtain ⟨k, hk, rfl, hb⟩ := hrel
              by_cases hlt : k < L.length
              · obtain ⟨adI, hAI, i0, i1⟩ := at_T32 (Kd.C_below HIp.out hb.out) (k : Int) (by omega) (by simp; omega)
                subst hAI
                obtain ⟨ad4, hA4, j0, j1⟩ := at_T32 (HSL.out wr (below_step HBp.out hb.out)) (k : Int) (by omega) (by omega)
                subst hA4
                have hr1 : rd_T32 (L ++ [s77]) (k : Int) = L[k] := by rw [rdS _ k (by simp; omega)]; exact List.getElem_append_left hlt
                have hr2 : rd_T32 L (k : Int) = L[k] := rdS L k hlt
                rw [Int.toNat_natCast, hr1] at i0 i1
                rw [Int.toNat_natCast, hr2] at j0 j1
                obtain ⟨x, hx⟩ : ∃ x, x = L[k] := ⟨_, rfl⟩
                rw [← hx] at i0 i1 j0 j1
                clear hx hr1 hr2
                obtain ⟨x0, x1⟩ := x
                dsimp only at i0 i1 j0 j1
                have b0 : (0 : Int) ≤ (k : Int) := by omega
                have b1 : (k : Int) < (L.length : Int) + 1 := by omega
                have b2 : (k : Int) < (L.length : Int) := by omega
                go_wp2_with fail
                go_quiet (fail)
                go_wp2_with fail
                go_roundw
                case rel => exact ⟨k + 1, by omega, by go_num, pw_below_drewN hb.out _⟩
                case measure => simp [intOf]; omega
              · obtain rfl : k = L.length := by omega
                obtain ⟨adI, hAI, i0, i1⟩ := at_T32 (Kd.C_below HIp.out hb.out) (L.length : Int) (by omega) (by simp; omega)
                subst hAI
                have hr1 : rd_T32 (L ++ [s77]) (L.length : Int) = s77 := by
                  rw [rdS _ L.length (by simp), List.getElem_append_right (Nat.le_refl _)]
                  simp only [Nat.sub_self]
                  rfl
                rw [Int.toNat_natCast, hr1] at i0 i1
                dsimp only at i0 i1
                clear hr1
                have HX18 := Lib.hid (Kd.R_reads' (Kd.R_below HRX.out hb.out))
                have HY18 := Lib.hid (Kd.R_reads' (Kd.R_below HRY.out hb.out))
                have HU18 := Lib.hid (Kd.R_reads' (Kd.R_below HV8p.out hb.out))
                have HU19 := Lib.hid (Kd.R_reads' (Kd.R_below HV9p.out hb.out))
                go_wp2_with (first | (go_at_call 21; refine (hsw _ _ _ _ _ HX18.out.2.2 HX18.out.2.1 HU18.out.2.2 HU18.out.2.1).mono ?_; rintro e w21 ⟨rfl, hb21⟩; have Hb21 := Lib.hid hb21; clear hb21) | (go_at_call 14; refine (hsi _ _ _ _ _ (Kd.C_below HY18.out.2.2 Hb21.out) HY18.out.2.1 (Kd.C_below HU19.out.2.2 Hb21.out) HU19.out.2.1).mono ?_; rintro e w22 ⟨rfl, hb22⟩; have Hb22 := Lib.hid (below_step Hb21.out hb22); have i0' := pw_cell_below Hb22.out i0; have i1' := pw_cell_below Hb22.out i1; clear hb22))
                go_ret
                exact ⟨rfl, below_step (below_step HBp.out hb.out) Hb22.out⟩
theorem whole (hz : ∀ x ∈ L, sizedR x.f0 x.f1) :
    Calls Tryd.prog 4 #[.agg #[.slice A0 l0.length c0, .slice A1 l1.length c1], .string root, .string s, .agg #[.string n, .string f], .slice A4 L.length c4] w fun e w' => e = .returned (.bool true) ∧ Below w.heap.size w w' := by
  obtain ⟨b, hb, hsm⟩ := long_cases l0 l1 root L
  cases b with
  | true => exact large A0 c0 l0 A1 c1 l1 root s n f A4 c4 L w hF hcF hL hcL hS hcS hT hwf (.inl hb)
  | false =>
    obtain ⟨q1, q2, q3, q4⟩ := hsm rfl
    by_cases h1 : s.size > 3000 ∨ f.size > 3000 ∨ n.size > 3000
    · exact large A0 c0 l0 A1 c1 l1 root s n f A4 c4 L w hF hcF hL hcL hS hcS hT hwf (.inr ⟨hb, h1⟩)
    · exact small A0 c0 l0 A1 c1 l1 root s n f A4 c4 L w hF hcF hL hcL hS hcS hT hwf hb q1 q2 q3 (by omega) (by omega) (by omega) q4 hz
end
end SR
end Go.Proofs.YtdeichibnnbjdaaDoor
end
section
/-
  RadicalShapes: of any alphabet, words, shape and list of shapes: what is merged, split, found by the program is the document's, and what comes in stays; no condition but that the tables of utf8 stand as their text lays them.
-/
set_option linter.unusedSimpArgs false
set_option linter.unusedVariables false
namespace Go.Proofs.YtdeichibnnbjdaaDoor.radicalShapes
open Go.ChangeShapes Go.WideShapes Go.ChangeAt Go.RowKit Go.Proofs.YtdeichibnnbjdaaDoorW.PrintWords Go.Proofs.YtdeichibnnbjdaaDoorW.PrintLast Go.Proofs.YtdeichibnnbjdaaDoorW.PrintMore Go.Proofs.YtdeichibnnbjdaaDoor.Ext
open Go.ChangeMaps (open_string shut_string)

theorem u32_of {x : Int} (h : (Lit.int .u32 x).wf = true) : u32 x := by
  simp [Lit.wf, IntKind.min, IntKind.max, IntKind.signed, IntKind.bits] at h
  exact ⟨by omega, by omega⟩
set_option maxRecDepth 100000 in
theorem contract (H : Type) (enc : TypeId × Value → H) (W : World) (base : Nat) (args : Array Value) (ds gs : List (DataW H)) (before : List MemPlace)
    (hval : ∀ (j : Nat) t v, Tryd.f4.params[j]? = some t → args[j]? = some v → Value.okWide Tryd.prog W .any base t v)
    (hW : DataW.Whole enc Tryd.prog Tryd.f4.params.toList Rows.radicalShapesSpec.vars false W args.toList ds gs before)
    (hsz : (DataW.weightsEach Tryd.prog (Tryd.f4.params.toList ++ (OpenSpec.ofChange Rows.radicalShapesSpec).bare.plain.varTypes Tryd.prog) (ds ++ gs)).all (· ≤ reachBytes) = true) (hL : laidMetH Tryd.prog theLaid W) :
    Calls Tryd.prog 4 args W fun e W' => ∃ v, e = .returned v ∧ Rows.radicalShapesSpec.post enc Tryd.prog Tryd.f4 false true false false W args v W' := by
  have hW' := hW
  obtain ⟨p, q, hA0, hV, rfl, hfz, hnd⟩ := hW
  have hA : DataW.TrodAll enc Tryd.prog W 0 (fun _ => true) true Tryd.f4.params.toList args.toList ds p := hA0
  rw [Tryd.params4] at hA hval hsz
  obtain ⟨v0, vs0, d0, ds0, p0, q0, hargs, rfl, rfl, h0, r0⟩ := trodAll_cons hA
  obtain ⟨v1, vs1, d1, ds1, p1, q1, rfl, rfl, rfl, h1, r1⟩ := trodAll_cons r0
  obtain ⟨v2, vs2, d2, ds2, p2, q2, rfl, rfl, rfl, h2, r2⟩ := trodAll_cons r1
  obtain ⟨v3, vs3, d3, ds3, p3, q3, rfl, rfl, rfl, h3, r3⟩ := trodAll_cons r2
  obtain ⟨v4, vs4, d4, ds4, p4, q4, rfl, rfl, rfl, h4, r4⟩ := trodAll_cons r3
  obtain ⟨rfl, rfl, rfl⟩ := trodAll_nil r4
  obtain rfl : args = #[v0, v1, v2, v3, v4] := by cases args; simp_all
  obtain ⟨rfl, rfl⟩ := trodVars_none hV
  have k0 := h0
  have lt0 : ∀ x ∈ p0, x.block < W.heap.size := by obtain ⟨m, hm⟩ := k0; exact DataW.trod_lt m _ _ _ hm
  have wt0 : ∀ m ∈ d0.weights Tryd.prog 25, m ≤ reachBytes := fun m hm => by have := List.all_eq_true.1 hsz m (DataW.weights_mem_each (j := 0) rfl rfl m hm); simpa using this
  have k1 := h1
  have lt1 : ∀ x ∈ p1, x.block < W.heap.size := by obtain ⟨m, hm⟩ := k1; exact DataW.trod_lt m _ _ _ hm
  have wt1 : ∀ m ∈ d1.weights Tryd.prog 9, m ≤ reachBytes := fun m hm => by have := List.all_eq_true.1 hsz m (DataW.weights_mem_each (j := 1) rfl rfl m hm); simpa using this
  have k2 := h2
  have lt2 : ∀ x ∈ p2, x.block < W.heap.size := by obtain ⟨m, hm⟩ := k2; exact DataW.trod_lt m _ _ _ hm
  have wt2 : ∀ m ∈ d2.weights Tryd.prog 9, m ≤ reachBytes := fun m hm => by have := List.all_eq_true.1 hsz m (DataW.weights_mem_each (j := 2) rfl rfl m hm); simpa using this
  have k3 := h3
  have lt3 : ∀ x ∈ p3, x.block < W.heap.size := by obtain ⟨m, hm⟩ := k3; exact DataW.trod_lt m _ _ _ hm
  have wt3 : ∀ m ∈ d3.weights Tryd.prog 32, m ≤ reachBytes := fun m hm => by have := List.all_eq_true.1 hsz m (DataW.weights_mem_each (j := 3) rfl rfl m hm); simpa using this
  have k4 := h4
  have lt4 : ∀ x ∈ p4, x.block < W.heap.size := by obtain ⟨m, hm⟩ := k4; exact DataW.trod_lt m _ _ _ hm
  have wt4 : ∀ m ∈ d4.weights Tryd.prog 40, m ≤ reachBytes := fun m hm => by have := List.all_eq_true.1 hsz m (DataW.weights_mem_each (j := 4) rfl rfl m hm); simpa using this
  obtain ⟨A0, c0, l0, A0', c0', l0', rfl, g0, h0, g0', h0', w0⟩ := alphabet_arg (hval 0 25 v0 rfl rfl) h0
  have hwf0 : wfA l0' := fun y hy => ⟨u32_of (w0.2.2 y hy).2.1, u32_of (w0.2.2 y hy).2.2⟩
  obtain ⟨a1, rfl, rfl, rfl, w1⟩ := open_string Tryd.underlying9 (hval 1 9 v1 rfl rfl) h1
  obtain ⟨a2, rfl, rfl, rfl, w2⟩ := open_string Tryd.underlying9 (hval 2 9 v2 rfl rfl) h2
  obtain ⟨cs3, ⟨n3, f3⟩, rfl, hk3, w3, z3⟩ := structS_arg Tryd.underlying32 (hval 3 32 v3 rfl rfl) (opensS_shape W) h3
  replace z3 := z3 wt3
  obtain rfl : cs3 = #[.string n3, .string f3] := Array.toList_inj.1 (k32_open hk3)
  obtain ⟨A4, c4, L4, rfl, g4, h4, w4, z4⟩ := sliceS_arg (e' := 32) Tryd.underlying40 (hval 4 40 v4 rfl rfl) (opensS_slice Tryd.underlying40 (by kernel_rfl) (opensS_shape W)) h4
  replace z4 := z4 wt4
  clear hA0 hval
  refine Calls.mono (SR.whole A0 c0 l0 A0' c0' l0' a1 a2 n3 f3 A4 c4 L4 W h0 g0 h0' g0' h4 g4 (tabs_of_laid hL) hwf0 (fun x hx => ⟨Nat.le_trans (z4.2 x hx).1 (by decide), Nat.le_trans (z4.2 x hx).2 (by decide)⟩)) fun e W' ⟨he, bel⟩ => ?_
  subst he
  exact ⟨_, rfl, _, _, _, [], _, [], hW', trodAll_mk1 (shut_bool Tryd.underlying4 _), (trodAll_cons_mk (Below.trod laidOut (by kernel_rfl) (of_decide_eq_true (by kernel_rfl)) k0 bel lt0) (trodAll_cons_mk (Below.trod laidOut (by kernel_rfl) (of_decide_eq_true (by kernel_rfl)) k1 bel lt1) (trodAll_cons_mk (Below.trod laidOut (by kernel_rfl) (of_decide_eq_true (by kernel_rfl)) k2 bel lt2) (trodAll_cons_mk (Below.trod laidOut (by kernel_rfl) (of_decide_eq_true (by kernel_rfl)) k3 bel lt3) (trodAll_cons_mk (Below.trod laidOut (by kernel_rfl) (of_decide_eq_true (by kernel_rfl)) k4 bel lt4) trodAll_mk0))))), rfl, bel.frame _, fun h => by cases h⟩
abbrev wargs : Array Value := #[.agg #[.slice none 0 0, .slice none 0 0], .string ⟨#[]⟩, .string ⟨#[]⟩, .agg #[.string ⟨#[]⟩, .string ⟨#[]⟩], .slice none 0 0]
theorem reads (os : Os) {H : Type} (enc : TypeId × Value → H) : ∃ ds places, DataW.whole enc Tryd.prog ((laidWorld os).forCall (fun _ _ => 0) ⟨#[], wargs, []⟩).memory Tryd.f4.params.toList Rows.radicalShapesSpec.vars false wargs.toList 8 = some (ds, [], places) :=
  ⟨[.agg [.nil, .nil], .lit (.string []), .lit (.string []), .agg [.lit (.string []), .lit (.string [])], .nil], [], by kernel_rfl⟩
theorem w_ok (os : Os) : Input.okWideB Tryd.prog ((laidWorld os).forCall (fun _ _ => 0) ⟨#[], wargs, []⟩) 4 ⟨#[], wargs, []⟩ = true := by kernel_rfl
theorem w_sized (os : Os) {H : Type} (enc : TypeId × Value → H) : (OpenSpec.ofChange Rows.radicalShapesSpec).bare.sizedB enc Tryd.prog Tryd.f4 false ((laidWorld os).forCall (fun _ _ => 0) ⟨#[], wargs, []⟩).memory wargs 8 = true := by kernel_rfl
theorem noInit : Tryd.prog.inits.idxOf? 4 = Option.none := by kernel_rfl
theorem w_row (os : Os) {H : Type} (enc : TypeId × Value → H) : (OpenSpec.ofChange Rows.radicalShapesSpec).preRow enc Tryd.prog Tryd.f4 Rows.radicalShapesRow.domain false Rows.radicalShapesRow.laid ((laidWorld os).forCall (fun _ _ => 0) ⟨#[], wargs, []⟩).memory wargs := by
  obtain ⟨ds, places, hx⟩ := reads os enc
  exact OpenSpec.preRow_of_cond 8 hx rfl (fun k hk => by cases hk) (w_sized os enc) (laid_met os wargs)
set_option maxRecDepth 100000 in
theorem lifted (os : Os) (started : os.Started) (H : Type) (enc : TypeId × Value → H) (F : Stop.Interp) :
    ReturnsInHanded {} Tryd.checked os 4 .any ((OpenSpec.ofChange Rows.radicalShapesSpec).preRow enc Tryd.prog Tryd.f4 Rows.radicalShapesRow.domain false Rows.radicalShapesRow.laid) (((OpenSpec.ofChange Rows.radicalShapesSpec).at F).post enc Tryd.prog Tryd.f4 false true false false) := by
  refine returnsInHanded_of_row (C := Tryd.checked) (s := OpenSpec.ofChange Rows.radicalShapesSpec) own started noInit Tryd.func4
    (witness_row_at (enc := enc) (C := Tryd.checked) false (laidWorld os) wargs (w_os os) (w_vars os wargs) (w_rest os wargs) (w_ok os) (w_row os enc)) ?_
  intro W base args ds gs before hval hW _ _ hsz hL _ _
  exact contract H enc W base args ds gs before hval hW hsz hL
theorem named : Tryd.pinned.checked.prog.funcNamed Rows.radicalShapesRow.func = some 4 := by kernel_rfl
set_option maxHeartbeats 100000000 in
theorem facts : joinedFacts Tryd.pinned.checked.prog 4 Tryd.f4 (OpenSpec.ofChange Rows.radicalShapesSpec).bare Rows.radicalShapesRow = true := by
  unfold joinedFacts
  repeat' (with_reducible refine and_both ?_ ?_)
  all_goals (as_aux_lemma => kernel_rfl)
theorem inst : Tryd.f4.isInstance Tryd.pinned.checked.prog Rows.radicalShapesRow.origin Rows.radicalShapesRow.targs := of_decide_eq_true (by kernel_rfl)
theorem wrap : Tryd.f4.isWrapper Tryd.pinned.checked.prog Rows.radicalShapesRow.wrapper Rows.radicalShapesRow.mainSum := by unfold Func.isWrapper; first | (rw [if_pos (by decide +kernel)]; kernel_rfl) | (rw [if_neg (by decide +kernel)]; exact ⟨rfl, rfl⟩)
theorem said : Rows.RadicalShapesSaid :=
  OpenClaim.holds_of_cond 4 Tryd.f4 rfl rfl rfl rfl rfl rfl rfl ⟨rfl, rfl, rfl, rfl, rfl⟩ rfl rfl rfl rfl rfl named Tryd.func4 facts
    inst wrap
    (fun os started H enc _ F => by rw [OpenClaim.pre_eq_preRow]; exact lifted os started H enc F)
theorem plain (f : FuncId) (fn : Func) (hf : Tryd.pinned.checked.prog.funcNamed "cognate/cognatelaw13.RadicalShapes" = some f) (hfn : Tryd.pinned.checked.prog.funcs[f]? = some fn) :
    false = Tryd.pinned.checked.prog.looks [] ∧ ∀ (j : Nat) t, fn.params[j]? = some t → Tryd.pinned.checked.prog.wantsStandIn t = false := by
  obtain rfl : f = 4 := Option.some.inj ((show Tryd.prog.funcNamed "cognate/cognatelaw13.RadicalShapes" = some 4 by kernel_rfl).symm.trans hf) |>.symm
  obtain rfl : fn = Tryd.f4 := (Option.some.inj (Tryd.func4.symm.trans hfn)).symm
  refine ⟨looks_on, fun j t ht => ?_⟩
  rw [Tryd.params4] at ht
  have hm : t ∈ [25, 9, 9, 32, 40] := by simpa using Array.mem_of_getElem? ht
  have hall : ([25, 9, 9, 32, 40].all fun u => !Tryd.prog.wantsStandIn u) = true := by kernel_rfl
  exact (show Tryd.prog.wantsStandIn t = false by simpa using List.all_eq_true.1 hall t hm)
theorem wf : Rows.radicalShapesRow.wfByText (OpenSpec.ofChange Rows.radicalShapesSpec) = true := by kernel_rfl
theorem goes : false = Rows.radicalShapesRow.goesBy Tryd.pinned.checked.prog := by kernel_rfl
theorem card : Rows.RadicalShapesCardSaid :=
  Claim7.holds_tied_plain_at .later [] _ _ (true, "16209f1c7befe1363f40dbd04e48412df087f3a244850d7433fb4ffd050d085a") _ said (fun _ h => by cases h) wf (fun _ h => by cases h) radicalShapes_row_tie rfl ⟨rfl, rfl⟩ main_is rfl plain goes
#print axioms card
end Go.Proofs.YtdeichibnnbjdaaDoor.radicalShapes
namespace Go.Proofs.YtdeichibnnbjdaaDoor
theorem radicalShapes_holds : Rows.RadicalShapesCardSaid := radicalShapes.card
end Go.Proofs.YtdeichibnnbjdaaDoor
end
