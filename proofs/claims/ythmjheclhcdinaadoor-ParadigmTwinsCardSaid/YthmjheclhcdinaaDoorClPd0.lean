/-
  ParadigmTwins: of any alphabet, vowels, word, form and place: a doubling is double's work, a shape radical's; what is taken off goes with these, too; no condition but that the tables of utf8 stand as their text lays them.
-/
import Derived.Test.YthmjheclhcdinaaDoorClP3
import Derived.Shelf.Strings.SlTrimAscii
import Derived.Shelf.Strings.Count
import Derived.Shelf.Unicode.DecodeAny
import Derived.Shelf.Utf8.RuneCount
import Derived.Shelf.Unicode.ValidAny
import Derived.Ground.NamesProg
import Derived.Test.YthmjheclhcdinaaDoorProg
import Derived.Laws.Cover4
import Derived.Laws.IdiomStrings
import Derived.Laws.BitsAllLaws
import Derived.Lib.QuoteLoop
import Derived.Lib.MapLaws
import Derived.Deep.DeepCutAuto
import Derived.Deep.QuietTactic
import Derived.BigQuiet
section
/-
  DERIVED: THE SHELF's CONTRACTS AT THIS DUMP, IN PLAIN WORDS (tools/lay-plain.mjs out of 'TrydShelf.lean', which tools/lay-shelf.mjs wrote): THE SAME DECLARATIONS UNDER THE SAME NAMES: 'import', 'namespace', 'open', 'def', 'theorem' AND NOTHING ELSE: no command of the shelf's: FOR A HAND-IN. Each laying: the table of numbers ('.._ren') and one theorem, a field a fact of the dump's own or the kernel's comparison; each contract: ONE APPLICATION.
-/
namespace Go.Proofs
open Go.Shelf
def Tryd.lays138_ren : Go.Shelf.Ren := ⟨fun | 138 => 81 | 195 => 78 | 218 => 98 | 143 => 99 | 219 => 104 | 217 => 107 | 225 => 108 | 224 => 109 | 267 => 110 | 266 => 113 | 314 => 114 | n => n, fun | 9 => 9 | 3 => 3 | 4 => 4 | 5 => 5 | 0 => 0 | 46 => 150 | 146 => 180 | 51 => 26 | n => n, fun | 1 => 2 | n => n⟩
theorem Tryd.lays138 : Go.Proofs.Lays.n138 Tryd.prog Tryd.lays138_ren := {
  mixed := by kernel_rfl
  f138 := Tryd.func81.trans (congrArg some (by kernel_rfl))
  f143 := Tryd.func99.trans (congrArg some (by kernel_rfl))
  f195 := Tryd.func78.trans (congrArg some (by kernel_rfl))
  f217 := Tryd.func107.trans (congrArg some (by kernel_rfl))
  f218 := Tryd.func98.trans (congrArg some (by kernel_rfl))
  f219 := Tryd.func104.trans (congrArg some (by kernel_rfl))
  f224 := Tryd.func109.trans (congrArg some (by kernel_rfl))
  f225 := Tryd.func108.trans (congrArg some (by kernel_rfl))
  f266 := Tryd.func113.trans (congrArg some (by kernel_rfl))
  f267 := Tryd.func110.trans (congrArg some (by kernel_rfl))
  f314 := Tryd.func114.trans (congrArg some (by kernel_rfl))
  t0 := Tryd.underlying0
  a0 := Tryd.isAgg0
  z0 := Tryd.sizeOf0
  v0 := Tryd.zeroValue0
  t3 := Tryd.underlying3
  a3 := Tryd.isAgg3
  z3 := Tryd.sizeOf3
  v3 := Tryd.zeroValue3
  t4 := Tryd.underlying4
  a4 := Tryd.isAgg4
  z4 := Tryd.sizeOf4
  v4 := Tryd.zeroValue4
  t5 := Tryd.underlying5
  a5 := Tryd.isAgg5
  z5 := Tryd.sizeOf5
  v5 := Tryd.zeroValue5
  t9 := Tryd.underlying9
  a9 := Tryd.isAgg9
  z9 := Tryd.sizeOf9
  v9 := Tryd.zeroValue9
  t46 := Tryd.underlying150
  a46 := Tryd.isAgg150
  z46 := Tryd.sizeOf150
  v46 := Tryd.zeroValue150
  t51 := Tryd.underlying26
  a51 := Tryd.isAgg26
  z51 := Tryd.sizeOf26
  v51 := Tryd.zeroValue26
  t146 := Tryd.underlying180
  a146 := Tryd.isAgg180
  z146 := Tryd.sizeOf180
  v146 := Tryd.zeroValue180
  g1 := by kernel_rfl }
end Go.Proofs
end
section
/-
  '[]rune(s)' and 'string(runes)' as the print wants them. 
-/
set_option linter.unusedSimpArgs false
set_option linter.unusedVariables false
namespace Go.Proofs.YthmjheclhcdinaaDoor.Ext
open Go.RowKit Go.Proofs.YthmjheclhcdinaaDoor Go.Proofs.YthmjheclhcdinaaDoorW.PrintWords Go.Proofs.YthmjheclhcdinaaDoorW.PrintLast Go.Proofs.YthmjheclhcdinaaDoorW.PrintMore

section
variable {P : Program} {ops : Array Oper} {rest : List Oper} {o : Oper} {a : Act} {Q : Exit → Act → World → Prop}
theorem R_runes {w0 W : World} (base e : Nat) (hgd : o.guard = none) {N : Tmp} (hd : o.dst = some N) (src dst : TypeId) (x : Operand) (ho : o.op = .convert src dst x) (s : ByteArray) (hx : a.eval x = .string s)
    (hs : P.underlying src = some .string) (hdst : P.underlying dst = some (.slice e)) (he : P.underlying e = some (.int .i32)) (hl : (s.size : Int) ≤ 70368744177664) (HB : Below base w0 W) (hbase : base ≤ W.heap.size)
    (h : ∀ v1 w1, (Kd.int .i32).R e w1 base (fun _ => True) v1 (runesOf s) → Below base w0 w1 → W.grownBy w1 none → (∃ b, v1.ownBlock = some b ∧ W.heap.size ≤ b) → wpList P ops Q rest (a.put o.dst v1) w1) : wpList P ops Q (o :: rest) a W := by
  have hn := runesOf_le s
  have hsz := runesOf_size s
  have hlen : (Conv.runesFrom s s.size 0 #[]).toList.length = (runesOf s).length := by rw [runesOf_cells, List.length_map]
  have hr := run_runes_of_string (P := P) W src dst e s hs hdst he (by rw [hsz]; omega)
  have hcap := grownCap_ge W (Conv.runesFrom s s.size 0 #[]).size 0 e
  have hcm := grownCap_le_maxLen W (Conv.runesFrom s s.size 0 #[]).size 0 e (by rw [hsz]; unfold maxLen; omega)
  have hrun : (execOp a.eval o).run P W = .ok (.value (.slice (some ⟨W.heap.size, 0, none⟩) (Conv.runesFrom s s.size 0 #[]).size (grownCap W (Conv.runesFrom s s.size 0 #[]).size 0 e)))
      (W.drew.alloc (.cells (Conv.runesFrom s s.size 0 #[] ++ Array.replicate (grownCap W (Conv.runesFrom s s.size 0 #[]).size 0 e - (Conv.runesFrom s s.size 0 #[]).size) (.int .i32 0)) e)) := by
    simp [execOp, ho, hx, hr, Result.andThen]
  refine Kd.event_run hgd hrun (h _ _ ⟨fun _ _ => trivial, (runesOf s).map (Value.int .i32), ?_, ?_⟩ ?_ ?_ ⟨W.heap.size, by simp [Value.ownBlock], Nat.le_refl _⟩)
  · show World.ownsRow _ base e 1 _ _ _
    refine ⟨by rw [List.length_map, Nat.mul_one], .inr ⟨W.heap.size, _, _, by rw [hsz], hbase, blk_new W.drew _, by rw [← hsz]; exact hcap, hcm, ?_, ?_⟩⟩
    · simp
      omega
    · rw [Nat.mul_one, Array.toList_append, List.take_append_of_le_length (by rw [hlen]; exact Nat.le_refl _), ← hlen, List.take_length, runesOf_cells]
  · show Reps _ 1 _ _
    refine ⟨by rw [List.length_map, Nat.mul_one], fun j p hj => ?_⟩
    show (((runesOf s).map (Value.int .i32)).drop (j * 1)).take 1 = [Value.int .i32 p]
    rw [Nat.mul_one, ← List.map_drop, ← List.map_take]
    have hlt : j < (runesOf s).length := (List.getElem?_eq_some_iff.1 hj).1
    have hp : (runesOf s)[j] = p := (List.getElem?_eq_some_iff.1 hj).2
    rw [List.drop_eq_getElem_cons hlt, hp]
    rfl
  · exact (HB.drew).alloc hbase _
  · have hg := World.grownBy_alloc W.drew (.cells (Conv.runesFrom s s.size 0 #[] ++ Array.replicate (grownCap W (Conv.runesFrom s s.size 0 #[]).size 0 e - (Conv.runesFrom s s.size 0 #[]).size) (.int .i32 0)) e) none
    exact { hg with }
end
end Go.Proofs.YthmjheclhcdinaaDoor.Ext
end
section
/-
  The library's functions, by the shelf's contracts, in the print's form.
-/
namespace Go.Proofs.YthmjheclhcdinaaDoor.Ext
open Go.RowKit Go.Shelf Go.Proofs.YthmjheclhcdinaaDoor Go.Proofs.YthmjheclhcdinaaDoorW.PrintWords Go.Proofs.YthmjheclhcdinaaDoorW.PrintLast Go.Proofs.YthmjheclhcdinaaDoorW.PrintMore

def strings_Count.f (a0 a1 : ByteArray) : Option Int :=
  match a1.data.toList with
  | [c] => some (Lib.countByte a0.data.toList c)
  | _ => none
theorem strings_Count.calls (a0 a1 : ByteArray) (r : Int) (w : World) (h : strings_Count.f a0 a1 = some r) :
    Calls Tryd.prog 81 #[.string a0, .string a1] w fun e w' => e = .returned (.int .i64 r) ∧ Below w.heap.size w w' := by
  unfold strings_Count.f at h
  split at h
  · rename_i c hc
    obtain rfl := Option.some.inj h
    have e1 : a1 = ⟨#[c]⟩ := by
      obtain ⟨d⟩ := a1
      congr 1
      exact Array.toList_inj.1 hc
    subst e1
    exact (Any.strings_Count_one Tryd.lays138 a0 c w).mono fun e w' ⟨he, hw⟩ => ⟨he, hw ▸ Below.refl _ _⟩
  · cases h

end Go.Proofs.YthmjheclhcdinaaDoor.Ext
end
section
-- printed by a program of this session (wip/tools/prx.sh: a turned copy of the kit's print, with functions given from outside)
namespace Go.Proofs.YthmjheclhcdinaaDoor.RF1
open Go.RowKit Go.Proofs.YthmjheclhcdinaaDoor Go.Proofs.YthmjheclhcdinaaDoor.Ext Go.Proofs.YthmjheclhcdinaaDoorW.PrintWords Go.Proofs.YthmjheclhcdinaaDoorW.PrintLast Go.Proofs.YthmjheclhcdinaaDoorW.PrintMore
attribute [local go_sem] max2_int min2_int max_two min_two max_three min_three max_four min_four   -- for this text's walks alone
set_option linter.unusedVariables false
set_option linter.unusedSimpArgs false

/-! ### radical_Holes: function 65 -/
def radical_Holes.f (a0_0 : ByteArray) (a0_1 : ByteArray) : Option (Int) := (strings_Count.f a0_1 (⟨#[95]⟩ : ByteArray)).bind fun t144 => (some t144)
set_option maxHeartbeats 8000000 in
set_option maxRecDepth 100000 in
theorem radical_Holes.calls (a0_0 : ByteArray) (a0_1 : ByteArray) (r : Int) (w : World) (h : radical_Holes.f a0_0 a0_1 = some r) :
    Calls Tryd.prog 65 #[.agg #[.string a0_0, .string a0_1]] w fun e w' => e = .returned (.int .i64 r) ∧ Below w.heap.size w w' := by
  have hu32 := Tryd.underlying32
  have HB := Aside0.mk (Below.refl w.heap.size w)
  have H : ((strings_Count.f a0_1 (⟨#[95]⟩ : ByteArray)).bind fun t144 => (some t144)) = some r := h
  clear h
  replace H := Option.bind_eq_some_iff.mp H
  obtain ⟨t144, A20, H⟩ := H
  replace H : (some t144) = some r := H
  have A2 := Aside0.mk A20
  clear A20
  obtain rfl := Option.some.inj H
  go_enter Tryd.func65, Tryd.ntmps65
  go_wp2_with (first | ((with_reducible refine gate_dst (N := 1) rfl ?_); refine box_event ?hg (N := 1) ?hd (cs := #[.string a0_0, .string a0_1]) (t := 32) ?hr ?_; (case hd => rfl); (case hg => rfl); (case hr => first | (go_simp; done) | (go_simp; rfl)); intro gb143 hg w3 hbox hb; have n0_ := Aside0.mk (below_step (by repeat (first | (with_reducible first | exact HB.out | apply below_alloc | apply pw_below_drewN | apply below_drew1) | exact HB.out)) hb); have n1_ := Aside0.mk (hbox); have n2_ := Aside0.mk ((by rw [hg]; exact (below_size (by repeat (first | (with_reducible first | exact HB.out | apply below_alloc | apply pw_below_drewN | apply below_drew1) | exact HB.out))) : w.heap.size ≤ gb143)); have n3_ := Aside0.mk ((by rw [hg]; exact (below_size (by repeat (first | (with_reducible first | exact HB.out | apply below_alloc | apply pw_below_drewN | apply below_drew1) | exact HB.out))) : w.heap.size ≤ gb143)); clear HB; have HB := n0_; have BK143 := n1_; have GW143 := n2_; have GE143 := n3_; clear n0_ n1_ n2_ n3_; clear hb hbox hg; have hcz4_0 : w3.cell? ⟨gb143, 0, none⟩ = some (.string a0_0) := (blk_cell BK143.out 0).trans rfl; have hcz4_1 : w3.cell? ⟨gb143, 1, none⟩ = some (.string a0_1) := (blk_cell BK143.out 1).trans rfl; have hfz4_0 := blk_frozen BK143.out 0; have hfz4_1 := blk_frozen BK143.out 1) | ((with_reducible refine gate_callee (f := 81) rfl ?_); refine goesL_ (some 5) rfl rfl Tryd.func81 (by kernel_rfl) rfl #[.string a0_1, .string (⟨#[95]⟩ : ByteArray)] rfl (by (try simp only [List.map_toArray, List.map_cons, List.map_nil]); first | done | rfl | (simp only [List.length_drop, List.length_take]; rfl)) ?_; (with_reducible refine (strings_Count.calls a0_1 (⟨#[95]⟩ : ByteArray) t144 _ A2.out).mono ?_); rintro e w5 ⟨rfl, hb⟩; refine ⟨_, rfl, ?_⟩; have n0_ := Aside0.mk (blk_below (g := gb143) (o := .cells #[.string a0_0, .string a0_1] 32 (0, 0)) (by (with_reducible repeat (first | refine blk_drewN ?_ _ | refine blk_drew ?_ | refine blk_alloc ?_ _)); exact BK143.out) hb); have n1_ := Aside0.mk (below_step (by repeat (first | (with_reducible first | exact HB.out | apply below_alloc | apply pw_below_drewN | apply below_drew1 | refine below_set ?_ GE143.out) | exact HB.out)) hb); clear BK143; clear HB; have BK143 := n0_; have HB := n1_; clear n0_ n1_; (try clear hb); (try clear hb2); (try clear hk); (try clear hi)))
  go_ret
  exact ⟨by first | rfl | (simp [errW_none, errW_some] <;> rfl) | (simp [*, errW_none, errW_some] <;> rfl), by repeat (first | (with_reducible first | exact HB.out | apply below_alloc | apply pw_below_drewN | apply below_drew1 | refine below_set ?_ GE143.out) | exact HB.out)⟩

end Go.Proofs.YthmjheclhcdinaaDoor.RF1
end
section
/-
  What the printed reference functions (layers 1 to 3) compute, in plain words.
-/
set_option linter.unusedSimpArgs false
set_option linter.unusedVariables false
namespace Go.Proofs.YthmjheclhcdinaaDoor
open Go.RowKit Go.Proofs.YthmjheclhcdinaaDoorW.PrintWords Go.Proofs.YthmjheclhcdinaaDoorW.PrintLast Go.Proofs.YthmjheclhcdinaaDoorW.PrintMore Go.Proofs.YthmjheclhcdinaaDoor.Ext

theorem rd_at (l : List Int) (i : Nat) (h : i < l.length) : YthmjheclhcdinaaDoorW.PrintWords.rd l (i : Int) = l[i] := by
  unfold YthmjheclhcdinaaDoorW.PrintWords.rd
  rw [Int.toNat_natCast, List.getD_eq_getElem?_getD, List.getElem?_eq_getElem h]
  rfl
/-! ### runes as bytes -/
end Go.Proofs.YthmjheclhcdinaaDoor
end
section
/-
  Texts and their runes, there and back: plain facts. No program in sight.
-/
set_option linter.unusedSimpArgs false
set_option linter.unusedVariables false
namespace Go.Proofs.YthmjheclhcdinaaDoor
open Go.RowKit Go.Proofs.YthmjheclhcdinaaDoorW.PrintWords Go.Proofs.YthmjheclhcdinaaDoorW.PrintLast Go.Proofs.YthmjheclhcdinaaDoorW.PrintMore Go.Proofs.YthmjheclhcdinaaDoor.Ext

theorem flat_append : ∀ a b : List Int, flat (a ++ b) = flat a ++ flat b
  | [], _ => rfl
  | x :: xs, b => by simp [flat, flat_append xs b]
theorem runesBytes_append (a b : List Int) : runesBytes (a ++ b) = runesBytes a ++ runesBytes b := by
  apply bytes_ext
  rw [runesBytes_flat, flat_append]
  simp [runesBytes_flat]
theorem runesBytes_one (r : Int) : runesBytes [r] = Utf8.encode r := by
  apply bytes_ext
  rw [runesBytes_flat]
  simp [flat, encB]
theorem runesBytes_nil : runesBytes [] = (⟨#[]⟩ : ByteArray) := rfl
/-! ### letters -/
/-! ### holes: bytes and runes -/
theorem encB_count (r : Int) (h : Utf8.valid r = true) : (encB r).count 95 = if r = 95 then 1 else 0 := by
  have hv := (valid_iff r).1 h
  have hn : ∀ n, n < 256 → n ≠ 95 → UInt8.ofNat n ≠ 95 := by
    intro n hn hne he
    have := congrArg UInt8.toNat he
    rw [toN n hn] at this
    exact hne this
  rcases encB_cases r h with ⟨a, e⟩ | ⟨a, b, e⟩ | ⟨a, b, e⟩ | ⟨a, e⟩
  · rw [e]
    by_cases hr : r = 95
    · subst hr
      rfl
    · rw [if_neg hr, List.count_eq_zero]
      simpa using (hn r.toNat (by omega) (by omega)).symm
  · rw [e, if_neg (by omega), List.count_eq_zero]
    have h1 := hn (192 + r.toNat / 64) (by omega) (by omega)
    have h2 := hn (128 + r.toNat % 64) (by omega) (by omega)
    simp only [List.mem_cons, List.not_mem_nil, or_false, not_or]
    exact ⟨fun h => h1 h.symm, fun h => h2 h.symm⟩
  · rw [e, if_neg (by omega), List.count_eq_zero]
    have h1 := hn (224 + r.toNat / 4096) (by omega) (by omega)
    have h2 := hn (128 + r.toNat / 64 % 64) (by omega) (by omega)
    have h3 := hn (128 + r.toNat % 64) (by omega) (by omega)
    simp only [List.mem_cons, List.not_mem_nil, or_false, not_or]
    exact ⟨fun h => h1 h.symm, fun h => h2 h.symm, fun h => h3 h.symm⟩
  · rw [e, if_neg (by omega), List.count_eq_zero]
    have h1 := hn (240 + r.toNat / 262144) (by omega) (by omega)
    have h2 := hn (128 + r.toNat / 4096 % 64) (by omega) (by omega)
    have h3 := hn (128 + r.toNat / 64 % 64) (by omega) (by omega)
    have h4 := hn (128 + r.toNat % 64) (by omega) (by omega)
    simp only [List.mem_cons, List.not_mem_nil, or_false, not_or]
    exact ⟨fun h => h1 h.symm, fun h => h2 h.symm, fun h => h3 h.symm, fun h => h4 h.symm⟩
theorem flat_count : ∀ l : List Int, (∀ x ∈ l, Utf8.valid x = true) → (flat l).count 95 = l.count 95
  | [], _ => rfl
  | x :: xs, h => by
    simp only [flat, List.count_append]
    rw [flat_count xs (fun y hy => h y (List.mem_cons_of_mem _ hy)), encB_count x (h x (List.mem_cons_self ..)), List.count_cons]
    by_cases e : x = 95
    · simp [e]; omega
    · simp [e]
/-- A text's holes: bytes or runes. -/
theorem holes_runes (s : ByteArray) (h : (pieces s).all (fun p => !p.f3) = true) : s.data.toList.count 95 = (runesOf s).count 95 := by
  have := flat_count (runesOf s) (runes_valid s h)
  rw [← this, ← runesBytes_flat, runes_back s h]
end Go.Proofs.YthmjheclhcdinaaDoor
end
section
/-
  Roots in shapes, in plain words: merged, split, skipped through. No program in sight.
-/
set_option linter.unusedSimpArgs false
set_option linter.unusedVariables false
namespace Go.Proofs.YthmjheclhcdinaaDoor
open Go.RowKit Go.Proofs.YthmjheclhcdinaaDoorW.PrintWords Go.Proofs.YthmjheclhcdinaaDoorW.PrintLast Go.Proofs.YthmjheclhcdinaaDoorW.PrintMore Go.Proofs.YthmjheclhcdinaaDoor.Ext

/-- What stands at a shape's holes. -/
def pickH : List Int → List Int → Option (List Int)
  | [], [] => some []
  | x :: xs, y :: ys => if y = 95 then (pickH xs ys).map (x :: ·) else if y = x then pickH xs ys else none
  | _, _ => none
def mergeOf (l0 : List ByteArray) (l1 : List Letter) (root n f : ByteArray) : ByteArray × Int :=
  if (lettersOf l0 l1 root).2 = 0 then (if chkS l0 l1 n f = 0 ∧ f.data.toList.count 95 = (lettersOf l0 l1 root).1.length then (runesBytes (fillH (runesOf f) (lettersOf l0 l1 root).1), 0) else (noB, 130)) else (noB, (lettersOf l0 l1 root).2)
def pickB (l f : List Int) : ByteArray × Bool := match pickH l f with | some q => (runesBytes q, true) | none => (noB, false)
def splitOf (l0 : List ByteArray) (l1 : List Letter) (w n f : ByteArray) : ByteArray × Bool × Int :=
  if (lettersOf l0 l1 w).2 = 0 then (if chkS l0 l1 n f = 0 then ((pickB (lettersOf l0 l1 w).1 (runesOf f)).1, (pickB (lettersOf l0 l1 w).1 (runesOf f)).2, 0) else (noB, false, chkS l0 l1 n f)) else (noB, false, (lettersOf l0 l1 w).2)

theorem pick_fill : ∀ (f l : List Int), f.count 95 = l.length → pickH (fillH f l) f = some l
  | [], l, h => by
    have : l = [] := List.length_eq_zero_iff.1 (by simpa using h.symm)
    subst this
    rfl
  | x :: xs, [], h => by
    have hx : x ≠ 95 := by
      intro e
      subst e
      simp at h
    rw [List.count_cons] at h
    unfold fillH pickH
    rw [if_neg hx, if_pos rfl]
    exact pick_fill xs [] (by simp [hx] at h; simp [h])
  | x :: xs, r :: rs, h => by
    rw [List.count_cons] at h
    unfold fillH
    by_cases hx : x = 95
    · rw [if_pos hx]
      unfold pickH
      rw [if_pos hx, pick_fill xs rs (by simp [hx] at h; exact h)]
      rfl
    · rw [if_neg hx]
      unfold pickH
      rw [if_neg hx, if_pos rfl]
      exact pick_fill xs (r :: rs) (by simp [hx] at h; simp [h])
theorem fill_pick : ∀ (w f l : List Int), pickH w f = some l → fillH f l = w ∧ f.count 95 = l.length ∧ (∀ x ∈ l, x ∈ w) ∧ w.length = f.length
  | [], [], l, h => by
    simp only [pickH, Option.some.injEq] at h
    subst h
    simp [fillH]
  | [], y :: ys, l, h => by simp [pickH] at h
  | x :: xs, [], l, h => by simp [pickH] at h
  | x :: xs, y :: ys, l, h => by
    unfold pickH at h
    by_cases hy : y = 95
    · rw [if_pos hy] at h
      cases hq : pickH xs ys with
      | none => rw [hq] at h; cases h
      | some q =>
        rw [hq] at h
        obtain rfl : x :: q = l := by simpa using h
        have ih := fill_pick xs ys q hq
        unfold fillH
        rw [if_pos hy, ih.1, List.count_cons]
        refine ⟨rfl, by simp [hy, ih.2.1], fun z hz => ?_, by simp [ih.2.2.2]⟩
        rcases List.mem_cons.1 hz with rfl | hz
        · exact List.mem_cons_self ..
        · exact List.mem_cons_of_mem _ (ih.2.2.1 z hz)
    · rw [if_neg hy] at h
      by_cases he : y = x
      · rw [if_pos he] at h
        have ih := fill_pick xs ys l h
        subst he
        refine ⟨?_, by rw [List.count_cons]; simp [hy, ih.2.1], fun z hz => List.mem_cons_of_mem _ (ih.2.2.1 z hz), by simp [ih.2.2.2]⟩
        cases l with
        | nil => rw [fill_nil] at ih ⊢; rw [ih.1]
        | cons r rs =>
          unfold fillH
          rw [if_neg hy, ih.1]
      · rw [if_neg he] at h
        cases h
/-! ### shapes that may be -/
/-! ### merged and split, split and merged -/
/-! ### a word's radicals in its shape -/
theorem parts_ok {l0 : List ByteArray} {l1 : List Letter} {s : ByteArray} {p : Int} {l cls : List Int} (h : partsOf l0 l1 s p = (l, cls, 0)) : lettersOf l0 l1 s = (l, 0) ∧ classOf l0 l1 p 0 = (cls, 0) := by
  unfold partsOf at h
  cases hl : lettersOf l0 l1 s with
  | mk x e =>
    rw [hl] at h
    dsimp only at h
    by_cases he : e = 0
    · subst he
      rw [if_pos rfl] at h
      cases hc : classOf l0 l1 p 0 with
      | mk y e2 =>
        rw [hc] at h
        dsimp only at h
        by_cases he2 : e2 = 0
        · subst he2
          rw [if_pos rfl] at h
          simp only [Prod.mk.injEq, and_true] at h
          rw [h.1, h.2]
          exact ⟨rfl, rfl⟩
        · rw [if_neg he2] at h
          simp only [Prod.mk.injEq] at h
          exact absurd h.2.2 he2
    · rw [if_neg he] at h
      simp only [Prod.mk.injEq] at h
      exact absurd h.2.2 he
end Go.Proofs.YthmjheclhcdinaaDoor
end
section
/-
  Affixes put to letters and taken off, in plain words. No program in sight.
-/
set_option linter.unusedSimpArgs false
set_option linter.unusedVariables false
namespace Go.Proofs.YthmjheclhcdinaaDoor
open Go.RowKit Go.Proofs.YthmjheclhcdinaaDoorW.PrintWords Go.Proofs.YthmjheclhcdinaaDoorW.PrintLast Go.Proofs.YthmjheclhcdinaaDoorW.PrintMore Go.Proofs.YthmjheclhcdinaaDoor.Ext

theorem filter_self (p : Int → Bool) (l : List Int) (h : ∀ x ∈ l, p x = true) : l.filter p = l := List.filter_eq_self.2 h
end Go.Proofs.YthmjheclhcdinaaDoor
end
section
/-
  radical.Merge by a walk.
-/
set_option linter.unusedSimpArgs false
set_option linter.unusedVariables false
namespace Go.Proofs.YthmjheclhcdinaaDoor
open Go.RowKit Go.Proofs.YthmjheclhcdinaaDoorW.PrintWords Go.Proofs.YthmjheclhcdinaaDoorW.PrintLast Go.Proofs.YthmjheclhcdinaaDoorW.PrintMore Go.Proofs.YthmjheclhcdinaaDoor.Ext

theorem fillN_len (f l : List Int) (i : Nat) : (fillN f l i).length = f.length := by
  unfold fillN
  simp [fill_len]
  omega
theorem fillN_at (f l : List Int) (i : Nat) (h : i < f.length) : (fillN f l i)[i]'(by rw [fillN_len]; exact h) = f[i] := by
  unfold fillN
  rw [List.getElem_append_right (by simp [fill_len]; omega)]
  simp [fill_len, Nat.min_eq_left (Nat.le_of_lt h)]
namespace Ext
def radical_Merge.f (l0 : List ByteArray) (l1 : List Letter) (root n f : ByteArray) : Option (ByteArray × Int) := if n.size ≤ 9223372036854775807 ∧ f.size ≤ 1000000 then some (mergeOf l0 l1 root n f) else none
set_option maxHeartbeats 4000000 in
set_option maxRecDepth 100000 in
theorem radical_Merge.calls (A0 : Option Addr) (c0 : Nat) (l0 : List ByteArray) (A1 : Option Addr) (c1 : Nat) (l1 : List Letter) (root n f : ByteArray) (r1 : ByteArray) (r2 : Int) (w : World) (hF : Kd.C Kd.string w A0 l0.length l0) (hcF : l0.length ≤ c0) (hL : Kd.C kLetter w A1 l1.length l1) (hcL : l1.length ≤ c1) (hT : Tabs w)
    (h : radical_Merge.f l0 l1 root n f = some (r1, r2)) :
    Calls Tryd.prog 48 #[.agg #[.slice A0 l0.length c0, .slice A1 l1.length c1], .string root, .agg #[.string n, .string f]] w fun e w' => e = .returned (.tuple #[.string r1, .int .i64 r2]) ∧ Below w.heap.size w w' := by
  unfold radical_Merge.f at h
  split at h
  case isFalse => cases h
  case isTrue hsz =>
  have h := Option.some.inj h
  obtain ⟨l, e, hl⟩ : ∃ l e, lettersOf l0 l1 root = (l, e) := ⟨_, _, rfl⟩
  have h64 := lettersOf_len l0 l1 root
  rw [hl] at h64
  dsimp only at h64
  have hle := fun W (hb : Below w.heap.size w W) => word_Letters.calls A0 c0 l0 A1 c1 l1 root l e W (Kd.C_below hF hb) hcF (Kd.C_below hL hb) hcL (hT.below hb) (by unfold word_Letters.f; rw [hl])
  have hch := fun W (hb : Below w.heap.size w W) => radical_Check.calls A0 c0 l0 A1 c1 l1 n f (chkS l0 l1 n f) W (Kd.C_below hF hb) hcF (Kd.C_below hL hb) hcL (hT.below hb) (by unfold radical_Check.f; rw [if_pos ⟨hsz.1, by omega⟩])
  have hho := fun W => RF1.radical_Holes.calls n f ((f.data.toList.count 95 : Nat) : Int) W rfl
  have HB := Lib.hid (boxes2 w (.cells #[.slice A0 l0.length c0, .slice A1 l1.length c1] 25) (.cells #[.string n, .string f] 32))
  clear hF hL hT
  unfold mergeOf at h
  rw [hl] at h
  dsimp only at h
  by_cases he : e = 0
  · subst he
    rw [if_pos rfl] at h
    by_cases hk : chkS l0 l1 n f = 0
    · rw [hk] at hch
      by_cases hc : f.data.toList.count 95 = l.length
      · rw [if_pos ⟨hk, hc⟩] at h
        simp only [Prod.mk.injEq] at h
        obtain ⟨hr, rfl⟩ := h
        have hcz := chkS_zero hk
        have hfo := formS_ok hcz.2.2
        obtain ⟨F, hFd⟩ : ∃ F, F = runesOf f := ⟨_, rfl⟩
        have hcF2 : F.count 95 = l.length := by rw [hFd, ← holes_runes f hfo.1]; exact hc
        have hF64 : F.length ≤ 64 := by rw [hFd]; exact hfo.2.1
        rw [← hFd] at hr
        have Hr := Lib.hid hr
        have HF := Lib.hid hFd
        have HcF := Lib.hid hcF2
        have hq1 : (((f.data.toList.count 95 : Nat) : Int) != (l.length : Int)) = false := by simp [hc]
        have hq2 : (((f.data.toList.count 95 : Nat) : Int) == (l.length : Int)) = true := by simp [hc]
        obtain ⟨nh, hnh⟩ : ∃ nh, nh = ((f.data.toList.count 95 : Nat) : Int) := ⟨_, rfl⟩
        rw [← hnh] at hq1 hq2 hho
        clear hr hFd hk hcz hfo hcF2 hl hc hnh
        go_enter Tryd.func48, Tryd.ntmps48
        go_wp2_with (first | (go_at_call 37; refine (hle _ HB.out.1).mono ?_; rintro e w1 ⟨v1, rfl, HR1, hb1⟩; have hB1 := Lib.hid (below_step HB.out.1 hb1); have hx1 := Lib.hid (blk_below HB.out.2.2 hb1); have hy1 := Lib.hid (blk_below HB.out.2.1 hb1); have hc10 := (blk_cell hx1.out 0).trans rfl; have hc11 := (blk_cell hx1.out 1).trans rfl; have hd10 := (blk_cell hy1.out 0).trans rfl; have hd11 := (blk_cell hy1.out 1).trans rfl; obtain ⟨A, c, rfl, hlc, hC⟩ := Kd.R_reads HR1; have HC1 := Lib.hid hC; clear HR1 hC) | (go_at_call 61; refine (hch _ hB1.out).mono ?_; rintro e w2 ⟨rfl, hb2⟩; have hB2 := Lib.hid (below_step hB1.out hb2); have hx2 := Lib.hid (blk_below hx1.out hb2); have hc20 := (blk_cell hx2.out 0).trans rfl; have hc21 := (blk_cell hx2.out 1).trans rfl; have HC2 := Lib.hid (Kd.C_below HC1.out hb2)) | (go_at_call 65; refine (hho _).mono ?_; rintro e w3 ⟨rfl, hb3⟩; have hB3 := Lib.hid (below_step hB2.out hb3); have hx3 := Lib.hid (blk_below hx2.out hb3); have hc31 := (blk_cell hx3.out 1).trans rfl; have HC3 := Lib.hid (Kd.C_below HC2.out hb3)) | ((with_reducible refine gate_dst (N := 36) rfl ?_); refine R_runes (w0 := w3) w3.heap.size 21 rfl (N := 36) rfl 9 73 _ rfl f rfl Tryd.underlying9 Tryd.underlying73 Tryd.underlying21 (by omega) (Below.refl _ _) (Nat.le_refl _) ?_; intro v4 w4 HR4 hb4 hg4 hat4; rw [← HF.out] at HR4; have HR4' := Lib.hid HR4; obtain ⟨A4, c4, rfl⟩ := Kd.R_slice HR4; have Hb4 := Lib.hid hb4; clear HR4 hb4 hg4 hat4))
        go_loopw [11, 39] (fun kk i wr => ∃ k : Nat, k ≤ F.length ∧ i = .int .i64 k ∧ kk = .int .i64 ((F.take k).count 95 : Nat) ∧ Hid (Below w3.heap.size w3 wr) ∧ Hid (Kd.R (Kd.int .i32) 21 wr w3.heap.size (fun _ => True) (.slice A4 F.length c4) (fillN F l k)))
          (fun _ i _ => F.length - (intOf i).toNat)
        case atStart => exact ⟨0, Nat.zero_le _, rfl, rfl, Hb4.out, by have := HR4'.out; simpa [fillN, Hid] using this⟩
        case round =>
          obtain ⟨k, hk, rfl, rfl, hb, hR⟩ := hrel
          by_cases hlt : k < F.length
          · have hfl := fillN_len F l k
            obtain ⟨g, co, hv, hge, hgl, cells, hgc⟩ := Kd.R_form hR.out (by omega)
            injection hv with ha hn2 hco
            subst ha
            subst hco
            clear hn2
            obtain ⟨hx0, hf0⟩ := Kd.R_celln 0 hR.out (k : Int) (by omega) (by omega)
            have hrd : rdOf 0 (fillN F l k) (k : Int) = F[k] := by
              unfold rdOf
              rw [Int.toNat_natCast, List.getD_eq_getElem?_getD, List.getElem?_eq_getElem (by omega), ← fillN_at F l k hlt]
              rfl
            rw [hrd, Int.toNat_natCast] at hx0
            rw [Int.toNat_natCast] at hf0
            have Hst := Lib.hid (fillN_step F l k hlt HcF.out)
            have Hcs := Lib.hid (count_step F k hlt)
            clear hfl hrd hgc cells
            by_cases h95 : F[k] = 95
            · have hcl := count_lt F k hlt h95
              have hck := count_le' F k
              rw [HcF.out] at hcl
              rw [h95] at hx0
              have Hst2 : Hid (fillN F l (k + 1) = (fillN F l k).set k (l.getD ((F.take k).count 95) 0)) := by have := Hst.out; rw [if_pos h95] at this; exact this
              have Hcs2 : Hid ((F.take (k + 1)).count 95 = (F.take k).count 95 + 1) := by have := Hcs.out; rw [if_pos h95] at this; exact this
              clear h95 Hst Hcs
              obtain ⟨q, hq⟩ : ∃ q, q = (F.take k).count 95 := ⟨_, rfl⟩
              rw [← hq] at hcl hck
              rw [← hq] at Hst2 Hcs2
              obtain ⟨ad, hA, hy0⟩ := Kd.at_int (Kd.C_below HC3.out hb.out) q (by omega) (by omega)
              subst hA
              rw [Int.toNat_natCast] at hy0
              have hyr : YthmjheclhcdinaaDoorW.PrintWords.rd l (q : Int) = l.getD q 0 := by unfold YthmjheclhcdinaaDoorW.PrintWords.rd; rw [Int.toNat_natCast]
              rw [hyr] at hy0
              obtain ⟨y, hy⟩ : ∃ y, y = l.getD q 0 := ⟨_, rfl⟩
              rw [← hy] at hy0 Hst2
              have HP := Lib.hid (Kd.R_putg hR.out (k : Int) y)
              rw [Int.toNat_natCast] at HP
              rw [← hq]
              clear hq hyr hy
              go_wp2_with fail
              go_roundw
              case rel => exact ⟨k + 1, by omega, by go_num, by rw [Hcs2.out]; go_num, below_set hb.out hge, by show Kd.R _ _ _ _ _ _ _; rw [Hst2.out]; exact HP.out.1⟩
              case measure => simp [intOf]; omega
            · have Hst2 : Hid (fillN F l (k + 1) = fillN F l k) := by have := Hst.out; rw [if_neg h95] at this; exact this
              have Hcs2 : Hid ((F.take (k + 1)).count 95 = (F.take k).count 95) := by have := Hcs.out; rw [if_neg h95] at this; exact this
              have he1 : ((F[k] : Int) == 95) = false := by simpa using h95
              clear h95 Hst Hcs
              go_wp2_with fail
              go_roundw
              case rel => exact ⟨k + 1, by omega, by go_num, by rw [Hcs2.out], hb.out, by show Kd.R _ _ _ _ _ _ _; rw [Hst2.out]; exact hR.out⟩
              case measure => simp [intOf]; omega
          · obtain rfl : k = F.length := by omega
            have hcv := conv_runes (c := c4) (Kd.R_reads' hR.out).2.2
            have hfin : fillN F l F.length = fillH F l := by unfold fillN; rw [List.drop_length, List.append_nil, List.take_of_length_le (by rw [fill_len]; omega)]
            have hln := fillN_len F l F.length
            rw [hln, hfin, Hr.out] at hcv
            have Hb3 := Lib.hid (hB3.out.trans (hb.out.mono hB3.out.size))
            clear hln hfin
            go_wp2_with fail
            go_ret2
            exact ⟨rfl, Hb3.out⟩
      · rw [if_neg (fun hh => hc hh.2)] at h
        simp only [Prod.mk.injEq] at h
        obtain ⟨rfl, rfl⟩ := h
        have hq1 : (((f.data.toList.count 95 : Nat) : Int) != (l.length : Int)) = true := bne_iff_ne.mpr (by omega)
        have hq2 : (((f.data.toList.count 95 : Nat) : Int) == (l.length : Int)) = false := beq_eq_false_iff_ne.mpr (by omega)
        obtain ⟨nh, hnh⟩ : ∃ nh, nh = ((f.data.toList.count 95 : Nat) : Int) := ⟨_, rfl⟩
        rw [← hnh] at hq1 hq2 hho
        clear hk hl hc hnh
        go_enter Tryd.func48, Tryd.ntmps48
        go_wp2_with (first | (go_at_call 37; refine (hle _ HB.out.1).mono ?_; rintro e w1 ⟨v1, rfl, HR1, hb1⟩; have hB1 := Lib.hid (below_step HB.out.1 hb1); have hx1 := Lib.hid (blk_below HB.out.2.2 hb1); have hy1 := Lib.hid (blk_below HB.out.2.1 hb1); have hc10 := (blk_cell hx1.out 0).trans rfl; have hc11 := (blk_cell hx1.out 1).trans rfl; have hd10 := (blk_cell hy1.out 0).trans rfl; have hd11 := (blk_cell hy1.out 1).trans rfl; obtain ⟨A, c, rfl, hlc, hC⟩ := Kd.R_reads HR1; have HC1 := Lib.hid hC; clear HR1 hC) | (go_at_call 61; refine (hch _ hB1.out).mono ?_; rintro e w2 ⟨rfl, hb2⟩; have hB2 := Lib.hid (below_step hB1.out hb2); have hx2 := Lib.hid (blk_below hx1.out hb2); have hc20 := (blk_cell hx2.out 0).trans rfl; have hc21 := (blk_cell hx2.out 1).trans rfl; have HC2 := Lib.hid (Kd.C_below HC1.out hb2)) | (go_at_call 65; refine (hho _).mono ?_; rintro e w3 ⟨rfl, hb3⟩; have hB3 := Lib.hid (below_step hB2.out hb3)))
        go_ret2
        exact ⟨rfl, hB3.out⟩
    · rw [if_neg (fun hh => hk hh.1)] at h
      simp only [Prod.mk.injEq] at h
      obtain ⟨rfl, rfl⟩ := h
      have heb : (chkS l0 l1 n f == 0) = false := beq_eq_false_iff_ne.mpr hk
      have heb2 : (chkS l0 l1 n f != 0) = true := bne_iff_ne.mpr hk
      clear hk hl
      go_enter Tryd.func48, Tryd.ntmps48
      go_wp2_with (first | (go_at_call 37; refine (hle _ HB.out.1).mono ?_; rintro e w1 ⟨v1, rfl, HR1, hb1⟩; have hB1 := Lib.hid (below_step HB.out.1 hb1); have hx1 := Lib.hid (blk_below HB.out.2.2 hb1); have hy1 := Lib.hid (blk_below HB.out.2.1 hb1); have hc10 := (blk_cell hx1.out 0).trans rfl; have hc11 := (blk_cell hx1.out 1).trans rfl; have hd10 := (blk_cell hy1.out 0).trans rfl; have hd11 := (blk_cell hy1.out 1).trans rfl; obtain ⟨A, c, rfl, hlc, hC⟩ := Kd.R_reads HR1; have HC1 := Lib.hid hC; clear HR1 hC) | (go_at_call 61; refine (hch _ hB1.out).mono ?_; rintro e w2 ⟨rfl, hb2⟩; have hB2 := Lib.hid (below_step hB1.out hb2)))
      go_ret2
      exact ⟨rfl, hB2.out⟩
  · rw [if_neg he] at h
    simp only [Prod.mk.injEq] at h
    obtain ⟨rfl, rfl⟩ := h
    have heb : (e == 0) = false := beq_eq_false_iff_ne.mpr he
    have heb2 : (e != 0) = true := bne_iff_ne.mpr he
    clear he hl
    go_enter Tryd.func48, Tryd.ntmps48
    go_wp2_with (first | (go_at_call 37; refine (hle _ HB.out.1).mono ?_; rintro e' w1 ⟨v1, rfl, HR1, hb1⟩; have hB1 := Lib.hid (below_step HB.out.1 hb1); obtain ⟨A, c, rfl, hlc, hC⟩ := Kd.R_reads HR1; clear HR1 hC))
    go_ret2
    exact ⟨rfl, hB1.out⟩
end Ext
end Go.Proofs.YthmjheclhcdinaaDoor
end
section
-- printed by a program of this session (wip/tools/prx.sh: a turned copy of the kit's print, with functions given from outside)
namespace Go.Proofs.YthmjheclhcdinaaDoor.RRm
open Go.RowKit Go.Proofs.YthmjheclhcdinaaDoor Go.Proofs.YthmjheclhcdinaaDoor.Ext Go.Proofs.YthmjheclhcdinaaDoorW.PrintWords Go.Proofs.YthmjheclhcdinaaDoorW.PrintLast Go.Proofs.YthmjheclhcdinaaDoorW.PrintMore
attribute [local go_sem] max2_int min2_int max_two min_two max_three min_three max_four min_four   -- for this text's walks alone
set_option linter.unusedVariables false
set_option linter.unusedSimpArgs false

/-! ### radical_split: function 66 -/
def radical_split.l0 : Nat → List Int → ByteArray → List Int → Int → Int → Option (ByteArray × Bool)
  | 0, _, _, _, _, _ => none
  | k + 1, x0, x6, x14, x15, x16 => if x16 < x15 then (if 0 ≤ x16 then (if x16 < (x14.length : Int) then (if (rd x14 x16) = 95 then (if x16 < (x0.length : Int) then (if x6.size + (Utf8.encode (rd x0 x16)).size ≤ 9223372036854775807 then (radical_split.l0 k x0 (x6 ++ (Utf8.encode (rd x0 x16))) x14 x15 (wrap64 (x16 + 1))) else (none)) else (none)) else (if x16 < (x0.length : Int) then (if (rd x14 x16) = (rd x0 x16) then (radical_split.l0 k x0 x6 x14 x15 (wrap64 (x16 + 1))) else (some ((⟨#[]⟩ : ByteArray), false))) else (none))) else (none)) else (none)) else (some (x6, true))
def radical_split.f (k : Nat) (l0 : List Int) (l1 : List Int) : Option (ByteArray × Bool) := if (l0.length : Int) = (l1.length : Int) then (radical_split.l0 k l0 (⟨#[]⟩ : ByteArray) l1 (l1.length : Int) 0) else (some ((⟨#[]⟩ : ByteArray), false))
set_option maxHeartbeats 8000000 in
set_option maxRecDepth 100000 in
theorem radical_split.calls (k : Nat) (A0 : Option Addr) (c0 : Nat) (l0 : List Int) (A1 : Option Addr) (c1 : Nat) (l1 : List Int) (r1 : ByteArray) (r2 : Bool) (w : World) (hr0 : Kd.C (Kd.int .i32) w A0 l0.length l0) (hc0 : l0.length ≤ c0) (hr1 : Kd.C (Kd.int .i32) w A1 l1.length l1) (hc1 : l1.length ≤ c1) (h : radical_split.f k l0 l1 = some (r1, r2)) :
    Calls Tryd.prog 66 #[.slice A0 l0.length c0, .slice A1 l1.length c1] w fun e w' => e = .returned (.tuple #[.string r1, .bool r2]) ∧ Drawn0 w w' := by
  have HR0 := Aside0.mk hr0
  have HC0 := Aside0.mk hc0
  clear hr0 hc0
  have HR1 := Aside0.mk hr1
  have HC1 := Aside0.mk hc1
  clear hr1 hc1
  have H : (if (l0.length : Int) = (l1.length : Int) then (radical_split.l0 k l0 (⟨#[]⟩ : ByteArray) l1 (l1.length : Int) 0) else (some ((⟨#[]⟩ : ByteArray), false))) = some (r1, r2) := h
  clear h
  by_cases c3 : (l0.length : Int) = (l1.length : Int)
  · rw [if_pos c3] at H
    have c3b0 : ((l0.length : Int) == (l1.length : Int)) = true := beq_iff_eq.mpr c3
    have c3b1 : ((l0.length : Int) != (l1.length : Int)) = false := bne_eq_false_iff_eq.mpr c3
    have c3b2 : (l0.length == l1.length) = true := by first | simpa using c3 | (simp at c3 ⊢; omega)
    clear c3
    have H' := Aside0.mk H
    clear H
    go_enter Tryd.func66, Tryd.ntmps66
    go_wp2
    go_loopg [6, 16] k (fun kq v6 v16 w' => ∃ (x6_1 : ByteArray) (x16_1 : Int), v6 = .string x6_1 ∧ v16 = .int .i64 x16_1 ∧ Aside0 (radical_split.l0 kq l0 x6_1 l1 (l1.length : Int) x16_1 = some (r1, r2)) ∧ Aside0 (kq ≤ k) ∧ Drawn0 w w')
    case atStart => exact ⟨((⟨#[]⟩ : ByteArray)), (0), (by first | rfl | (simp; done) | (simp [*]; done)), (by first | rfl | (simp; done) | (simp [*]; done)), H', ⟨Nat.le_refl _⟩, by repeat (first | exact Drawn0.refl _ | apply Drawn0.step)⟩
    case round =>
      clear H'
      try clear c1
      try clear p2
      try clear c3
      try clear c3b0
      try clear c3b1
      try clear c3b2
      obtain ⟨x6_1, x16_1, rfl, rfl, HA, HK1, ⟨m1, rfl⟩⟩ := hrel
      cases gk with
      | zero => exact absurd HA.out (by simp [radical_split.l0])
      | succ k1 =>
        have H := HA.out
        clear HA
        simp only [radical_split.l0] at H
        by_cases c4 : x16_1 < (l1.length : Int)
        · rw [if_pos c4] at H
          have c4b0 : decide (x16_1 < (l1.length : Int)) = true := decide_eq_true c4
          clear c4
          by_cases c5 : 0 ≤ x16_1
          · rw [if_pos c5] at H
            have c5b0 : decide (0 ≤ x16_1) = true := decide_eq_true c5
            clear c5
            by_cases c6 : x16_1 < (l1.length : Int)
            · rw [if_pos c6] at H
              have c6b0 : decide (x16_1 < (l1.length : Int)) = true := decide_eq_true c6
              clear c6
              by_cases c7 : (rd l1 x16_1) = 95
              · rw [if_pos c7] at H
                have c7b0 : ((rd l1 x16_1) == 95) = true := beq_iff_eq.mpr c7
                have c7b1 : ((rd l1 x16_1) != 95) = false := bne_eq_false_iff_eq.mpr c7
                clear c7
                by_cases c8 : x16_1 < (l0.length : Int)
                · rw [if_pos c8] at H
                  have c8b0 : decide (x16_1 < (l0.length : Int)) = true := decide_eq_true c8
                  clear c8
                  by_cases c9 : x6_1.size + (Utf8.encode (rd l0 x16_1)).size ≤ 9223372036854775807
                  · rw [if_pos c9] at H
                    have c9b0 := eq_true c9
                    have c9b1 : decide (x6_1.size + (Utf8.encode (rd l0 x16_1)).size ≤ 9223372036854775807) = true := decide_eq_true c9
                    try have c9b2 : (9223372036854775807 < x6_1.size + (Utf8.encode (rd l0 x16_1)).size) = False := eq_false (Nat.not_lt.2 c9)
                    have H' := Aside0.mk H
                    clear H
                    have p101 : 0 ≤ (x16_1 : Int) := of_decide_eq_true (by first | (with_reducible assumption) | assumption)
                    have q101 : x16_1 < (l1.length : Int) := of_decide_eq_true (by first | (with_reducible assumption) | assumption)
                    obtain ⟨ad101, e101, hx101_0⟩ := Kd.at_int HR1.out x16_1 p101 q101
                    cases e101
                    replace p101 := eq_true p101
                    replace q101 := eq_true q101
                    have p102 : 0 ≤ (x16_1 : Int) := of_decide_eq_true (by first | (with_reducible assumption) | assumption)
                    have q102 : x16_1 < (l0.length : Int) := of_decide_eq_true (by first | (with_reducible assumption) | assumption)
                    obtain ⟨ad102, e102, hx102_0⟩ := Kd.at_int HR0.out x16_1 p102 q102
                    cases e102
                    replace p102 := eq_true p102
                    replace q102 := eq_true q102
                    go_wp2
                    go_roundg k1
                    case measure => have := HK1.out; omega
                    case rel => exact ⟨(x6_1 ++ (Utf8.encode (rd l0 x16_1))), (wrap64 (x16_1 + 1)), (by first | rfl | (simp; done) | (simp [*]; done)), (by first | rfl | (simp; done) | (simp [*]; done)), H', ⟨by have := HK1.out; omega⟩, by repeat (first | exact Drawn0.refl _ | apply Drawn0.step)⟩
                  · rw [if_neg c9] at H
                    exact absurd H (by simp)
                · rw [if_neg c8] at H
                  exact absurd H (by simp)
              · rw [if_neg c7] at H
                have c7b0 : ((rd l1 x16_1) == 95) = false := beq_eq_false_iff_ne.mpr c7
                have c7b1 : ((rd l1 x16_1) != 95) = true := bne_iff_ne.mpr c7
                by_cases c10 : x16_1 < (l0.length : Int)
                · rw [if_pos c10] at H
                  have c10b0 : decide (x16_1 < (l0.length : Int)) = true := decide_eq_true c10
                  clear c10
                  by_cases c11 : (rd l1 x16_1) = (rd l0 x16_1)
                  · rw [if_pos c11] at H
                    have c11b0 : ((rd l1 x16_1) == (rd l0 x16_1)) = true := beq_iff_eq.mpr c11
                    have c11b1 : ((rd l1 x16_1) != (rd l0 x16_1)) = false := bne_eq_false_iff_eq.mpr c11
                    clear c11
                    have H' := Aside0.mk H
                    clear H
                    have p101 : 0 ≤ (x16_1 : Int) := of_decide_eq_true (by first | (with_reducible assumption) | assumption)
                    have q101 : x16_1 < (l1.length : Int) := of_decide_eq_true (by first | (with_reducible assumption) | assumption)
                    obtain ⟨ad101, e101, hx101_0⟩ := Kd.at_int HR1.out x16_1 p101 q101
                    cases e101
                    replace p101 := eq_true p101
                    replace q101 := eq_true q101
                    have p103 : 0 ≤ (x16_1 : Int) := of_decide_eq_true (by first | (with_reducible assumption) | assumption)
                    have q103 : x16_1 < (l0.length : Int) := of_decide_eq_true (by first | (with_reducible assumption) | assumption)
                    obtain ⟨ad103, e103, hx103_0⟩ := Kd.at_int HR0.out x16_1 p103 q103
                    cases e103
                    replace p103 := eq_true p103
                    replace q103 := eq_true q103
                    go_wp2
                    go_roundg k1
                    case measure => have := HK1.out; omega
                    case rel => exact ⟨(x6_1), (wrap64 (x16_1 + 1)), (by first | rfl | (simp; done) | (simp [*]; done)), (by first | rfl | (simp; done) | (simp [*]; done)), H', ⟨by have := HK1.out; omega⟩, by repeat (first | exact Drawn0.refl _ | apply Drawn0.step)⟩
                  · rw [if_neg c11] at H
                    have c11b0 : ((rd l1 x16_1) == (rd l0 x16_1)) = false := beq_eq_false_iff_ne.mpr c11
                    have c11b1 : ((rd l1 x16_1) != (rd l0 x16_1)) = true := bne_iff_ne.mpr c11
                    simp only [Option.some.injEq, Prod.mk.injEq] at H
                    obtain ⟨rfl, rfl⟩ := H
                    have p101 : 0 ≤ (x16_1 : Int) := of_decide_eq_true (by first | (with_reducible assumption) | assumption)
                    have q101 : x16_1 < (l1.length : Int) := of_decide_eq_true (by first | (with_reducible assumption) | assumption)
                    obtain ⟨ad101, e101, hx101_0⟩ := Kd.at_int HR1.out x16_1 p101 q101
                    cases e101
                    replace p101 := eq_true p101
                    replace q101 := eq_true q101
                    have p103 : 0 ≤ (x16_1 : Int) := of_decide_eq_true (by first | (with_reducible assumption) | assumption)
                    have q103 : x16_1 < (l0.length : Int) := of_decide_eq_true (by first | (with_reducible assumption) | assumption)
                    obtain ⟨ad103, e103, hx103_0⟩ := Kd.at_int HR0.out x16_1 p103 q103
                    cases e103
                    replace p103 := eq_true p103
                    replace q103 := eq_true q103
                    go_wp2
                    go_ret2
                    exact ⟨by first | rfl | (simp; done) | (simp [*]; done), by repeat (first | exact Drawn0.refl _ | apply Drawn0.step)⟩
                · rw [if_neg c10] at H
                  exact absurd H (by simp)
            · rw [if_neg c6] at H
              exact absurd H (by simp)
          · rw [if_neg c5] at H
            exact absurd H (by simp)
        · rw [if_neg c4] at H
          have c4b0 : decide (x16_1 < (l1.length : Int)) = false := decide_eq_false c4
          clear c4
          simp only [Option.some.injEq, Prod.mk.injEq] at H
          obtain ⟨rfl, rfl⟩ := H
          go_wp2
          go_ret2
          exact ⟨by first | rfl | (simp; done) | (simp [*]; done), by repeat (first | exact Drawn0.refl _ | apply Drawn0.step)⟩
  · rw [if_neg c3] at H
    have c3b0 : ((l0.length : Int) == (l1.length : Int)) = false := beq_eq_false_iff_ne.mpr c3
    have c3b1 : ((l0.length : Int) != (l1.length : Int)) = true := bne_iff_ne.mpr c3
    have c3b2 : (l0.length == l1.length) = false := by first | simpa using c3 | (simp at c3 ⊢; omega)
    simp only [Option.some.injEq, Prod.mk.injEq] at H
    obtain ⟨rfl, rfl⟩ := H
    go_enter Tryd.func66, Tryd.ntmps66
    go_wp2
    go_ret2
    exact ⟨by first | rfl | (simp; done) | (simp [*]; done), by repeat (first | exact Drawn0.refl _ | apply Drawn0.step)⟩

/-! ### radical_Split: function 49 -/
def radical_Split.f (k : Nat) (l0_0 : List ByteArray) (l0_1 : List (S84)) (a1 : ByteArray) (a2_0 : ByteArray) (a2_1 : ByteArray) : Option (ByteArray × Bool × Int) := (word_Letters.f l0_0 l0_1 a1).bind fun bt106 => (if bt106.2 = 0 then ((radical_Check.f l0_0 l0_1 a2_0 a2_1).bind fun t110 => (if t110 = 0 then (if (a2_1.size : Int) ≤ 70368744177664 then ((radical_split.f k bt106.1 (runesOf a2_1)).bind fun bt114 => (some (bt114.1, bt114.2, 0))) else (none)) else (some ((⟨#[]⟩ : ByteArray), false, t110)))) else (some ((⟨#[]⟩ : ByteArray), false, bt106.2)))
set_option maxHeartbeats 8000000 in
set_option maxRecDepth 100000 in
theorem radical_Split.calls (k : Nat) (A0_0 : Option Addr) (c0_0 : Nat) (l0_0 : List ByteArray) (A0_1 : Option Addr) (c0_1 : Nat) (l0_1 : List (S84)) (a1 : ByteArray) (a2_0 : ByteArray) (a2_1 : ByteArray) (r1 : ByteArray) (r2 : Bool) (r3 : Int) (w : World) (hr0_0 : Kd.C Kd.string w A0_0 l0_0.length l0_0) (hc0_0 : l0_0.length ≤ c0_0) (hr0_1 : Kd.C k84 w A0_1 l0_1.length l0_1) (hc0_1 : l0_1.length ≤ c0_1) (hT : Tabs w) (h : radical_Split.f k l0_0 l0_1 a1 a2_0 a2_1 = some (r1, r2, r3)) :
    Calls Tryd.prog 49 #[.agg #[.slice A0_0 l0_0.length c0_0, .slice A0_1 l0_1.length c0_1], .string a1, .agg #[.string a2_0, .string a2_1]] w fun e w' => e = .returned (.tuple #[.string r1, .bool r2, .int .i64 r3]) ∧ Below w.heap.size w w' := by
  have hu25 := Tryd.underlying25
  have hu32 := Tryd.underlying32
  have HR0_0 := Aside0.mk hr0_0
  have HC0_0 := Aside0.mk hc0_0
  clear hr0_0 hc0_0
  have HR0_1 := Aside0.mk hr0_1
  have HC0_1 := Aside0.mk hc0_1
  clear hr0_1 hc0_1
  have HB := Aside0.mk (Below.refl w.heap.size w)
  have HT := Aside0.mk hT
  clear hT
  have H : ((word_Letters.f l0_0 l0_1 a1).bind fun bt106 => (if bt106.2 = 0 then ((radical_Check.f l0_0 l0_1 a2_0 a2_1).bind fun t110 => (if t110 = 0 then (if (a2_1.size : Int) ≤ 70368744177664 then ((radical_split.f k bt106.1 (runesOf a2_1)).bind fun bt114 => (some (bt114.1, bt114.2, 0))) else (none)) else (some ((⟨#[]⟩ : ByteArray), false, t110)))) else (some ((⟨#[]⟩ : ByteArray), false, bt106.2)))) = some (r1, r2, r3) := h
  clear h
  replace H := Option.bind_eq_some_iff.mp H
  obtain ⟨⟨t106, t109⟩, A40, H⟩ := H
  replace H : (if t109 = 0 then ((radical_Check.f l0_0 l0_1 a2_0 a2_1).bind fun t110 => (if t110 = 0 then (if (a2_1.size : Int) ≤ 70368744177664 then ((radical_split.f k t106 (runesOf a2_1)).bind fun bt114 => (some (bt114.1, bt114.2, 0))) else (none)) else (some ((⟨#[]⟩ : ByteArray), false, t110)))) else (some ((⟨#[]⟩ : ByteArray), false, t109))) = some (r1, r2, r3) := H
  have A4 := Aside0.mk A40
  clear A40
  by_cases c5 : t109 = 0
  · rw [if_pos c5] at H
    have c5b0 : (t109 == 0) = true := beq_iff_eq.mpr c5
    have c5b1 : (t109 != 0) = false := bne_eq_false_iff_eq.mpr c5
    clear c5
    replace H := Option.bind_eq_some_iff.mp H
    obtain ⟨t110, A60, H⟩ := H
    replace H : (if t110 = 0 then (if (a2_1.size : Int) ≤ 70368744177664 then ((radical_split.f k t106 (runesOf a2_1)).bind fun bt114 => (some (bt114.1, bt114.2, 0))) else (none)) else (some ((⟨#[]⟩ : ByteArray), false, t110))) = some (r1, r2, r3) := H
    have A6 := Aside0.mk A60
    clear A60
    by_cases c7 : t110 = 0
    · rw [if_pos c7] at H
      have c7b0 : (t110 == 0) = true := beq_iff_eq.mpr c7
      have c7b1 : (t110 != 0) = false := bne_eq_false_iff_eq.mpr c7
      clear c7
      by_cases c8 : (a2_1.size : Int) ≤ 70368744177664
      · rw [if_pos c8] at H
        have c8b0 := eq_true c8
        have c8b1 : decide ((a2_1.size : Int) ≤ 70368744177664) = true := decide_eq_true c8
        clear c8
        obtain ⟨y111, hy111⟩ : ∃ y_ : List Int, y_ = (runesOf a2_1) := ⟨_, rfl⟩
        replace H : ((radical_split.f k t106 y111).bind fun bt114 => (some (bt114.1, bt114.2, 0))) = some (r1, r2, r3) := by first | (rw [hy111]; with_reducible exact H) | (have H2_ := (Option.bind_some _ _).symm.trans H; rw [hy111]; with_reducible exact H2_) | (have H2_ := (Option.bind_some _ _).symm.trans H; with_reducible exact H2_) | with_reducible exact H | (rw [hy111]; exact H) | exact H
        have Ny111 := Aside0.mk hy111
        clear hy111
        replace H := Option.bind_eq_some_iff.mp H
        obtain ⟨⟨t114, t115⟩, A90, H⟩ := H
        replace H : (some (t114, t115, 0)) = some (r1, r2, r3) := H
        have A9 := Aside0.mk A90
        clear A90
        simp only [Option.some.injEq, Prod.mk.injEq] at H
        obtain ⟨rfl, rfl, rfl⟩ := H
        go_enter Tryd.func49, Tryd.ntmps49
        go_wp2_with (first | ((with_reducible refine gate_dst (N := 3) rfl ?_); refine box_event ?hg (N := 3) ?hd (cs := #[.slice A0_0 l0_0.length c0_0, .slice A0_1 l0_1.length c0_1]) (t := 25) ?hr ?_; (case hd => rfl); (case hg => rfl); (case hr => first | (go_simp; done) | (go_simp; rfl)); intro gb104 hg w10 hbox hb; have n0_ := Aside0.mk (below_step (by repeat (first | (with_reducible first | exact HB.out | apply below_alloc | apply pw_below_drewN | apply below_drew1) | exact HB.out)) hb); have n1_ := Aside0.mk (hbox); have n2_ := Aside0.mk ((by rw [hg]; exact (below_size (by repeat (first | (with_reducible first | exact HB.out | apply below_alloc | apply pw_below_drewN | apply below_drew1) | exact HB.out))) : w.heap.size ≤ gb104)); have n3_ := Aside0.mk ((by rw [hg]; exact (below_size (by repeat (first | (with_reducible first | exact HB.out | apply below_alloc | apply pw_below_drewN | apply below_drew1) | exact HB.out))) : w.heap.size ≤ gb104)); clear HB; have HB := n0_; have BK104 := n1_; have GW104 := n2_; have GE104 := n3_; clear n0_ n1_ n2_ n3_; clear hb hbox hg) | ((with_reducible refine gate_dst (N := 5) rfl ?_); refine box_event ?hg (N := 5) ?hd (cs := #[.string a2_0, .string a2_1]) (t := 32) ?hr ?_; (case hd => rfl); (case hg => rfl); (case hr => first | (go_simp; done) | (go_simp; rfl)); intro gb105 hg w11 hbox hb; have n0_ := Aside0.mk (blk_below (g := gb104) (o := .cells #[.slice A0_0 l0_0.length c0_0, .slice A0_1 l0_1.length c0_1] 25 (0, 0)) (by (with_reducible repeat (first | refine blk_drewN ?_ _ | refine blk_drew ?_ | refine blk_alloc ?_ _)); exact BK104.out) hb); have n1_ := Aside0.mk (below_step (by repeat (first | (with_reducible first | exact HB.out | apply below_alloc | apply pw_below_drewN | apply below_drew1 | refine below_set ?_ GE104.out) | exact HB.out)) hb); have n2_ := Aside0.mk (hbox); have n3_ := Aside0.mk ((by rw [hg]; exact (below_size (by repeat (first | (with_reducible first | exact HB.out | apply below_alloc | apply pw_below_drewN | apply below_drew1 | refine below_set ?_ GE104.out) | exact HB.out))) : w.heap.size ≤ gb105)); have n4_ := Aside0.mk ((by rw [hg]; exact (below_size (by repeat (first | (with_reducible first | exact HB.out | apply below_alloc | apply pw_below_drewN | apply below_drew1 | refine below_set ?_ GE104.out) | exact HB.out))) : w.heap.size ≤ gb105)); have n5_ := Aside0.mk ((by rw [hg]; exact Nat.ne_of_lt (blk_lt (g := gb104) (o := .cells #[.slice A0_0 l0_0.length c0_0, .slice A0_1 l0_1.length c0_1] 25 (0, 0)) (by (with_reducible repeat (first | refine blk_drewN ?_ _ | refine blk_drew ?_ | refine blk_alloc ?_ _)); exact BK104.out)) : gb104 ≠ gb105)); have n6_ := Aside0.mk ((by rw [hg]; exact Nat.ne_of_gt (blk_lt (g := gb104) (o := .cells #[.slice A0_0 l0_0.length c0_0, .slice A0_1 l0_1.length c0_1] 25 (0, 0)) (by (with_reducible repeat (first | refine blk_drewN ?_ _ | refine blk_drew ?_ | refine blk_alloc ?_ _)); exact BK104.out)) : gb105 ≠ gb104)); clear BK104; clear HB; have BK104 := n0_; have HB := n1_; have BK105 := n2_; have GW105 := n3_; have GE105 := n4_; have NB104_105 := n5_; have NB105_104 := n6_; clear n0_ n1_ n2_ n3_ n4_ n5_ n6_; clear hb hbox hg; have hnb12 := NB104_105.out; have hnc12 := NB105_104.out; have hcz13_0 : w11.cell? ⟨gb104, 0, none⟩ = some (.slice A0_0 l0_0.length c0_0) := (blk_cell BK104.out 0).trans rfl; have hcz13_1 : w11.cell? ⟨gb104, 1, none⟩ = some (.slice A0_1 l0_1.length c0_1) := (blk_cell BK104.out 1).trans rfl; have hfz13_0 := blk_frozen BK104.out 0; have hfz13_1 := blk_frozen BK104.out 1) | ((with_reducible refine gate_callee (f := 37) rfl ?_); refine goesL_ (some 17) rfl rfl Tryd.func37 (by kernel_rfl) rfl #[.agg #[.slice A0_0 l0_0.length c0_0, .slice A0_1 l0_1.length c0_1], .string a1] rfl (by (try simp only [List.map_toArray, List.map_cons, List.map_nil]); first | done | rfl | (simp only [List.length_drop, List.length_take]; rfl)) ?_; (with_reducible refine (word_Letters.calls _ _ l0_0 _ _ l0_1 a1 t106 t109 _ ?side1 ?side2 ?side3 ?side4 ?side5 A4.out).mono ?_); (case side1 => repeat (first | exact (Kd.C_below HR0_0.out HB.out) | (with_reducible refine Kd.C_alloc ?_ _) | (with_reducible refine Kd.C_drewN ?_ _) | (with_reducible refine Kd.C_drew ?_))); (case side2 => exact HC0_0.out); (case side3 => repeat (first | exact (Kd.C_below HR0_1.out HB.out) | (with_reducible refine Kd.C_alloc ?_ _) | (with_reducible refine Kd.C_drewN ?_ _) | (with_reducible refine Kd.C_drew ?_))); (case side4 => exact HC0_1.out); (case side5 => exact Tabs.below HT.out (by repeat (first | (with_reducible first | exact HB.out | apply below_alloc | apply pw_below_drewN | apply below_drew1 | refine below_set ?_ GE104.out | refine below_set ?_ GE105.out) | exact HB.out))); rintro e w14 ⟨v107, rfl, ho0, hb⟩; refine ⟨_, rfl, ?_⟩; have n0_ := Aside0.mk (Kd.R_lower ho0 (below_size (by repeat (first | (with_reducible first | exact HB.out | apply below_alloc | apply pw_below_drewN | apply below_drew1 | refine below_set ?_ GE104.out | refine below_set ?_ GE105.out) | exact HB.out)))); have n1_ := Aside0.mk (blk_below (g := gb104) (o := .cells #[.slice A0_0 l0_0.length c0_0, .slice A0_1 l0_1.length c0_1] 25 (0, 0)) (by (with_reducible repeat (first | refine blk_drewN ?_ _ | refine blk_drew ?_ | refine blk_alloc ?_ _)); exact BK104.out) hb); have n2_ := Aside0.mk (blk_below (g := gb105) (o := .cells #[.string a2_0, .string a2_1] 32 (0, 0)) (by (with_reducible repeat (first | refine blk_drewN ?_ _ | refine blk_drew ?_ | refine blk_alloc ?_ _)); exact BK105.out) hb); have n3_ := Aside0.mk (below_step (by repeat (first | (with_reducible first | exact HB.out | apply below_alloc | apply pw_below_drewN | apply below_drew1 | refine below_set ?_ GE104.out | refine below_set ?_ GE105.out) | exact HB.out)) hb); clear BK104; clear BK105; clear HB; have HO108 := n0_; have BK104 := n1_; have BK105 := n2_; have HB := n3_; clear n0_ n1_ n2_ n3_; (try clear hb); (try clear hb2); (try clear hk); (try clear hi); (try clear ho0); have hcz15_0 : w14.cell? ⟨gb104, 0, none⟩ = some (.slice A0_0 l0_0.length c0_0) := (blk_cell BK104.out 0).trans rfl; have hcz15_1 : w14.cell? ⟨gb104, 1, none⟩ = some (.slice A0_1 l0_1.length c0_1) := (blk_cell BK104.out 1).trans rfl; have hfz15_0 := blk_frozen BK104.out 0; have hfz15_1 := blk_frozen BK104.out 1; have hcz16_0 : w14.cell? ⟨gb105, 0, none⟩ = some (.string a2_0) := (blk_cell BK105.out 0).trans rfl; have hcz16_1 : w14.cell? ⟨gb105, 1, none⟩ = some (.string a2_1) := (blk_cell BK105.out 1).trans rfl; have hfz16_0 := blk_frozen BK105.out 0; have hfz16_1 := blk_frozen BK105.out 1) | ((with_reducible refine gate_callee (f := 61) rfl ?_); refine goesL_ (some 25) rfl rfl Tryd.func61 (by kernel_rfl) rfl #[.agg #[.slice A0_0 l0_0.length c0_0, .slice A0_1 l0_1.length c0_1], .agg #[.string a2_0, .string a2_1]] rfl (by (try simp only [List.map_toArray, List.map_cons, List.map_nil]); first | done | rfl | (simp only [List.length_drop, List.length_take]; rfl)) ?_; (with_reducible refine (radical_Check.calls _ _ l0_0 _ _ l0_1 a2_0 a2_1 t110 _ ?side1 ?side2 ?side3 ?side4 ?side5 A6.out).mono ?_); (case side1 => repeat (first | exact (Kd.C_below HR0_0.out HB.out) | (with_reducible refine Kd.C_alloc ?_ _) | (with_reducible refine Kd.C_drewN ?_ _) | (with_reducible refine Kd.C_drew ?_))); (case side2 => exact HC0_0.out); (case side3 => repeat (first | exact (Kd.C_below HR0_1.out HB.out) | (with_reducible refine Kd.C_alloc ?_ _) | (with_reducible refine Kd.C_drewN ?_ _) | (with_reducible refine Kd.C_drew ?_))); (case side4 => exact HC0_1.out); (case side5 => exact Tabs.below HT.out (by repeat (first | (with_reducible first | exact HB.out | apply below_alloc | apply pw_below_drewN | apply below_drew1 | refine below_set ?_ GE104.out | refine below_set ?_ GE105.out) | exact HB.out))); rintro e w17 ⟨rfl, hb⟩; refine ⟨_, rfl, ?_⟩; have n0_ := Aside0.mk (Kd.R_below (by (with_reducible repeat (first | apply Kd.R_alloc | apply Kd.R_drewN | apply Kd.R_drew)); exact HO108.out) hb); have n1_ := Aside0.mk (blk_below (g := gb104) (o := .cells #[.slice A0_0 l0_0.length c0_0, .slice A0_1 l0_1.length c0_1] 25 (0, 0)) (by (with_reducible repeat (first | refine blk_drewN ?_ _ | refine blk_drew ?_ | refine blk_alloc ?_ _)); exact BK104.out) hb); have n2_ := Aside0.mk (blk_below (g := gb105) (o := .cells #[.string a2_0, .string a2_1] 32 (0, 0)) (by (with_reducible repeat (first | refine blk_drewN ?_ _ | refine blk_drew ?_ | refine blk_alloc ?_ _)); exact BK105.out) hb); have n3_ := Aside0.mk (below_step (by repeat (first | (with_reducible first | exact HB.out | apply below_alloc | apply pw_below_drewN | apply below_drew1 | refine below_set ?_ GE104.out | refine below_set ?_ GE105.out) | exact HB.out)) hb); clear HO108; clear BK104; clear BK105; clear HB; have HO108 := n0_; have BK104 := n1_; have BK105 := n2_; have HB := n3_; clear n0_ n1_ n2_ n3_; (try clear hb); (try clear hb2); (try clear hk); (try clear hi); have hcz18_0 : w17.cell? ⟨gb105, 0, none⟩ = some (.string a2_0) := (blk_cell BK105.out 0).trans rfl; have hcz18_1 : w17.cell? ⟨gb105, 1, none⟩ = some (.string a2_1) := (blk_cell BK105.out 1).trans rfl; have hfz18_0 := blk_frozen BK105.out 0; have hfz18_1 := blk_frozen BK105.out 1) | ((with_reducible refine gate_dst (N := 33) rfl ?_); refine R_runes _ 21 rfl (N := 33) rfl 9 73 _ rfl a2_1 rfl Tryd.underlying9 Tryd.underlying73 Tryd.underlying21 (of_decide_eq_true (by first | (with_reducible assumption) | assumption)) (Below.refl _ _) (Nat.le_refl _) ?_; intro v112 w19 ho20 hb hg_ hnew_; clear hg_ hnew_; (first | rw [← Ny111.out] at ho20 | (simp only [Int.reduceToNat] at ho20; rw [← Ny111.out] at ho20)); have n0_ := Aside0.mk (Kd.R_elder' (by (with_reducible repeat (first | apply Kd.R_alloc | apply Kd.R_drewN | apply Kd.R_drew)); exact HO108.out) (Kd.R_base ho20) hb); have n1_ := Aside0.mk (Kd.R_lower (Kd.R_new' ho20 (Kd.R_lt (by (with_reducible repeat (first | apply Kd.R_alloc | apply Kd.R_drewN | apply Kd.R_drew)); exact HO108.out))) (below_size (by repeat (first | (with_reducible first | exact HB.out | apply below_alloc | apply pw_below_drewN | apply below_drew1 | refine below_set ?_ GE104.out | refine below_set ?_ GE105.out) | exact HB.out)))); have n2_ := Aside0.mk (blk_below (g := gb104) (o := .cells #[.slice A0_0 l0_0.length c0_0, .slice A0_1 l0_1.length c0_1] 25 (0, 0)) (by (with_reducible repeat (first | refine blk_drewN ?_ _ | refine blk_drew ?_ | refine blk_alloc ?_ _)); exact BK104.out) hb); have n3_ := Aside0.mk (blk_below (g := gb105) (o := .cells #[.string a2_0, .string a2_1] 32 (0, 0)) (by (with_reducible repeat (first | refine blk_drewN ?_ _ | refine blk_drew ?_ | refine blk_alloc ?_ _)); exact BK105.out) hb); have n4_ := Aside0.mk (below_step (by repeat (first | (with_reducible first | exact HB.out | apply below_alloc | apply pw_below_drewN | apply below_drew1 | refine below_set ?_ GE104.out | refine below_set ?_ GE105.out) | exact HB.out)) hb); clear HO108; clear BK104; clear BK105; clear HB; have HO108 := n0_; have HO113 := n1_; have BK104 := n2_; have BK105 := n3_; have HB := n4_; clear n0_ n1_ n2_ n3_ n4_; clear hb ho20; obtain ⟨Ao21, co21, eo21⟩ := Kd.R_slice HO108.out; subst eo21; obtain ⟨Ao22, co22, eo22⟩ := Kd.R_slice HO113.out; subst eo22) | ((with_reducible refine gate_callee (f := 66) rfl ?_); refine goesL_ (some 34) rfl rfl Tryd.func66 (by kernel_rfl) rfl #[.slice Ao21 t106.length co21, .slice Ao22 y111.length co22] rfl (by (try simp only [List.map_toArray, List.map_cons, List.map_nil]); first | done | rfl | (simp only [List.length_drop, List.length_take]; rfl)) ?_; (with_reducible refine (radical_split.calls k _ _ t106 _ _ y111 t114 t115 _ ?side1 ?side2 ?side3 ?side4 A9.out).mono ?_); (case side1 => repeat (first | exact (Kd.R_reads' HO108.out).2.2 | (with_reducible refine Kd.C_alloc ?_ _) | (with_reducible refine Kd.C_drewN ?_ _) | (with_reducible refine Kd.C_drew ?_))); (case side2 => exact (Kd.R_reads' HO108.out).2.1); (case side3 => repeat (first | exact (Kd.R_reads' HO113.out).2.2 | (with_reducible refine Kd.C_alloc ?_ _) | (with_reducible refine Kd.C_drewN ?_ _) | (with_reducible refine Kd.C_drew ?_))); (case side4 => exact (Kd.R_reads' HO113.out).2.1); rintro e w' ⟨rfl, ⟨nd, rfl⟩⟩; refine ⟨_, rfl, ?_⟩))
        go_ret3
        exact ⟨by first | rfl | (simp [errW_none, errW_some] <;> rfl) | (simp [*, errW_none, errW_some] <;> rfl), by repeat (first | (with_reducible first | exact HB.out | apply below_alloc | apply pw_below_drewN | apply below_drew1 | refine below_set ?_ GE104.out | refine below_set ?_ GE105.out) | exact HB.out)⟩
      · rw [if_neg c8] at H
        exact absurd H (by simp)
    · rw [if_neg c7] at H
      have c7b0 : (t110 == 0) = false := beq_eq_false_iff_ne.mpr c7
      have c7b1 : (t110 != 0) = true := bne_iff_ne.mpr c7
      simp only [Option.some.injEq, Prod.mk.injEq] at H
      obtain ⟨rfl, rfl, rfl⟩ := H
      go_enter Tryd.func49, Tryd.ntmps49
      go_wp2_with (first | ((with_reducible refine gate_dst (N := 3) rfl ?_); refine box_event ?hg (N := 3) ?hd (cs := #[.slice A0_0 l0_0.length c0_0, .slice A0_1 l0_1.length c0_1]) (t := 25) ?hr ?_; (case hd => rfl); (case hg => rfl); (case hr => first | (go_simp; done) | (go_simp; rfl)); intro gb104 hg w23 hbox hb; have n0_ := Aside0.mk (below_step (by repeat (first | (with_reducible first | exact HB.out | apply below_alloc | apply pw_below_drewN | apply below_drew1) | exact HB.out)) hb); have n1_ := Aside0.mk (hbox); have n2_ := Aside0.mk ((by rw [hg]; exact (below_size (by repeat (first | (with_reducible first | exact HB.out | apply below_alloc | apply pw_below_drewN | apply below_drew1) | exact HB.out))) : w.heap.size ≤ gb104)); have n3_ := Aside0.mk ((by rw [hg]; exact (below_size (by repeat (first | (with_reducible first | exact HB.out | apply below_alloc | apply pw_below_drewN | apply below_drew1) | exact HB.out))) : w.heap.size ≤ gb104)); clear HB; have HB := n0_; have BK104 := n1_; have GW104 := n2_; have GE104 := n3_; clear n0_ n1_ n2_ n3_; clear hb hbox hg) | ((with_reducible refine gate_dst (N := 5) rfl ?_); refine box_event ?hg (N := 5) ?hd (cs := #[.string a2_0, .string a2_1]) (t := 32) ?hr ?_; (case hd => rfl); (case hg => rfl); (case hr => first | (go_simp; done) | (go_simp; rfl)); intro gb105 hg w24 hbox hb; have n0_ := Aside0.mk (blk_below (g := gb104) (o := .cells #[.slice A0_0 l0_0.length c0_0, .slice A0_1 l0_1.length c0_1] 25 (0, 0)) (by (with_reducible repeat (first | refine blk_drewN ?_ _ | refine blk_drew ?_ | refine blk_alloc ?_ _)); exact BK104.out) hb); have n1_ := Aside0.mk (below_step (by repeat (first | (with_reducible first | exact HB.out | apply below_alloc | apply pw_below_drewN | apply below_drew1 | refine below_set ?_ GE104.out) | exact HB.out)) hb); have n2_ := Aside0.mk (hbox); have n3_ := Aside0.mk ((by rw [hg]; exact (below_size (by repeat (first | (with_reducible first | exact HB.out | apply below_alloc | apply pw_below_drewN | apply below_drew1 | refine below_set ?_ GE104.out) | exact HB.out))) : w.heap.size ≤ gb105)); have n4_ := Aside0.mk ((by rw [hg]; exact (below_size (by repeat (first | (with_reducible first | exact HB.out | apply below_alloc | apply pw_below_drewN | apply below_drew1 | refine below_set ?_ GE104.out) | exact HB.out))) : w.heap.size ≤ gb105)); have n5_ := Aside0.mk ((by rw [hg]; exact Nat.ne_of_lt (blk_lt (g := gb104) (o := .cells #[.slice A0_0 l0_0.length c0_0, .slice A0_1 l0_1.length c0_1] 25 (0, 0)) (by (with_reducible repeat (first | refine blk_drewN ?_ _ | refine blk_drew ?_ | refine blk_alloc ?_ _)); exact BK104.out)) : gb104 ≠ gb105)); have n6_ := Aside0.mk ((by rw [hg]; exact Nat.ne_of_gt (blk_lt (g := gb104) (o := .cells #[.slice A0_0 l0_0.length c0_0, .slice A0_1 l0_1.length c0_1] 25 (0, 0)) (by (with_reducible repeat (first | refine blk_drewN ?_ _ | refine blk_drew ?_ | refine blk_alloc ?_ _)); exact BK104.out)) : gb105 ≠ gb104)); clear BK104; clear HB; have BK104 := n0_; have HB := n1_; have BK105 := n2_; have GW105 := n3_; have GE105 := n4_; have NB104_105 := n5_; have NB105_104 := n6_; clear n0_ n1_ n2_ n3_ n4_ n5_ n6_; clear hb hbox hg; have hnb25 := NB104_105.out; have hnc25 := NB105_104.out; have hcz26_0 : w24.cell? ⟨gb104, 0, none⟩ = some (.slice A0_0 l0_0.length c0_0) := (blk_cell BK104.out 0).trans rfl; have hcz26_1 : w24.cell? ⟨gb104, 1, none⟩ = some (.slice A0_1 l0_1.length c0_1) := (blk_cell BK104.out 1).trans rfl; have hfz26_0 := blk_frozen BK104.out 0; have hfz26_1 := blk_frozen BK104.out 1) | ((with_reducible refine gate_callee (f := 37) rfl ?_); refine goesL_ (some 17) rfl rfl Tryd.func37 (by kernel_rfl) rfl #[.agg #[.slice A0_0 l0_0.length c0_0, .slice A0_1 l0_1.length c0_1], .string a1] rfl (by (try simp only [List.map_toArray, List.map_cons, List.map_nil]); first | done | rfl | (simp only [List.length_drop, List.length_take]; rfl)) ?_; (with_reducible refine (word_Letters.calls _ _ l0_0 _ _ l0_1 a1 t106 t109 _ ?side1 ?side2 ?side3 ?side4 ?side5 A4.out).mono ?_); (case side1 => repeat (first | exact (Kd.C_below HR0_0.out HB.out) | (with_reducible refine Kd.C_alloc ?_ _) | (with_reducible refine Kd.C_drewN ?_ _) | (with_reducible refine Kd.C_drew ?_))); (case side2 => exact HC0_0.out); (case side3 => repeat (first | exact (Kd.C_below HR0_1.out HB.out) | (with_reducible refine Kd.C_alloc ?_ _) | (with_reducible refine Kd.C_drewN ?_ _) | (with_reducible refine Kd.C_drew ?_))); (case side4 => exact HC0_1.out); (case side5 => exact Tabs.below HT.out (by repeat (first | (with_reducible first | exact HB.out | apply below_alloc | apply pw_below_drewN | apply below_drew1 | refine below_set ?_ GE104.out | refine below_set ?_ GE105.out) | exact HB.out))); rintro e w27 ⟨v107, rfl, ho0, hb⟩; refine ⟨_, rfl, ?_⟩; have n0_ := Aside0.mk (Kd.R_lower ho0 (below_size (by repeat (first | (with_reducible first | exact HB.out | apply below_alloc | apply pw_below_drewN | apply below_drew1 | refine below_set ?_ GE104.out | refine below_set ?_ GE105.out) | exact HB.out)))); have n1_ := Aside0.mk (blk_below (g := gb104) (o := .cells #[.slice A0_0 l0_0.length c0_0, .slice A0_1 l0_1.length c0_1] 25 (0, 0)) (by (with_reducible repeat (first | refine blk_drewN ?_ _ | refine blk_drew ?_ | refine blk_alloc ?_ _)); exact BK104.out) hb); have n2_ := Aside0.mk (blk_below (g := gb105) (o := .cells #[.string a2_0, .string a2_1] 32 (0, 0)) (by (with_reducible repeat (first | refine blk_drewN ?_ _ | refine blk_drew ?_ | refine blk_alloc ?_ _)); exact BK105.out) hb); have n3_ := Aside0.mk (below_step (by repeat (first | (with_reducible first | exact HB.out | apply below_alloc | apply pw_below_drewN | apply below_drew1 | refine below_set ?_ GE104.out | refine below_set ?_ GE105.out) | exact HB.out)) hb); clear BK104; clear BK105; clear HB; have HO108 := n0_; have BK104 := n1_; have BK105 := n2_; have HB := n3_; clear n0_ n1_ n2_ n3_; (try clear hb); (try clear hb2); (try clear hk); (try clear hi); (try clear ho0); have hcz28_0 : w27.cell? ⟨gb104, 0, none⟩ = some (.slice A0_0 l0_0.length c0_0) := (blk_cell BK104.out 0).trans rfl; have hcz28_1 : w27.cell? ⟨gb104, 1, none⟩ = some (.slice A0_1 l0_1.length c0_1) := (blk_cell BK104.out 1).trans rfl; have hfz28_0 := blk_frozen BK104.out 0; have hfz28_1 := blk_frozen BK104.out 1; have hcz29_0 : w27.cell? ⟨gb105, 0, none⟩ = some (.string a2_0) := (blk_cell BK105.out 0).trans rfl; have hcz29_1 : w27.cell? ⟨gb105, 1, none⟩ = some (.string a2_1) := (blk_cell BK105.out 1).trans rfl; have hfz29_0 := blk_frozen BK105.out 0; have hfz29_1 := blk_frozen BK105.out 1) | ((with_reducible refine gate_callee (f := 61) rfl ?_); refine goesL_ (some 25) rfl rfl Tryd.func61 (by kernel_rfl) rfl #[.agg #[.slice A0_0 l0_0.length c0_0, .slice A0_1 l0_1.length c0_1], .agg #[.string a2_0, .string a2_1]] rfl (by (try simp only [List.map_toArray, List.map_cons, List.map_nil]); first | done | rfl | (simp only [List.length_drop, List.length_take]; rfl)) ?_; (with_reducible refine (radical_Check.calls _ _ l0_0 _ _ l0_1 a2_0 a2_1 t110 _ ?side1 ?side2 ?side3 ?side4 ?side5 A6.out).mono ?_); (case side1 => repeat (first | exact (Kd.C_below HR0_0.out HB.out) | (with_reducible refine Kd.C_alloc ?_ _) | (with_reducible refine Kd.C_drewN ?_ _) | (with_reducible refine Kd.C_drew ?_))); (case side2 => exact HC0_0.out); (case side3 => repeat (first | exact (Kd.C_below HR0_1.out HB.out) | (with_reducible refine Kd.C_alloc ?_ _) | (with_reducible refine Kd.C_drewN ?_ _) | (with_reducible refine Kd.C_drew ?_))); (case side4 => exact HC0_1.out); (case side5 => exact Tabs.below HT.out (by repeat (first | (with_reducible first | exact HB.out | apply below_alloc | apply pw_below_drewN | apply below_drew1 | refine below_set ?_ GE104.out | refine below_set ?_ GE105.out) | exact HB.out))); rintro e w30 ⟨rfl, hb⟩; refine ⟨_, rfl, ?_⟩; have n0_ := Aside0.mk (Kd.R_below (by (with_reducible repeat (first | apply Kd.R_alloc | apply Kd.R_drewN | apply Kd.R_drew)); exact HO108.out) hb); have n1_ := Aside0.mk (blk_below (g := gb104) (o := .cells #[.slice A0_0 l0_0.length c0_0, .slice A0_1 l0_1.length c0_1] 25 (0, 0)) (by (with_reducible repeat (first | refine blk_drewN ?_ _ | refine blk_drew ?_ | refine blk_alloc ?_ _)); exact BK104.out) hb); have n2_ := Aside0.mk (blk_below (g := gb105) (o := .cells #[.string a2_0, .string a2_1] 32 (0, 0)) (by (with_reducible repeat (first | refine blk_drewN ?_ _ | refine blk_drew ?_ | refine blk_alloc ?_ _)); exact BK105.out) hb); have n3_ := Aside0.mk (below_step (by repeat (first | (with_reducible first | exact HB.out | apply below_alloc | apply pw_below_drewN | apply below_drew1 | refine below_set ?_ GE104.out | refine below_set ?_ GE105.out) | exact HB.out)) hb); clear HO108; clear BK104; clear BK105; clear HB; have HO108 := n0_; have BK104 := n1_; have BK105 := n2_; have HB := n3_; clear n0_ n1_ n2_ n3_; (try clear hb); (try clear hb2); (try clear hk); (try clear hi)))
      go_ret3
      exact ⟨by first | rfl | (simp [errW_none, errW_some] <;> rfl) | (simp [*, errW_none, errW_some] <;> rfl), by repeat (first | (with_reducible first | exact HB.out | apply below_alloc | apply pw_below_drewN | apply below_drew1 | refine below_set ?_ GE104.out | refine below_set ?_ GE105.out) | exact HB.out)⟩
  · rw [if_neg c5] at H
    have c5b0 : (t109 == 0) = false := beq_eq_false_iff_ne.mpr c5
    have c5b1 : (t109 != 0) = true := bne_iff_ne.mpr c5
    simp only [Option.some.injEq, Prod.mk.injEq] at H
    obtain ⟨rfl, rfl, rfl⟩ := H
    go_enter Tryd.func49, Tryd.ntmps49
    go_wp2_with (first | ((with_reducible refine gate_dst (N := 3) rfl ?_); refine box_event ?hg (N := 3) ?hd (cs := #[.slice A0_0 l0_0.length c0_0, .slice A0_1 l0_1.length c0_1]) (t := 25) ?hr ?_; (case hd => rfl); (case hg => rfl); (case hr => first | (go_simp; done) | (go_simp; rfl)); intro gb104 hg w31 hbox hb; have n0_ := Aside0.mk (below_step (by repeat (first | (with_reducible first | exact HB.out | apply below_alloc | apply pw_below_drewN | apply below_drew1) | exact HB.out)) hb); have n1_ := Aside0.mk (hbox); have n2_ := Aside0.mk ((by rw [hg]; exact (below_size (by repeat (first | (with_reducible first | exact HB.out | apply below_alloc | apply pw_below_drewN | apply below_drew1) | exact HB.out))) : w.heap.size ≤ gb104)); have n3_ := Aside0.mk ((by rw [hg]; exact (below_size (by repeat (first | (with_reducible first | exact HB.out | apply below_alloc | apply pw_below_drewN | apply below_drew1) | exact HB.out))) : w.heap.size ≤ gb104)); clear HB; have HB := n0_; have BK104 := n1_; have GW104 := n2_; have GE104 := n3_; clear n0_ n1_ n2_ n3_; clear hb hbox hg) | ((with_reducible refine gate_dst (N := 5) rfl ?_); refine box_event ?hg (N := 5) ?hd (cs := #[.string a2_0, .string a2_1]) (t := 32) ?hr ?_; (case hd => rfl); (case hg => rfl); (case hr => first | (go_simp; done) | (go_simp; rfl)); intro gb105 hg w32 hbox hb; have n0_ := Aside0.mk (blk_below (g := gb104) (o := .cells #[.slice A0_0 l0_0.length c0_0, .slice A0_1 l0_1.length c0_1] 25 (0, 0)) (by (with_reducible repeat (first | refine blk_drewN ?_ _ | refine blk_drew ?_ | refine blk_alloc ?_ _)); exact BK104.out) hb); have n1_ := Aside0.mk (below_step (by repeat (first | (with_reducible first | exact HB.out | apply below_alloc | apply pw_below_drewN | apply below_drew1 | refine below_set ?_ GE104.out) | exact HB.out)) hb); have n2_ := Aside0.mk (hbox); have n3_ := Aside0.mk ((by rw [hg]; exact (below_size (by repeat (first | (with_reducible first | exact HB.out | apply below_alloc | apply pw_below_drewN | apply below_drew1 | refine below_set ?_ GE104.out) | exact HB.out))) : w.heap.size ≤ gb105)); have n4_ := Aside0.mk ((by rw [hg]; exact (below_size (by repeat (first | (with_reducible first | exact HB.out | apply below_alloc | apply pw_below_drewN | apply below_drew1 | refine below_set ?_ GE104.out) | exact HB.out))) : w.heap.size ≤ gb105)); have n5_ := Aside0.mk ((by rw [hg]; exact Nat.ne_of_lt (blk_lt (g := gb104) (o := .cells #[.slice A0_0 l0_0.length c0_0, .slice A0_1 l0_1.length c0_1] 25 (0, 0)) (by (with_reducible repeat (first | refine blk_drewN ?_ _ | refine blk_drew ?_ | refine blk_alloc ?_ _)); exact BK104.out)) : gb104 ≠ gb105)); have n6_ := Aside0.mk ((by rw [hg]; exact Nat.ne_of_gt (blk_lt (g := gb104) (o := .cells #[.slice A0_0 l0_0.length c0_0, .slice A0_1 l0_1.length c0_1] 25 (0, 0)) (by (with_reducible repeat (first | refine blk_drewN ?_ _ | refine blk_drew ?_ | refine blk_alloc ?_ _)); exact BK104.out)) : gb105 ≠ gb104)); clear BK104; clear HB; have BK104 := n0_; have HB := n1_; have BK105 := n2_; have GW105 := n3_; have GE105 := n4_; have NB104_105 := n5_; have NB105_104 := n6_; clear n0_ n1_ n2_ n3_ n4_ n5_ n6_; clear hb hbox hg; have hnb33 := NB104_105.out; have hnc33 := NB105_104.out; have hcz34_0 : w32.cell? ⟨gb104, 0, none⟩ = some (.slice A0_0 l0_0.length c0_0) := (blk_cell BK104.out 0).trans rfl; have hcz34_1 : w32.cell? ⟨gb104, 1, none⟩ = some (.slice A0_1 l0_1.length c0_1) := (blk_cell BK104.out 1).trans rfl; have hfz34_0 := blk_frozen BK104.out 0; have hfz34_1 := blk_frozen BK104.out 1) | ((with_reducible refine gate_callee (f := 37) rfl ?_); refine goesL_ (some 17) rfl rfl Tryd.func37 (by kernel_rfl) rfl #[.agg #[.slice A0_0 l0_0.length c0_0, .slice A0_1 l0_1.length c0_1], .string a1] rfl (by (try simp only [List.map_toArray, List.map_cons, List.map_nil]); first | done | rfl | (simp only [List.length_drop, List.length_take]; rfl)) ?_; (with_reducible refine (word_Letters.calls _ _ l0_0 _ _ l0_1 a1 t106 t109 _ ?side1 ?side2 ?side3 ?side4 ?side5 A4.out).mono ?_); (case side1 => repeat (first | exact (Kd.C_below HR0_0.out HB.out) | (with_reducible refine Kd.C_alloc ?_ _) | (with_reducible refine Kd.C_drewN ?_ _) | (with_reducible refine Kd.C_drew ?_))); (case side2 => exact HC0_0.out); (case side3 => repeat (first | exact (Kd.C_below HR0_1.out HB.out) | (with_reducible refine Kd.C_alloc ?_ _) | (with_reducible refine Kd.C_drewN ?_ _) | (with_reducible refine Kd.C_drew ?_))); (case side4 => exact HC0_1.out); (case side5 => exact Tabs.below HT.out (by repeat (first | (with_reducible first | exact HB.out | apply below_alloc | apply pw_below_drewN | apply below_drew1 | refine below_set ?_ GE104.out | refine below_set ?_ GE105.out) | exact HB.out))); rintro e w35 ⟨v107, rfl, ho0, hb⟩; refine ⟨_, rfl, ?_⟩; have n0_ := Aside0.mk (Kd.R_lower ho0 (below_size (by repeat (first | (with_reducible first | exact HB.out | apply below_alloc | apply pw_below_drewN | apply below_drew1 | refine below_set ?_ GE104.out | refine below_set ?_ GE105.out) | exact HB.out)))); have n1_ := Aside0.mk (blk_below (g := gb104) (o := .cells #[.slice A0_0 l0_0.length c0_0, .slice A0_1 l0_1.length c0_1] 25 (0, 0)) (by (with_reducible repeat (first | refine blk_drewN ?_ _ | refine blk_drew ?_ | refine blk_alloc ?_ _)); exact BK104.out) hb); have n2_ := Aside0.mk (blk_below (g := gb105) (o := .cells #[.string a2_0, .string a2_1] 32 (0, 0)) (by (with_reducible repeat (first | refine blk_drewN ?_ _ | refine blk_drew ?_ | refine blk_alloc ?_ _)); exact BK105.out) hb); have n3_ := Aside0.mk (below_step (by repeat (first | (with_reducible first | exact HB.out | apply below_alloc | apply pw_below_drewN | apply below_drew1 | refine below_set ?_ GE104.out | refine below_set ?_ GE105.out) | exact HB.out)) hb); clear BK104; clear BK105; clear HB; have HO108 := n0_; have BK104 := n1_; have BK105 := n2_; have HB := n3_; clear n0_ n1_ n2_ n3_; (try clear hb); (try clear hb2); (try clear hk); (try clear hi); (try clear ho0)))
    go_ret3
    exact ⟨by first | rfl | (simp [errW_none, errW_some] <;> rfl) | (simp [*, errW_none, errW_some] <;> rfl), by repeat (first | (with_reducible first | exact HB.out | apply below_alloc | apply pw_below_drewN | apply below_drew1 | refine below_set ?_ GE104.out | refine below_set ?_ GE105.out) | exact HB.out)⟩

end Go.Proofs.YthmjheclhcdinaaDoor.RRm
end
section
/-
  radical.Split, All, Skip: what the printed functions compute, in plain words; contracts.
-/
set_option linter.unusedSimpArgs false
set_option linter.unusedVariables false
namespace Go.Proofs.YthmjheclhcdinaaDoor
open Go.RowKit Go.Proofs.YthmjheclhcdinaaDoorW.PrintWords Go.Proofs.YthmjheclhcdinaaDoorW.PrintLast Go.Proofs.YthmjheclhcdinaaDoorW.PrintMore Go.Proofs.YthmjheclhcdinaaDoor.Ext

theorem runesBytes_cons (x : Int) (l : List Int) : runesBytes (x :: l) = Utf8.encode x ++ runesBytes l := by
  rw [← runesBytes_one, ← runesBytes_append]
  rfl
theorem bytes_assoc (a b c : ByteArray) : (a ++ b) ++ c = a ++ (b ++ c) := by
  apply bytes_ext
  simp
theorem bytes_nil (a : ByteArray) : a ++ noB = a := by
  apply bytes_ext
  simp
theorem nil_bytes (a : ByteArray) : noB ++ a = a := by
  apply bytes_ext
  simp
theorem pickH_cons (x y : Int) (xs ys : List Int) : pickH (x :: xs) (y :: ys) = if y = 95 then (pickH xs ys).map (x :: ·) else if y = x then pickH xs ys else none := by rw [pickH]
def pickO (a : ByteArray) (o : Option (List Int)) : ByteArray × Bool := match o with | some q => (a ++ runesBytes q, true) | none => (noB, false)
theorem split_loop (l f : List Int) (hl : l.length = f.length) (h64 : l.length ≤ 100000) : ∀ (n i k : Nat) (a : ByteArray), i + n = f.length → n + 1 ≤ k → a.size ≤ 4 * i →
    RRm.radical_split.l0 k l a f (f.length : Int) (i : Int) = some (pickO a (pickH (l.drop i) (f.drop i)))
  | 0, i, k, a, hi, hk, ha => by
    obtain ⟨k, rfl⟩ : ∃ q, k = q + 1 := ⟨k - 1, by omega⟩
    unfold RRm.radical_split.l0
    rw [if_neg (by omega), List.drop_of_length_le (by omega), List.drop_of_length_le (by omega)]
    unfold pickH pickO
    dsimp only
    rw [runesBytes_nil, bytes_nil]
  | n + 1, i, k, a, hi, hk, ha => by
    obtain ⟨k, rfl⟩ : ∃ q, k = q + 1 := ⟨k - 1, by omega⟩
    have hlt : i < f.length := by omega
    have hlt2 : i < l.length := by omega
    have e : (i : Int) + 1 = ((i + 1 : Nat) : Int) := by omega
    have h4 := encode_size_le l[i]
    unfold RRm.radical_split.l0
    rw [if_pos (by omega), if_pos (by omega), if_pos (by omega), rd_at f i hlt, rd_at l i hlt2, wrap_succ (by omega) (by omega), e, List.drop_eq_getElem_cons hlt, List.drop_eq_getElem_cons hlt2]
    by_cases hc : f[i] = 95
    · rw [if_pos hc, if_pos (by omega), if_pos (by omega), split_loop l f hl h64 n (i + 1) k _ (by omega) (by omega) (by rw [ByteArray.size_append]; omega)]
      generalize l.drop (i + 1) = t
      generalize f.drop (i + 1) = u
      rw [pickH_cons, if_pos hc]
      cases pickH t u with
      | none => rfl
      | some q =>
        show some (_, _) = some (_, _)
        rw [runesBytes_cons, bytes_assoc]
    · rw [if_neg hc, if_pos (by omega)]
      by_cases hd : f[i] = l[i]
      · rw [if_pos hd, split_loop l f hl h64 n (i + 1) k a (by omega) (by omega) (by omega)]
        generalize l.drop (i + 1) = t
        generalize f.drop (i + 1) = u
        rw [pickH_cons, if_neg hc, if_pos hd]
      · rw [if_neg hd]
        generalize l.drop (i + 1) = t
        generalize f.drop (i + 1) = u
        rw [pickH_cons, if_neg hc, if_neg hd]
        rfl
theorem pick_len {w f l : List Int} (h : pickH w f = some l) : w.length = f.length := (fill_pick w f l h).2.2.2
theorem split_eq (l f : List Int) (h64 : l.length ≤ 100000) (k : Nat) (hk : l.length + 1 ≤ k) : RRm.radical_split.f k l f = some (pickB l f) := by
  unfold RRm.radical_split.f
  by_cases hl : l.length = f.length
  · rw [if_pos (by omega)]
    have := split_loop l f hl h64 f.length 0 k noB (by omega) (by omega) (by show (0 : Nat) ≤ _; omega)
    rw [List.drop_zero, List.drop_zero] at this
    have e0 : ((0 : Nat) : Int) = 0 := rfl
    rw [e0] at this
    rw [this]
    unfold pickO pickB
    cases pickH l f with
    | none => rfl
    | some q =>
      show some (_, _) = some (_, _)
      rw [nil_bytes]
  · rw [if_neg (by omega)]
    congr 1
    unfold pickB
    cases hp : pickH l f with
    | none => rfl
    | some q => exact absurd (pick_len hp) hl
theorem rcheck_eq (l0 : List ByteArray) (l1 : List Letter) {n f : ByteArray} (hs : sizedS n f) : radical_Check.f l0 l1 n f = some (chkS l0 l1 n f) := if_pos hs
theorem Split_eq (l0 : List ByteArray) (l1 : List Letter) (w n f : ByteArray) (hs : sizedS n f) (k : Nat) (hk : 200 ≤ k) : RRm.radical_Split.f k l0 l1 w n f = some (splitOf l0 l1 w n f) := by
  unfold RRm.radical_Split.f word_Letters.f splitOf
  rw [Option.bind_some]
  by_cases h : (lettersOf l0 l1 w).2 = 0
  · rw [if_pos h, if_pos h, rcheck_eq l0 l1 hs, Option.bind_some]
    by_cases hc : chkS l0 l1 n f = 0
    · have := form_size (chkS_zero hc).2.2
      have h64 := lettersOf_len l0 l1 w
      rw [if_pos hc, if_pos hc, if_pos (by omega), split_eq _ _ (by omega) k (by omega), Option.bind_some]
    · rw [if_neg hc, if_neg hc]
  · rw [if_neg h, if_neg h]
/-! ### skipped through (the text of another printing) -/
namespace Ext
def radical_Split.f (l0 : List ByteArray) (l1 : List Letter) (w n f : ByteArray) : Option (ByteArray × Bool × Int) := if sizedS n f then some (splitOf l0 l1 w n f) else none
theorem radical_Split.calls (A0 : Option Addr) (c0 : Nat) (l0 : List ByteArray) (A1 : Option Addr) (c1 : Nat) (l1 : List Letter) (s n f : ByteArray) (r1 : ByteArray) (r2 : Bool) (r3 : Int) (w : World) (hF : Kd.C Kd.string w A0 l0.length l0) (hcF : l0.length ≤ c0) (hL : Kd.C kLetter w A1 l1.length l1) (hcL : l1.length ≤ c1) (hT : Tabs w)
    (h : radical_Split.f l0 l1 s n f = some (r1, r2, r3)) :
    Calls Tryd.prog 49 #[.agg #[.slice A0 l0.length c0, .slice A1 l1.length c1], .string s, .agg #[.string n, .string f]] w fun e w' => e = .returned (.tuple #[.string r1, .bool r2, .int .i64 r3]) ∧ Below w.heap.size w w' := by
  unfold radical_Split.f at h
  split at h
  · rename_i hs
    exact RRm.radical_Split.calls 200 A0 c0 l0 A1 c1 l1 s n f r1 r2 r3 w hF hcF hL hcL hT ((Split_eq l0 l1 s n f hs 200 (Nat.le_refl _)).trans h)
  · cases h
def radical_Holes.f (n f : ByteArray) : Option Int := some ((f.data.toList.count 95 : Nat) : Int)
theorem radical_Holes.calls (n f : ByteArray) (r : Int) (w : World) (h : radical_Holes.f n f = some r) :
    Calls Tryd.prog 65 #[.agg #[.string n, .string f]] w fun e w' => e = .returned (.int .i64 r) ∧ Below w.heap.size w w' := RF1.radical_Holes.calls n f r w h
end Ext
end Go.Proofs.YthmjheclhcdinaaDoor
end
section
-- printed by a program of this session (wip/tools/prx.sh: a turned copy of the kit's print, with functions given from outside)
namespace Go.Proofs.YthmjheclhcdinaaDoor.RAl
open Go.RowKit Go.Proofs.YthmjheclhcdinaaDoor Go.Proofs.YthmjheclhcdinaaDoor.Ext Go.Proofs.YthmjheclhcdinaaDoorW.PrintWords Go.Proofs.YthmjheclhcdinaaDoorW.PrintLast Go.Proofs.YthmjheclhcdinaaDoorW.PrintMore
attribute [local go_sem] max2_int min2_int max_two min_two max_three min_three max_four min_four   -- for this text's walks alone
set_option linter.unusedVariables false
set_option linter.unusedSimpArgs false

/-! ### cognatelaw17_sample: function 18 -/
def cognatelaw17_sample.f  : Option (List ByteArray × (List (S84))) := some ((([(⟨#[118, 111, 119, 101, 108]⟩ : ByteArray)] : List ByteArray)), (([(⟨97, 1, 0⟩ : S84), (⟨105, 1, 0⟩ : S84), (⟨107, 0, 1⟩ : S84), (⟨116, 0, 1⟩ : S84), (⟨98, 0, 1⟩ : S84)] : List (S84))))
set_option maxHeartbeats 8000000 in
set_option maxRecDepth 100000 in
theorem cognatelaw17_sample.calls  (r1 : List ByteArray) (r2 : List (S84)) (w : World) (h : cognatelaw17_sample.f  = some (r1, r2)) :
    Calls Tryd.prog 18 #[] w fun e w' => ∃ v0_ v1_ : Value, e = .returned (.agg #[v0_, v1_]) ∧ Kd.R Kd.string 9 w' w.heap.size (fun _ => True) v0_ r1 ∧ Kd.R k84 84 w' w.heap.size (fun _ => True) v1_ r2 ∧ Below w.heap.size w w' := by
  have hu25 := Tryd.underlying25
  have hu84 := Tryd.underlying84
  have HB := Aside0.mk (Below.refl w.heap.size w)
  have H : (some ((([(⟨#[118, 111, 119, 101, 108]⟩ : ByteArray)] : List ByteArray)), (([(⟨97, 1, 0⟩ : S84), (⟨105, 1, 0⟩ : S84), (⟨107, 0, 1⟩ : S84), (⟨116, 0, 1⟩ : S84), (⟨98, 0, 1⟩ : S84)] : List (S84))))) = some (r1, r2) := h
  clear h
  obtain ⟨y102, hy102⟩ : ∃ y_ : List ByteArray, y_ = (([(⟨#[118, 111, 119, 101, 108]⟩ : ByteArray)] : List ByteArray)) := ⟨_, rfl⟩
  replace H : (some (y102, (([(⟨97, 1, 0⟩ : S84), (⟨105, 1, 0⟩ : S84), (⟨107, 0, 1⟩ : S84), (⟨116, 0, 1⟩ : S84), (⟨98, 0, 1⟩ : S84)] : List (S84))))) = some (r1, r2) := by first | (rw [hy102]; with_reducible exact H) | (have H2_ := (Option.bind_some _ _).symm.trans H; rw [hy102]; with_reducible exact H2_) | (have H2_ := (Option.bind_some _ _).symm.trans H; with_reducible exact H2_) | with_reducible exact H | (rw [hy102]; exact H) | exact H
  have Ny102 := Aside0.mk hy102
  clear hy102
  obtain ⟨y105, hy105⟩ : ∃ y_ : List (S84), y_ = (([(⟨97, 1, 0⟩ : S84), (⟨105, 1, 0⟩ : S84), (⟨107, 0, 1⟩ : S84), (⟨116, 0, 1⟩ : S84), (⟨98, 0, 1⟩ : S84)] : List (S84))) := ⟨_, rfl⟩
  replace H : (some (y102, y105)) = some (r1, r2) := by first | (rw [hy105]; with_reducible exact H) | (have H2_ := (Option.bind_some _ _).symm.trans H; rw [hy105]; with_reducible exact H2_) | (have H2_ := (Option.bind_some _ _).symm.trans H; with_reducible exact H2_) | with_reducible exact H | (rw [hy105]; exact H) | exact H
  have Ny105 := Aside0.mk hy105
  clear hy105
  simp only [Option.some.injEq, Prod.mk.injEq] at H
  obtain ⟨rfl, rfl⟩ := H
  go_enter Tryd.func18, Tryd.ntmps18
  go_wp2_with (first | ((with_reducible refine gate_dst (N := 0) rfl ?_); refine box_event ?hg (N := 0) ?hd (cs := #[.slice none 0 0, .slice none 0 0]) (t := 25) ?hr ?_; (case hd => rfl); (case hg => rfl); (case hr => first | (go_simp; done) | (go_simp; rfl)); intro gb101 hg w1 hbox hb; have n0_ := Aside0.mk (below_step (by repeat (first | (with_reducible first | exact HB.out | apply below_alloc | apply pw_below_drewN | apply below_drew1) | exact HB.out)) hb); have n1_ := Aside0.mk (hbox); have n2_ := Aside0.mk ((by rw [hg]; exact (below_size (by repeat (first | (with_reducible first | exact HB.out | apply below_alloc | apply pw_below_drewN | apply below_drew1) | exact HB.out))) : w.heap.size ≤ gb101)); have n3_ := Aside0.mk ((by rw [hg]; exact (below_size (by repeat (first | (with_reducible first | exact HB.out | apply below_alloc | apply pw_below_drewN | apply below_drew1) | exact HB.out))) : w.heap.size ≤ gb101)); clear HB; have HB := n0_; have BK101 := n1_; have GW101 := n2_; have GE101 := n3_; clear n0_ n1_ n2_ n3_; clear hb hbox hg) | ((with_reducible refine gate_dst (N := 1) rfl ?_); refine Kd.R_lit Kd.string _ 9 ?hg (N := 1) ?hd (xs := ([(⟨#[118, 111, 119, 101, 108]⟩ : ByteArray)] : List ByteArray)) (inner := [.string (⟨#[118, 111, 119, 101, 108]⟩ : ByteArray)]) (ok := fun _ => True) (okp := fun _ => True) ?hr ?hp (fun _ hk => hk) trivial (Below.refl _ _) (Nat.le_refl _) (by simp) ?_; (case hd => rfl); (case hg => rfl); (case hr => first | (go_simp; done) | (go_simp; rfl)); (case hp => exact (Reps.one (show Kd.M Kd.string _ _ _ (⟨#[118, 111, 119, 101, 108]⟩ : ByteArray) [.string (⟨#[118, 111, 119, 101, 108]⟩ : ByteArray)] from rfl) (Reps.none _ _))); intro v103 w2 ho3 hb hg_ hnew_; clear hg_ hnew_; (first | rw [← Ny102.out] at ho3 | (simp only [Int.reduceToNat] at ho3; rw [← Ny102.out] at ho3)); have n0_ := Aside0.mk (Kd.R_lower ho3 (below_size (by repeat (first | (with_reducible first | exact HB.out | apply below_alloc | apply pw_below_drewN | apply below_drew1 | refine below_set ?_ GE101.out) | exact HB.out)))); have n1_ := Aside0.mk (blk_below (g := gb101) (o := .cells #[.slice none 0 0, .slice none 0 0] 25 (0, 0)) (by (with_reducible repeat (first | refine blk_drewN ?_ _ | refine blk_drew ?_ | refine blk_alloc ?_ _)); exact BK101.out) hb); have n2_ := Aside0.mk (below_step (by repeat (first | (with_reducible first | exact HB.out | apply below_alloc | apply pw_below_drewN | apply below_drew1 | refine below_set ?_ GE101.out) | exact HB.out)) hb); clear BK101; clear HB; have HO104 := n0_; have BK101 := n1_; have HB := n2_; clear n0_ n1_ n2_; clear hb ho3) | ((with_reducible refine gate_dst (N := 7) rfl ?_); refine Kd.R_lit k84 _ 84 ?hg (N := 7) ?hd (xs := ([(⟨97, 1, 0⟩ : S84), (⟨105, 1, 0⟩ : S84), (⟨107, 0, 1⟩ : S84), (⟨116, 0, 1⟩ : S84), (⟨98, 0, 1⟩ : S84)] : List (S84))) (inner := [.int .i32 97, .int .u32 1, .int .u32 0, .int .i32 105, .int .u32 1, .int .u32 0, .int .i32 107, .int .u32 0, .int .u32 1, .int .i32 116, .int .u32 0, .int .u32 1, .int .i32 98, .int .u32 0, .int .u32 1]) (ok := fun _ => True) (okp := fun _ => True) ?hr ?hp (fun _ hk => hk) trivial (Below.refl _ _) (Nat.le_refl _) (by simp) ?_; (case hd => rfl); (case hg => rfl); (case hr => first | (go_simp; done) | (go_simp; rfl)); (case hp => exact (Reps.c3 (show Kd.M k84 _ _ _ (⟨97, 1, 0⟩ : S84) [.int .i32 97, .int .u32 1, .int .u32 0] from (k84_mkM _ _ _ (⟨97, 1, 0⟩ : S84) )) (Reps.c3 (show Kd.M k84 _ _ _ (⟨105, 1, 0⟩ : S84) [.int .i32 105, .int .u32 1, .int .u32 0] from (k84_mkM _ _ _ (⟨105, 1, 0⟩ : S84) )) (Reps.c3 (show Kd.M k84 _ _ _ (⟨107, 0, 1⟩ : S84) [.int .i32 107, .int .u32 0, .int .u32 1] from (k84_mkM _ _ _ (⟨107, 0, 1⟩ : S84) )) (Reps.c3 (show Kd.M k84 _ _ _ (⟨116, 0, 1⟩ : S84) [.int .i32 116, .int .u32 0, .int .u32 1] from (k84_mkM _ _ _ (⟨116, 0, 1⟩ : S84) )) (Reps.c3 (show Kd.M k84 _ _ _ (⟨98, 0, 1⟩ : S84) [.int .i32 98, .int .u32 0, .int .u32 1] from (k84_mkM _ _ _ (⟨98, 0, 1⟩ : S84) )) (Reps.none _ _))))))); intro v106 w4 ho5 hb hg_ hnew_; clear hg_ hnew_; (first | rw [← Ny105.out] at ho5 | (simp only [Int.reduceToNat] at ho5; rw [← Ny105.out] at ho5)); have n0_ := Aside0.mk (Kd.R_below (by (with_reducible repeat (first | apply Kd.R_alloc | apply Kd.R_drewN | apply Kd.R_drew)); exact HO104.out) hb); have n1_ := Aside0.mk (Kd.R_lower ho5 (below_size (by repeat (first | (with_reducible first | exact HB.out | apply below_alloc | apply pw_below_drewN | apply below_drew1 | refine below_set ?_ GE101.out) | exact HB.out)))); have n2_ := Aside0.mk (blk_below (g := gb101) (o := .cells #[.slice none 0 0, .slice none 0 0] 25 (0, 0)) (by (with_reducible repeat (first | refine blk_drewN ?_ _ | refine blk_drew ?_ | refine blk_alloc ?_ _)); exact BK101.out) hb); have n3_ := Aside0.mk (below_step (by repeat (first | (with_reducible first | exact HB.out | apply below_alloc | apply pw_below_drewN | apply below_drew1 | refine below_set ?_ GE101.out) | exact HB.out)) hb); clear HO104; clear BK101; clear HB; have HO104 := n0_; have HO107 := n1_; have BK101 := n2_; have HB := n3_; clear n0_ n1_ n2_ n3_; clear hb ho5; obtain ⟨Ao6, co6, eo6⟩ := Kd.R_slice HO107.out; subst eo6; obtain ⟨Ao7, co7, eo7⟩ := Kd.R_slice HO104.out; subst eo7; have hcz8_0 : w4.cell? ⟨gb101, 0, none⟩ = some (.slice none 0 0) := (blk_cell BK101.out 0).trans rfl; have hcz8_1 : w4.cell? ⟨gb101, 1, none⟩ = some (.slice none 0 0) := (blk_cell BK101.out 1).trans rfl; have hfz8_0 := blk_frozen BK101.out 0; have hfz8_1 := blk_frozen BK101.out 1))
  refine bodyPost_ret (results_cell_row rfl _ _ gb101 25 #[.slice Ao7 y102.length co7, .slice Ao6 y105.length co6] (0, 0) _ rfl (by (with_reducible repeat (first | refine blk_drewN ?_ _ | refine blk_drew ?_ | refine blk_alloc ?_ _)); refine blk_put (cs := #[.slice Ao7 y102.length co7, .slice none 0 0]) ?_ 1 _ rfl; (with_reducible repeat (first | refine blk_drewN ?_ _ | refine blk_drew ?_ | refine blk_alloc ?_ _)); refine blk_put (cs := #[.slice none 0 0, .slice none 0 0]) ?_ 0 _ rfl; (with_reducible repeat (first | refine blk_drewN ?_ _ | refine blk_drew ?_ | refine blk_alloc ?_ _)); exact BK101.out) Tryd.underlying25 rfl (by kernel_rfl)) rfl ?_
  exact ⟨_, _, by first | rfl | (simp [errW_none, errW_some] <;> rfl) | (simp [*, errW_none, errW_some] <;> rfl), by (with_reducible repeat (first | apply Kd.R_alloc | apply Kd.R_drewN | apply Kd.R_drew)); exact Kd.R_mono (Kd.R_far (p := ⟨gb101, 1, none⟩) (Kd.R_far (p := ⟨gb101, 0, none⟩) (Kd.R_types HO104.out BK101.out (by decide)) (fun _ hk => hk.2) (.slice Ao7 y102.length co7)) (fun _ hk => hk.2) (.slice Ao6 y105.length co6)) (fun _ hk => trivial), by (with_reducible repeat (first | apply Kd.R_alloc | apply Kd.R_drewN | apply Kd.R_drew)); exact Kd.R_mono (Kd.R_far (p := ⟨gb101, 1, none⟩) (Kd.R_far (p := ⟨gb101, 0, none⟩) (Kd.R_types HO107.out BK101.out (by decide)) (fun _ hk => hk.2) (.slice Ao7 y102.length co7)) (fun _ hk => hk.2) (.slice Ao6 y105.length co6)) (fun _ hk => trivial), by repeat (first | (with_reducible first | exact HB.out | apply below_alloc | apply pw_below_drewN | apply below_drew1 | refine below_set ?_ GE101.out) | exact HB.out)⟩

/-! ### cognatelaw17_row: function 21 -/
/-! ### cognatelaw17_cells: function 20 -/
/-! ### paradigm_Find: function 29 -/
def paradigm_Find.l0 : Nat → Int → List Int → List (S56) → Int → Int → Option (List Int)
  | 0, _, _, _, _, _ => none
  | k + 1, x1, x5, x9, x10, x11 => if x11 < x10 then (if 0 ≤ x11 then (if x11 < (x9.length : Int) then (if (Go.bits .andNot .u64 x1 ((rd_T56 x9 x11).f0)) = 0 then (if x5.length < 17592186044416 then (paradigm_Find.l0 k x1 (x5 ++ [x11]) x9 x10 (wrap64 (x11 + 1))) else (none)) else (paradigm_Find.l0 k x1 x5 x9 x10 (wrap64 (x11 + 1)))) else (none)) else (none)) else (some x5)
def paradigm_Find.f (k : Nat) (a0_0 : ByteArray) (l0_1 : List (S56)) (a1 : Int) : Option (List Int) := paradigm_Find.l0 k a1 ([] : List Int) l0_1 (l0_1.length : Int) 0
set_option maxHeartbeats 8000000 in
set_option maxRecDepth 100000 in
theorem paradigm_Find.calls (k : Nat) (a0_0 : ByteArray) (A0_1 : Option Addr) (c0_1 : Nat) (l0_1 : List (S56)) (a1 : Int) (r : List Int) (w : World) (hr0_1 : Kd.C k56 w A0_1 l0_1.length l0_1) (hc0_1 : l0_1.length ≤ c0_1) (h : paradigm_Find.f k a0_0 l0_1 a1 = some r) :
    Calls Tryd.prog 29 #[.agg #[.string a0_0, .slice A0_1 l0_1.length c0_1], .int .u64 a1] w fun e w' => ∃ v0_ : Value, e = .returned (v0_) ∧ Kd.R (Kd.int .i64) 3 w' w.heap.size (fun _ => True) v0_ r ∧ Below w.heap.size w w' := by
  have hu45 := Tryd.underlying45
  have hu56 := Tryd.underlying56
  have HR0_1 := Aside0.mk hr0_1
  have HC0_1 := Aside0.mk hc0_1
  clear hr0_1 hc0_1
  have HB := Aside0.mk (Below.refl w.heap.size w)
  have H : (paradigm_Find.l0 k a1 ([] : List Int) l0_1 (l0_1.length : Int) 0) = some r := h
  clear h
  have H' := Aside0.mk H
  clear H
  go_enter Tryd.func29, Tryd.ntmps29
  go_wp2_with (first | ((with_reducible refine gate_dst (N := 2) rfl ?_); refine box_event ?hg (N := 2) ?hd (cs := #[.string a0_0, .slice A0_1 l0_1.length c0_1]) (t := 45) ?hr ?_; (case hd => rfl); (case hg => rfl); (case hr => first | (go_simp; done) | (go_simp; rfl)); intro gb121 hg w3 hbox hb; have n0_ := Aside0.mk (below_step (by repeat (first | (with_reducible first | exact HB.out | apply below_alloc | apply pw_below_drewN | apply below_drew1) | exact HB.out)) hb); have n1_ := Aside0.mk (hbox); have n2_ := Aside0.mk ((by rw [hg]; exact (below_size (by repeat (first | (with_reducible first | exact HB.out | apply below_alloc | apply pw_below_drewN | apply below_drew1) | exact HB.out))) : w.heap.size ≤ gb121)); have n3_ := Aside0.mk ((by rw [hg]; exact (below_size (by repeat (first | (with_reducible first | exact HB.out | apply below_alloc | apply pw_below_drewN | apply below_drew1) | exact HB.out))) : w.heap.size ≤ gb121)); clear HB; have HB := n0_; have BK121 := n1_; have GW121 := n2_; have GE121 := n3_; clear n0_ n1_ n2_ n3_; clear hb hbox hg; have hcz4_0 : w3.cell? ⟨gb121, 0, none⟩ = some (.string a0_0) := (blk_cell BK121.out 0).trans rfl; have hcz4_1 : w3.cell? ⟨gb121, 1, none⟩ = some (.slice A0_1 l0_1.length c0_1) := (blk_cell BK121.out 1).trans rfl; have hfz4_0 := blk_frozen BK121.out 0; have hfz4_1 := blk_frozen BK121.out 1))
  go_loopg [5, 11] k (fun kq v5 v11 w' => ∃ (x5_1 : List Int) (x11_1 : Int), v11 = .int .i64 x11_1 ∧ Aside0 (paradigm_Find.l0 kq a1 x5_1 l0_1 (l0_1.length : Int) x11_1 = some r) ∧ Aside0 (kq ≤ k) ∧ Aside0 (Kd.R (Kd.int .i64) 3 w' w.heap.size (fun _ => True) v5 x5_1) ∧ Aside0 (w'.heap[gb121]? = some (.cells #[.string a0_0, (.slice A0_1 l0_1.length c0_1)] 45 (0, 0))) ∧ Aside0 (Below w.heap.size w w'))
  case atStart => exact ⟨(([] : List Int)), (0), (by first | rfl | (simp; done) | (simp [*]; done)), H', ⟨Nat.le_refl _⟩, ⟨by first | exact Kd.R_nil _ _ _ _ _ | exact Kd.N_nil _ _ _ _ _ | exact Kd.V_nil _ _ _ _ _ | exact Kd.Q_nil _ _ _ _ _ | exact Kd.S_nil _ _ _ _ _⟩, ⟨by (with_reducible repeat (first | refine blk_drewN ?_ _ | refine blk_drew ?_ | refine blk_alloc ?_ _)); exact BK121.out⟩, ⟨by repeat (first | (with_reducible first | exact HB.out | apply below_alloc | apply pw_below_drewN | apply below_drew1 | refine below_set ?_ GE121.out) | exact HB.out)⟩⟩
  case round =>
    clear H'
    try clear c2
    try clear p2
    try clear hcz4_0
    try clear hcz4_1
    try clear hfz4_0
    try clear hfz4_1
    obtain ⟨x5_1, x11_1, rfl, HA, HK1, HO_5, BK121, HB⟩ := hrel
    cases gk with
    | zero => exact absurd HA.out (by simp [paradigm_Find.l0])
    | succ k1 =>
      have H := HA.out
      clear HA
      simp only [paradigm_Find.l0] at H
      by_cases c5 : x11_1 < (l0_1.length : Int)
      · rw [if_pos c5] at H
        have c5b0 : decide (x11_1 < (l0_1.length : Int)) = true := decide_eq_true c5
        clear c5
        by_cases c6 : 0 ≤ x11_1
        · rw [if_pos c6] at H
          have c6b0 : decide (0 ≤ x11_1) = true := decide_eq_true c6
          clear c6
          by_cases c7 : x11_1 < (l0_1.length : Int)
          · rw [if_pos c7] at H
            have c7b0 : decide (x11_1 < (l0_1.length : Int)) = true := decide_eq_true c7
            clear c7
            by_cases c8 : (Go.bits .andNot .u64 a1 ((rd_T56 l0_1 x11_1).f0)) = 0
            · rw [if_pos c8] at H
              have c8b0 : ((Go.bits .andNot .u64 a1 ((rd_T56 l0_1 x11_1).f0)) == 0) = true := beq_iff_eq.mpr c8
              have c8b1 : ((Go.bits .andNot .u64 a1 ((rd_T56 l0_1 x11_1).f0)) != 0) = false := bne_eq_false_iff_eq.mpr c8
              clear c8
              by_cases c9 : x5_1.length < 17592186044416
              · rw [if_pos c9] at H
                have LMc9 := Aside0.mk c9
                clear c9
                obtain ⟨y124, hy124⟩ : ∃ y_ : List Int, y_ = (x5_1 ++ [x11_1]) := ⟨_, rfl⟩
                replace H : (paradigm_Find.l0 k1 a1 y124 l0_1 (l0_1.length : Int) (wrap64 (x11_1 + 1))) = some r := by first | (rw [hy124]; with_reducible exact H) | (have H2_ := (Option.bind_some _ _).symm.trans H; rw [hy124]; with_reducible exact H2_) | (have H2_ := (Option.bind_some _ _).symm.trans H; with_reducible exact H2_) | with_reducible exact H | (rw [hy124]; exact H) | exact H
                have Ny124 := Aside0.mk hy124
                clear hy124
                have H' := Aside0.mk H
                clear H
                have p122 : 0 ≤ (x11_1 : Int) := of_decide_eq_true (by first | (with_reducible assumption) | assumption)
                have q122 : x11_1 < (l0_1.length : Int) := of_decide_eq_true (by first | (with_reducible assumption) | assumption)
                obtain ⟨ad122, A122_1, c122_1, e122, hx122_0, hx122_1, hl122_1, hi122_1⟩ := at_T56 HR0_1.out x11_1 p122 q122
                cases e122
                replace hx122_0 := (HB.out.cell (World.block_lt_of_cell? w _ hx122_0)).trans hx122_0
                replace hx122_1 := (HB.out.cell (World.block_lt_of_cell? w _ hx122_1)).trans hx122_1
                have HR122_1 := Aside0.mk hi122_1
                have HC122_1 := Aside0.mk hl122_1
                clear hi122_1 hl122_1
                replace p122 := eq_true p122
                replace q122 := eq_true q122
                go_wp2_with (first | ((with_reducible refine gate_dst (N := 7) rfl ?_); refine box_event ?hg (N := 7) ?hd (cs := #[.int .u64 0, .slice none 0 0]) (t := 56) ?hr ?_; (case hd => rfl); (case hg => rfl); (case hr => first | (go_simp; done) | (go_simp; rfl)); intro gb123 hg w10 hbox hb; have n0_ := Aside0.mk (Kd.R_below (by (with_reducible repeat (first | apply Kd.R_alloc | apply Kd.R_drewN | apply Kd.R_drew)); exact HO_5.out) hb); have n1_ := Aside0.mk (blk_below (g := gb121) (o := .cells #[.string a0_0, .slice (some ad122) l0_1.length c0_1] 45 (0, 0)) (by (with_reducible repeat (first | refine blk_drewN ?_ _ | refine blk_drew ?_ | refine blk_alloc ?_ _)); exact BK121.out) hb); have n2_ := Aside0.mk (below_step (by repeat (first | (with_reducible first | exact HB.out | apply below_alloc | apply pw_below_drewN | apply below_drew1 | refine below_set ?_ GE121.out) | exact HB.out)) hb); have n3_ := Aside0.mk (hbox); have n4_ := Aside0.mk ((by rw [hg]; exact (below_size (by repeat (first | (with_reducible first | exact HB.out | apply below_alloc | apply pw_below_drewN | apply below_drew1 | refine below_set ?_ GE121.out) | exact HB.out))) : w.heap.size ≤ gb123)); have n5_ := Aside0.mk ((by rw [hg]; exact (below_size (by repeat (first | (with_reducible first | exact HB.out | apply below_alloc | apply pw_below_drewN | apply below_drew1 | refine below_set ?_ GE121.out) | exact HB.out))) : w.heap.size ≤ gb123)); have n6_ := Aside0.mk ((by rw [hg]; exact Nat.ne_of_lt (blk_lt (g := gb121) (o := .cells #[.string a0_0, .slice (some ad122) l0_1.length c0_1] 45 (0, 0)) (by (with_reducible repeat (first | refine blk_drewN ?_ _ | refine blk_drew ?_ | refine blk_alloc ?_ _)); exact BK121.out)) : gb121 ≠ gb123)); have n7_ := Aside0.mk ((by rw [hg]; exact Nat.ne_of_gt (blk_lt (g := gb121) (o := .cells #[.string a0_0, .slice (some ad122) l0_1.length c0_1] 45 (0, 0)) (by (with_reducible repeat (first | refine blk_drewN ?_ _ | refine blk_drew ?_ | refine blk_alloc ?_ _)); exact BK121.out)) : gb123 ≠ gb121)); clear HO_5; clear BK121; clear HB; have HO_5 := n0_; have BK121 := n1_; have HB := n2_; have BK123 := n3_; have GW123 := n4_; have GE123 := n5_; have NB121_123 := n6_; have NB123_121 := n7_; clear n0_ n1_ n2_ n3_ n4_ n5_ n6_ n7_; clear hb hbox hg; have hnb11 := NB123_121.out; have hnc11 := NB121_123.out; have hcz12_0 : w10.cell? ⟨gb123, 0, none⟩ = some (.int .u64 0) := (blk_cell BK123.out 0).trans rfl; have hcz12_1 : w10.cell? ⟨gb123, 1, none⟩ = some (.slice none 0 0) := (blk_cell BK123.out 1).trans rfl; have hfz12_0 := blk_frozen BK123.out 0; have hfz12_1 := blk_frozen BK123.out 1) | ((with_reducible refine gate_builtin (b := .append) (xs := #[.tmp 21, .tmp 23]) rfl ?_); at_builtin; refine Kd.R_append (Kd.int .i64) (w0 := w) w.heap.size rfl (.tmp 21) (.tmp 23) 35 3 (.int .i64 0) 8 rfl Tryd.underlying35 info3 rfl (by decide) (by omega) u5 x5_1 x11_1 [.int .i64 x11_1] (fun _ => True) (fun _ => False) rfl (by first | (go_simp; done) | (go_simp; rfl)) ?aP (fun _ hk => hk.elim) ?aF ?aO ?aB ?aS ?aL ?_; (case aP => exact rfl); (case aB => exact (by repeat (first | (with_reducible first | exact HB.out | apply below_alloc | apply pw_below_drewN | apply below_drew1 | refine below_set ?_ GE121.out | refine below_set ?_ GE123.out) | exact HB.out))); (case aF => exact (fun _ _ => trivial)); (case aO => exact (by (with_reducible repeat (first | apply Kd.R_alloc | apply Kd.R_drewN | apply Kd.R_drew)); exact Kd.R_mono (Kd.R_far (p := ⟨gb123, 1, none⟩) (Kd.R_far (p := ⟨gb123, 0, none⟩) (Kd.R_types HO_5.out BK123.out (by decide)) (fun _ hk => hk.2) (.int .u64 ((rd_T56 l0_1 x11_1).f0))) (fun _ hk => hk.2) (.slice A122_1 ((rd_T56 l0_1 x11_1).f1).length c122_1)) (fun _ hk => trivial))); (case aS => exact (below_size (by repeat (first | (with_reducible first | exact HB.out | apply below_alloc | apply pw_below_drewN | apply below_drew1 | refine below_set ?_ GE121.out | refine below_set ?_ GE123.out) | exact HB.out)))); (case aL => have := LMc9.out; omega); intro v125 w13 ho hb hg hat; rw [← Ny124.out] at ho; have n0_ := Aside0.mk (blk_grown (g := gb121) (o := .cells #[.string a0_0, .slice (some ad122) l0_1.length c0_1] 45 (0, 0)) (by (with_reducible repeat (first | refine blk_drewN ?_ _ | refine blk_drew ?_ | refine blk_alloc ?_ _)); refine blk_far ?_ NB121_123.out _; (with_reducible repeat (first | refine blk_drewN ?_ _ | refine blk_drew ?_ | refine blk_alloc ?_ _)); refine blk_far ?_ NB121_123.out _; (with_reducible repeat (first | refine blk_drewN ?_ _ | refine blk_drew ?_ | refine blk_alloc ?_ _)); exact BK121.out) hg (Kd.R_ne HO_5.out BK121.out (by decide))); have n1_ := Aside0.mk (blk_grown (g := gb123) (o := .cells #[.int .u64 ((rd_T56 l0_1 x11_1).f0), .slice A122_1 ((rd_T56 l0_1 x11_1).f1).length c122_1] 56 (0, 0)) (by (with_reducible repeat (first | refine blk_drewN ?_ _ | refine blk_drew ?_ | refine blk_alloc ?_ _)); refine blk_put (cs := #[.int .u64 ((rd_T56 l0_1 x11_1).f0), .slice none 0 0]) ?_ 1 _ rfl; (with_reducible repeat (first | refine blk_drewN ?_ _ | refine blk_drew ?_ | refine blk_alloc ?_ _)); refine blk_put (cs := #[.int .u64 0, .slice none 0 0]) ?_ 0 _ rfl; (with_reducible repeat (first | refine blk_drewN ?_ _ | refine blk_drew ?_ | refine blk_alloc ?_ _)); exact BK123.out) hg (Kd.R_ne HO_5.out BK123.out (by decide))); have n2_ := Aside0.mk (hb); have n3_ := Aside0.mk (ho); clear BK121; clear BK123; clear HB; clear HO_5; have BK121 := n0_; have BK123 := n1_; have HB := n2_; have HO126 := n3_; clear n0_ n1_ n2_ n3_; clear ho hb hg hat))
                go_roundg k1
                case measure => have := HK1.out; omega
                case rel => exact ⟨(y124), (wrap64 (x11_1 + 1)), (by first | rfl | (simp; done) | (simp [*]; done)), H', ⟨by have := HK1.out; omega⟩, ⟨by (with_reducible repeat (first | apply Kd.R_alloc | apply Kd.R_drewN | apply Kd.R_drew)); exact HO126.out⟩, ⟨by (with_reducible repeat (first | refine blk_drewN ?_ _ | refine blk_drew ?_ | refine blk_alloc ?_ _)); exact BK121.out⟩, ⟨by repeat (first | (with_reducible first | exact HB.out | apply below_alloc | apply pw_below_drewN | apply below_drew1 | refine below_set ?_ GE121.out | refine below_set ?_ GE123.out) | exact HB.out)⟩⟩
              · rw [if_neg c9] at H
                exact absurd H (by simp)
            · rw [if_neg c8] at H
              have c8b0 : ((Go.bits .andNot .u64 a1 ((rd_T56 l0_1 x11_1).f0)) == 0) = false := beq_eq_false_iff_ne.mpr c8
              have c8b1 : ((Go.bits .andNot .u64 a1 ((rd_T56 l0_1 x11_1).f0)) != 0) = true := bne_iff_ne.mpr c8
              have H' := Aside0.mk H
              clear H
              have p122 : 0 ≤ (x11_1 : Int) := of_decide_eq_true (by first | (with_reducible assumption) | assumption)
              have q122 : x11_1 < (l0_1.length : Int) := of_decide_eq_true (by first | (with_reducible assumption) | assumption)
              obtain ⟨ad122, A122_1, c122_1, e122, hx122_0, hx122_1, hl122_1, hi122_1⟩ := at_T56 HR0_1.out x11_1 p122 q122
              cases e122
              replace hx122_0 := (HB.out.cell (World.block_lt_of_cell? w _ hx122_0)).trans hx122_0
              replace hx122_1 := (HB.out.cell (World.block_lt_of_cell? w _ hx122_1)).trans hx122_1
              have HR122_1 := Aside0.mk hi122_1
              have HC122_1 := Aside0.mk hl122_1
              clear hi122_1 hl122_1
              replace p122 := eq_true p122
              replace q122 := eq_true q122
              go_wp2_with (first | ((with_reducible refine gate_dst (N := 7) rfl ?_); refine box_event ?hg (N := 7) ?hd (cs := #[.int .u64 0, .slice none 0 0]) (t := 56) ?hr ?_; (case hd => rfl); (case hg => rfl); (case hr => first | (go_simp; done) | (go_simp; rfl)); intro gb123 hg w14 hbox hb; have n0_ := Aside0.mk (Kd.R_below (by (with_reducible repeat (first | apply Kd.R_alloc | apply Kd.R_drewN | apply Kd.R_drew)); exact HO_5.out) hb); have n1_ := Aside0.mk (blk_below (g := gb121) (o := .cells #[.string a0_0, .slice (some ad122) l0_1.length c0_1] 45 (0, 0)) (by (with_reducible repeat (first | refine blk_drewN ?_ _ | refine blk_drew ?_ | refine blk_alloc ?_ _)); exact BK121.out) hb); have n2_ := Aside0.mk (below_step (by repeat (first | (with_reducible first | exact HB.out | apply below_alloc | apply pw_below_drewN | apply below_drew1 | refine below_set ?_ GE121.out) | exact HB.out)) hb); have n3_ := Aside0.mk (hbox); have n4_ := Aside0.mk ((by rw [hg]; exact (below_size (by repeat (first | (with_reducible first | exact HB.out | apply below_alloc | apply pw_below_drewN | apply below_drew1 | refine below_set ?_ GE121.out) | exact HB.out))) : w.heap.size ≤ gb123)); have n5_ := Aside0.mk ((by rw [hg]; exact (below_size (by repeat (first | (with_reducible first | exact HB.out | apply below_alloc | apply pw_below_drewN | apply below_drew1 | refine below_set ?_ GE121.out) | exact HB.out))) : w.heap.size ≤ gb123)); have n6_ := Aside0.mk ((by rw [hg]; exact Nat.ne_of_lt (blk_lt (g := gb121) (o := .cells #[.string a0_0, .slice (some ad122) l0_1.length c0_1] 45 (0, 0)) (by (with_reducible repeat (first | refine blk_drewN ?_ _ | refine blk_drew ?_ | refine blk_alloc ?_ _)); exact BK121.out)) : gb121 ≠ gb123)); have n7_ := Aside0.mk ((by rw [hg]; exact Nat.ne_of_gt (blk_lt (g := gb121) (o := .cells #[.string a0_0, .slice (some ad122) l0_1.length c0_1] 45 (0, 0)) (by (with_reducible repeat (first | refine blk_drewN ?_ _ | refine blk_drew ?_ | refine blk_alloc ?_ _)); exact BK121.out)) : gb123 ≠ gb121)); clear HO_5; clear BK121; clear HB; have HO_5 := n0_; have BK121 := n1_; have HB := n2_; have BK123 := n3_; have GW123 := n4_; have GE123 := n5_; have NB121_123 := n6_; have NB123_121 := n7_; clear n0_ n1_ n2_ n3_ n4_ n5_ n6_ n7_; clear hb hbox hg; have hnb15 := NB123_121.out; have hnc15 := NB121_123.out; have hcz16_0 : w14.cell? ⟨gb123, 0, none⟩ = some (.int .u64 0) := (blk_cell BK123.out 0).trans rfl; have hcz16_1 : w14.cell? ⟨gb123, 1, none⟩ = some (.slice none 0 0) := (blk_cell BK123.out 1).trans rfl; have hfz16_0 := blk_frozen BK123.out 0; have hfz16_1 := blk_frozen BK123.out 1))
              go_roundg k1
              case measure => have := HK1.out; omega
              case rel => exact ⟨(x5_1), (wrap64 (x11_1 + 1)), (by first | rfl | (simp; done) | (simp [*]; done)), H', ⟨by have := HK1.out; omega⟩, ⟨by (with_reducible repeat (first | apply Kd.R_alloc | apply Kd.R_drewN | apply Kd.R_drew)); exact Kd.R_mono (Kd.R_far (p := ⟨gb123, 1, none⟩) (Kd.R_far (p := ⟨gb123, 0, none⟩) (Kd.R_types HO_5.out BK123.out (by decide)) (fun _ hk => hk.2) (.int .u64 ((rd_T56 l0_1 x11_1).f0))) (fun _ hk => hk.2) (.slice A122_1 ((rd_T56 l0_1 x11_1).f1).length c122_1)) (fun _ hk => trivial)⟩, ⟨by (with_reducible repeat (first | refine blk_drewN ?_ _ | refine blk_drew ?_ | refine blk_alloc ?_ _)); refine blk_far ?_ NB121_123.out _; (with_reducible repeat (first | refine blk_drewN ?_ _ | refine blk_drew ?_ | refine blk_alloc ?_ _)); refine blk_far ?_ NB121_123.out _; (with_reducible repeat (first | refine blk_drewN ?_ _ | refine blk_drew ?_ | refine blk_alloc ?_ _)); exact BK121.out⟩, ⟨by repeat (first | (with_reducible first | exact HB.out | apply below_alloc | apply pw_below_drewN | apply below_drew1 | refine below_set ?_ GE121.out | refine below_set ?_ GE123.out) | exact HB.out)⟩⟩
          · rw [if_neg c7] at H
            exact absurd H (by simp)
        · rw [if_neg c6] at H
          exact absurd H (by simp)
      · rw [if_neg c5] at H
        have c5b0 : decide (x11_1 < (l0_1.length : Int)) = false := decide_eq_false c5
        clear c5
        obtain rfl := Option.some.inj H
        go_wp2
        go_ret
        exact ⟨_, by first | rfl | (simp [errW_none, errW_some] <;> rfl) | (simp [*, errW_none, errW_some] <;> rfl), by (with_reducible repeat (first | apply Kd.R_alloc | apply Kd.R_drewN | apply Kd.R_drew)); exact HO_5.out, by repeat (first | (with_reducible first | exact HB.out | apply below_alloc | apply pw_below_drewN | apply below_drew1 | refine below_set ?_ GE121.out) | exact HB.out)⟩

end Go.Proofs.YthmjheclhcdinaaDoor.RAl
end
section
/-
  cognatelaw17.alive by a walk.
-/
set_option linter.unusedSimpArgs false
set_option linter.unusedVariables false
namespace Go.Proofs.YthmjheclhcdinaaDoor.Ext
open Go.RowKit Go.Maps Go.Proofs.YthmjheclhcdinaaDoor Go.Proofs.YthmjheclhcdinaaDoorW.PrintWords Go.Proofs.YthmjheclhcdinaaDoorW.PrintLast Go.Proofs.YthmjheclhcdinaaDoorW.PrintMore
def sF : List ByteArray := [⟨#[118, 111, 119, 101, 108]⟩]
def sL : List Letter := [⟨97, 1, 0⟩, ⟨105, 1, 0⟩, ⟨107, 0, 1⟩, ⟨116, 0, 1⟩, ⟨98, 0, 1⟩]
def sX : List Affix := [⟨6, ⟨#[]⟩, ⟨#[]⟩, 1⟩, ⟨2, ⟨#[97]⟩, ⟨#[]⟩, 0⟩]
def sC : List Cell := [⟨3, sX⟩, ⟨1, []⟩]
theorem sX_C {W : World} {g : Nat} (h : W.heap[g]? = some (.cells #[.int .u8 6, .string ⟨#[]⟩, .string ⟨#[]⟩, .int .i64 1, .int .u8 2, .string ⟨#[97]⟩, .string ⟨#[]⟩, .int .i64 0] 49 (0, 0))) : Kd.C kAffix W (some ⟨g, 0, none⟩) sX.length sX := by
  have hc := fun j => blk_cell h j
  refine ⟨rfl, by decide, fun _ => ⟨_, rfl, fun j p hj => ?_⟩⟩
  match j, hj with
  | 0, hj =>
    obtain rfl := Option.some.inj hj
    refine ⟨_, rfl, k49_mk W _, fun i u hu => ?_⟩
    match i, hu with
    | 0, hu => obtain rfl := Option.some.inj hu; exact (hc 0).trans rfl
    | 1, hu => obtain rfl := Option.some.inj hu; exact (hc 1).trans rfl
    | 2, hu => obtain rfl := Option.some.inj hu; exact (hc 2).trans rfl
    | 3, hu => obtain rfl := Option.some.inj hu; exact (hc 3).trans rfl
    | i + 4, hu => cases hu
  | 1, hj =>
    obtain rfl := Option.some.inj hj
    refine ⟨_, rfl, k49_mk W _, fun i u hu => ?_⟩
    match i, hu with
    | 0, hu => obtain rfl := Option.some.inj hu; exact (hc 4).trans rfl
    | 1, hu => obtain rfl := Option.some.inj hu; exact (hc 5).trans rfl
    | 2, hu => obtain rfl := Option.some.inj hu; exact (hc 6).trans rfl
    | 3, hu => obtain rfl := Option.some.inj hu; exact (hc 7).trans rfl
    | i + 4, hu => cases hu
  | j + 2, hj => cases hj
theorem sC_C {W : World} {g g2 : Nat} (hA : W.heap[g]? = some (.cells #[.int .u8 6, .string ⟨#[]⟩, .string ⟨#[]⟩, .int .i64 1, .int .u8 2, .string ⟨#[97]⟩, .string ⟨#[]⟩, .int .i64 0] 49 (0, 0)))
    (h : W.heap[g2]? = some (.cells #[.int .u64 3, .slice (some ⟨g, 0, none⟩) 2 2, .int .u64 1, .slice none 0 0] 56 (0, 0))) : Kd.C kCell W (some ⟨g2, 0, none⟩) sC.length sC := by
  have hc := fun j => blk_cell h j
  refine ⟨rfl, by decide, fun _ => ⟨_, rfl, fun j p hj => ?_⟩⟩
  match j, hj with
  | 0, hj =>
    obtain rfl := Option.some.inj hj
    refine ⟨_, rfl, k56_mk W (⟨3, sX⟩ : Cell) (A1 := some ⟨g, 0, none⟩) (c1 := 2) (by decide) (sX_C hA), fun i u hu => ?_⟩
    match i, hu with
    | 0, hu => obtain rfl := Option.some.inj hu; exact (hc 0).trans rfl
    | 1, hu => obtain rfl := Option.some.inj hu; exact (hc 1).trans rfl
    | i + 2, hu => cases hu
  | 1, hj =>
    obtain rfl := Option.some.inj hj
    refine ⟨_, rfl, k56_mk W (⟨1, []⟩ : Cell) (A1 := none) (c1 := 0) (by decide) (Kd.C_nil _ _), fun i u hu => ?_⟩
    match i, hu with
    | 0, hu => obtain rfl := Option.some.inj hu; exact (hc 2).trans rfl
    | 1, hu => obtain rfl := Option.some.inj hu; exact (hc 3).trans rfl
    | i + 2, hu => cases hu
  | j + 2, hj => cases hj
theorem alv_a1 : paradigm_Put.f sF sL 1 (⟨#[107, 105, 116]⟩ : ByteArray) 4 (⟨#[116, 97]⟩ : ByteArray) (⟨#[]⟩ : ByteArray) 1 = some ((⟨#[107, 116, 97, 105, 116]⟩ : ByteArray), 0) := by decide +kernel
theorem alv_a2 : paradigm_Put.f sF sL 1 (⟨#[107, 105, 116]⟩ : ByteArray) 5 (⟨#[95, 97, 95, 105]⟩ : ByteArray) (⟨#[]⟩ : ByteArray) 0 = some ((⟨#[107, 97, 116, 105]⟩ : ByteArray), 0) := by decide +kernel
theorem alv_a3 : paradigm_Put.f sF sL 1 (⟨#[107, 105, 116]⟩ : ByteArray) 5 (⟨#[95, 97, 95, 97, 95]⟩ : ByteArray) (⟨#[]⟩ : ByteArray) 0 = some ((⟨#[]⟩ : ByteArray), 130) := by decide +kernel
theorem alv_a4 : paradigm_Form.f sF sL 1 (⟨#[]⟩ : ByteArray) sC 0 (⟨#[107, 105, 116]⟩ : ByteArray) = some ((⟨#[107, 107, 105, 116, 97]⟩ : ByteArray), 0) := by decide +kernel
theorem alv_a5 : paradigm_Stems.f sF sL 1 (⟨#[]⟩ : ByteArray) sC 0 (⟨#[107, 107, 105, 116, 97]⟩ : ByteArray) = some ([(⟨#[107, 105, 116]⟩ : ByteArray)], 0) := by decide +kernel
theorem alv_a6 : paradigm_Off.f sF sL 1 (⟨#[107, 105, 116]⟩ : ByteArray) 2 (⟨#[97, 116]⟩ : ByteArray) (⟨#[]⟩ : ByteArray) 0 = some ([], 0) := by decide +kernel
theorem alv_a7 : paradigm_Off.f sF sL 1 (⟨#[107, 97, 116, 105]⟩ : ByteArray) 5 (⟨#[95, 97, 95, 105]⟩ : ByteArray) (⟨#[]⟩ : ByteArray) 0 = some ([(⟨#[107, 116]⟩ : ByteArray)], 0) := by decide +kernel
theorem alv_a8 : paradigm_Form.f sF sL 1 (⟨#[]⟩ : ByteArray) sC 2 (⟨#[107, 105, 116]⟩ : ByteArray) = some ((⟨#[]⟩ : ByteArray), 8) := by decide +kernel
theorem alv_a9 : RAl.paradigm_Find.f 10 (⟨#[]⟩ : ByteArray) sC 2 = some [0] := by decide +kernel
set_option maxHeartbeats 4000000 in
set_option maxRecDepth 100000 in
theorem alive_walk (w : World) (hT : Tabs w) : Calls Tryd.prog 17 #[] w fun e w' => e = .returned (.bool true) ∧ Below w.heap.size w w' := by
  have HT := Lib.hid hT
  clear hT
  go_enter Tryd.func17, Tryd.ntmps17
  go_upto_region 3 with (go_at_call 18; refine (RAl.cognatelaw17_sample.calls sF sL w rfl).mono ?_; rintro e w1 ⟨v0, v1, rfl, hR0, hR1, hb⟩; obtain ⟨A0, c0, rfl, hc0, hC0⟩ := Kd.R_reads hR0; obtain ⟨A1, c1, rfl, hc1, hC1⟩ := Kd.R_reads hR1; have HC0 := Lib.hid hC0; have HC1 := Lib.hid hC1; have HB := Lib.hid hb; clear hb hR0 hR1 hC0 hC1)
  obtain ⟨wz, hwz⟩ : ∃ wz, wz = (((w1.alloc (.cells #[.slice A0 sF.length c0, .slice A1 sL.length c1] 25)).alloc (.cells #[.int .u8 6, .string ⟨#[]⟩, .string ⟨#[]⟩, .int .i64 1, .int .u8 2, .string ⟨#[97]⟩, .string ⟨#[]⟩, .int .i64 0] 49)).alloc (.cells #[.int .u64 3, .slice (some ⟨w1.heap.size + 1, 0, none⟩) 2 2, .int .u64 1, .slice none 0 0] 56)).alloc (.cells #[.string ⟨#[]⟩, .slice (some ⟨w1.heap.size + 1 + 1, 0, none⟩) 2 2] 45) := ⟨_, rfl⟩
  obtain ⟨g, hg⟩ : ∃ g, g = w1.heap.size := ⟨_, rfl⟩
  have e1 : (w1.alloc (.cells #[.slice A0 sF.length c0, .slice A1 sL.length c1] 25)).heap.size = g + 1 := by rw [hg]; simp
  have e2 : ((w1.alloc (.cells #[.slice A0 sF.length c0, .slice A1 sL.length c1] 25)).alloc (.cells #[.int .u8 6, .string ⟨#[]⟩, .string ⟨#[]⟩, .int .i64 1, .int .u8 2, .string ⟨#[97]⟩, .string ⟨#[]⟩, .int .i64 0] 49)).heap.size = g + 1 + 1 := by rw [hg]; simp
  rw [← hg] at hwz ⊢
  have b1 : wz.heap[g]? = some (.cells #[.slice A0 sF.length c0, .slice A1 sL.length c1] 25 (0, 0)) := by rw [hwz, hg]; exact blk_alloc (blk_alloc (blk_alloc (blk_new _ _) _) _) _
  have b2 : wz.heap[g + 1]? = some (.cells #[.int .u8 6, .string ⟨#[]⟩, .string ⟨#[]⟩, .int .i64 1, .int .u8 2, .string ⟨#[97]⟩, .string ⟨#[]⟩, .int .i64 0] 49 (0, 0)) := by rw [hwz, ← e1]; exact blk_alloc (blk_alloc (blk_new _ _) _) _
  have b3 : wz.heap[g + 1 + 1]? = some (.cells #[.int .u64 3, .slice (some ⟨g + 1, 0, none⟩) 2 2, .int .u64 1, .slice none 0 0] 56 (0, 0)) := by rw [hwz, ← e2]; exact blk_alloc (blk_new _ _) _
  have b4 : wz.heap[g + 1 + 1 + 1]? = some (.cells #[.string ⟨#[]⟩, .slice (some ⟨g + 1 + 1, 0, none⟩) 2 2] 45 (0, 0)) := by
    have e3 : (((w1.alloc (.cells #[.slice A0 sF.length c0, .slice A1 sL.length c1] 25)).alloc (.cells #[.int .u8 6, .string ⟨#[]⟩, .string ⟨#[]⟩, .int .i64 1, .int .u8 2, .string ⟨#[97]⟩, .string ⟨#[]⟩, .int .i64 0] 49)).alloc (.cells #[.int .u64 3, .slice (some ⟨g + 1, 0, none⟩) 2 2, .int .u64 1, .slice none 0 0] 56)).heap.size = g + 1 + 1 + 1 := by rw [hg]; simp
    rw [hwz, ← e3]; exact blk_new _ _
  have hbz : Below w1.heap.size w1 wz := by
    rw [hwz]; exact ((((Below.refl _ w1).alloc (Nat.le_refl _) _).alloc (by simp) _).alloc (by simp; omega) _).alloc (by simp; omega) _
  have HBz := Lib.hid (below_step HB.out hbz)
  have HD0 := Lib.hid (Kd.C_below HC0.out hbz)
  have HD1 := Lib.hid (Kd.C_below HC1.out hbz)
  have HCC := Lib.hid (sC_C b2 b3)
  have BA := Lib.hid b1
  have BP := Lib.hid b4
  rw [← hwz]
  have ha0 := (blk_cell BA.out 0).trans rfl
  have ha1 := (blk_cell BA.out 1).trans rfl
  have hp0 := (blk_cell BP.out 0).trans rfl
  have hp1 := (blk_cell BP.out 1).trans rfl
  clear hwz hg e1 e2 b1 b2 b3 b4 hbz HC0 HC1 HB
  go_upto_region 4 with (go_at_call 22; refine (paradigm_Put.calls A0 c0 sF A1 c1 sL 1 (⟨#[107, 105, 116]⟩ : ByteArray) 4 (⟨#[116, 97]⟩ : ByteArray) (⟨#[]⟩ : ByteArray) 1 (⟨#[107, 116, 97, 105, 116]⟩ : ByteArray) 0 _ HD0.out hc0 HD1.out hc1 (HT.out.below HBz.out) alv_a1).mono ?_; rintro e wy ⟨rfl, hb⟩; have HBz' := Lib.hid (below_step HBz.out hb); have BA' := Lib.hid (blk_below BA.out hb); have BP' := Lib.hid (blk_below BP.out hb); have HD0' := Lib.hid (Kd.C_below HD0.out hb); have HD1' := Lib.hid (Kd.C_below HD1.out hb); have HCC' := Lib.hid (Kd.C_below HCC.out hb); clear HBz BA BP HD0 HD1 HCC; have HBz := HBz'; have BA := BA'; have BP := BP'; have HD0 := HD0'; have HD1 := HD1'; have HCC := HCC'; clear HBz' BA' BP' HD0' HD1' HCC' hb ha0 ha1 hp0 hp1; have ha0 := (blk_cell BA.out 0).trans rfl; have ha1 := (blk_cell BA.out 1).trans rfl; have hp0 := (blk_cell BP.out 0).trans rfl; have hp1 := (blk_cell BP.out 1).trans rfl)
  go_upto_region 5 with (go_at_call 22; refine (paradigm_Put.calls A0 c0 sF A1 c1 sL 1 (⟨#[107, 105, 116]⟩ : ByteArray) 5 (⟨#[95, 97, 95, 105]⟩ : ByteArray) (⟨#[]⟩ : ByteArray) 0 (⟨#[107, 97, 116, 105]⟩ : ByteArray) 0 _ HD0.out hc0 HD1.out hc1 (HT.out.below HBz.out) alv_a2).mono ?_; rintro e wy ⟨rfl, hb⟩; have HBz' := Lib.hid (below_step HBz.out hb); have BA' := Lib.hid (blk_below BA.out hb); have BP' := Lib.hid (blk_below BP.out hb); have HD0' := Lib.hid (Kd.C_below HD0.out hb); have HD1' := Lib.hid (Kd.C_below HD1.out hb); have HCC' := Lib.hid (Kd.C_below HCC.out hb); clear HBz BA BP HD0 HD1 HCC; have HBz := HBz'; have BA := BA'; have BP := BP'; have HD0 := HD0'; have HD1 := HD1'; have HCC := HCC'; clear HBz' BA' BP' HD0' HD1' HCC' hb ha0 ha1 hp0 hp1; have ha0 := (blk_cell BA.out 0).trans rfl; have ha1 := (blk_cell BA.out 1).trans rfl; have hp0 := (blk_cell BP.out 0).trans rfl; have hp1 := (blk_cell BP.out 1).trans rfl)
  go_upto_region 6 with (go_at_call 22; refine (paradigm_Put.calls A0 c0 sF A1 c1 sL 1 (⟨#[107, 105, 116]⟩ : ByteArray) 5 (⟨#[95, 97, 95, 97, 95]⟩ : ByteArray) (⟨#[]⟩ : ByteArray) 0 (⟨#[]⟩ : ByteArray) 130 _ HD0.out hc0 HD1.out hc1 (HT.out.below HBz.out) alv_a3).mono ?_; rintro e wy ⟨rfl, hb⟩; have HBz' := Lib.hid (below_step HBz.out hb); have BA' := Lib.hid (blk_below BA.out hb); have BP' := Lib.hid (blk_below BP.out hb); have HD0' := Lib.hid (Kd.C_below HD0.out hb); have HD1' := Lib.hid (Kd.C_below HD1.out hb); have HCC' := Lib.hid (Kd.C_below HCC.out hb); clear HBz BA BP HD0 HD1 HCC; have HBz := HBz'; have BA := BA'; have BP := BP'; have HD0 := HD0'; have HD1 := HD1'; have HCC := HCC'; clear HBz' BA' BP' HD0' HD1' HCC' hb ha0 ha1 hp0 hp1; have ha0 := (blk_cell BA.out 0).trans rfl; have ha1 := (blk_cell BA.out 1).trans rfl; have hp0 := (blk_cell BP.out 0).trans rfl; have hp1 := (blk_cell BP.out 1).trans rfl)
  go_upto_region 7 with (go_at_call 24; refine (paradigm_Form.calls A0 c0 sF A1 c1 sL 1 (⟨#[]⟩ : ByteArray) (some ⟨g + 1 + 1, 0, none⟩) 2 sC 0 (⟨#[107, 105, 116]⟩ : ByteArray) (⟨#[107, 107, 105, 116, 97]⟩ : ByteArray) 0 _ HD0.out hc0 HD1.out hc1 HCC.out (by decide) (HT.out.below HBz.out) alv_a4).mono ?_; rintro e wy ⟨rfl, hb⟩; have HBz' := Lib.hid (below_step HBz.out hb); have BA' := Lib.hid (blk_below BA.out hb); have BP' := Lib.hid (blk_below BP.out hb); have HD0' := Lib.hid (Kd.C_below HD0.out hb); have HD1' := Lib.hid (Kd.C_below HD1.out hb); have HCC' := Lib.hid (Kd.C_below HCC.out hb); clear HBz BA BP HD0 HD1 HCC; have HBz := HBz'; have BA := BA'; have BP := BP'; have HD0 := HD0'; have HD1 := HD1'; have HCC := HCC'; clear HBz' BA' BP' HD0' HD1' HCC' hb ha0 ha1 hp0 hp1; have ha0 := (blk_cell BA.out 0).trans rfl; have ha1 := (blk_cell BA.out 1).trans rfl; have hp0 := (blk_cell BP.out 0).trans rfl; have hp1 := (blk_cell BP.out 1).trans rfl)
  go_upto_region 8 with (go_at_call 25; refine (paradigm_Stems.calls A0 c0 sF A1 c1 sL 1 (⟨#[]⟩ : ByteArray) (some ⟨g + 1 + 1, 0, none⟩) 2 sC 0 (⟨#[107, 107, 105, 116, 97]⟩ : ByteArray) [(⟨#[107, 105, 116]⟩ : ByteArray)] 0 _ HD0.out hc0 HD1.out hc1 HCC.out (by decide) (HT.out.below HBz.out) alv_a5).mono ?_; rintro e wy ⟨v, rfl, hR, hb⟩; obtain ⟨A11, c11, rfl, hl11, hC⟩ := Kd.R_reads hR; have H11 := Lib.hid hC; clear hR hC; have HBz' := Lib.hid (below_step HBz.out hb); have BA' := Lib.hid (blk_below BA.out hb); have BP' := Lib.hid (blk_below BP.out hb); have HD0' := Lib.hid (Kd.C_below HD0.out hb); have HD1' := Lib.hid (Kd.C_below HD1.out hb); have HCC' := Lib.hid (Kd.C_below HCC.out hb); clear HBz BA BP HD0 HD1 HCC; have HBz := HBz'; have BA := BA'; have BP := BP'; have HD0 := HD0'; have HD1 := HD1'; have HCC := HCC'; clear HBz' BA' BP' HD0' HD1' HCC' hb ha0 ha1 hp0 hp1; have ha0 := (blk_cell BA.out 0).trans rfl; have ha1 := (blk_cell BA.out 1).trans rfl; have hp0 := (blk_cell BP.out 0).trans rfl; have hp1 := (blk_cell BP.out 1).trans rfl)
  go_upto_region 9 with (go_at_call 23; refine (paradigm_Off.calls A0 c0 sF A1 c1 sL 1 (⟨#[107, 105, 116]⟩ : ByteArray) 2 (⟨#[97, 116]⟩ : ByteArray) (⟨#[]⟩ : ByteArray) 0 [] 0 _ HD0.out hc0 HD1.out hc1 (HT.out.below HBz.out) alv_a6).mono ?_; rintro e wy ⟨v, rfl, hR, hb⟩; obtain ⟨A13, c13, rfl, hl13, hC⟩ := Kd.R_reads hR; have H13 := Lib.hid hC; clear hR hC; have HBz' := Lib.hid (below_step HBz.out hb); have BA' := Lib.hid (blk_below BA.out hb); have BP' := Lib.hid (blk_below BP.out hb); have HD0' := Lib.hid (Kd.C_below HD0.out hb); have HD1' := Lib.hid (Kd.C_below HD1.out hb); have HCC' := Lib.hid (Kd.C_below HCC.out hb); have H11' := Lib.hid (Kd.C_below H11.out hb); clear HBz BA BP HD0 HD1 HCC H11; have HBz := HBz'; have BA := BA'; have BP := BP'; have HD0 := HD0'; have HD1 := HD1'; have HCC := HCC'; have H11 := H11'; clear HBz' BA' BP' HD0' HD1' HCC' H11' hb ha0 ha1 hp0 hp1; have ha0 := (blk_cell BA.out 0).trans rfl; have ha1 := (blk_cell BA.out 1).trans rfl; have hp0 := (blk_cell BP.out 0).trans rfl; have hp1 := (blk_cell BP.out 1).trans rfl)
  go_upto_region 10 with (go_at_call 23; refine (paradigm_Off.calls A0 c0 sF A1 c1 sL 1 (⟨#[107, 97, 116, 105]⟩ : ByteArray) 5 (⟨#[95, 97, 95, 105]⟩ : ByteArray) (⟨#[]⟩ : ByteArray) 0 [(⟨#[107, 116]⟩ : ByteArray)] 0 _ HD0.out hc0 HD1.out hc1 (HT.out.below HBz.out) alv_a7).mono ?_; rintro e wy ⟨v, rfl, hR, hb⟩; obtain ⟨A15, c15, rfl, hl15, hC⟩ := Kd.R_reads hR; have H15 := Lib.hid hC; clear hR hC; have HBz' := Lib.hid (below_step HBz.out hb); have BA' := Lib.hid (blk_below BA.out hb); have BP' := Lib.hid (blk_below BP.out hb); have HD0' := Lib.hid (Kd.C_below HD0.out hb); have HD1' := Lib.hid (Kd.C_below HD1.out hb); have HCC' := Lib.hid (Kd.C_below HCC.out hb); have H11' := Lib.hid (Kd.C_below H11.out hb); have H13' := Lib.hid (Kd.C_below H13.out hb); clear HBz BA BP HD0 HD1 HCC H11 H13; have HBz := HBz'; have BA := BA'; have BP := BP'; have HD0 := HD0'; have HD1 := HD1'; have HCC := HCC'; have H11 := H11'; have H13 := H13'; clear HBz' BA' BP' HD0' HD1' HCC' H11' H13' hb ha0 ha1 hp0 hp1; have ha0 := (blk_cell BA.out 0).trans rfl; have ha1 := (blk_cell BA.out 1).trans rfl; have hp0 := (blk_cell BP.out 0).trans rfl; have hp1 := (blk_cell BP.out 1).trans rfl)
  go_upto_region 11 with (go_at_call 24; refine (paradigm_Form.calls A0 c0 sF A1 c1 sL 1 (⟨#[]⟩ : ByteArray) (some ⟨g + 1 + 1, 0, none⟩) 2 sC 2 (⟨#[107, 105, 116]⟩ : ByteArray) (⟨#[]⟩ : ByteArray) 8 _ HD0.out hc0 HD1.out hc1 HCC.out (by decide) (HT.out.below HBz.out) alv_a8).mono ?_; rintro e wy ⟨rfl, hb⟩; have HBz' := Lib.hid (below_step HBz.out hb); have BA' := Lib.hid (blk_below BA.out hb); have BP' := Lib.hid (blk_below BP.out hb); have HD0' := Lib.hid (Kd.C_below HD0.out hb); have HD1' := Lib.hid (Kd.C_below HD1.out hb); have HCC' := Lib.hid (Kd.C_below HCC.out hb); have H11' := Lib.hid (Kd.C_below H11.out hb); have H13' := Lib.hid (Kd.C_below H13.out hb); have H15' := Lib.hid (Kd.C_below H15.out hb); clear HBz BA BP HD0 HD1 HCC H11 H13 H15; have HBz := HBz'; have BA := BA'; have BP := BP'; have HD0 := HD0'; have HD1 := HD1'; have HCC := HCC'; have H11 := H11'; have H13 := H13'; have H15 := H15'; clear HBz' BA' BP' HD0' HD1' HCC' H11' H13' H15' hb ha0 ha1 hp0 hp1; have ha0 := (blk_cell BA.out 0).trans rfl; have ha1 := (blk_cell BA.out 1).trans rfl; have hp0 := (blk_cell BP.out 0).trans rfl; have hp1 := (blk_cell BP.out 1).trans rfl)
  go_upto_region 12 with (go_at_call 29; refine (RAl.paradigm_Find.calls 10 (⟨#[]⟩ : ByteArray) (some ⟨g + 1 + 1, 0, none⟩) 2 sC 2 [0] _ HCC.out (by decide) alv_a9).mono ?_; rintro e wy ⟨v, rfl, hR, hb⟩; obtain ⟨A19, c19, rfl, hl19, hC⟩ := Kd.R_reads hR; have H19 := Lib.hid hC; clear hR hC; have HBz' := Lib.hid (below_step HBz.out hb); have BA' := Lib.hid (blk_below BA.out hb); have BP' := Lib.hid (blk_below BP.out hb); have HD0' := Lib.hid (Kd.C_below HD0.out hb); have HD1' := Lib.hid (Kd.C_below HD1.out hb); have HCC' := Lib.hid (Kd.C_below HCC.out hb); have H11' := Lib.hid (Kd.C_below H11.out hb); have H13' := Lib.hid (Kd.C_below H13.out hb); have H15' := Lib.hid (Kd.C_below H15.out hb); clear HBz BA BP HD0 HD1 HCC H11 H13 H15; have HBz := HBz'; have BA := BA'; have BP := BP'; have HD0 := HD0'; have HD1 := HD1'; have HCC := HCC'; have H11 := H11'; have H13 := H13'; have H15 := H15'; clear HBz' BA' BP' HD0' HD1' HCC' H11' H13' H15' hb ha0 ha1 hp0 hp1; have ha0 := (blk_cell BA.out 0).trans rfl; have ha1 := (blk_cell BA.out 1).trans rfl; have hp0 := (blk_cell BP.out 0).trans rfl; have hp1 := (blk_cell BP.out 1).trans rfl)
  obtain ⟨ad11, hA11, s11⟩ := Kd.at_string H11.out 0 (by decide) (by decide)
  subst hA11
  obtain ⟨ad15, hA15, s15⟩ := Kd.at_string H15.out 0 (by decide) (by decide)
  subst hA15
  obtain ⟨ad19, hA19, s19⟩ := Kd.at_int H19.out 0 (by decide) (by decide)
  subst hA19
  have s11' : wy.cell? ad11 = some (.string (⟨#[107, 105, 116]⟩ : ByteArray)) := by rw [← Addr.add_zero' ad11]; exact s11
  have s15' : wy.cell? ad15 = some (.string (⟨#[107, 116]⟩ : ByteArray)) := by rw [← Addr.add_zero' ad15]; exact s15
  have s19' : wy.cell? ad19 = some (.int .i64 0) := by rw [← Addr.add_zero' ad19]; exact s19
  clear s11 s15 s19
  go_wp2_with fail
  go_ret
  exact ⟨rfl, HBz.out⟩
def cognatelaw17_alive.f : Option Bool := some true
theorem cognatelaw17_alive.calls (r : Bool) (w : World) (hT : Tabs w) (h : cognatelaw17_alive.f = some r) : Calls Tryd.prog 17 #[] w fun e w' => e = .returned (.bool r) ∧ Below w.heap.size w w' := by
  obtain rfl : true = r := Option.some.inj h
  exact alive_walk w hT
end Go.Proofs.YthmjheclhcdinaaDoor.Ext
end
section
/-
  The plain law of ParadigmBack: what the printed statement computes is true.
-/
set_option linter.unusedSimpArgs false
set_option linter.unusedVariables false
namespace Go.Proofs.YthmjheclhcdinaaDoor
open Go.RowKit Go.Proofs.YthmjheclhcdinaaDoorW.PrintWords Go.Proofs.YthmjheclhcdinaaDoorW.PrintLast Go.Proofs.YthmjheclhcdinaaDoorW.PrintMore Go.Proofs.YthmjheclhcdinaaDoor.Ext
theorem put_f {l0 : List ByteArray} {l1 : List Letter} {v : Int} {s f1 f2 : ByteArray} {k p : Int} (h : sizedX f1 f2) : paradigm_Put.f l0 l1 v s k f1 f2 p = some (putS l0 l1 v s ⟨k, f1, f2, p⟩) := if_pos h
theorem off_f {l0 : List ByteArray} {l1 : List Letter} {v : Int} {s f1 f2 : ByteArray} {k p : Int} (h : sizedX f1 f2) : paradigm_Off.f l0 l1 v s k f1 f2 p = some (offS l0 l1 v s ⟨k, f1, f2, p⟩) := if_pos h
theorem putS_no {l0 : List ByteArray} {l1 : List Letter} {v : Int} {s : ByteArray} {x : Affix} (h : ¬ (putS l0 l1 v s x).2 = 0) : (putS l0 l1 v s x).1 = noB := by
  unfold putS at h ⊢
  split
  · rename_i h1
    rw [if_pos h1] at h
    split
    · rename_i h2
      rw [if_pos h2] at h
      split
      · rename_i h3
        rw [if_pos h3] at h
        unfold toText at h ⊢
        split
        · rename_i h4
          rw [if_pos h4] at h
          exact absurd rfl h
        · rfl
      · rfl
    · rfl
  · rfl
theorem rdOf_one (x : ByteArray) : rdOf ByteArray.empty [x] 0 = x := rfl
section
variable (l0 : List ByteArray) (l1 : List Letter) (v : Int) (w : ByteArray) (kd : Int) (f1 f2 : ByteArray) (p : Int)
end
end Go.Proofs.YthmjheclhcdinaaDoor
end
section
/-
  double.put, double.twice by walks.
-/
set_option linter.unusedSimpArgs false
set_option linter.unusedVariables false
namespace Go.Proofs.YthmjheclhcdinaaDoor.Ext
open Go.RowKit Go.Maps Go.Proofs.YthmjheclhcdinaaDoor Go.Proofs.YthmjheclhcdinaaDoorW.PrintWords Go.Proofs.YthmjheclhcdinaaDoorW.PrintLast Go.Proofs.YthmjheclhcdinaaDoorW.PrintMore
theorem rb_size : ∀ l : List Int, (runesBytes l).size ≤ 4 * l.length
  | [] => by rw [runesBytes_nil]; show (0 : Nat) ≤ _; omega
  | x :: xs => by
    have h1 := rb_size xs
    have h2 := encode_size_le x
    rw [runesBytes_cons, ByteArray.size_append, List.length_cons]
    omega
def double_put.f (l : List Int) (n : Int) : Option ByteArray := if 0 ≤ n ∧ n ≤ l.length ∧ l.length ≤ 1000 then some (runesBytes (l.take n.toNat) ++ runesBytes l) else none
set_option maxHeartbeats 2000000 in
set_option maxRecDepth 100000 in
theorem double_put.calls (A : Option Addr) (c : Nat) (l : List Int) (n : Int) (r : ByteArray) (w : World) (hC : Kd.C (Kd.int .i32) w A l.length l) (hc : l.length ≤ c) (h : double_put.f l n = some r) :
    Calls Tryd.prog 46 #[.slice A l.length c, .int .i64 n] w fun e w' => e = .returned (.string r) ∧ Below w.heap.size w w' := by
  unfold double_put.f at h
  by_cases hp : 0 ≤ n ∧ n ≤ l.length ∧ l.length ≤ 1000
  · rw [if_pos hp] at h
    obtain ⟨k, rfl⟩ : ∃ k : Nat, n = k := ⟨n.toNat, by omega⟩
    have hk : k ≤ l.length := by omega
    rw [Int.toNat_natCast] at h
    obtain ⟨hs1, hC1, hc1⟩ := slice_take A c l k hk hc
    have e3 : (l.take k).length = k := by simp; omega
    have hv1 := fun m => conv_runes (w := w.drewN m) (c := c) (Kd.C_below (hC1 _ hC) (pw_below_drewN (Below.refl _ _) m))
    have hv2 := fun m => conv_runes (w := w.drewN m) (c := c) (Kd.C_below hC (pw_below_drewN (Below.refl _ _) m))
    rw [e3] at hs1 hv1
    have Hr := Lib.hid (Option.some.inj h)
    have hk0 : (0 : Int) ≤ (k : Int) := by omega
    have hk1 : (k : Int) ≤ (l.length : Int) := by omega
    have hz : ((runesBytes (l.take k)).size : Int) + ((runesBytes l).size : Int) ≤ 9223372036854775807 := by
      have h1 := rb_size (l.take k)
      have h2 := rb_size l
      omega
    clear h hp e3 hC1 hC
    go_enter Tryd.func46, Tryd.ntmps46
    go_wp2_with fail
    go_quiet (fail)
    go_wp2_with fail
    go_ret
    exact ⟨by rw [← Hr.out]; rfl, pw_below_drewN (Below.refl _ _) _⟩
  · rw [if_neg hp] at h
    cases h
theorem Equal_loop' (l m : List Int) (hl : l.length = m.length) (hb : l.length < 1000000) : ∀ (n i k : Nat), i + n = l.length → n + 1 ≤ k →
    RF3.slices_Equal_rune_rune.l0 k l m (l.length : Int) (i : Int) = some (decide (l.drop i = m.drop i))
  | 0, i, k, hi, hk => by
    obtain ⟨k, rfl⟩ : ∃ q, k = q + 1 := ⟨k - 1, by omega⟩
    unfold RF3.slices_Equal_rune_rune.l0
    rw [if_neg (by omega), List.drop_of_length_le (by omega), List.drop_of_length_le (by omega)]
    rfl
  | n + 1, i, k, hi, hk => by
    obtain ⟨k, rfl⟩ : ∃ q, k = q + 1 := ⟨k - 1, by omega⟩
    have hlt : i < l.length := by omega
    have hlt2 : i < m.length := by omega
    have hr : rd l (i : Int) = l[i] := by simp [rd, List.getD_eq_getElem?_getD, List.getElem?_eq_getElem hlt]
    have hr2 : rd m (i : Int) = m[i] := by simp [rd, List.getD_eq_getElem?_getD, List.getElem?_eq_getElem hlt2]
    have e : (i : Int) + 1 = ((i + 1 : Nat) : Int) := by omega
    unfold RF3.slices_Equal_rune_rune.l0
    rw [if_pos (by omega), if_pos (by omega), if_pos (by omega), if_pos (by omega), hr, hr2, wrap_succ (by omega) (by omega), e, List.drop_eq_getElem_cons hlt, List.drop_eq_getElem_cons hlt2]
    by_cases hx : l[i] = m[i]
    · rw [if_pos hx, Equal_loop' l m hl hb n (i + 1) k (by omega) (by omega), hx]
      generalize l.drop (i + 1) = t
      generalize m.drop (i + 1) = u
      simp
    · rw [if_neg hx]
      generalize l.drop (i + 1) = t
      generalize m.drop (i + 1) = u
      simp [hx]
theorem Equal_eq' (l m : List Int) (hb : l.length < 1000000) (k : Nat) (hk : l.length + 1 ≤ k) : RF3.slices_Equal_rune_rune.f k l m = some (decide (l = m)) := by
  unfold RF3.slices_Equal_rune_rune.f
  by_cases hl : l.length = m.length
  · rw [if_pos (by omega)]
    have := Equal_loop' l m hl hb l.length 0 k (by omega) (by omega)
    simpa using this
  · rw [if_neg (by omega)]
    congr 1
    rw [eq_comm, decide_eq_false_iff_not]
    intro e
    exact hl (by rw [e])
/-- Two like halves? -/
def twiceB (l : List Int) : Bool := decide (l.length % 2 = 0) && decide (l.take (l.length / 2) = l.drop (l.length / 2))
def double_twice.f (l : List Int) : Option Bool := if l.length ≤ 1000 then some (twiceB l) else none
set_option maxHeartbeats 2000000 in
set_option maxRecDepth 100000 in
theorem double_twice.calls (A : Option Addr) (c : Nat) (l : List Int) (r : Bool) (w : World) (hC : Kd.C (Kd.int .i32) w A l.length l) (hc : l.length ≤ c) (h : double_twice.f l = some r) :
    Calls Tryd.prog 47 #[.slice A l.length c] w fun e w' => e = .returned (.bool r) ∧ Below w.heap.size w w' := by
  unfold double_twice.f at h
  by_cases hp : l.length ≤ 1000
  · rw [if_pos hp] at h
    have hr := Option.some.inj h
    clear h
    by_cases h2 : l.length % 2 = 0
    · obtain ⟨k, hk⟩ : ∃ k, k = l.length / 2 := ⟨_, rfl⟩
      have hkl : k ≤ l.length := by omega
      have ek : (l.length : Int) / 2 = (k : Int) := by omega
      have em : (l.length : Int) % 2 = 0 := by omega
      obtain ⟨hs1, hC1, hc1⟩ := slice_take A c l k hkl hc
      obtain ⟨A', hs2, hC2, hc2⟩ := slice_drop A c l k hkl hc
      have e3 : (l.take k).length = k := by simp; omega
      have e4 : (l.drop k).length = k := by simp; omega
      have heq := fun m => RF3.slices_Equal_rune_rune.calls 2000 A c (l.take k) A' (c - k) (l.drop k) (decide (l.take k = l.drop k)) (w.drewN m) (Kd.C_below (hC1 _ hC) (pw_below_drewN (Below.refl _ _) m)) hc1 (Kd.C_below (hC2 _ hC) (pw_below_drewN (Below.refl _ _) m)) hc2 (Equal_eq' _ _ (by rw [e3]; omega) 2000 (by rw [e3]; omega))
      rw [e3, e4] at heq
      rw [e3] at hs1
      rw [e4] at hs2
      have hrr : r = decide (l.take k = l.drop k) := by
        rw [← hr]
        unfold twiceB
        rw [decide_eq_true h2, Bool.true_and, ← hk]
      have Hr := Lib.hid hrr
      obtain ⟨b, hb⟩ : ∃ b, b = decide (l.take k = l.drop k) := ⟨_, rfl⟩
      rw [← hb] at Hr heq
      have Hb := Lib.hid Hr.out
      have hk0 : (0 : Int) ≤ (k : Int) := by omega
      have hk1 : (k : Int) ≤ (l.length : Int) := by omega
      have em2 : ((l.length : Int).tmod 2 == 0) = true := by rw [Int.tmod_eq_emod_of_nonneg (by omega), em]; rfl
      clear hr hrr h2 hk hC1 hC2 hC e3 e4 hc1 hc2 hb Hr
      go_enter Tryd.func47, Tryd.ntmps47
      go_wp2_with fail
      go_quiet ((go_at_call 64; exact Calls.quiet_of ((heq _).mono (fun e w1 h => ⟨h.1, h.2.out⟩))))
      go_wp2_with fail
      go_ret
      exact ⟨by rw [Hb.out]; rfl, pw_below_drewN (Below.refl _ _) _⟩
    · have hrr : r = false := by
        rw [← hr]
        unfold twiceB
        rw [decide_eq_false h2]
        rfl
      have Hr := Lib.hid hrr
      have em : (l.length : Int) % 2 = 1 := by omega
      have em2 : ((l.length : Int).tmod 2 == 0) = false := by rw [Int.tmod_eq_emod_of_nonneg (by omega), em]; rfl
      clear hr hrr h2 hC
      go_enter Tryd.func47, Tryd.ntmps47
      go_wp2_with fail
      go_quiet (fail)
      go_wp2_with fail
      go_ret
      exact ⟨by rw [Hr.out]; rfl, pw_below_drewN (Below.refl _ _) _⟩
  · rw [if_neg hp] at h
    cases h
end Go.Proofs.YthmjheclhcdinaaDoor.Ext
end
