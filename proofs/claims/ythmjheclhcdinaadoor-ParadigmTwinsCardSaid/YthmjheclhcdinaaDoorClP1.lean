/-
  ParadigmFind: of any paradigm just the cells with all tags, rising; no condition but that the tables of utf8 stand as their text lays them.
-/
import Derived.Test.YthmjheclhcdinaaDoorClP0
import Derived.Test.YthmjheclhcdinaaDoorProg
import Derived.Below
import Derived.Deep.Draws
import Derived.Deep.AppendLies
import Derived.Maps.AppendAt
import Derived.OwnWalk
import Derived.Laws.BytesArg
import Derived.Laws.MakeOwn
import Derived.Laws.OwnMore
import Derived.Deep.OwnRows
import Derived.Tactics
import Derived.Lib.ConvBytes
import Derived.Laws.Slices
import Derived.WalkKit
import Derived.KernelRfl
import Derived.RowKit3
import Derived.Deep.LoopGhost
import Derived.Deep.QuietTactic
import Derived.BigQuiet
import Derived.WideLaws
import Derived.Deep.DeepCutAuto
import Derived.Deep.CutBlock
import Derived.Deep.RegionHeld3
import Derived.Laws.Rows
import Derived.Lib.AppendStr
import Derived.ArgAppend
import Derived.Laws.IdiomCopy
import Derived.OrdersHeld
import Derived.Laws.BitsLemmas
import Derived.RowKit
import Derived.Shelf.Unicode.DecodeSlow
import Derived.Shelf.Strings.SlTrimAscii
import Derived.Shelf.Strings.Count
import Derived.Shelf.Unicode.DecodeAny
import Derived.Shelf.Utf8.RuneCount
import Derived.Shelf.Unicode.ValidAny
import Derived.Ground.NamesProg
import Derived.Test.YthmjheclhcdinaaDoorRows
import Derived.Test.YthmjheclhcdinaaDoorCards
import Derived.Test.YthmjheclhcdinaaDoorTie
import Derived.Lib.LaidU8T
import Derived.ProofKit
import Derived.OpenShut
import Derived.ShutString
import Derived.ChangeOld
import Derived.SizedLaws
import Derived.Deep.DeepHandedRow
import Derived.Deep.Slices
import Derived.SevenTiedAt
import Derived.Laws.Cover4
import Derived.Laws.IdiomStrings
import Derived.WalkSpells
import Derived.WalkLawsBesides
import Derived.Lib.Hide
import Derived.Lib.SlTrimSet
import Derived.Maps.OwnOps
import Derived.Maps.Views
import Derived.Lib.MapLaws
import Derived.Lib.RuneCountTail
import Derived.Lib.OthersKept
import Derived.Laws.BitsAllLaws
section
-- printed by a program of this session (wip/tools/prx.sh: a turned copy of the kit's print, with functions given from outside)
namespace Go.Proofs.YthmjheclhcdinaaDoor
open Go.RowKit  Go.Proofs.YthmjheclhcdinaaDoorW.PrintWords Go.Proofs.YthmjheclhcdinaaDoorW.PrintLast Go.Proofs.YthmjheclhcdinaaDoorW.PrintMore
attribute [local go_sem] max2_int min2_int max_two min_two max_three min_three max_four min_four   -- for this text's walks alone
set_option linter.unusedVariables false
set_option linter.unusedSimpArgs false



theorem info3 : (Tryd.prog.info? 3).map (fun i => (i.zero, i.size, i.bytes)) = some (some (.int .i64 0), 1, 8) := by kernel_rfl
theorem info21 : (Tryd.prog.info? 21).map (fun i => (i.zero, i.size, i.bytes)) = some (some (.int .i32 0), 1, 4) := by kernel_rfl
theorem info145 : (Tryd.prog.info? 145).map (fun i => (i.zero, i.size, i.bytes)) = some (some (.agg #[(.int .i32 0), (.int .i64 0), (.int .i64 0), (.bool false)]), 4, 32) := by kernel_rfl
-- the values' own types
/-! #### struct type 84 -/
structure S84 where
  f0 : Int
  f1 : Int
  f2 : Int
def z84 : S84 := ⟨(0 : Int), (0 : Int), (0 : Int)⟩
def k84 : Kd S84 := Kd.iso (Kd.pair (Kd.int .i32) (Kd.pair (Kd.int .u32) (Kd.int .u32))) (fun x : S84 => (x.f0, x.f1, x.f2))
theorem k84_open {w : World} {x : S84} {cs : List Value} (h : k84.K w x cs) : cs = [.int .i32 x.f0, .int .u32 x.f1, .int .u32 x.f2] := by
  obtain ⟨_, _, rfl, rfl, ⟨_, _, rfl, rfl, rfl⟩⟩ := h
  exact rfl
theorem k84_mkM (w : World) (base : Nat) (ok : Nat → Prop) (x : S84)  : k84.M w base ok x [.int .i32 x.f0, .int .u32 x.f1, .int .u32 x.f2] := ⟨[.int .i32 x.f0], [.int .u32 x.f1, .int .u32 x.f2], rfl, rfl, ⟨[.int .u32 x.f1], [.int .u32 x.f2], rfl, rfl, rfl⟩⟩
def rd_T84 (xs : List S84) (i : Int) : S84 := xs.getD i.toNat z84
theorem at_T84 {w : World} {A : Option Addr} {n : Nat} {xs : List S84} (h : Kd.C k84 w A n xs) (i : Int) (h0 : 0 ≤ i) (h1 : i < n) : ∃ ad , A = some ad ∧ w.cell? (ad.add (i.toNat * 3)) = some (.int .i32 (rd_T84 xs i).f0) ∧ w.cell? ⟨(ad.add (i.toNat * 3)).block, (ad.add (i.toNat * 3)).off + 1, none⟩ = some (.int .u32 (rd_T84 xs i).f1) ∧ w.cell? ⟨(ad.add (i.toNat * 3)).block, (ad.add (i.toNat * 3)).off + 2, none⟩ = some (.int .u32 (rd_T84 xs i).f2) := by
  obtain ⟨ad, c, e, _, hK, hc0⟩ := Kd.C_get h z84 i h0 h1
  have hc : ∀ j u, c[j]? = some u → w.cell? (ad.add (i.toNat * 3 + j)) = some u := hc0
  obtain rfl := k84_open hK
  exact ⟨ad, e, hc 0 _ rfl, by rw [← add_field _ _ 1 (by omega)]; exact hc 1 _ rfl, by rw [← add_field _ _ 2 (by omega)]; exact hc 2 _ rfl⟩

/-! #### struct type 25 -/
structure S25 where
  f0 : (List ByteArray)
  f1 : (List S84)
def k25 : Kd S25 := Kd.iso (Kd.pair (Kd.slice 9 Kd.string) (Kd.slice 84 k84)) (fun x : S25 => (x.f0, x.f1))
theorem k25_open {w : World} {x : S25} {cs : List Value} (h : k25.K w x cs) : ∃ A0 c0 A1 c1, cs = [.slice A0 x.f0.length c0, .slice A1 x.f1.length c1] ∧ x.f0.length ≤ c0 ∧ Kd.string.C w A0 x.f0.length x.f0 ∧ x.f1.length ≤ c1 ∧ k84.C w A1 x.f1.length x.f1 := by
  obtain ⟨_, _, rfl, ⟨A0, c0, rfl, l0, g0⟩, ⟨A1, c1, rfl, l1, g1⟩⟩ := h
  exact ⟨A0, c0, A1, c1, rfl, l0, g0, l1, g1⟩
/-! #### struct type 32 -/
structure S32 where
  f0 : ByteArray
  f1 : ByteArray
/-! #### struct type 145 -/
structure S145 where
  f0 : Int
  f1 : Int
  f2 : Int
  f3 : Bool
def z145 : S145 := ⟨(0 : Int), (0 : Int), (0 : Int), false⟩
def k145 : Kd S145 := Kd.iso (Kd.pair (Kd.int .i32) (Kd.pair (Kd.int .i64) (Kd.pair (Kd.int .i64) Kd.bool))) (fun x : S145 => (x.f0, x.f1, x.f2, x.f3))
theorem k145_open {w : World} {x : S145} {cs : List Value} (h : k145.K w x cs) : cs = [.int .i32 x.f0, .int .i64 x.f1, .int .i64 x.f2, .bool x.f3] := by
  obtain ⟨_, _, rfl, rfl, ⟨_, _, rfl, rfl, ⟨_, _, rfl, rfl, rfl⟩⟩⟩ := h
  exact rfl
theorem k145_mkM (w : World) (base : Nat) (ok : Nat → Prop) (x : S145)  : k145.M w base ok x [.int .i32 x.f0, .int .i64 x.f1, .int .i64 x.f2, .bool x.f3] := ⟨[.int .i32 x.f0], [.int .i64 x.f1, .int .i64 x.f2, .bool x.f3], rfl, rfl, ⟨[.int .i64 x.f1], [.int .i64 x.f2, .bool x.f3], rfl, rfl, ⟨[.int .i64 x.f2], [.bool x.f3], rfl, rfl, rfl⟩⟩⟩
def rd_T145 (xs : List S145) (i : Int) : S145 := xs.getD i.toNat z145
theorem at_T145 {w : World} {A : Option Addr} {n : Nat} {xs : List S145} (h : Kd.C k145 w A n xs) (i : Int) (h0 : 0 ≤ i) (h1 : i < n) : ∃ ad , A = some ad ∧ w.cell? (ad.add (i.toNat * 4)) = some (.int .i32 (rd_T145 xs i).f0) ∧ w.cell? ⟨(ad.add (i.toNat * 4)).block, (ad.add (i.toNat * 4)).off + 1, none⟩ = some (.int .i64 (rd_T145 xs i).f1) ∧ w.cell? ⟨(ad.add (i.toNat * 4)).block, (ad.add (i.toNat * 4)).off + 2, none⟩ = some (.int .i64 (rd_T145 xs i).f2) ∧ w.cell? ⟨(ad.add (i.toNat * 4)).block, (ad.add (i.toNat * 4)).off + 3, none⟩ = some (.bool (rd_T145 xs i).f3) := by
  obtain ⟨ad, c, e, _, hK, hc0⟩ := Kd.C_get h z145 i h0 h1
  have hc : ∀ j u, c[j]? = some u → w.cell? (ad.add (i.toNat * 4 + j)) = some u := hc0
  obtain rfl := k145_open hK
  exact ⟨ad, e, hc 0 _ rfl, by rw [← add_field _ _ 1 (by omega)]; exact hc 1 _ rfl, by rw [← add_field _ _ 2 (by omega)]; exact hc 2 _ rfl, by rw [← add_field _ _ 3 (by omega)]; exact hc 3 _ rfl⟩

/-! #### struct type 49 -/
structure S49 where
  f0 : Int
  f1 : ByteArray
  f2 : ByteArray
  f3 : Int
def z49 : S49 := ⟨(0 : Int), (⟨#[]⟩ : ByteArray), (⟨#[]⟩ : ByteArray), (0 : Int)⟩
def k49 : Kd S49 := Kd.iso (Kd.pair (Kd.int .u8) (Kd.pair Kd.string (Kd.pair Kd.string (Kd.int .i64)))) (fun x : S49 => (x.f0, x.f1, x.f2, x.f3))
theorem k49_open {w : World} {x : S49} {cs : List Value} (h : k49.K w x cs) : cs = [.int .u8 x.f0, .string x.f1, .string x.f2, .int .i64 x.f3] := by
  obtain ⟨_, _, rfl, rfl, ⟨_, _, rfl, rfl, ⟨_, _, rfl, rfl, rfl⟩⟩⟩ := h
  exact rfl
theorem k49_mk (w : World) (x : S49)  : k49.K w x [.int .u8 x.f0, .string x.f1, .string x.f2, .int .i64 x.f3] := ⟨[.int .u8 x.f0], [.string x.f1, .string x.f2, .int .i64 x.f3], rfl, rfl, ⟨[.string x.f1], [.string x.f2, .int .i64 x.f3], rfl, rfl, ⟨[.string x.f2], [.int .i64 x.f3], rfl, rfl, rfl⟩⟩⟩
def rd_T49 (xs : List S49) (i : Int) : S49 := xs.getD i.toNat z49
theorem at_T49 {w : World} {A : Option Addr} {n : Nat} {xs : List S49} (h : Kd.C k49 w A n xs) (i : Int) (h0 : 0 ≤ i) (h1 : i < n) : ∃ ad , A = some ad ∧ w.cell? (ad.add (i.toNat * 4)) = some (.int .u8 (rd_T49 xs i).f0) ∧ w.cell? ⟨(ad.add (i.toNat * 4)).block, (ad.add (i.toNat * 4)).off + 1, none⟩ = some (.string (rd_T49 xs i).f1) ∧ w.cell? ⟨(ad.add (i.toNat * 4)).block, (ad.add (i.toNat * 4)).off + 2, none⟩ = some (.string (rd_T49 xs i).f2) ∧ w.cell? ⟨(ad.add (i.toNat * 4)).block, (ad.add (i.toNat * 4)).off + 3, none⟩ = some (.int .i64 (rd_T49 xs i).f3) := by
  obtain ⟨ad, c, e, _, hK, hc0⟩ := Kd.C_get h z49 i h0 h1
  have hc : ∀ j u, c[j]? = some u → w.cell? (ad.add (i.toNat * 4 + j)) = some u := hc0
  obtain rfl := k49_open hK
  exact ⟨ad, e, hc 0 _ rfl, by rw [← add_field _ _ 1 (by omega)]; exact hc 1 _ rfl, by rw [← add_field _ _ 2 (by omega)]; exact hc 2 _ rfl, by rw [← add_field _ _ 3 (by omega)]; exact hc 3 _ rfl⟩

/-! #### struct type 56 -/
structure S56 where
  f0 : Int
  f1 : (List S49)
def z56 : S56 := ⟨(0 : Int), ([] : List S49)⟩
def k56 : Kd S56 := Kd.iso (Kd.pair (Kd.int .u64) (Kd.slice 49 k49)) (fun x : S56 => (x.f0, x.f1))
theorem k56_open {w : World} {x : S56} {cs : List Value} (h : k56.K w x cs) : ∃ A1 c1, cs = [.int .u64 x.f0, .slice A1 x.f1.length c1] ∧ x.f1.length ≤ c1 ∧ k49.C w A1 x.f1.length x.f1 := by
  obtain ⟨_, _, rfl, rfl, ⟨A1, c1, rfl, l1, g1⟩⟩ := h
  exact ⟨A1, c1, rfl, l1, g1⟩
theorem k56_mk (w : World) (x : S56) {A1 : Option Addr} {c1 : Nat} (l1 : x.f1.length ≤ c1) (g1 : k49.C w A1 x.f1.length x.f1) : k56.K w x [.int .u64 x.f0, .slice A1 x.f1.length c1] := ⟨[.int .u64 x.f0], [.slice A1 x.f1.length c1], rfl, rfl, ⟨A1, c1, rfl, l1, g1⟩⟩
def rd_T56 (xs : List S56) (i : Int) : S56 := xs.getD i.toNat z56
theorem at_T56 {w : World} {A : Option Addr} {n : Nat} {xs : List S56} (h : Kd.C k56 w A n xs) (i : Int) (h0 : 0 ≤ i) (h1 : i < n) : ∃ ad A1 c1, A = some ad ∧ w.cell? (ad.add (i.toNat * 2)) = some (.int .u64 (rd_T56 xs i).f0) ∧ w.cell? ⟨(ad.add (i.toNat * 2)).block, (ad.add (i.toNat * 2)).off + 1, none⟩ = some (.slice A1 (rd_T56 xs i).f1.length c1) ∧ (rd_T56 xs i).f1.length ≤ c1 ∧ k49.C w A1 (rd_T56 xs i).f1.length (rd_T56 xs i).f1 := by
  obtain ⟨ad, c, e, _, hK, hc0⟩ := Kd.C_get h z56 i h0 h1
  have hc : ∀ j u, c[j]? = some u → w.cell? (ad.add (i.toNat * 2 + j)) = some u := hc0
  obtain ⟨A1, c1, rfl, l1, g1⟩ := k56_open hK
  exact ⟨ad, A1, c1, e, hc 0 _ rfl, by rw [← add_field _ _ 1 (by omega)]; exact hc 1 _ rfl, l1, g1⟩

/-! #### struct type 45 -/
structure S45 where
  f0 : ByteArray
  f1 : (List S56)
def k45 : Kd S45 := Kd.iso (Kd.pair Kd.string (Kd.slice 56 k56)) (fun x : S45 => (x.f0, x.f1))
theorem k45_open {w : World} {x : S45} {cs : List Value} (h : k45.K w x cs) : ∃ A1 c1, cs = [.string x.f0, .slice A1 x.f1.length c1] ∧ x.f1.length ≤ c1 ∧ k56.C w A1 x.f1.length x.f1 := by
  obtain ⟨_, _, rfl, rfl, ⟨A1, c1, rfl, l1, g1⟩⟩ := h
  exact ⟨A1, c1, rfl, l1, g1⟩
end Go.Proofs.YthmjheclhcdinaaDoor
end
section
/-
  What all texts of this seat share: the tables of utf8 as one hypothesis on the world; the data's own names.
-/
namespace Go.Proofs.YthmjheclhcdinaaDoor
open Go.RowKit Go.Proofs.YthmjheclhcdinaaDoorW.PrintWords Go.Proofs.YthmjheclhcdinaaDoorW.PrintLast Go.Proofs.YthmjheclhcdinaaDoorW.PrintMore

/-- unicode/utf8's two tables stand as their initialisers lay them. -/
def Tabs (w : World) : Prop := Lib.Utf8Tabs 0 1 w
theorem Tabs.below {w w' : World} (h : Tabs w) (hb : Below w.heap.size w w') : Tabs w' := Utf8Tabs_below h hb
abbrev Letter := S84
abbrev Shape := S32
abbrev Piece := S145
abbrev kLetter : Kd Letter := k84
abbrev kPiece : Kd Piece := k145
/-- (the print's word for errors; no function here answers one) -/
def errW : Option Int → Value
  | none => .nilIface
  | some c => .iface 0 (.int .i64 c)
theorem errW_none : errW none = .nilIface := rfl
theorem errW_some (c : Int) : errW (some c) = .iface 0 (.int .i64 c) := rfl
namespace Ext
end Ext
end Go.Proofs.YthmjheclhcdinaaDoor
end
section
/-
  DERIVED: THE SHELF's CONTRACTS AT THIS DUMP, IN PLAIN WORDS (tools/lay-plain.mjs out of 'TrydShelf.lean', which tools/lay-shelf.mjs wrote): THE SAME DECLARATIONS UNDER THE SAME NAMES: 'import', 'namespace', 'open', 'def', 'theorem' AND NOTHING ELSE: no command of the shelf's: FOR A HAND-IN. Each laying: the table of numbers ('.._ren') and one theorem, a field a fact of the dump's own or the kernel's comparison; each contract: ONE APPLICATION.
-/
namespace Go.Proofs
open Go.Shelf
def Tryd.lays160_ren : Go.Shelf.Ren := ⟨fun | 160 => 76 | 232 => 89 | 231 => 88 | 227 => 90 | 234 => 92 | 233 => 91 | 236 => 94 | 235 => 93 | 228 => 101 | 271 => 103 | 151 => 102 | 197 => 75 | 120 => 106 | 152 => 105 | 260 => 87 | 137 => 111 | 119 => 112 | 224 => 109 | 225 => 108 | 217 => 107 | 266 => 113 | n => n, fun | 9 => 9 | 4 => 4 | 3 => 3 | 5 => 5 | 117 => 163 | 116 => 162 | 0 => 0 | 124 => 166 | 21 => 21 | 105 => 147 | 46 => 150 | 119 => 168 | 139 => 171 | 138 => 170 | n => n, fun | 3 => 0 | 4 => 1 | n => n⟩
theorem Tryd.lays160 : Go.Proofs.Lays.n160 Tryd.prog Tryd.lays160_ren := {
  mixed := by kernel_rfl
  f119 := Tryd.func112.trans (congrArg some (by kernel_rfl))
  f120 := Tryd.func106.trans (congrArg some (by kernel_rfl))
  f137 := Tryd.func111.trans (congrArg some (by kernel_rfl))
  f151 := Tryd.func102.trans (congrArg some (by kernel_rfl))
  f152 := Tryd.func105.trans (congrArg some (by kernel_rfl))
  f160 := Tryd.func76.trans (congrArg some (by kernel_rfl))
  f197 := Tryd.func75.trans (congrArg some (by kernel_rfl))
  f217 := Tryd.func107.trans (congrArg some (by kernel_rfl))
  f224 := Tryd.func109.trans (congrArg some (by kernel_rfl))
  f225 := Tryd.func108.trans (congrArg some (by kernel_rfl))
  f227 := Tryd.func90.trans (congrArg some (by kernel_rfl))
  f228 := Tryd.func101.trans (congrArg some (by kernel_rfl))
  f231 := Tryd.func88.trans (congrArg some (by kernel_rfl))
  f232 := Tryd.func89.trans (congrArg some (by kernel_rfl))
  f233 := Tryd.func91.trans (congrArg some (by kernel_rfl))
  f234 := Tryd.func92.trans (congrArg some (by kernel_rfl))
  f235 := Tryd.func93.trans (congrArg some (by kernel_rfl))
  f236 := Tryd.func94.trans (congrArg some (by kernel_rfl))
  f260 := Tryd.func87.trans (congrArg some (by kernel_rfl))
  f266 := Tryd.func113.trans (congrArg some (by kernel_rfl))
  f271 := Tryd.func103.trans (congrArg some (by kernel_rfl))
  t0 := Tryd.underlying0
  a0 := Tryd.isAgg0
  z0 := Tryd.sizeOf0
  v0 := Tryd.zeroValue0
  t3 := Tryd.underlying3
  a3 := Tryd.isAgg3
  z3 := Tryd.sizeOf3
  v3 := Tryd.zeroValue3
  t4 := Tryd.underlying4
  a4 := Tryd.isAgg4
  z4 := Tryd.sizeOf4
  v4 := Tryd.zeroValue4
  t5 := Tryd.underlying5
  a5 := Tryd.isAgg5
  z5 := Tryd.sizeOf5
  v5 := Tryd.zeroValue5
  t9 := Tryd.underlying9
  a9 := Tryd.isAgg9
  z9 := Tryd.sizeOf9
  v9 := Tryd.zeroValue9
  t21 := Tryd.underlying21
  a21 := Tryd.isAgg21
  z21 := Tryd.sizeOf21
  v21 := Tryd.zeroValue21
  t46 := Tryd.underlying150
  a46 := Tryd.isAgg150
  z46 := Tryd.sizeOf150
  v46 := Tryd.zeroValue150
  t105 := Tryd.underlying147
  a105 := Tryd.isAgg147
  z105 := Tryd.sizeOf147
  v105 := Tryd.zeroValue147
  t116 := Tryd.underlying162
  a116 := Tryd.isAgg162
  z116 := Tryd.sizeOf162
  t117 := Tryd.underlying163
  a117 := Tryd.isAgg163
  z117 := Tryd.sizeOf163
  v117 := Tryd.zeroValue163
  t119 := Tryd.underlying168
  a119 := Tryd.isAgg168
  z119 := Tryd.sizeOf168
  t124 := Tryd.underlying166
  a124 := Tryd.isAgg166
  z124 := Tryd.sizeOf166
  v124 := Tryd.zeroValue166
  t138 := Tryd.underlying170
  a138 := Tryd.isAgg170
  z138 := Tryd.sizeOf170
  v138 := Tryd.zeroValue170
  t139 := Tryd.underlying171
  a139 := Tryd.isAgg171
  z139 := Tryd.sizeOf171
  v139 := Tryd.zeroValue171
  g3 := by kernel_rfl
  g4 := by kernel_rfl }
def Tryd.lays197_ren : Go.Shelf.Ren := ⟨fun | 197 => 75 | 260 => 87 | n => n, fun | 9 => 9 | 21 => 21 | 3 => 3 | 4 => 4 | 5 => 5 | 105 => 147 | 119 => 168 | 0 => 0 | 46 => 150 | 139 => 171 | 138 => 170 | n => n, fun | 3 => 0 | 4 => 1 | n => n⟩
theorem Tryd.lays197 : Go.Proofs.Lays.n197 Tryd.prog Tryd.lays197_ren := {
  mixed := by kernel_rfl
  f197 := Tryd.func75.trans (congrArg some (by kernel_rfl))
  f260 := Tryd.func87.trans (congrArg some (by kernel_rfl))
  t0 := Tryd.underlying0
  a0 := Tryd.isAgg0
  z0 := Tryd.sizeOf0
  v0 := Tryd.zeroValue0
  t3 := Tryd.underlying3
  a3 := Tryd.isAgg3
  z3 := Tryd.sizeOf3
  v3 := Tryd.zeroValue3
  t4 := Tryd.underlying4
  a4 := Tryd.isAgg4
  z4 := Tryd.sizeOf4
  v4 := Tryd.zeroValue4
  t5 := Tryd.underlying5
  a5 := Tryd.isAgg5
  z5 := Tryd.sizeOf5
  v5 := Tryd.zeroValue5
  t9 := Tryd.underlying9
  a9 := Tryd.isAgg9
  z9 := Tryd.sizeOf9
  v9 := Tryd.zeroValue9
  t21 := Tryd.underlying21
  a21 := Tryd.isAgg21
  z21 := Tryd.sizeOf21
  v21 := Tryd.zeroValue21
  t46 := Tryd.underlying150
  a46 := Tryd.isAgg150
  z46 := Tryd.sizeOf150
  v46 := Tryd.zeroValue150
  t105 := Tryd.underlying147
  a105 := Tryd.isAgg147
  z105 := Tryd.sizeOf147
  v105 := Tryd.zeroValue147
  t119 := Tryd.underlying168
  a119 := Tryd.isAgg168
  z119 := Tryd.sizeOf168
  t138 := Tryd.underlying170
  a138 := Tryd.isAgg170
  z138 := Tryd.sizeOf170
  v138 := Tryd.zeroValue170
  t139 := Tryd.underlying171
  a139 := Tryd.isAgg171
  z139 := Tryd.sizeOf171
  v139 := Tryd.zeroValue171
  g3 := by kernel_rfl
  g4 := by kernel_rfl }
def Tryd.lays195_ren : Go.Shelf.Ren := ⟨fun | 195 => 78 | n => n, fun | 9 => 9 | 3 => 3 | 0 => 0 | 4 => 4 | n => n, fun | n => n⟩
theorem Tryd.lays195 : Go.Proofs.Lays.n195 Tryd.prog Tryd.lays195_ren := {
  mixed := by kernel_rfl
  f195 := Tryd.func78.trans (congrArg some (by kernel_rfl))
  t0 := Tryd.underlying0
  a0 := Tryd.isAgg0
  z0 := Tryd.sizeOf0
  v0 := Tryd.zeroValue0
  t3 := Tryd.underlying3
  a3 := Tryd.isAgg3
  z3 := Tryd.sizeOf3
  v3 := Tryd.zeroValue3
  t4 := Tryd.underlying4
  a4 := Tryd.isAgg4
  z4 := Tryd.sizeOf4
  v4 := Tryd.zeroValue4
  t9 := Tryd.underlying9
  a9 := Tryd.isAgg9
  z9 := Tryd.sizeOf9
  v9 := Tryd.zeroValue9 }
def Tryd.lays196_ren : Go.Shelf.Ren := ⟨fun | 196 => 77 | 259 => 95 | n => n, fun | 9 => 9 | 4 => 4 | 3 => 3 | 5 => 5 | 12 => 12 | 119 => 168 | 0 => 0 | 46 => 150 | 139 => 171 | 138 => 170 | 53 => 54 | n => n, fun | 3 => 0 | 4 => 1 | n => n⟩
theorem Tryd.lays196 : Go.Proofs.Lays.n196 Tryd.prog Tryd.lays196_ren := {
  mixed := by kernel_rfl
  f196 := Tryd.func77.trans (congrArg some (by kernel_rfl))
  f259 := Tryd.func95.trans (congrArg some (by kernel_rfl))
  t0 := Tryd.underlying0
  a0 := Tryd.isAgg0
  z0 := Tryd.sizeOf0
  v0 := Tryd.zeroValue0
  t3 := Tryd.underlying3
  a3 := Tryd.isAgg3
  z3 := Tryd.sizeOf3
  v3 := Tryd.zeroValue3
  t4 := Tryd.underlying4
  a4 := Tryd.isAgg4
  z4 := Tryd.sizeOf4
  v4 := Tryd.zeroValue4
  t5 := Tryd.underlying5
  a5 := Tryd.isAgg5
  z5 := Tryd.sizeOf5
  v5 := Tryd.zeroValue5
  t9 := Tryd.underlying9
  a9 := Tryd.isAgg9
  z9 := Tryd.sizeOf9
  v9 := Tryd.zeroValue9
  t12 := Tryd.underlying12
  a12 := Tryd.isAgg12
  z12 := Tryd.sizeOf12
  v12 := Tryd.zeroValue12
  t46 := Tryd.underlying150
  a46 := Tryd.isAgg150
  z46 := Tryd.sizeOf150
  v46 := Tryd.zeroValue150
  t53 := Tryd.underlying54
  a53 := Tryd.isAgg54
  z53 := Tryd.sizeOf54
  v53 := Tryd.zeroValue54
  t119 := Tryd.underlying168
  a119 := Tryd.isAgg168
  z119 := Tryd.sizeOf168
  t138 := Tryd.underlying170
  a138 := Tryd.isAgg170
  z138 := Tryd.sizeOf170
  v138 := Tryd.zeroValue170
  t139 := Tryd.underlying171
  a139 := Tryd.isAgg171
  z139 := Tryd.sizeOf171
  v139 := Tryd.zeroValue171
  g3 := by kernel_rfl
  g4 := by kernel_rfl }
end Go.Proofs
end
section
/-
  Arguments that are data, opened as the contracts want them; the tables of utf8 out of a row's list; a world for the witness.
-/
set_option linter.unusedSimpArgs false
set_option linter.unusedVariables false
namespace Go.Proofs.YthmjheclhcdinaaDoor
open Go.ChangeShapes Go.WideShapes Go.ChangeAt Go.RowKit Go.Proofs.YthmjheclhcdinaaDoorW.PrintWords Go.Proofs.YthmjheclhcdinaaDoorW.PrintLast Go.Proofs.YthmjheclhcdinaaDoorW.PrintMore

theorem and_both {a b : Bool} (h : a = true) (k : b = true) : (a && b) = true := by rw [h, k]; rfl
theorem list_choose {α : Type} {p : Nat → α → Prop} : ∀ (n : Nat), (∀ i, i < n → ∃ x, p i x) → ∃ xs : List α, xs.length = n ∧ ∀ j x, xs[j]? = some x → p j x
  | 0, _ => ⟨[], rfl, fun j x h => by simp at h⟩
  | n + 1, h => by
    obtain ⟨xs, hl, hx⟩ := list_choose n (fun i hi => h i (by omega))
    obtain ⟨y, hy⟩ := h n (by omega)
    refine ⟨xs ++ [y], by simp [hl], fun j x hj => ?_⟩
    by_cases hlt : j < n
    · rw [List.getElem?_append_left (by omega)] at hj
      exact hx j x hj
    · have hj2 : j < (xs ++ [y]).length := (List.getElem?_eq_some_iff.1 hj).1
      simp at hj2
      obtain rfl : j = n := by omega
      rw [List.getElem?_append_right (by omega), hl] at hj
      simp at hj
      subst hj
      exact hy

/-- Whatever reads as data of type t reads as a value of d's, of which Wf holds. -/
def Opens {α : Type} (W : World) (t : TypeId) (d : Kd α) (Wf : α → Prop) : Prop :=
  ∀ (H : Type) (enc : TypeId × Value → H) (fuel : Nat) (cs : List Value) (x : DataW H × List MemPlace), DataW.trod enc Tryd.prog W 0 (fun _ => true) true fuel t cs = some x → ∃ a, d.K W a cs ∧ Wf a
theorem opens_int {W : World} {t : TypeId} {k : IntKind} (ht : Tryd.prog.underlying t = some (.int k)) : Opens W t (Kd.int k) (fun i => (Lit.int k i).wf = true) := by
  intro H enc fuel cs x h
  obtain ⟨n, rfl, _, hw⟩ := DataW.trod_int ht h
  exact ⟨n, rfl, hw⟩
theorem opens_string {W : World} {t : TypeId} (ht : Tryd.prog.underlying t = some .string) : Opens W t Kd.string (fun s => s.size ≤ maxLen) := by
  intro H enc fuel cs x h
  obtain ⟨s, rfl, _, hs⟩ := DataW.trod_string ht h
  exact ⟨s, rfl, hs⟩
theorem opens_slice {α : Type} {W : World} {t e e' : TypeId} {d : Kd α} {Wf : α → Prop} (ht : Tryd.prog.underlying t = some (.slice e)) (hc : Tryd.prog.cellsOf e = d.sz) (ho : Opens W e d Wf) : Opens W t (Kd.slice e' d) (fun xs => xs.length ≤ maxLen ∧ ∀ x ∈ xs, Wf x) := by
  intro H enc fuel cs x h
  rcases Deep.open_slice ht h with ⟨rfl, _⟩ | ⟨a, len, cap, m, n, D, Pl, rfl, _, hl, hm, hmm, _, hx⟩
  · exact ⟨[], ⟨none, 0, rfl, Nat.le_refl _, rfl, by simp, fun h => absurd h (by simp)⟩, by simp, by simp⟩
  · simp only [if_true] at hmm
    have hp : ∀ i, i < len → ∃ y : α, (∃ c, c.length = d.sz ∧ d.K W y c ∧ ∀ j u, c[j]? = some u → W.cell? (a.add (i * d.sz + j)) = some u) ∧ Wf y := by
      intro i hi
      obtain ⟨cs', h1, h2⟩ := hx i (by omega)
      obtain ⟨y, hK, hw⟩ := ho H enc n cs' _ h2
      obtain ⟨_, hlen, hcell⟩ := World.cells?_some h1
      rw [hc] at hlen hcell
      refine ⟨y, ⟨cs', hlen, hK, fun j u hj => ?_⟩, hw⟩
      have hjl : j < cs'.length := (List.getElem?_eq_some_iff.1 hj).1
      have := hcell j (by omega)
      rw [hj] at this
      rw [← this, Addr.add_add]
    obtain ⟨xs, hxl, hxs⟩ := list_choose len hp
    subst hxl
    have hM : maxLen ≤ 9223372036854775807 := by unfold maxLen; omega
    refine ⟨xs, ⟨some a, cap, rfl, hl, ⟨rfl, Nat.le_trans hl (Nat.le_trans hm hM), fun _ => ⟨a, rfl, fun j p hj => (hxs j p hj).1⟩⟩⟩, Nat.le_trans hl hm, fun y hy => ?_⟩
    obtain ⟨j, hj⟩ := List.getElem?_of_mem hy
    exact (hxs j y hj).2
theorem K_pair_at {α β : Type} {W : World} {a : Kd α} {b : Kd β} {x : α} {y : β} {cs : List Value} (o : Nat) (h1 : a.K W x ((cs.drop o).take a.sz)) (h2 : b.K W y (cs.drop (o + a.sz))) : (Kd.pair a b).K W (x, y) (cs.drop o) := by
  refine ⟨_, _, ?_, h1, h2⟩
  rw [← List.drop_drop]
  exact (List.take_append_drop _ _).symm
theorem K_last {α : Type} {W : World} {a : Kd α} {x : α} {cs : List Value} {n : Nat} (o : Nat) (h : a.K W x ((cs.drop o).take n)) (hn : cs.length ≤ o + n) : a.K W x (cs.drop o) := by
  rwa [List.take_of_length_le (by simp; omega)] at h
/-- An alphabet. -/
theorem opens_letter (W : World) : Opens W 84 kLetter (fun x => (Lit.int .i32 x.f0).wf = true ∧ (Lit.int .u32 x.f1).wf = true ∧ (Lit.int .u32 x.f2).wf = true) := by
  intro H enc fuel cs x h
  obtain ⟨xs, n, _, _, hl, hlen, hf⟩ := DataW.trod_struct Tryd.underlying84 h
  have c0 : Tryd.prog.cellsOf 84 = 3 := by kernel_rfl
  have cI : Tryd.prog.cellsOf 21 = 1 := by kernel_rfl
  have cU : Tryd.prog.cellsOf 26 = 1 := by kernel_rfl
  match xs, hlen with
  | [y0, y1, y2], _ =>
    have g0 : DataW.trod enc Tryd.prog W 0 (fun _ => true) true n 21 ((cs.drop 0).take (Tryd.prog.cellsOf 21)) = some y0 := hf 0 _ rfl
    have g1 : DataW.trod enc Tryd.prog W 0 (fun _ => true) true n 26 ((cs.drop 1).take (Tryd.prog.cellsOf 26)) = some y1 := hf 1 _ rfl
    have g2 : DataW.trod enc Tryd.prog W 0 (fun _ => true) true n 26 ((cs.drop 2).take (Tryd.prog.cellsOf 26)) = some y2 := hf 2 _ rfl
    obtain ⟨a0, k0, w0⟩ := opens_int (W := W) Tryd.underlying21 H enc n _ y0 g0
    obtain ⟨a1, k1, w1⟩ := opens_int (W := W) Tryd.underlying26 H enc n _ y1 g1
    obtain ⟨a2, k2, w2⟩ := opens_int (W := W) Tryd.underlying26 H enc n _ y2 g2
    rw [cI] at k0
    rw [cU] at k1 k2
    rw [c0] at hl
    refine ⟨⟨a0, a1, a2⟩, ?_, w0, w1, w2⟩
    show (Kd.pair (Kd.int .i32) (Kd.pair (Kd.int .u32) (Kd.int .u32))).K W (a0, a1, a2) cs
    rw [← List.drop_zero (l := cs)]
    exact K_pair_at 0 k0 (K_pair_at 1 k1 (K_last 2 k2 (by omega)))
def wfAl (x : S25) : Prop := (x.f0.length ≤ maxLen ∧ ∀ s ∈ x.f0, s.size ≤ maxLen) ∧ (x.f1.length ≤ maxLen ∧ ∀ y ∈ x.f1, (Lit.int .i32 y.f0).wf = true ∧ (Lit.int .u32 y.f1).wf = true ∧ (Lit.int .u32 y.f2).wf = true)
theorem opens_alphabet (W : World) : Opens W 25 k25 wfAl := by
  intro H enc fuel cs x h
  obtain ⟨xs, n, _, _, hl, hlen, hf⟩ := DataW.trod_struct Tryd.underlying25 h
  have c0 : Tryd.prog.cellsOf 25 = 2 := by kernel_rfl
  have cA : Tryd.prog.cellsOf 22 = 1 := by kernel_rfl
  have cB : Tryd.prog.cellsOf 23 = 1 := by kernel_rfl
  match xs, hlen with
  | [y0, y1], _ =>
    have g0 : DataW.trod enc Tryd.prog W 0 (fun _ => true) true n 22 ((cs.drop 0).take (Tryd.prog.cellsOf 22)) = some y0 := hf 0 _ rfl
    have g1 : DataW.trod enc Tryd.prog W 0 (fun _ => true) true n 23 ((cs.drop 1).take (Tryd.prog.cellsOf 23)) = some y1 := hf 1 _ rfl
    obtain ⟨a0, k0, w0⟩ := opens_slice (W := W) (e' := 9) (d := Kd.string) Tryd.underlying22 (by kernel_rfl) (opens_string Tryd.underlying9) H enc n _ y0 g0
    obtain ⟨a1, k1, w1⟩ := opens_slice (W := W) (e' := 84) (d := kLetter) Tryd.underlying23 (by kernel_rfl) (opens_letter W) H enc n _ y1 g1
    rw [cA] at k0
    rw [cB] at k1
    rw [c0] at hl
    refine ⟨⟨a0, a1⟩, ?_, w0, w1⟩
    show (Kd.pair (Kd.slice 9 Kd.string) (Kd.slice 84 kLetter)).K W (a0, a1) cs
    rw [← List.drop_zero (l := cs)]
    exact K_pair_at 0 k0 (K_last 1 k1 (by omega))
set_option maxRecDepth 100000 in
/-- A struct that comes in: its cells. -/
theorem struct_arg {H : Type} {enc : TypeId × Value → H} {α : Type} {W : World} {t : TypeId} {fs : Array Field} {d : Kd α} {Wf : α → Prop} {r : Reach} {b0 : Nat} {v : Value} {x : DataW H} {ps : List MemPlace} (ht : Tryd.prog.underlying t = some (.struct fs)) (hv : Value.okWide Tryd.prog W r b0 t v) (ho : Opens W t d Wf)
    (h : DataW.Trod enc Tryd.prog W 0 (fun _ => true) true t v x ps) : ∃ (cs : Array Value) (a : α), v = .agg cs ∧ d.K W a cs.toList ∧ Wf a := by
  obtain ⟨cs, rfl, _⟩ := okWide_struct ht hv
  obtain ⟨fuel, hf⟩ := h
  obtain ⟨a, hk, hw⟩ := ho H enc fuel _ _ hf
  exact ⟨cs, a, rfl, hk, hw⟩
set_option maxRecDepth 100000 in
theorem alphabet_arg {H : Type} {enc : TypeId × Value → H} {W : World} {r : Reach} {b0 : Nat} {v : Value} {x : DataW H} {ps : List MemPlace} (hv : Value.okWide Tryd.prog W r b0 25 v)
    (h : DataW.Trod enc Tryd.prog W 0 (fun _ => true) true 25 v x ps) : ∃ A0 c0 l0 A1 c1 l1, v = .agg #[.slice A0 l0.length c0, .slice A1 l1.length c1] ∧ l0.length ≤ c0 ∧ Kd.C Kd.string W A0 l0.length l0 ∧ l1.length ≤ c1 ∧ Kd.C kLetter W A1 l1.length l1 ∧ wfAl ⟨l0, l1⟩ := by
  obtain ⟨cs, a, rfl, hk, hw⟩ := struct_arg Tryd.underlying25 hv (opens_alphabet W) h
  obtain ⟨A0, c0, A1, c1, hcs, h0, h1, h2, h3⟩ := k25_open hk
  refine ⟨A0, c0, a.f0, A1, c1, a.f1, ?_, h0, h1, h2, h3, hw⟩
  have : cs = #[.slice A0 a.f0.length c0, .slice A1 a.f1.length c1] := Array.toList_inj.1 hcs
  rw [this]

theorem own : ownKnob Tryd.prog.godebug = none := by kernel_rfl
theorem laidOut : laidOutB Tryd.prog = true := by kernel_rfl
theorem first_data : Rows.laid_unicode_utf8_first = Lib.firstData := by kernel_rfl
theorem accept_data : (Rows.laid_unicode_utf8_acceptRanges : DataW Unit) = Lib.acceptData := by kernel_rfl
abbrev theLaid : List (String × DataW Unit) := [("unicode/utf8.acceptRanges", Rows.laid_unicode_utf8_acceptRanges), ("unicode/utf8.first", Rows.laid_unicode_utf8_first)]
theorem tabs_of_laid {W : World} (h : laidMetH Tryd.prog theLaid W) : Tabs W := by
  have e : theLaid = [("unicode/utf8.acceptRanges", Lib.acceptData), ("unicode/utf8.first", Lib.firstData)] := by unfold theLaid; rw [first_data, accept_data]
  rw [e] at h
  exact utf8Tabs_of_readsT { Tryd.lays196 with } ⟨by kernel_rfl, by kernel_rfl, by kernel_rfl, by kernel_rfl, by kernel_rfl, by kernel_rfl, by kernel_rfl⟩ (Lib.laidMet.reads h (.tail _ (.head _))) (Lib.laidMet.reads h (.head _))
/-- The settled world with the two tables as their initialisers lay them. -/
noncomputable def laidWorld (os : Os) : World :=
  let put (h : Array Obj) (g : Nat) (cs : Array Value) : Array Obj := h.modify g fun
    | .cells _ t frozen => .cells cs t frozen
    | o => o
  let w0 := World.holding Tryd.prog os ⟨#[], #[], []⟩
  let h1 := put w0.heap (Tryd.lays196_ren.g 3) (Lib.firstTab.map fun z => Value.int .u8 z).toArray
  let h2 := put h1 (Tryd.lays196_ren.g 4) ((List.range 16).flatMap fun i => [Value.int .u8 (Lib.accLo i), Value.int .u8 (Lib.accHi i)]).toArray
  { w0 with heap := h2 }
theorem laid_met (os : Os) (args : Array Value) : laidMet Tryd.prog theLaid ((laidWorld os).forCall (fun _ _ => 0) ⟨#[], args, []⟩).memory :=
  laidMet_of_run' 8 (by kernel_rfl) (by kernel_rfl)
theorem w_vars (os : Os) (args : Array Value) : ((laidWorld os).forCall (fun _ _ => 0) ⟨#[], args, []⟩).variablesB Tryd.prog = true := by kernel_rfl
theorem w_rest (os : Os) (args : Array Value) : (((laidWorld os).forCall (fun _ _ => 0) ⟨#[], args, []⟩).heap.toList.drop Tryd.prog.globals.size).take ((begin Tryd.prog (fun _ _ => 0) default).world.heap.size - Tryd.prog.globals.size) =
      (begin Tryd.prog (fun _ _ => 0) default).world.heap.toList.drop Tryd.prog.globals.size := by kernel_rfl
theorem w_os (os : Os) : (laidWorld os).os = os := rfl
theorem main_is : Tryd.pinned.checked.prog.mainIs = some (true, "c79581bdf228af4a406eb950c3edf7d61f6ca33bfe0f7aa492cf7aa6fa8bd25e".toList) := by kernel_rfl
theorem looks_on : true = Tryd.pinned.checked.prog.looks [] := by kernel_rfl
end Go.Proofs.YthmjheclhcdinaaDoor
end
section
/-
  Arguments that are data, opened with what the reach says of their sizes.
-/
set_option linter.unusedSimpArgs false
set_option linter.unusedVariables false
namespace Go.Proofs.YthmjheclhcdinaaDoor
open Go.ChangeShapes Go.WideShapes Go.ChangeAt Go.RowKit Go.Proofs.YthmjheclhcdinaaDoorW.PrintWords Go.Proofs.YthmjheclhcdinaaDoorW.PrintLast Go.Proofs.YthmjheclhcdinaaDoorW.PrintMore

/-- Whatever reads as data of type t reads as a value of d's, of which Wf holds, and Sz, where each weight is within the reach. -/
def OpensS {α : Type} (W : World) (t : TypeId) (d : Kd α) (Wf Sz : α → Prop) : Prop :=
  ∀ (H : Type) (enc : TypeId × Value → H) (fuel : Nat) (cs : List Value) (x : DataW H × List MemPlace), DataW.trod enc Tryd.prog W 0 (fun _ => true) true fuel t cs = some x → ∃ a, d.K W a cs ∧ Wf a ∧ ((∀ n ∈ x.1.weights Tryd.prog t, n ≤ reachBytes) → Sz a)
theorem opensS_int {W : World} {t : TypeId} {k : IntKind} (ht : Tryd.prog.underlying t = some (.int k)) : OpensS W t (Kd.int k) (fun i => (Lit.int k i).wf = true) (fun _ => True) := by
  intro H enc fuel cs x h
  obtain ⟨n, rfl, _, hw⟩ := DataW.trod_int ht h
  exact ⟨n, rfl, hw, fun _ => trivial⟩
theorem opensS_string {W : World} {t : TypeId} (ht : Tryd.prog.underlying t = some .string) : OpensS W t Kd.string (fun s => s.size ≤ maxLen) (fun s => s.size ≤ reachBytes) := by
  intro H enc fuel cs x h
  obtain ⟨s, rfl, rfl, hs⟩ := DataW.trod_string ht h
  refine ⟨s, rfl, hs, fun hn => ?_⟩
  have := hn s.data.toList.length (by simp [DataW.weights])
  have hl : s.data.toList.length = s.size := by rw [Array.length_toList]; rfl
  omega
theorem weightsAll_mem {H : Type} {P : Program} {e : TypeId} {n : Nat} : ∀ {L : List (DataW H)} {d : DataW H}, d ∈ L → n ∈ d.weights P e → n ∈ DataW.weightsAll P e L
  | [], d, h, _ => by simp at h
  | x :: xs, d, h, hn => by
    simp only [DataW.weightsAll, List.mem_append]
    rcases List.mem_cons.1 h with rfl | h
    · exact .inl hn
    · exact .inr (weightsAll_mem h hn)
theorem opensS_slice {α : Type} {W : World} {t e e' : TypeId} {d : Kd α} {Wf Sz : α → Prop} (ht : Tryd.prog.underlying t = some (.slice e)) (hc : Tryd.prog.cellsOf e = d.sz) (ho : OpensS W e d Wf Sz) : OpensS W t (Kd.slice e' d) (fun xs => xs.length ≤ maxLen ∧ ∀ x ∈ xs, Wf x) (fun xs => xs.length * Tryd.prog.bytesOf e ≤ reachBytes ∧ ∀ x ∈ xs, Sz x) := by
  intro H enc fuel cs x h
  rcases Deep.open_slice ht h with ⟨rfl, rfl⟩ | ⟨a, len, cap, m, n, D, Pl, rfl, _, hl, hm, hmm, rfl, hx⟩
  · exact ⟨[], ⟨none, 0, rfl, Nat.le_refl _, rfl, by simp, fun h => absurd h (by simp)⟩, by simp, fun _ => ⟨by simp, by simp⟩⟩
  · simp only [if_true] at hmm
    have hp : ∀ i, i < len → ∃ y : α, (∃ c, c.length = d.sz ∧ d.K W y c ∧ ∀ j u, c[j]? = some u → W.cell? (a.add (i * d.sz + j)) = some u) ∧ Wf y ∧ ((∀ n ∈ (D i).weights Tryd.prog e, n ≤ reachBytes) → Sz y) := by
      intro i hi
      obtain ⟨cs', h1, h2⟩ := hx i (by omega)
      obtain ⟨y, hK, hw, hz⟩ := ho H enc n cs' _ h2
      obtain ⟨_, hlen, hcell⟩ := World.cells?_some h1
      rw [hc] at hlen hcell
      refine ⟨y, ⟨cs', hlen, hK, fun j u hj => ?_⟩, hw, hz⟩
      have hjl : j < cs'.length := (List.getElem?_eq_some_iff.1 hj).1
      have := hcell j (by omega)
      rw [hj] at this
      rw [← this, Addr.add_add]
    obtain ⟨xs, hxl, hxs⟩ := list_choose len hp
    subst hxl
    have hM : maxLen ≤ 9223372036854775807 := by unfold maxLen; omega
    refine ⟨xs, ⟨some a, cap, rfl, hl, ⟨rfl, Nat.le_trans hl (Nat.le_trans hm hM), fun _ => ⟨a, rfl, fun j p hj => (hxs j p hj).1⟩⟩⟩, ⟨Nat.le_trans hl hm, fun y hy => ?_⟩, fun hn => ⟨?_, fun y hy => ?_⟩⟩
    · obtain ⟨j, hj⟩ := List.getElem?_of_mem hy
      exact (hxs j y hj).2.1
    · have := hn ((xs.length + (m - xs.length)) * Tryd.prog.bytesOf e) (by simp [DataW.weights, ht])
      exact Nat.le_trans (Nat.mul_le_mul_right _ (Nat.le_add_right _ _)) this
    · obtain ⟨j, hj⟩ := List.getElem?_of_mem hy
      have hjl : j < xs.length := (List.getElem?_eq_some_iff.1 hj).1
      refine (hxs j y hj).2.2 (fun q hq => hn q ?_)
      simp only [DataW.weights, ht, List.mem_cons, List.mem_append]
      exact .inr (.inl (weightsAll_mem (List.mem_map.2 ⟨j, List.mem_range.2 hjl, rfl⟩) hq))
section
variable {H : Type} {enc : TypeId × Value → H} {α : Type} {W : World} {t : TypeId} {d : Kd α} {Wf Sz : α → Prop} {r : Reach} {b0 : Nat} {v : Value} {x : DataW H} {ps : List MemPlace}
set_option maxRecDepth 100000 in
theorem structS_arg {fs : Array Field} (ht : Tryd.prog.underlying t = some (.struct fs)) (hv : Value.okWide Tryd.prog W r b0 t v) (ho : OpensS W t d Wf Sz)
    (h : DataW.Trod enc Tryd.prog W 0 (fun _ => true) true t v x ps) : ∃ (cs : Array Value) (a : α), v = .agg cs ∧ d.K W a cs.toList ∧ Wf a ∧ ((∀ n ∈ x.weights Tryd.prog t, n ≤ reachBytes) → Sz a) := by
  obtain ⟨cs, rfl, _⟩ := okWide_struct ht hv
  obtain ⟨fuel, hf⟩ := h
  obtain ⟨a, hk, hw, hz⟩ := ho H enc fuel _ _ hf
  exact ⟨cs, a, rfl, hk, hw, hz⟩
end
end Go.Proofs.YthmjheclhcdinaaDoor
end
section
/-
  Affixes, cells and paradigms as arguments, with what the reach says of their sizes.
-/
set_option linter.unusedSimpArgs false
set_option linter.unusedVariables false
namespace Go.Proofs.YthmjheclhcdinaaDoor
open Go.ChangeShapes Go.WideShapes Go.ChangeAt Go.RowKit Go.Proofs.YthmjheclhcdinaaDoorW.PrintWords Go.Proofs.YthmjheclhcdinaaDoorW.PrintLast Go.Proofs.YthmjheclhcdinaaDoorW.PrintMore
def szAf (x : S49) : Prop := x.f1.size ≤ reachBytes ∧ x.f2.size ≤ reachBytes
def wfAf (x : S49) : Prop := x.f1.size ≤ maxLen ∧ x.f2.size ≤ maxLen
def szCe (x : S56) : Prop := x.f1.length * Tryd.prog.bytesOf 49 ≤ reachBytes ∧ ∀ y ∈ x.f1, szAf y
def wfCe (x : S56) : Prop := x.f1.length ≤ maxLen ∧ ∀ y ∈ x.f1, wfAf y
def szPa (x : S45) : Prop := x.f0.size ≤ reachBytes ∧ x.f1.length * Tryd.prog.bytesOf 56 ≤ reachBytes ∧ ∀ y ∈ x.f1, szCe y
def wfPa (x : S45) : Prop := x.f0.size ≤ maxLen ∧ x.f1.length ≤ maxLen ∧ ∀ y ∈ x.f1, wfCe y
theorem opensS_affix (W : World) : OpensS W 49 k49 wfAf szAf := by
  intro H enc fuel cs x h
  obtain ⟨xs, n, _, hx, hl, hlen, hf⟩ := DataW.trod_struct Tryd.underlying49 h
  have c0 : Tryd.prog.cellsOf 49 = 4 := by kernel_rfl
  have cA0 : Tryd.prog.cellsOf 5 = 1 := by kernel_rfl
  have cA1 : Tryd.prog.cellsOf 9 = 1 := by kernel_rfl
  have cA2 : Tryd.prog.cellsOf 3 = 1 := by kernel_rfl
  match xs, hlen with
  | [y0, y1, y2, y3], _ =>
    have g0 : DataW.trod enc Tryd.prog W 0 (fun _ => true) true n 5 ((cs.drop 0).take (Tryd.prog.cellsOf 5)) = some y0 := hf 0 _ rfl
    have g1 : DataW.trod enc Tryd.prog W 0 (fun _ => true) true n 9 ((cs.drop 1).take (Tryd.prog.cellsOf 9)) = some y1 := hf 1 _ rfl
    have g2 : DataW.trod enc Tryd.prog W 0 (fun _ => true) true n 9 ((cs.drop 2).take (Tryd.prog.cellsOf 9)) = some y2 := hf 2 _ rfl
    have g3 : DataW.trod enc Tryd.prog W 0 (fun _ => true) true n 3 ((cs.drop 3).take (Tryd.prog.cellsOf 3)) = some y3 := hf 3 _ rfl
    obtain ⟨a0, k0, w0, z0⟩ := (opensS_int (W := W) (k := .u8) Tryd.underlying5) H enc n _ y0 g0
    obtain ⟨a1, k1, w1, z1⟩ := (opensS_string (W := W) Tryd.underlying9) H enc n _ y1 g1
    obtain ⟨a2, k2, w2, z2⟩ := (opensS_string (W := W) Tryd.underlying9) H enc n _ y2 g2
    obtain ⟨a3, k3, w3, z3⟩ := (opensS_int (W := W) (k := .i64) Tryd.underlying3) H enc n _ y3 g3
    rw [cA0] at k0
    rw [cA1] at k1
    rw [cA1] at k2
    rw [cA2] at k3
    rw [c0] at hl
    subst hx
    refine ⟨⟨a0, a1, a2, a3⟩, ?_, ⟨w1, w2⟩, fun hn => ⟨z1 (fun q hq => hn q ?_), z2 (fun q hq => hn q ?_)⟩⟩
    · show (Kd.pair (Kd.int .u8) (Kd.pair Kd.string (Kd.pair Kd.string (Kd.int .i64)))).K W (a0, a1, a2, a3) cs
      rw [← List.drop_zero (l := cs)]
      exact K_pair_at 0 k0 (K_pair_at 1 k1 (K_pair_at 2 k2 (K_last 3 k3 (by omega))))
    · simp only [DataW.weights, Tryd.underlying49, DataW.weightsEach, List.map_cons, List.map_nil, List.mem_append]
      exact .inr (.inl hq)
    · simp only [DataW.weights, Tryd.underlying49, DataW.weightsEach, List.map_cons, List.map_nil, List.mem_append]
      exact .inr (.inr (.inl hq))
theorem opensS_cell (W : World) : OpensS W 56 k56 wfCe szCe := by
  intro H enc fuel cs x h
  obtain ⟨xs, n, _, hx, hl, hlen, hf⟩ := DataW.trod_struct Tryd.underlying56 h
  have c0 : Tryd.prog.cellsOf 56 = 2 := by kernel_rfl
  have cA0 : Tryd.prog.cellsOf 54 = 1 := by kernel_rfl
  have cA1 : Tryd.prog.cellsOf 50 = 1 := by kernel_rfl
  match xs, hlen with
  | [y0, y1], _ =>
    have g0 : DataW.trod enc Tryd.prog W 0 (fun _ => true) true n 54 ((cs.drop 0).take (Tryd.prog.cellsOf 54)) = some y0 := hf 0 _ rfl
    have g1 : DataW.trod enc Tryd.prog W 0 (fun _ => true) true n 50 ((cs.drop 1).take (Tryd.prog.cellsOf 50)) = some y1 := hf 1 _ rfl
    obtain ⟨a0, k0, w0, z0⟩ := (opensS_int (W := W) (k := .u64) Tryd.underlying54) H enc n _ y0 g0
    obtain ⟨a1, k1, w1, z1⟩ := (opensS_slice (e' := 49) Tryd.underlying50 (by kernel_rfl) (opensS_affix W)) H enc n _ y1 g1
    rw [cA0] at k0
    rw [cA1] at k1
    rw [c0] at hl
    subst hx
    refine ⟨⟨a0, a1⟩, ?_, w1, fun hn => z1 (fun q hq => hn q ?_)⟩
    · show (Kd.pair (Kd.int .u64) (Kd.slice 49 k49)).K W (a0, a1) cs
      rw [← List.drop_zero (l := cs)]
      exact K_pair_at 0 k0 (K_last 1 k1 (by omega))
    · simp only [DataW.weights, Tryd.underlying56, DataW.weightsEach, List.map_cons, List.map_nil, List.mem_append]
      exact .inr (.inl hq)
theorem opensS_paradigm (W : World) : OpensS W 45 k45 wfPa szPa := by
  intro H enc fuel cs x h
  obtain ⟨xs, n, _, hx, hl, hlen, hf⟩ := DataW.trod_struct Tryd.underlying45 h
  have c0 : Tryd.prog.cellsOf 45 = 2 := by kernel_rfl
  have cA0 : Tryd.prog.cellsOf 9 = 1 := by kernel_rfl
  have cA1 : Tryd.prog.cellsOf 43 = 1 := by kernel_rfl
  match xs, hlen with
  | [y0, y1], _ =>
    have g0 : DataW.trod enc Tryd.prog W 0 (fun _ => true) true n 9 ((cs.drop 0).take (Tryd.prog.cellsOf 9)) = some y0 := hf 0 _ rfl
    have g1 : DataW.trod enc Tryd.prog W 0 (fun _ => true) true n 43 ((cs.drop 1).take (Tryd.prog.cellsOf 43)) = some y1 := hf 1 _ rfl
    obtain ⟨a0, k0, w0, z0⟩ := (opensS_string (W := W) Tryd.underlying9) H enc n _ y0 g0
    obtain ⟨a1, k1, w1, z1⟩ := (opensS_slice (e' := 56) Tryd.underlying43 (by kernel_rfl) (opensS_cell W)) H enc n _ y1 g1
    rw [cA0] at k0
    rw [cA1] at k1
    rw [c0] at hl
    subst hx
    refine ⟨⟨a0, a1⟩, ?_, ⟨w0, w1⟩, fun hn => ⟨z0 (fun q hq => hn q ?_), z1 (fun q hq => hn q ?_)⟩⟩
    · show (Kd.pair Kd.string (Kd.slice 56 k56)).K W (a0, a1) cs
      rw [← List.drop_zero (l := cs)]
      exact K_pair_at 0 k0 (K_last 1 k1 (by omega))
    · simp only [DataW.weights, Tryd.underlying45, DataW.weightsEach, List.map_cons, List.map_nil, List.mem_append]
      exact .inl hq
    · simp only [DataW.weights, Tryd.underlying45, DataW.weightsEach, List.map_cons, List.map_nil, List.mem_append]
      exact .inr (.inl hq)
end Go.Proofs.YthmjheclhcdinaaDoor
end
section
/-
  '[]rune(s)' and 'string(runes)' as the print wants them. 
-/
set_option linter.unusedSimpArgs false
set_option linter.unusedVariables false
namespace Go.Proofs.YthmjheclhcdinaaDoor.Ext
open Go.RowKit Go.Proofs.YthmjheclhcdinaaDoor Go.Proofs.YthmjheclhcdinaaDoorW.PrintWords Go.Proofs.YthmjheclhcdinaaDoorW.PrintLast Go.Proofs.YthmjheclhcdinaaDoorW.PrintMore

/-- A text's runes, one by one, broken bytes as U+FFFD. -/
def runesOf (s : ByteArray) : List Int := (Conv.runesFrom s s.size 0 #[]).toList.map (fun v => match v with | .int _ n => n | _ => 0)

theorem runesFrom_form (s : ByteArray) : ∀ (bound i : Nat) (acc : Array Value), (∃ l : List Int, acc.toList = l.map (Value.int .i32)) → ∃ l : List Int, (Conv.runesFrom s bound i acc).toList = l.map (Value.int .i32)
  | 0, _, acc, h => by simpa [Conv.runesFrom] using h
  | b + 1, i, acc, h => by
    unfold Conv.runesFrom
    split
    · refine runesFrom_form s b _ _ ?_
      obtain ⟨l, hl⟩ := h
      exact ⟨l ++ [Int.ofNat (Utf8.decode s i).1], by rw [Array.toList_push, hl, List.map_append]; rfl⟩
    · exact h
theorem runesOf_cells (s : ByteArray) : (Conv.runesFrom s s.size 0 #[]).toList = (runesOf s).map (Value.int .i32) := by
  obtain ⟨l, hl⟩ := runesFrom_form s s.size 0 #[] ⟨[], by simp⟩
  have e : ∀ q : List Int, (q.map (Value.int .i32)).map (fun v => match v with | .int _ n => n | _ => 0) = q := by
    intro q
    induction q with
    | nil => rfl
    | cons x xs ih => rw [List.map_cons, List.map_cons, ih]
  unfold runesOf
  rw [hl, e]
theorem runesOf_size (s : ByteArray) : (Conv.runesFrom s s.size 0 #[]).size = (runesOf s).length := by
  have := congrArg List.length (runesOf_cells s)
  simpa using this
theorem runesOf_le (s : ByteArray) : (runesOf s).length ≤ s.size := by
  rw [← runesOf_size]
  simpa using size_runesFrom s s.size 0 #[]
section
variable {P : Program} {ops : Array Oper} {rest : List Oper} {o : Oper} {a : Act} {Q : Exit → Act → World → Prop}
end
end Go.Proofs.YthmjheclhcdinaaDoor.Ext
end
section
/-
  slices.Clone, Grow, Concat over runes, by walks.
-/
set_option linter.unusedSimpArgs false
set_option linter.unusedVariables false
namespace Go.Proofs.YthmjheclhcdinaaDoor.Ext
open Go.RowKit Go.Proofs.YthmjheclhcdinaaDoor Go.Proofs.YthmjheclhcdinaaDoorW.PrintWords Go.Proofs.YthmjheclhcdinaaDoorW.PrintLast Go.Proofs.YthmjheclhcdinaaDoorW.PrintMore
abbrev RI (w : World) (base : Nat) (v : Value) (l : List Int) : Prop := Kd.R (Kd.int .i32) 21 w base (fun _ => True) v l
theorem eql_nil (A : Option Addr) (n c : Nat) : ∀ w, (binOp .eql 73 (.slice A n c) (.slice none 0 0)).run Tryd.prog w = .ok (.bool A.isNone) w := fun w => Lib.run_eql_slice_nil w 73 21 A n c 0 0 Tryd.underlying73
theorem RI_nil (w : World) (base : Nat) : RI w base (.slice none 0 0) [] := Kd.R_nil _ _ _ _ _
set_option maxHeartbeats 2000000 in
set_option maxRecDepth 100000 in
theorem slices_Clone.calls (A : Option Addr) (c : Nat) (l : List Int) (w : World) (h : Kd.C (Kd.int .i32) w A l.length l) (hb : l.length ≤ 1000000) :
    Calls Tryd.prog 139 #[.slice A l.length c] w fun e w' => ∃ v, e = .returned v ∧ RI w' w.heap.size v l ∧ Below w.heap.size w w' := by
  have hq := eql_nil A l.length c
  cases A with
  | none =>
    clear hq
    obtain rfl : l = [] := by
      rcases Nat.eq_zero_or_pos l.length with h0 | h0
      · exact List.length_eq_zero_iff.1 h0
      · obtain ⟨ad, e, _⟩ := h.2.2 h0
        cases e
    have hq : ∀ w, (binOp .eql 73 (.slice none 0 c) (.slice none 0 0)).run Tryd.prog w = .ok (.bool true) w := eql_nil none 0 c
    go_enter Tryd.func139, Tryd.ntmps139
    go_wp2
    refine bodyPost_ret (results_tmp rfl _ _ _) rfl ?_
    exact ⟨_, rfl, RI_nil _ _, Below.refl _ _⟩
  | some a =>
    simp only [Option.isNone_some] at hq
    have hC := Lib.hid h
    clear h
    go_enter Tryd.func139, Tryd.ntmps139
    have HB : Below w.heap.size w (w.alloc (.cells #[] 21)) := (Below.refl _ w).alloc (Nat.le_refl _) _
    have HC := Kd.C_below hC.out HB
    have HR : Kd.R (Kd.int .i32) 21 (w.alloc (.cells #[] 21)) w.heap.size (fun _ => True) (.slice (some ⟨w.heap.size, 0, none⟩) 0 0) [] := ⟨fun _ _ => trivial, [], ⟨rfl, .inr ⟨w.heap.size, 0, #[], rfl, Nat.le_refl _, blk_new w _, Nat.le_refl _, by decide, rfl, rfl⟩⟩, Reps.none _ _⟩
    go_wp2_with ((with_reducible refine gate_dst (N := 7) rfl ?_); refine Kd.R_append_row (w0 := w) (Value.int .i32) 0 w.heap.size rfl (.tmp 5) (.tmp 6) 73 21 _ _ rfl Tryd.underlying73 info21 rfl (by decide) _ [] l (some a) l.length c (fun _ => True) rfl rfl (fun _ _ => trivial) HR HC HB (by simp) (by simp; omega) ?_; intro v1 w1 hR1 hB1 hg1 hat1)
    refine bodyPost_ret (results_tmp rfl _ _ _) rfl ?_
    exact ⟨_, rfl, hR1, hB1⟩
/-- A row cut to nothing. -/
theorem RI_cut {w : World} {base g n cap : Nat} {l : List Int} (h : RI w base (.slice (some ⟨g, 0, none⟩) n cap) l) : RI w base (.slice (some ⟨g, 0, none⟩) 0 cap) [] := by
  obtain ⟨h0, inner, ⟨h1, h2⟩, hr⟩ := h
  rcases h2 with ⟨e, _⟩ | ⟨g', cap', cur, e, hb, hh, hc, hm, hs, _⟩
  · cases e
  · cases e
    exact ⟨fun _ _ => trivial, [], ⟨rfl, .inr ⟨_, _, cur, rfl, hb, hh, Nat.zero_le _, hm, hs, by simp⟩⟩, Reps.none _ _⟩
set_option maxHeartbeats 2000000 in
set_option maxRecDepth 100000 in
/-- slices.Grow(nil, n). -/
theorem slices_Grow.calls (n : Nat) (hn : n ≤ 1000000) (w : World) :
    Calls Tryd.prog 134 #[.slice none 0 0, .int .i64 n] w fun e w' => ∃ v, e = .returned v ∧ RI w' w.heap.size v [] ∧ Below w.heap.size w w' := by
  rcases Nat.eq_zero_or_pos n with rfl | hp
  · go_enter Tryd.func134, Tryd.ntmps134
    go_wp2
    go_ret
    exact ⟨_, rfl, RI_nil _ _, Below.refl _ _⟩
  · have hp1 : (0 : Int) < n := by omega
    go_enter Tryd.func134, Tryd.ntmps134
    go_wp2_with ((with_reducible refine gate_dst (N := 22) rfl ?_); refine Kd.R_append_zeros (w0 := w) (Kd.int .i32) w.heap.size rfl (.tmp 20) (.tmp 21) 73 3 21 _ _ rfl Tryd.underlying73 Tryd.underlying3 info21 rfl (by decide) (by decide) _ [] 0 (n : Int) (fun _ => True) rfl rfl rfl (fun _ _ => trivial) (RI_nil _ _) (by omega) (Below.refl _ _) (Nat.le_refl _) (by simp; omega) ?_; intro v1 w1 hR1 hB1 hg1 hat1; obtain ⟨g, co, rfl, hge, hgl, cells, hgc⟩ := Kd.R_form hR1 (by simp; omega); simp only [List.nil_append, List.length_replicate, Int.toNat_natCast] at hR1 ⊢)
    go_ret
    exact ⟨_, rfl, RI_cut hR1, hB1⟩
abbrev Part := Option Addr × Nat × List Int
def flat (ps : List Part) : List Int := ps.flatMap (fun p => p.2.2)
theorem flat_snoc (ps : List Part) (k : Nat) (h : k < ps.length) : flat (ps.take (k + 1)) = flat (ps.take k) ++ ps[k].2.2 := by
  unfold flat
  rw [List.take_succ_eq_append_getElem h, List.flatMap_append]
  simp
theorem flat_le (ps : List Part) (k : Nat) : (flat (ps.take k)).length ≤ (flat ps).length := by
  have : flat ps = flat (ps.take k) ++ flat (ps.drop k) := by
    unfold flat
    rw [← List.flatMap_append, List.take_append_drop]
  rw [this, List.length_append]
  omega
/-- So many slices lie in a row. -/
def PartsAt (w : World) (B : Nat) (ps : List Part) : Prop := ∀ (k : Nat) (h : k < ps.length), w.cell? ⟨B, k, none⟩ = some (.slice ps[k].1 ps[k].2.2.length ps[k].2.1) ∧ Kd.C (Kd.int .i32) w ps[k].1 ps[k].2.2.length ps[k].2.2
theorem PartsAt.below {w w1 : World} {B : Nat} {ps : List Part} (h : PartsAt w B ps) (hB : B < w.heap.size) (hb : Below w.heap.size w w1) : PartsAt w1 B ps := fun k hk => ⟨(hb.cell (p := ⟨B, k, none⟩) hB).trans (h k hk).1, Kd.C_below (h k hk).2 hb⟩
set_option maxHeartbeats 4000000 in
set_option maxRecDepth 100000 in
theorem slices_Concat.calls (B : Nat) (ps : List Part) (w : World) (hB : B < w.heap.size) (h : PartsAt w B ps) (hn : (flat ps).length ≤ 1000000) (hps : ps.length ≤ 1000) :
    Calls Tryd.prog 133 #[.slice (some ⟨B, 0, none⟩) ps.length ps.length] w fun e w' => ∃ v, e = .returned v ∧ RI w' w.heap.size v (flat ps) ∧ Below w.heap.size w w' := by
  have hgr := slices_Grow.calls (flat ps).length hn w
  have hP := Lib.hid h
  clear h
  go_enter Tryd.func133, Tryd.ntmps133
  go_wp2
  go_loopw [3, 11] (fun s i wr => ∃ k : Nat, k ≤ ps.length ∧ i = .int .i64 k ∧ s = .int .i64 (flat (ps.take k)).length ∧ w = wr) (fun _ i _ => ps.length - (intOf i).toNat)
  case atStart => exact ⟨0, Nat.zero_le _, rfl, rfl, rfl⟩
  case round =>
    obtain ⟨k, hk, rfl, rfl, rfl⟩ := hrel
    by_cases hlt : k < ps.length
    · have hc := (hP.out k hlt).1
      have hsn := congrArg List.length (flat_snoc ps k hlt)
      rw [List.length_append] at hsn
      have hle := flat_le ps (k + 1)
      go_wp2
      exact ⟨⟨k + 1, hlt, by simp, by rw [hsn]; simp, trivial⟩, by simp [intOf]; omega⟩
    · obtain rfl : k = ps.length := by omega
      rw [List.take_length]
      go_wp2_with (go_at_call 134; refine hgr.mono ?_; rintro e w1 ⟨v1, rfl, hR1, hB1⟩)
      clear hgr
      have hP1 := Lib.hid (hP.out.below hB hB1)
      have hR1 := Lib.hid hR1
      have hB1 := Lib.hid hB1
      go_loopw [6, 27] (fun v i wq => ∃ k : Nat, k ≤ ps.length ∧ i = .int .i64 k ∧ Hid (RI wq w.heap.size v (flat (ps.take k))) ∧ Hid (Below w.heap.size w wq)) (fun _ i _ => ps.length - (intOf i).toNat)
      case atStart => exact ⟨0, Nat.zero_le _, rfl, hR1, hB1⟩
      case round =>
        obtain ⟨k, hk, rfl, hR, hb⟩ := hrel
        by_cases hlt : k < ps.length
        · have hP2 := Lib.hid (hP.out.below hB hb.out)
          have hc := (hP2.out k hlt).1
          have hC := Lib.hid (hP2.out k hlt).2
          have hsn := flat_snoc ps k hlt
          have hle := flat_le ps (k + 1)
          rw [hsn, List.length_append] at hle
          go_wp2_with ((with_reducible refine gate_dst (N := 33) rfl ?_); refine Kd.R_append_row (w0 := w) (Value.int .i32) 0 w.heap.size rfl (.tmp 31) (.tmp 32) 73 21 _ _ rfl Tryd.underlying73 info21 rfl (by decide) _ _ _ _ _ _ (fun _ => True) rfl rfl (fun _ _ => trivial) hR.out hC.out hb.out hb.out.size (by omega) ?_; intro v2 w2 hR2 hB2 hg2 hat2)
          rw [← hsn] at hR2
          exact ⟨⟨k + 1, hlt, by simp, Lib.hid hR2, Lib.hid hB2⟩, by simp [intOf]; omega⟩
        · obtain rfl : k = ps.length := by omega
          rw [List.take_length] at hR
          go_wp2
          go_ret
          exact ⟨_, rfl, hR.out, hb.out⟩
end Go.Proofs.YthmjheclhcdinaaDoor.Ext
end
section
/-
  The library's functions, by the shelf's contracts, in the print's form.
-/
namespace Go.Proofs.YthmjheclhcdinaaDoor.Ext
open Go.RowKit Go.Shelf Go.Proofs.YthmjheclhcdinaaDoor Go.Proofs.YthmjheclhcdinaaDoorW.PrintWords Go.Proofs.YthmjheclhcdinaaDoorW.PrintLast Go.Proofs.YthmjheclhcdinaaDoorW.PrintMore

def strings_Trim.f (a0 a1 : ByteArray) : Option ByteArray :=
  if a0.size ≤ 9223372036854775807 ∧ a1.size < 4294967281 ∧ a1.data.toList.all (fun b => decide (b.toNat < 128)) = true then some ⟨(Lib.trimS a0.data.toList a1.data.toList).toArray⟩ else none
theorem strings_Trim.calls (a0 a1 : ByteArray) (r : ByteArray) (w : World) (h : strings_Trim.f a0 a1 = some r) :
    Calls Tryd.prog 76 #[.string a0, .string a1] w fun e w' => e = .returned (.string r) ∧ Below w.heap.size w w' := by
  unfold strings_Trim.f at h
  split at h
  · rename_i hc
    obtain rfl := Option.some.inj h
    exact Any.strings_Trim_laid Tryd.lays160 (by kernel_rfl) a0 a1 w hc.1 hc.2.1 (ascii_of_all hc.2.2)
  · cases h

def utf8_DecodeRuneInString.f (a0 : ByteArray) : Option (Int × Int) := some ((Lib.decodeGo a0).1, (Lib.decodeGo a0).2)
theorem utf8_DecodeRuneInString.calls (a0 : ByteArray) (r1 r2 : Int) (w : World) (hT : Tabs w) (h : utf8_DecodeRuneInString.f a0 = some (r1, r2)) :
    Calls Tryd.prog 75 #[.string a0] w fun e w' => e = .returned (.tuple #[.int .i32 r1, .int .i64 r2]) ∧ Below w.heap.size w w' := by
  unfold utf8_DecodeRuneInString.f at h
  simp only [Option.some.injEq, Prod.mk.injEq] at h
  obtain ⟨rfl, rfl⟩ := h
  exact Any.utf8_DecodeRuneInString Tryd.lays197 a0 w hT
end Go.Proofs.YthmjheclhcdinaaDoor.Ext
end
section
/-
  The library's functions, by the shelf's contracts, in the print's form: utf8.ValidString, RuneCountInString.
-/
namespace Go.Proofs.YthmjheclhcdinaaDoor.Ext
open Go.RowKit Go.Shelf Go.Proofs.YthmjheclhcdinaaDoor Go.Proofs.YthmjheclhcdinaaDoorW.PrintWords Go.Proofs.YthmjheclhcdinaaDoorW.PrintLast Go.Proofs.YthmjheclhcdinaaDoorW.PrintMore

def utf8_ValidString.f (a0 : ByteArray) : Option Bool := if a0.size ≤ 9223372036854775807 then some (Lib.validD a0.data.toList) else none
theorem utf8_ValidString.calls (a0 : ByteArray) (r : Bool) (w : World) (hT : Tabs w) (h : utf8_ValidString.f a0 = some r) :
    Calls Tryd.prog 77 #[.string a0] w fun e w' => e = .returned (.bool r) ∧ Below w.heap.size w w' := by
  unfold utf8_ValidString.f at h
  split at h
  · rename_i hc
    obtain rfl := Option.some.inj h
    exact Any.utf8_ValidString Tryd.lays196 a0 w hc hT
  · cases h
def utf8_RuneCountInString.f (a0 : ByteArray) : Option Int := if a0.size < 9223372036854775807 then some (Lib.runeCount a0 : Int) else none
theorem utf8_RuneCountInString.calls (a0 : ByteArray) (r : Int) (w : World) (h : utf8_RuneCountInString.f a0 = some r) :
    Calls Tryd.prog 78 #[.string a0] w fun e w' => e = .returned (.int .i64 r) ∧ Below w.heap.size w w' := by
  unfold utf8_RuneCountInString.f at h
  split at h
  · rename_i hc
    obtain rfl := Option.some.inj h
    refine (Any.utf8_RuneCountInString Tryd.lays195 a0 w hc).mono ?_
    rintro e w' ⟨he, pos, rfl⟩
    exact ⟨he, (Below.refl _ _).alloc (Nat.le_refl _) _⟩
  · cases h
end Go.Proofs.YthmjheclhcdinaaDoor.Ext
end
section
-- printed by a program of this session (wip/tools/prx.sh: a turned copy of the kit's print, with functions given from outside)
namespace Go.Proofs.YthmjheclhcdinaaDoor.RRf
open Go.RowKit Go.Proofs.YthmjheclhcdinaaDoor Go.Proofs.YthmjheclhcdinaaDoor.Ext Go.Proofs.YthmjheclhcdinaaDoorW.PrintWords Go.Proofs.YthmjheclhcdinaaDoorW.PrintLast Go.Proofs.YthmjheclhcdinaaDoorW.PrintMore
attribute [local go_sem] max2_int min2_int max_two min_two max_three min_three max_four min_four   -- for this text's walks alone
set_option linter.unusedVariables false
set_option linter.unusedSimpArgs false



end Go.Proofs.YthmjheclhcdinaaDoor.RRf
end
section
-- printed by a program of this session (wip/tools/prx.sh: a turned copy of the kit's print, with functions given from outside)
namespace Go.Proofs.YthmjheclhcdinaaDoor.RRf
open Go.RowKit Go.Proofs.YthmjheclhcdinaaDoor Go.Proofs.YthmjheclhcdinaaDoor.Ext Go.Proofs.YthmjheclhcdinaaDoorW.PrintWords Go.Proofs.YthmjheclhcdinaaDoorW.PrintLast Go.Proofs.YthmjheclhcdinaaDoorW.PrintMore
attribute [local go_sem] max2_int min2_int max_two min_two max_three min_three max_four min_four   -- for this text's walks alone
set_option linter.unusedVariables false
set_option linter.unusedSimpArgs false

/-! ### cognateref01_Rune: function 71 -/
/-! ### cognateref01_one: function 53 -/
/-! ### cognateref01_Text: function 36 -/
/-! ### cognateref02_all: function 69 -/
/-! ### cognateref02_May: function 51 -/
/-! ### cognateref02_name: function 73 -/
/-! ### cognateref02_letter: function 74 -/
end Go.Proofs.YthmjheclhcdinaaDoor.RRf
end
section
-- printed by a program of this session (wip/tools/prx.sh: a turned copy of the kit's print, with functions given from outside)
namespace Go.Proofs.YthmjheclhcdinaaDoor.RRf
open Go.RowKit Go.Proofs.YthmjheclhcdinaaDoor Go.Proofs.YthmjheclhcdinaaDoor.Ext Go.Proofs.YthmjheclhcdinaaDoorW.PrintWords Go.Proofs.YthmjheclhcdinaaDoorW.PrintLast Go.Proofs.YthmjheclhcdinaaDoorW.PrintMore
attribute [local go_sem] max2_int min2_int max_two min_two max_three min_three max_four min_four   -- for this text's walks alone
set_option linter.unusedVariables false
set_option linter.unusedSimpArgs false

/-! ### cognateref02_Check: function 56 -/
end Go.Proofs.YthmjheclhcdinaaDoor.RRf
end
section
-- printed by a program of this session (wip/tools/prx.sh: a turned copy of the kit's print, with functions given from outside)
namespace Go.Proofs.YthmjheclhcdinaaDoor.RRf
open Go.RowKit Go.Proofs.YthmjheclhcdinaaDoor Go.Proofs.YthmjheclhcdinaaDoor.Ext Go.Proofs.YthmjheclhcdinaaDoorW.PrintWords Go.Proofs.YthmjheclhcdinaaDoorW.PrintLast Go.Proofs.YthmjheclhcdinaaDoorW.PrintMore
attribute [local go_sem] max2_int min2_int max_two min_two max_three min_three max_four min_four   -- for this text's walks alone
set_option linter.unusedVariables false
set_option linter.unusedSimpArgs false

/-! ### cognateref03_Number: function 70 -/
/-! ### cognateref03_Read: function 57 -/
/-! ### cognateref03_Letters: function 38 -/
/-! ### cognateref03_Has: function 52 -/
/-! ### cognateref03_SameInts: function 16 -/
end Go.Proofs.YthmjheclhcdinaaDoor.RRf
end
section
-- printed by a program of this session (wip/tools/prx.sh: a turned copy of the kit's print, with functions given from outside)
namespace Go.Proofs.YthmjheclhcdinaaDoor.RF1
open Go.RowKit Go.Proofs.YthmjheclhcdinaaDoor Go.Proofs.YthmjheclhcdinaaDoor.Ext Go.Proofs.YthmjheclhcdinaaDoorW.PrintWords Go.Proofs.YthmjheclhcdinaaDoorW.PrintLast Go.Proofs.YthmjheclhcdinaaDoorW.PrintMore
attribute [local go_sem] max2_int min2_int max_two min_two max_three min_three max_four min_four   -- for this text's walks alone
set_option linter.unusedVariables false
set_option linter.unusedSimpArgs false



end Go.Proofs.YthmjheclhcdinaaDoor.RF1
end
section
-- printed by a program of this session (wip/tools/prx.sh: a turned copy of the kit's print, with functions given from outside)
namespace Go.Proofs.YthmjheclhcdinaaDoor.RF0
open Go.RowKit Go.Proofs.YthmjheclhcdinaaDoor Go.Proofs.YthmjheclhcdinaaDoor.Ext Go.Proofs.YthmjheclhcdinaaDoorW.PrintWords Go.Proofs.YthmjheclhcdinaaDoorW.PrintLast Go.Proofs.YthmjheclhcdinaaDoorW.PrintMore
attribute [local go_sem] max2_int min2_int max_two min_two max_three min_three max_four min_four   -- for this text's walks alone
set_option linter.unusedVariables false
set_option linter.unusedSimpArgs false



end Go.Proofs.YthmjheclhcdinaaDoor.RF0
end
section
-- printed by a program of this session (wip/tools/prx.sh: a turned copy of the kit's print, with functions given from outside)
namespace Go.Proofs.YthmjheclhcdinaaDoor.RF0
open Go.RowKit Go.Proofs.YthmjheclhcdinaaDoor Go.Proofs.YthmjheclhcdinaaDoor.Ext Go.Proofs.YthmjheclhcdinaaDoorW.PrintWords Go.Proofs.YthmjheclhcdinaaDoorW.PrintLast Go.Proofs.YthmjheclhcdinaaDoorW.PrintMore
attribute [local go_sem] max2_int min2_int max_two min_two max_three min_three max_four min_four   -- for this text's walks alone
set_option linter.unusedVariables false
set_option linter.unusedSimpArgs false

/-! ### feature_named: function 58 -/
def feature_named.f (a0 : ByteArray) : Option (Bool) := if a0.toList = ([] : List UInt8) then (some false) else (if (a0.size : Int) ≤ 32 then ((strings_Trim.f a0 (⟨#[97, 98, 99, 100, 101, 102, 103, 104, 105, 106, 107, 108, 109, 110, 111, 112, 113, 114, 115, 116, 117, 118, 119, 120, 121, 122]⟩ : ByteArray)).bind fun t101 => (some (t101.toList == ([] : List UInt8)))) else (some false))
set_option maxHeartbeats 8000000 in
set_option maxRecDepth 100000 in
theorem feature_named.calls (a0 : ByteArray) (r : Bool) (w : World) (h : feature_named.f a0 = some r) :
    Calls Tryd.prog 58 #[.string a0] w fun e w' => e = .returned (.bool r) ∧ Below w.heap.size w w' := by
  have HB := Aside0.mk (Below.refl w.heap.size w)
  have H : (if a0.toList = ([] : List UInt8) then (some false) else (if (a0.size : Int) ≤ 32 then ((strings_Trim.f a0 (⟨#[97, 98, 99, 100, 101, 102, 103, 104, 105, 106, 107, 108, 109, 110, 111, 112, 113, 114, 115, 116, 117, 118, 119, 120, 121, 122]⟩ : ByteArray)).bind fun t101 => (some (t101.toList == ([] : List UInt8)))) else (some false))) = some r := h
  clear h
  by_cases c2 : a0.toList = ([] : List UInt8)
  · rw [if_pos c2] at H
    have c2b0 : (a0.toList == ([] : List UInt8)) = true := beq_iff_eq.mpr c2
    have c2b1 : (a0.toList != ([] : List UInt8)) = false := bne_eq_false_iff_eq.mpr c2
    clear c2
    obtain rfl := Option.some.inj H
    go_enter Tryd.func58, Tryd.ntmps58
    go_wp2
    go_ret
    exact ⟨by first | rfl | (simp [errW_none, errW_some] <;> rfl) | (simp [*, errW_none, errW_some] <;> rfl), by repeat (first | (with_reducible first | exact HB.out | apply below_alloc | apply pw_below_drewN | apply below_drew1) | exact HB.out)⟩
  · rw [if_neg c2] at H
    have c2b0 : (a0.toList == ([] : List UInt8)) = false := beq_eq_false_iff_ne.mpr c2
    have c2b1 : (a0.toList != ([] : List UInt8)) = true := bne_iff_ne.mpr c2
    by_cases c3 : (a0.size : Int) ≤ 32
    · rw [if_pos c3] at H
      have c3b0 : decide ((a0.size : Int) ≤ 32) = true := decide_eq_true c3
      have c3b1 : decide (a0.size ≤ 32) = true := decide_eq_true (by omega)
      clear c3
      replace H := Option.bind_eq_some_iff.mp H
      obtain ⟨t101, A40, H⟩ := H
      replace H : (some (t101.toList == ([] : List UInt8))) = some r := H
      have A4 := Aside0.mk A40
      clear A40
      obtain rfl := Option.some.inj H
      go_enter Tryd.func58, Tryd.ntmps58
      go_wp2_with (first | (go_at_call 76; (with_reducible refine (strings_Trim.calls a0 (⟨#[97, 98, 99, 100, 101, 102, 103, 104, 105, 106, 107, 108, 109, 110, 111, 112, 113, 114, 115, 116, 117, 118, 119, 120, 121, 122]⟩ : ByteArray) t101 _ A4.out).mono ?_); rintro e w5 ⟨rfl, hb⟩; have n0_ := Aside0.mk (below_step (by repeat (first | (with_reducible first | exact HB.out | apply below_alloc | apply pw_below_drewN | apply below_drew1) | exact HB.out)) hb); clear HB; have HB := n0_; clear n0_; (try clear hb); (try clear hb2); (try clear hk); (try clear hi)))
      go_ret
      exact ⟨by first | rfl | (simp [errW_none, errW_some] <;> rfl) | (simp [*, errW_none, errW_some] <;> rfl), by repeat (first | (with_reducible first | exact HB.out | apply below_alloc | apply pw_below_drewN | apply below_drew1) | exact HB.out)⟩
    · rw [if_neg c3] at H
      have c3b0 : decide ((a0.size : Int) ≤ 32) = false := decide_eq_false c3
      have c3b1 : decide (a0.size ≤ 32) = false := decide_eq_false (by omega)
      clear c3
      obtain rfl := Option.some.inj H
      go_enter Tryd.func58, Tryd.ntmps58
      go_wp2
      go_ret
      exact ⟨by first | rfl | (simp [errW_none, errW_some] <;> rfl) | (simp [*, errW_none, errW_some] <;> rfl), by repeat (first | (with_reducible first | exact HB.out | apply below_alloc | apply pw_below_drewN | apply below_drew1) | exact HB.out)⟩

/-! ### feature_lettered: function 59 -/
mutual
def feature_lettered.j0 : Nat → Int → Bool → Option (Bool)
  | 0, _, _ => none
  | k + 1, x0, x3 => if x3 = true then (feature_lettered.j1 k x0 x3) else (if 65 ≤ x0 then (feature_lettered.j1 k x0 (decide (x0 ≤ 90))) else (feature_lettered.j1 k x0 false))
def feature_lettered.j1 : Nat → Int → Bool → Option (Bool)
  | 0, _, _ => none
  | k + 1, x0, x3 => if x3 = true then (some true) else (if x0 < 161 then (some false) else (if x0 > 1114111 then (some false) else (if x0 = 65533 then (some false) else (if (x0 / 2048) = 27 then (some false) else (some true)))))
end
def feature_lettered.f (k : Nat) (a0 : Int) : Option (Bool) := if 97 ≤ a0 then (feature_lettered.j0 k a0 (decide (a0 ≤ 122))) else (feature_lettered.j0 k a0 false)
set_option maxHeartbeats 8000000 in
set_option maxRecDepth 100000 in
theorem feature_lettered.calls (k : Nat) (a0 : Int) (r : Bool) (w : World) (h : feature_lettered.f k a0 = some r) :
    Calls Tryd.prog 59 #[.int .i32 a0] w fun e w' => e = .returned (.bool r) ∧ Drawn0 w w' := by
  have H : (if 97 ≤ a0 then (feature_lettered.j0 k a0 (decide (a0 ≤ 122))) else (feature_lettered.j0 k a0 false)) = some r := h
  clear h
  have HC2 := Aside0.mk H
  clear H
  go_enter Tryd.func59, Tryd.ntmps59
  go_upto_region 1 with (fail)
  go_cut [3] (fun v3 wc => ∃ (kq : Nat) (x3_1 : Bool), v3 = .bool x3_1 ∧ Aside0 (feature_lettered.j0 kq a0 x3_1 = some r) ∧ Aside0 (kq ≤ k) ∧ Drawn0 w wc)
  case first =>
    have H := HC2.out
    clear HC2
    by_cases c3 : 97 ≤ a0
    · rw [if_pos c3] at H
      have c3b0 : decide (97 ≤ a0) = true := decide_eq_true c3
      clear c3
      (first | rw [c3b0] | (simp only [i64_w, i32_w]; rw [c3b0]) | skip)
      have H' := Aside0.mk H
      clear H
      go_wp2
      go_meet
      case rel => exact ⟨_, (decide (a0 ≤ 122)), (by first | rfl | (simp; done) | (simp [*]; done)), H', ⟨by first | omega | exact Nat.le_refl _⟩, by repeat (first | exact Drawn0.refl _ | apply Drawn0.step)⟩
    · rw [if_neg c3] at H
      have c3b0 : decide (97 ≤ a0) = false := decide_eq_false c3
      clear c3
      (first | rw [c3b0] | (simp only [i64_w, i32_w]; rw [c3b0]) | skip)
      have H' := Aside0.mk H
      clear H
      go_wp2
      go_meet
      case rel => exact ⟨_, (false), (by first | rfl | (simp; done) | (simp [*]; done)), H', ⟨by first | omega | exact Nat.le_refl _⟩, by repeat (first | exact Drawn0.refl _ | apply Drawn0.step)⟩
  case rest =>
    clear HC2
    try clear p2
    try clear c3
    try clear c3b0
    obtain ⟨kq, x3_1, rfl, HA, HJ1, ⟨mc1, rfl⟩⟩ := hcut
    cases kq with
    | zero => exact absurd HA.out (by simp [feature_lettered.j0])
    | succ kj1 =>
      have H := HA.out
      clear HA
      simp only [feature_lettered.j0] at H
      have HC4 := Aside0.mk H
      clear H
      go_upto_if 3 with (fail)
      go_cut [3] (fun v3 wc => ∃ (kq : Nat) (x3_3 : Bool), v3 = .bool x3_3 ∧ Aside0 (feature_lettered.j1 kq a0 x3_3 = some r) ∧ Aside0 (kq ≤ kj1) ∧ Drawn0 w wc)
      case first =>
        have H := HC4.out
        clear HC4
        by_cases c5 : x3_1 = true
        · subst c5
          have H1 : (feature_lettered.j1 kj1 a0 true) = some r := by rw [if_pos rfl] at H; exact H
          clear H
          have H := H1
          clear H1
          have H' := Aside0.mk H
          clear H
          go_wp2
          go_meet
          case rel => exact ⟨_, (true), (by first | rfl | (simp; done) | (simp [*]; done)), H', ⟨by have := HJ1.out; first | omega | exact Nat.le_refl _⟩, by repeat (first | exact Drawn0.refl _ | apply Drawn0.step)⟩
        · replace c5 := Bool.eq_false_iff.mpr c5
          subst c5
          have H1 : (if 65 ≤ a0 then (feature_lettered.j1 kj1 a0 (decide (a0 ≤ 90))) else (feature_lettered.j1 kj1 a0 false)) = some r := by rw [if_neg (show ¬ (false = true) by decide)] at H; exact H
          clear H
          have H := H1
          clear H1
          by_cases c6 : 65 ≤ a0
          · rw [if_pos c6] at H
            have c6b0 : decide (65 ≤ a0) = true := decide_eq_true c6
            clear c6
            (first | rw [c6b0] | (simp only [i64_w, i32_w]; rw [c6b0]) | skip)
            have H' := Aside0.mk H
            clear H
            go_wp2
            go_meet
            case rel => exact ⟨_, (decide (a0 ≤ 90)), (by first | rfl | (simp; done) | (simp [*]; done)), H', ⟨by have := HJ1.out; first | omega | exact Nat.le_refl _⟩, by repeat (first | exact Drawn0.refl _ | apply Drawn0.step)⟩
          · rw [if_neg c6] at H
            have c6b0 : decide (65 ≤ a0) = false := decide_eq_false c6
            clear c6
            (first | rw [c6b0] | (simp only [i64_w, i32_w]; rw [c6b0]) | skip)
            have H' := Aside0.mk H
            clear H
            go_wp2
            go_meet
            case rel => exact ⟨_, (false), (by first | rfl | (simp; done) | (simp [*]; done)), H', ⟨by have := HJ1.out; first | omega | exact Nat.le_refl _⟩, by repeat (first | exact Drawn0.refl _ | apply Drawn0.step)⟩
      case rest =>
        clear HC4
        try clear c1
        try clear p2
        try clear c3
        try clear c3b0
        try clear c5
        try clear c6
        try clear c6b0
        try clear p2
        obtain ⟨kq, x3_3, rfl, HA, HJ3, ⟨mc3, rfl⟩⟩ := hcut
        cases kq with
        | zero => exact absurd HA.out (by simp [feature_lettered.j1])
        | succ kj3 =>
          have H := HA.out
          clear HA
          simp only [feature_lettered.j1] at H
          by_cases c7 : x3_3 = true
          · subst c7
            have H1 : (some true) = some r := by rw [if_pos rfl] at H; exact H
            clear H
            have H := H1
            clear H1
            obtain rfl := Option.some.inj H
            go_wp2
            go_ret
            exact ⟨by first | rfl | (simp; done) | (simp [*]; done), by repeat (first | exact Drawn0.refl _ | apply Drawn0.step)⟩
          · replace c7 := Bool.eq_false_iff.mpr c7
            subst c7
            have H1 : (if a0 < 161 then (some false) else (if a0 > 1114111 then (some false) else (if a0 = 65533 then (some false) else (if (a0 / 2048) = 27 then (some false) else (some true))))) = some r := by rw [if_neg (show ¬ (false = true) by decide)] at H; exact H
            clear H
            have H := H1
            clear H1
            by_cases c8 : a0 < 161
            · rw [if_pos c8] at H
              have c8b0 : decide (a0 < 161) = true := decide_eq_true c8
              clear c8
              obtain rfl := Option.some.inj H
              go_wp2
              go_ret
              exact ⟨by first | rfl | (simp; done) | (simp [*]; done), by repeat (first | exact Drawn0.refl _ | apply Drawn0.step)⟩
            · rw [if_neg c8] at H
              have c8b0 : decide (a0 < 161) = false := decide_eq_false c8
              clear c8
              by_cases c9 : a0 > 1114111
              · rw [if_pos c9] at H
                have c9b0 : decide (1114111 < a0) = true := decide_eq_true c9
                clear c9
                obtain rfl := Option.some.inj H
                go_wp2
                go_ret
                exact ⟨by first | rfl | (simp; done) | (simp [*]; done), by repeat (first | exact Drawn0.refl _ | apply Drawn0.step)⟩
              · rw [if_neg c9] at H
                have c9b0 : decide (1114111 < a0) = false := decide_eq_false c9
                clear c9
                by_cases c10 : a0 = 65533
                · rw [if_pos c10] at H
                  have c10b0 : (a0 == 65533) = true := beq_iff_eq.mpr c10
                  have c10b1 : (a0 != 65533) = false := bne_eq_false_iff_eq.mpr c10
                  clear c10
                  obtain rfl := Option.some.inj H
                  go_wp2
                  go_ret
                  exact ⟨by first | rfl | (simp; done) | (simp [*]; done), by repeat (first | exact Drawn0.refl _ | apply Drawn0.step)⟩
                · rw [if_neg c10] at H
                  have c10b0 : (a0 == 65533) = false := beq_eq_false_iff_ne.mpr c10
                  have c10b1 : (a0 != 65533) = true := bne_iff_ne.mpr c10
                  by_cases c11 : (a0 / 2048) = 27
                  · rw [if_pos c11] at H
                    have c11b0 : ((a0 / 2048) == 27) = true := beq_iff_eq.mpr c11
                    have c11b1 : ((a0 / 2048) != 27) = false := bne_eq_false_iff_eq.mpr c11
                    clear c11
                    obtain rfl := Option.some.inj H
                    go_wp2
                    go_ret
                    exact ⟨by first | rfl | (simp; done) | (simp [*]; done), by repeat (first | exact Drawn0.refl _ | apply Drawn0.step)⟩
                  · rw [if_neg c11] at H
                    have c11b0 : ((a0 / 2048) == 27) = false := beq_eq_false_iff_ne.mpr c11
                    have c11b1 : ((a0 / 2048) != 27) = true := bne_iff_ne.mpr c11
                    obtain rfl := Option.some.inj H
                    go_wp2
                    go_ret
                    exact ⟨by first | rfl | (simp; done) | (simp [*]; done), by repeat (first | exact Drawn0.refl _ | apply Drawn0.step)⟩

/-! ### feature_within: function 60 -/
def feature_within.f (l0_0 : List ByteArray) (l0_1 : List (S84)) (a1 : Int) (a2 : Int) : Option (Bool) := if (shr .u32 (Go.bits .or .u32 a1 a2) (l0_0.length : Int)) = 0 then (some ((Go.bits .and .u32 a1 a2) == 0)) else (some false)
set_option maxHeartbeats 8000000 in
set_option maxRecDepth 100000 in
theorem feature_within.calls (A0_0 : Option Addr) (c0_0 : Nat) (l0_0 : List ByteArray) (A0_1 : Option Addr) (c0_1 : Nat) (l0_1 : List (S84)) (a1 : Int) (a2 : Int) (r : Bool) (w : World) (hr0_0 : Kd.C Kd.string w A0_0 l0_0.length l0_0) (hc0_0 : l0_0.length ≤ c0_0) (hr0_1 : Kd.C k84 w A0_1 l0_1.length l0_1) (hc0_1 : l0_1.length ≤ c0_1) (h : feature_within.f l0_0 l0_1 a1 a2 = some r) :
    Calls Tryd.prog 60 #[.agg #[.slice A0_0 l0_0.length c0_0, .slice A0_1 l0_1.length c0_1], .int .u32 a1, .int .u32 a2] w fun e w' => e = .returned (.bool r) ∧ Below w.heap.size w w' := by
  have hu25 := Tryd.underlying25
  have HR0_0 := Aside0.mk hr0_0
  have HC0_0 := Aside0.mk hc0_0
  clear hr0_0 hc0_0
  have HR0_1 := Aside0.mk hr0_1
  have HC0_1 := Aside0.mk hc0_1
  clear hr0_1 hc0_1
  have HB := Aside0.mk (Below.refl w.heap.size w)
  have H : (if (shr .u32 (Go.bits .or .u32 a1 a2) (l0_0.length : Int)) = 0 then (some ((Go.bits .and .u32 a1 a2) == 0)) else (some false)) = some r := h
  clear h
  obtain ⟨ji4, hji4⟩ : ∃ j_ : Int, (shr .u32 (Go.bits .or .u32 a1 a2) (l0_0.length : Int)) = j_ := ⟨_, rfl⟩
  replace H : (if (ji4) = 0 then (some ((Go.bits .and .u32 a1 a2) == 0)) else (some false)) = some r := by first | (rw [hji4] at H; exact H) | (simp only [hji4] at H ⊢; exact H)
  have hji4_ : ((Go.bits .or .u32 a1 a2) / 2 ^ min (l0_0.length : Int).toNat 32) = ji4 := hji4
  have hji4z : (l0_0.length : Int) ≤ 32 → ((Go.bits .or .u32 a1 a2) / 2 ^ (l0_0.length : Int).toNat) = ji4 := shr_small hji4
  have hji4p : ((Go.bits .or .u32 a1 a2) / 2 ^ min l0_0.length 32) = ji4 := hji4_
  have hji4q : (l0_0.length : Int) ≤ 32 → ((Go.bits .or .u32 a1 a2) / 2 ^ l0_0.length) = ji4 := hji4z
  by_cases c5 : (ji4) = 0
  · rw [if_pos c5] at H
    have c5b0 : ((ji4) == 0) = true := beq_iff_eq.mpr c5
    have c5b1 : ((ji4) != 0) = false := bne_eq_false_iff_eq.mpr c5
    clear c5
    obtain rfl := Option.some.inj H
    go_enter Tryd.func60, Tryd.ntmps60
    go_wp2_with (first | ((with_reducible refine gate_dst (N := 3) rfl ?_); refine box_event ?hg (N := 3) ?hd (cs := #[.slice A0_0 l0_0.length c0_0, .slice A0_1 l0_1.length c0_1]) (t := 25) ?hr ?_; (case hd => rfl); (case hg => rfl); (case hr => first | (go_simp; done) | (go_simp; rfl)); intro gb102 hg w6 hbox hb; have n0_ := Aside0.mk (below_step (by repeat (first | (with_reducible first | exact HB.out | apply below_alloc | apply pw_below_drewN | apply below_drew1) | exact HB.out)) hb); have n1_ := Aside0.mk (hbox); have n2_ := Aside0.mk ((by rw [hg]; exact (below_size (by repeat (first | (with_reducible first | exact HB.out | apply below_alloc | apply pw_below_drewN | apply below_drew1) | exact HB.out))) : w.heap.size ≤ gb102)); have n3_ := Aside0.mk ((by rw [hg]; exact (below_size (by repeat (first | (with_reducible first | exact HB.out | apply below_alloc | apply pw_below_drewN | apply below_drew1) | exact HB.out))) : w.heap.size ≤ gb102)); clear HB; have HB := n0_; have BK102 := n1_; have GW102 := n2_; have GE102 := n3_; clear n0_ n1_ n2_ n3_; clear hb hbox hg; have hcz7_0 : w6.cell? ⟨gb102, 0, none⟩ = some (.slice A0_0 l0_0.length c0_0) := (blk_cell BK102.out 0).trans rfl; have hcz7_1 : w6.cell? ⟨gb102, 1, none⟩ = some (.slice A0_1 l0_1.length c0_1) := (blk_cell BK102.out 1).trans rfl; have hfz7_0 := blk_frozen BK102.out 0; have hfz7_1 := blk_frozen BK102.out 1))
    go_ret
    exact ⟨by first | rfl | (simp [errW_none, errW_some] <;> rfl) | (simp only [← hji4]; first | rfl | (simp [errW_none, errW_some] <;> rfl)) | (simp [*, errW_none, errW_some] <;> rfl), by repeat (first | (with_reducible first | exact HB.out | apply below_alloc | apply pw_below_drewN | apply below_drew1 | refine below_set ?_ GE102.out) | exact HB.out)⟩
  · rw [if_neg c5] at H
    have c5b0 : ((ji4) == 0) = false := beq_eq_false_iff_ne.mpr c5
    have c5b1 : ((ji4) != 0) = true := bne_iff_ne.mpr c5
    obtain rfl := Option.some.inj H
    go_enter Tryd.func60, Tryd.ntmps60
    go_wp2_with (first | ((with_reducible refine gate_dst (N := 3) rfl ?_); refine box_event ?hg (N := 3) ?hd (cs := #[.slice A0_0 l0_0.length c0_0, .slice A0_1 l0_1.length c0_1]) (t := 25) ?hr ?_; (case hd => rfl); (case hg => rfl); (case hr => first | (go_simp; done) | (go_simp; rfl)); intro gb102 hg w8 hbox hb; have n0_ := Aside0.mk (below_step (by repeat (first | (with_reducible first | exact HB.out | apply below_alloc | apply pw_below_drewN | apply below_drew1) | exact HB.out)) hb); have n1_ := Aside0.mk (hbox); have n2_ := Aside0.mk ((by rw [hg]; exact (below_size (by repeat (first | (with_reducible first | exact HB.out | apply below_alloc | apply pw_below_drewN | apply below_drew1) | exact HB.out))) : w.heap.size ≤ gb102)); have n3_ := Aside0.mk ((by rw [hg]; exact (below_size (by repeat (first | (with_reducible first | exact HB.out | apply below_alloc | apply pw_below_drewN | apply below_drew1) | exact HB.out))) : w.heap.size ≤ gb102)); clear HB; have HB := n0_; have BK102 := n1_; have GW102 := n2_; have GE102 := n3_; clear n0_ n1_ n2_ n3_; clear hb hbox hg; have hcz9_0 : w8.cell? ⟨gb102, 0, none⟩ = some (.slice A0_0 l0_0.length c0_0) := (blk_cell BK102.out 0).trans rfl; have hcz9_1 : w8.cell? ⟨gb102, 1, none⟩ = some (.slice A0_1 l0_1.length c0_1) := (blk_cell BK102.out 1).trans rfl; have hfz9_0 := blk_frozen BK102.out 0; have hfz9_1 := blk_frozen BK102.out 1))
    go_ret
    exact ⟨by first | rfl | (simp [errW_none, errW_some] <;> rfl) | (simp only [← hji4]; first | rfl | (simp [errW_none, errW_some] <;> rfl)) | (simp [*, errW_none, errW_some] <;> rfl), by repeat (first | (with_reducible first | exact HB.out | apply below_alloc | apply pw_below_drewN | apply below_drew1 | refine below_set ?_ GE102.out) | exact HB.out)⟩

/-! ### feature_like: function 82 -/
def feature_like.f (a0_0 : Int) (a0_1 : Int) (a0_2 : Int) (a1 : Int) (a2 : Int) : Option (Bool) := if (Go.bits .andNot .u32 a1 a0_1) = 0 then (some ((Go.bits .andNot .u32 a2 a0_2) == 0)) else (some false)
set_option maxHeartbeats 8000000 in
set_option maxRecDepth 100000 in
theorem feature_like.calls (a0_0 : Int) (a0_1 : Int) (a0_2 : Int) (a1 : Int) (a2 : Int) (r : Bool) (w : World) (h : feature_like.f a0_0 a0_1 a0_2 a1 a2 = some r) :
    Calls Tryd.prog 82 #[.agg #[.int .i32 a0_0, .int .u32 a0_1, .int .u32 a0_2], .int .u32 a1, .int .u32 a2] w fun e w' => e = .returned (.bool r) ∧ Below w.heap.size w w' := by
  have hu84 := Tryd.underlying84
  have HB := Aside0.mk (Below.refl w.heap.size w)
  have H : (if (Go.bits .andNot .u32 a1 a0_1) = 0 then (some ((Go.bits .andNot .u32 a2 a0_2) == 0)) else (some false)) = some r := h
  clear h
  by_cases c4 : (Go.bits .andNot .u32 a1 a0_1) = 0
  · rw [if_pos c4] at H
    have c4b0 : ((Go.bits .andNot .u32 a1 a0_1) == 0) = true := beq_iff_eq.mpr c4
    have c4b1 : ((Go.bits .andNot .u32 a1 a0_1) != 0) = false := bne_eq_false_iff_eq.mpr c4
    clear c4
    obtain rfl := Option.some.inj H
    go_enter Tryd.func82, Tryd.ntmps82
    go_wp2_with (first | ((with_reducible refine gate_dst (N := 3) rfl ?_); refine box_event ?hg (N := 3) ?hd (cs := #[.int .i32 a0_0, .int .u32 a0_1, .int .u32 a0_2]) (t := 84) ?hr ?_; (case hd => rfl); (case hg => rfl); (case hr => first | (go_simp; done) | (go_simp; rfl)); intro gb103 hg w5 hbox hb; have n0_ := Aside0.mk (below_step (by repeat (first | (with_reducible first | exact HB.out | apply below_alloc | apply pw_below_drewN | apply below_drew1) | exact HB.out)) hb); have n1_ := Aside0.mk (hbox); have n2_ := Aside0.mk ((by rw [hg]; exact (below_size (by repeat (first | (with_reducible first | exact HB.out | apply below_alloc | apply pw_below_drewN | apply below_drew1) | exact HB.out))) : w.heap.size ≤ gb103)); have n3_ := Aside0.mk ((by rw [hg]; exact (below_size (by repeat (first | (with_reducible first | exact HB.out | apply below_alloc | apply pw_below_drewN | apply below_drew1) | exact HB.out))) : w.heap.size ≤ gb103)); clear HB; have HB := n0_; have BK103 := n1_; have GW103 := n2_; have GE103 := n3_; clear n0_ n1_ n2_ n3_; clear hb hbox hg; have hcz6_0 : w5.cell? ⟨gb103, 0, none⟩ = some (.int .i32 a0_0) := (blk_cell BK103.out 0).trans rfl; have hcz6_1 : w5.cell? ⟨gb103, 1, none⟩ = some (.int .u32 a0_1) := (blk_cell BK103.out 1).trans rfl; have hcz6_2 : w5.cell? ⟨gb103, 2, none⟩ = some (.int .u32 a0_2) := (blk_cell BK103.out 2).trans rfl; have hfz6_0 := blk_frozen BK103.out 0; have hfz6_1 := blk_frozen BK103.out 1; have hfz6_2 := blk_frozen BK103.out 2))
    go_ret
    exact ⟨by first | rfl | (simp [errW_none, errW_some] <;> rfl) | (simp [*, errW_none, errW_some] <;> rfl), by repeat (first | (with_reducible first | exact HB.out | apply below_alloc | apply pw_below_drewN | apply below_drew1 | refine below_set ?_ GE103.out) | exact HB.out)⟩
  · rw [if_neg c4] at H
    have c4b0 : ((Go.bits .andNot .u32 a1 a0_1) == 0) = false := beq_eq_false_iff_ne.mpr c4
    have c4b1 : ((Go.bits .andNot .u32 a1 a0_1) != 0) = true := bne_iff_ne.mpr c4
    obtain rfl := Option.some.inj H
    go_enter Tryd.func82, Tryd.ntmps82
    go_wp2_with (first | ((with_reducible refine gate_dst (N := 3) rfl ?_); refine box_event ?hg (N := 3) ?hd (cs := #[.int .i32 a0_0, .int .u32 a0_1, .int .u32 a0_2]) (t := 84) ?hr ?_; (case hd => rfl); (case hg => rfl); (case hr => first | (go_simp; done) | (go_simp; rfl)); intro gb103 hg w7 hbox hb; have n0_ := Aside0.mk (below_step (by repeat (first | (with_reducible first | exact HB.out | apply below_alloc | apply pw_below_drewN | apply below_drew1) | exact HB.out)) hb); have n1_ := Aside0.mk (hbox); have n2_ := Aside0.mk ((by rw [hg]; exact (below_size (by repeat (first | (with_reducible first | exact HB.out | apply below_alloc | apply pw_below_drewN | apply below_drew1) | exact HB.out))) : w.heap.size ≤ gb103)); have n3_ := Aside0.mk ((by rw [hg]; exact (below_size (by repeat (first | (with_reducible first | exact HB.out | apply below_alloc | apply pw_below_drewN | apply below_drew1) | exact HB.out))) : w.heap.size ≤ gb103)); clear HB; have HB := n0_; have BK103 := n1_; have GW103 := n2_; have GE103 := n3_; clear n0_ n1_ n2_ n3_; clear hb hbox hg; have hcz8_0 : w7.cell? ⟨gb103, 0, none⟩ = some (.int .i32 a0_0) := (blk_cell BK103.out 0).trans rfl; have hcz8_1 : w7.cell? ⟨gb103, 1, none⟩ = some (.int .u32 a0_1) := (blk_cell BK103.out 1).trans rfl; have hcz8_2 : w7.cell? ⟨gb103, 2, none⟩ = some (.int .u32 a0_2) := (blk_cell BK103.out 2).trans rfl; have hfz8_0 := blk_frozen BK103.out 0; have hfz8_1 := blk_frozen BK103.out 1; have hfz8_2 := blk_frozen BK103.out 2))
    go_ret
    exact ⟨by first | rfl | (simp [errW_none, errW_some] <;> rfl) | (simp [*, errW_none, errW_some] <;> rfl), by repeat (first | (with_reducible first | exact HB.out | apply below_alloc | apply pw_below_drewN | apply below_drew1 | refine below_set ?_ GE103.out) | exact HB.out)⟩

/-! ### runes_long: function 84 -/
def runes_long.f (a0 : ByteArray) : Option (Int) := if (a0.size : Int) > 65536 then (some 3) else (some 0)
set_option maxHeartbeats 8000000 in
set_option maxRecDepth 100000 in
theorem runes_long.calls (a0 : ByteArray) (r : Int) (w : World) (h : runes_long.f a0 = some r) :
    Calls Tryd.prog 84 #[.string a0] w fun e w' => e = .returned (.int .i64 r) ∧ Drawn0 w w' := by
  have H : (if (a0.size : Int) > 65536 then (some 3) else (some 0)) = some r := h
  clear h
  by_cases c2 : (a0.size : Int) > 65536
  · rw [if_pos c2] at H
    have c2b0 : decide (65536 < (a0.size : Int)) = true := decide_eq_true c2
    have c2b1 : decide (65536 < a0.size) = true := decide_eq_true (by omega)
    clear c2
    obtain rfl := Option.some.inj H
    go_enter Tryd.func84, Tryd.ntmps84
    go_wp2
    go_ret
    exact ⟨by first | rfl | (simp; done) | (simp [*]; done), by repeat (first | exact Drawn0.refl _ | apply Drawn0.step)⟩
  · rw [if_neg c2] at H
    have c2b0 : decide (65536 < (a0.size : Int)) = false := decide_eq_false c2
    have c2b1 : decide (65536 < a0.size) = false := decide_eq_false (by omega)
    clear c2
    obtain rfl := Option.some.inj H
    go_enter Tryd.func84, Tryd.ntmps84
    go_wp2
    go_ret
    exact ⟨by first | rfl | (simp; done) | (simp [*]; done), by repeat (first | exact Drawn0.refl _ | apply Drawn0.step)⟩

/-! ### utf8_RuneLen: function 100 -/
def utf8_RuneLen.j0 : Nat → Int → Bool → Option (Int)
  | 0, _, _ => none
  | k + 1, x0, x12 => if x12 = true then (some (-1)) else (if x0 ≤ 65535 then (some 3) else (if x0 ≤ 1114111 then (some 4) else (some (-1))))
def utf8_RuneLen.f (k : Nat) (a0 : Int) : Option (Int) := if a0 < 0 then (some (-1)) else (if a0 ≤ 127 then (some 1) else (if a0 ≤ 2047 then (some 2) else (if 55296 ≤ a0 then (utf8_RuneLen.j0 k a0 (decide (a0 ≤ 57343))) else (utf8_RuneLen.j0 k a0 false))))
set_option maxHeartbeats 8000000 in
set_option maxRecDepth 100000 in
theorem utf8_RuneLen.calls (k : Nat) (a0 : Int) (r : Int) (w : World) (h : utf8_RuneLen.f k a0 = some r) :
    Calls Tryd.prog 100 #[.int .i32 a0] w fun e w' => e = .returned (.int .i64 r) ∧ Drawn0 w w' := by
  have H : (if a0 < 0 then (some (-1)) else (if a0 ≤ 127 then (some 1) else (if a0 ≤ 2047 then (some 2) else (if 55296 ≤ a0 then (utf8_RuneLen.j0 k a0 (decide (a0 ≤ 57343))) else (utf8_RuneLen.j0 k a0 false))))) = some r := h
  clear h
  by_cases c2 : a0 < 0
  · rw [if_pos c2] at H
    have c2b0 : decide (a0 < 0) = true := decide_eq_true c2
    clear c2
    obtain rfl := Option.some.inj H
    go_enter Tryd.func100, Tryd.ntmps100
    go_wp2
    go_ret
    exact ⟨by first | rfl | (simp; done) | (simp [*]; done), by repeat (first | exact Drawn0.refl _ | apply Drawn0.step)⟩
  · rw [if_neg c2] at H
    have c2b0 : decide (a0 < 0) = false := decide_eq_false c2
    clear c2
    by_cases c3 : a0 ≤ 127
    · rw [if_pos c3] at H
      have c3b0 : decide (a0 ≤ 127) = true := decide_eq_true c3
      clear c3
      obtain rfl := Option.some.inj H
      go_enter Tryd.func100, Tryd.ntmps100
      go_wp2
      go_ret
      exact ⟨by first | rfl | (simp; done) | (simp [*]; done), by repeat (first | exact Drawn0.refl _ | apply Drawn0.step)⟩
    · rw [if_neg c3] at H
      have c3b0 : decide (a0 ≤ 127) = false := decide_eq_false c3
      clear c3
      by_cases c4 : a0 ≤ 2047
      · rw [if_pos c4] at H
        have c4b0 : decide (a0 ≤ 2047) = true := decide_eq_true c4
        clear c4
        obtain rfl := Option.some.inj H
        go_enter Tryd.func100, Tryd.ntmps100
        go_wp2
        go_ret
        exact ⟨by first | rfl | (simp; done) | (simp [*]; done), by repeat (first | exact Drawn0.refl _ | apply Drawn0.step)⟩
      · rw [if_neg c4] at H
        have c4b0 : decide (a0 ≤ 2047) = false := decide_eq_false c4
        clear c4
        have HC5 := Aside0.mk H
        clear H
        go_enter Tryd.func100, Tryd.ntmps100
        go_upto_region 7 with (fail)
        go_cut [12] (fun v12 wc => ∃ (kq : Nat) (x12_4 : Bool), v12 = .bool x12_4 ∧ Aside0 (utf8_RuneLen.j0 kq a0 x12_4 = some r) ∧ Aside0 (kq ≤ k) ∧ Drawn0 w wc)
        case first =>
          have H := HC5.out
          clear HC5
          by_cases c6 : 55296 ≤ a0
          · rw [if_pos c6] at H
            have c6b0 : decide (55296 ≤ a0) = true := decide_eq_true c6
            clear c6
            (first | rw [c6b0] | (simp only [i64_w, i32_w]; rw [c6b0]) | skip)
            have H' := Aside0.mk H
            clear H
            go_wp2
            go_meet
            case rel => exact ⟨_, (decide (a0 ≤ 57343)), (by first | rfl | (simp; done) | (simp [*]; done)), H', ⟨by first | omega | exact Nat.le_refl _⟩, by repeat (first | exact Drawn0.refl _ | apply Drawn0.step)⟩
          · rw [if_neg c6] at H
            have c6b0 : decide (55296 ≤ a0) = false := decide_eq_false c6
            clear c6
            (first | rw [c6b0] | (simp only [i64_w, i32_w]; rw [c6b0]) | skip)
            have H' := Aside0.mk H
            clear H
            go_wp2
            go_meet
            case rel => exact ⟨_, (false), (by first | rfl | (simp; done) | (simp [*]; done)), H', ⟨by first | omega | exact Nat.le_refl _⟩, by repeat (first | exact Drawn0.refl _ | apply Drawn0.step)⟩
        case rest =>
          clear HC5
          try clear c1
          try clear c2
          try clear c2b0
          try clear p2
          try clear c3
          try clear c3b0
          try clear c4
          try clear c4b0
          try clear c6
          try clear c6b0
          obtain ⟨kq, x12_4, rfl, HA, HJ4, ⟨mc4, rfl⟩⟩ := hcut
          cases kq with
          | zero => exact absurd HA.out (by simp [utf8_RuneLen.j0])
          | succ kj4 =>
            have H := HA.out
            clear HA
            simp only [utf8_RuneLen.j0] at H
            by_cases c7 : x12_4 = true
            · subst c7
              have H1 : (some (-1)) = some r := by rw [if_pos rfl] at H; exact H
              clear H
              have H := H1
              clear H1
              obtain rfl := Option.some.inj H
              go_wp2
              go_ret
              exact ⟨by first | rfl | (simp; done) | (simp [*]; done), by repeat (first | exact Drawn0.refl _ | apply Drawn0.step)⟩
            · replace c7 := Bool.eq_false_iff.mpr c7
              subst c7
              have H1 : (if a0 ≤ 65535 then (some 3) else (if a0 ≤ 1114111 then (some 4) else (some (-1)))) = some r := by rw [if_neg (show ¬ (false = true) by decide)] at H; exact H
              clear H
              have H := H1
              clear H1
              by_cases c8 : a0 ≤ 65535
              · rw [if_pos c8] at H
                have c8b0 : decide (a0 ≤ 65535) = true := decide_eq_true c8
                clear c8
                obtain rfl := Option.some.inj H
                go_wp2
                go_ret
                exact ⟨by first | rfl | (simp; done) | (simp [*]; done), by repeat (first | exact Drawn0.refl _ | apply Drawn0.step)⟩
              · rw [if_neg c8] at H
                have c8b0 : decide (a0 ≤ 65535) = false := decide_eq_false c8
                clear c8
                by_cases c9 : a0 ≤ 1114111
                · rw [if_pos c9] at H
                  have c9b0 : decide (a0 ≤ 1114111) = true := decide_eq_true c9
                  clear c9
                  obtain rfl := Option.some.inj H
                  go_wp2
                  go_ret
                  exact ⟨by first | rfl | (simp; done) | (simp [*]; done), by repeat (first | exact Drawn0.refl _ | apply Drawn0.step)⟩
                · rw [if_neg c9] at H
                  have c9b0 : decide (a0 ≤ 1114111) = false := decide_eq_false c9
                  clear c9
                  obtain rfl := Option.some.inj H
                  go_wp2
                  go_ret
                  exact ⟨by first | rfl | (simp; done) | (simp [*]; done), by repeat (first | exact Drawn0.refl _ | apply Drawn0.step)⟩

end Go.Proofs.YthmjheclhcdinaaDoor.RF0
end
section
/-
  Alphabets: which may be; what the program's small tests answer.
-/
set_option linter.unusedSimpArgs false
set_option linter.unusedVariables false
namespace Go.Proofs.YthmjheclhcdinaaDoor
open Go.RowKit Go.Proofs.YthmjheclhcdinaaDoorW.PrintWords Go.Proofs.YthmjheclhcdinaaDoorW.PrintLast Go.Proofs.YthmjheclhcdinaaDoorW.PrintMore Go.Proofs.YthmjheclhcdinaaDoor.Ext Go.Proofs.YthmjheclhcdinaaDoor.RF0

def az (b : UInt8) : Bool := decide (97 ≤ b.toNat) && decide (b.toNat ≤ 122)
def nameOk (s : ByteArray) : Bool := decide (1 ≤ s.size) && decide (s.size ≤ 32) && s.data.toList.all az
def runeOk (r : Int) : Bool := (decide (97 ≤ r) && decide (r ≤ 122)) || (decide (65 ≤ r) && decide (r ≤ 90)) || (decide (161 ≤ r) && decide (r ≤ 1114111) && !(decide (r = 65533)) && !(decide (55296 ≤ r) && decide (r ≤ 57343)))
def withinB (n : Nat) (p m : Int) : Bool := decide (shr .u32 (Go.bits .or .u32 p m) (n : Int) = 0) && decide (Go.bits .and .u32 p m = 0)
def namesOk : List ByteArray → List (List UInt8) → Bool
  | [], _ => true
  | f :: fs, seen => nameOk f && !(seen.contains f.data.toList) && namesOk fs (f.data.toList :: seen)
def lettersOk (n : Nat) : List Letter → List Int → Bool
  | [], _ => true
  | x :: xs, seen => runeOk x.f0 && !(seen.contains x.f0) && withinB n x.f1 x.f2 && lettersOk n xs (x.f0 :: seen)
def okA (l0 : List ByteArray) (l1 : List Letter) : Bool := decide (l0.length ≤ 24) && decide (1 ≤ l1.length) && decide (l1.length ≤ 128) && namesOk l0 [] && lettersOk l0.length l1 []

theorem dropWhile_nil {α : Type} (p : α → Bool) : ∀ l : List α, (l.dropWhile p = []) ↔ l.all p = true
  | [] => by simp
  | x :: xs => by
    by_cases h : p x = true
    · simp [List.dropWhile_cons, h, dropWhile_nil p xs]
    · simp [List.dropWhile_cons, h]
theorem trimS_nil (l cs : List UInt8) : Lib.trimS l cs = [] ↔ l.all (cs.contains ·) = true := by
  unfold Lib.trimS Lib.trimRightS Lib.trimLeftS
  rw [dropWhile_nil, List.all_reverse, ← List.all_reverse (l := l)]
  constructor
  · intro h
    rw [← dropWhile_nil]
    cases hd : l.reverse.dropWhile (cs.contains ·) with
    | nil => rfl
    | cons x xs =>
      have h2 := List.head?_dropWhile_not (cs.contains ·) l.reverse
      rw [hd] at h h2
      simp only [List.head?_cons, List.all_cons, Bool.and_eq_true] at h h2
      rw [h.1] at h2
      cases h2
  · intro h
    rw [← dropWhile_nil] at h
    rw [h]
    rfl
theorem az_contains (b : UInt8) : ([97, 98, 99, 100, 101, 102, 103, 104, 105, 106, 107, 108, 109, 110, 111, 112, 113, 114, 115, 116, 117, 118, 119, 120, 121, 122] : List UInt8).contains b = az b := by
  have h : ∀ n, n < 256 → ([97, 98, 99, 100, 101, 102, 103, 104, 105, 106, 107, 108, 109, 110, 111, 112, 113, 114, 115, 116, 117, 118, 119, 120, 121, 122] : List UInt8).contains (UInt8.ofNat n) = az (UInt8.ofNat n) := by decide +kernel
  have h2 := h b.toNat b.toNat_lt
  rwa [UInt8.ofNat_toNat] at h2
theorem named_eq (s : ByteArray) : feature_named.f s = some (nameOk s) := by
  unfold feature_named.f nameOk
  have hl : s.toList = s.data.toList := Lib.toList_data s
  rw [hl]
  have hsz : s.data.toList.length = s.size := by simp
  by_cases h0 : s.data.toList = []
  · rw [if_pos h0]
    have : s.size = 0 := by rw [← hsz, h0]; rfl
    simp [this]
  · rw [if_neg h0]
    have h1 : 1 ≤ s.size := by
      rw [← hsz]
      cases hd : s.data.toList with
      | nil => exact absurd hd h0
      | cons x xs => simp
    by_cases h2 : s.size ≤ 32
    · rw [if_pos (by omega)]
      unfold strings_Trim.f
      rw [if_pos ⟨by omega, by decide, by decide⟩]
      simp only [Option.bind_some, Lib.toList_data]
      have ht := trimS_nil s.data.toList ([97, 98, 99, 100, 101, 102, 103, 104, 105, 106, 107, 108, 109, 110, 111, 112, 113, 114, 115, 116, 117, 118, 119, 120, 121, 122] : List UInt8)
      have e : (s.data.toList.all (([97, 98, 99, 100, 101, 102, 103, 104, 105, 106, 107, 108, 109, 110, 111, 112, 113, 114, 115, 116, 117, 118, 119, 120, 121, 122] : List UInt8).contains ·)) = s.data.toList.all az := by
        congr 1
        funext b
        exact az_contains b
      rw [e] at ht
      simp only [h1, h2, decide_true, Bool.true_and]
      congr 1
      rw [Bool.eq_iff_iff, beq_iff_eq]
      exact ht
    · rw [if_neg (by omega)]
      simp [h2]
theorem lettered_eq (k : Nat) (r : Int) : feature_lettered.f (k + 2) r = some (runeOk r) := by
  simp only [feature_lettered.f, feature_lettered.j0, feature_lettered.j1]
  unfold runeOk
  by_cases a : 97 ≤ r <;> by_cases b : r ≤ 122 <;> by_cases c : 65 ≤ r <;> by_cases d : r ≤ 90 <;> by_cases e : r < 161 <;> by_cases f : r > 1114111 <;> first
    | (exfalso; omega)
    | (simp [a, b, c, d, e, f]; done)
    | (simp [a, b, c, d, e, f]; omega)
    | (by_cases g : r = 65533
       · simp [g]
       · by_cases h : r / 2048 = 27
         · simp [a, b, c, d, e, f, g, h]; omega
         · simp [a, b, c, d, e, f, g, h]; omega)
theorem within_eq (l0 : List ByteArray) (l1 : List Letter) (p m : Int) : feature_within.f l0 l1 p m = some (withinB l0.length p m) := by
  unfold feature_within.f withinB
  split
  · rename_i h
    simp [h]
    rfl
  · rename_i h
    simp [h]
end Go.Proofs.YthmjheclhcdinaaDoor
end
section
/-
  A map that the call makes: look-ups at bool elements; a set as a list of keys. No program in sight.
-/
namespace Go.Proofs.YthmjheclhcdinaaDoor
open Go.RowKit Go.Maps

theorem plainElem_bool_inv {H : Type} {P : Program} {e : TypeId} (he : P.underlying e = some .bool) {v : Value} {z : DataW H × List MemPlace} (h : plainElem P e v = some z) : ∃ c, v = .bool c ∧ z = (.lit (.bool c), []) := by
  unfold plainElem at h
  rw [he] at h
  cases v <;> simp at h
  exact ⟨_, rfl, h.symm⟩
theorem lookup_bool {H : Type} {P : Program} {w : World} {k : TypeId} {b n : Nat} {D : DataW H} {t e : TypeId} (h : w.ownsMap P k (plainElem P e) b n D) (K : Keyed P k) (ht : P.underlying t = some (.map k e)) (he : P.underlying e = some .bool) (hz : (zeroValue e).run P w = .ok (.bool false) w)
    {key : Value} {kl : Lit} (hkey : keyOf P k key = some kl) : ∃ c, (Instr.lookup t (.map (some b)) key false).run P w = .ok (.bool c) w ∧ D.atKey kl (.lit (.bool false)) = .lit (.bool c) := by
  obtain ⟨v, ps, hrun, hv⟩ := h.lookup K ht hz (plainElem_bool he false) hkey
  obtain ⟨c, rfl, hc⟩ := plainElem_bool_inv he hv
  simp only [Prod.mk.injEq] at hc
  exact ⟨c, hrun, hc.1⟩
/-- 'm[k]' at bool elements. -/
theorem wpList_lookup_own_bool {H : Type} {P : Program} (w : World) {ops : Array Oper} {rest : List Oper} {o : Oper} {a : Act} {Q : Exit → Act → World → Prop}
    (hg : o.guard = none) (m x : Operand) (t : TypeId) (hop : o.op = Op.lookup t m x false)
    (k e : TypeId) (K : Keyed P k) (ht : P.underlying t = some (.map k e)) (he : P.underlying e = some .bool) (hz : (zeroValue e).run P w = .ok (.bool false) w) (b n : Nat) (D : DataW H)
    (hm : a.eval m = .map (some b)) (hown : w.ownsMap P k (plainElem P e) b n D) (key : Value) (kl : Lit) (hx : a.eval x = key) (hkey : keyOf P k key = some kl)
    (hK : ∀ c : Bool, D.atKey kl (.lit (.bool false)) = .lit (.bool c) → wpList P ops Q rest (a.put o.dst (.bool c)) w) :
    wpList P ops Q (o :: rest) a w := by
  refine wpList_plain hg fun K' hK' => ?_
  obtain ⟨c, hrun, hat⟩ := lookup_bool hown K ht he hz hkey
  unfold Oper.wp
  simp [execOp, hop, hm, hx, hrun, Result.andThen]
  exact hK' _ _ (hK c hat)

/-- The map D reads as the set of these keys. -/
structure SetIs (D : DataW Unit) (ks : List Lit) : Prop where
  isMap : IsMap D
  mem : ∀ kl, kl ∈ ks → D.atKey kl (.lit (.bool false)) = .lit (.bool true)
  nmem : ∀ kl, ¬ kl ∈ ks → D.atKey kl (.lit (.bool false)) = .lit (.bool false)
theorem SetIs.empty : SetIs (.map []) [] := ⟨isMap_empty, (fun _ h => absurd h (by simp)), fun kl _ => atKey_of_not_has (k := kl) rfl _⟩
theorem SetIs.put {D : DataW Unit} {ks : List Lit} (h : SetIs D ks) {k : Lit} (hk : WideAt.IsKeyLit k) : SetIs (D.put k (.lit (.bool true))) (k :: ks) := by
  refine ⟨h.isMap.put _ _, fun kl hm => ?_, fun kl hm => ?_⟩
  · by_cases e : kl = k
    · subst e
      exact atKey_put_same h.isMap hk _ _
    · rw [atKey_put_other e]
      exact h.mem kl (by simpa [e] using hm)
  · have e : kl ≠ k := fun e => hm (by simp [e])
    rw [atKey_put_other e]
    exact h.nmem kl (fun h2 => hm (by simp [h2]))
theorem SetIs.iff {D : DataW Unit} {ks : List Lit} (h : SetIs D ks) {kl : Lit} {c : Bool} (hc : D.atKey kl (.lit (.bool false)) = .lit (.bool c)) : c = true ↔ kl ∈ ks := by
  constructor
  · intro e
    subst e
    apply Classical.byContradiction
    intro hn
    rw [h.nmem kl hn] at hc
    cases hc
  · intro hm
    rw [h.mem kl hm] at hc
    injection hc with hc
    injection hc with hc
    exact hc.symm
end Go.Proofs.YthmjheclhcdinaaDoor
end
section
/-
  feature.Check by a walk: whether an alphabet may be.
-/
set_option linter.unusedSimpArgs false
set_option linter.unusedVariables false
namespace Go.Proofs.YthmjheclhcdinaaDoor
open Go.RowKit Go.Maps Go.WideMaps Go.Proofs.YthmjheclhcdinaaDoorW.PrintWords Go.Proofs.YthmjheclhcdinaaDoorW.PrintLast Go.Proofs.YthmjheclhcdinaaDoorW.PrintMore Go.Proofs.YthmjheclhcdinaaDoor.Ext Go.Proofs.YthmjheclhcdinaaDoor.RF0

theorem zeroBool (w : World) : (zeroValue 4).run Tryd.prog w = .ok (.bool false) w := by kernel_rfl
theorem namesOk_at (l0 : List ByteArray) (k : Nat) (h : k < l0.length) (seen : List (List UInt8)) :
    namesOk (l0.drop k) seen = (nameOk (l0.getD k ByteArray.empty) && !(seen.contains (l0.getD k ByteArray.empty).data.toList) && namesOk (l0.drop (k + 1)) ((l0.getD k ByteArray.empty).data.toList :: seen)) := by
  rw [List.drop_eq_getElem_cons h]
  simp [namesOk, List.getD_eq_getElem?_getD, List.getElem?_eq_getElem h]
def seenN (l0 : List ByteArray) (k : Nat) : List (List UInt8) := (l0.take k).reverse.map (fun s => s.data.toList)
theorem seenN_succ (l0 : List ByteArray) (k : Nat) (h : k < l0.length) : seenN l0 (k + 1) = (l0.getD k ByteArray.empty).data.toList :: seenN l0 k := by
  unfold seenN
  rw [List.take_succ_eq_append_getElem h, List.reverse_append, List.map_append]
  simp [List.getD_eq_getElem?_getD, List.getElem?_eq_getElem h]
def N1 (l0 : List ByteArray) (k : Nat) : Prop := namesOk l0 [] = namesOk (l0.drop k) (seenN l0 k)

theorem N1_zero (l0 : List ByteArray) : N1 l0 0 := rfl
theorem N1_succ (l0 : List ByteArray) (k : Nat) (h : k < l0.length) (hn : N1 l0 k) (h1 : nameOk (l0.getD k ByteArray.empty) = true) (h2 : ¬ Lit.string (l0.getD k ByteArray.empty).data.toList ∈ (seenN l0 k).map Lit.string) : N1 l0 (k + 1) := by
  unfold N1 at hn ⊢
  rw [hn, namesOk_at l0 k h, h1, seenN_succ l0 k h]
  have : (seenN l0 k).contains (l0.getD k ByteArray.empty).data.toList = false := by
    rw [Bool.eq_false_iff]
    intro hc
    exact h2 (List.mem_map.2 ⟨_, by simpa using hc, rfl⟩)
  rw [this]
  simp
theorem N1_bad (l0 : List ByteArray) (k : Nat) (h : k < l0.length) (hn : N1 l0 k) (hb : nameOk (l0.getD k ByteArray.empty) = false ∨ Lit.string (l0.getD k ByteArray.empty).data.toList ∈ (seenN l0 k).map Lit.string) (l1 : List Letter) : okA l0 l1 = false := by
  unfold N1 at hn
  unfold okA
  rw [hn, namesOk_at l0 k h]
  rcases hb with hb | hb
  · rw [hb]; simp
  · obtain ⟨x, hx, e⟩ := List.mem_map.1 hb
    injection e with e
    subst e
    have : (seenN l0 k).contains (l0.getD k ByteArray.empty).data.toList = true := by simpa using hx
    rw [this]
    simp
theorem N1_end (l0 : List ByteArray) (hn : N1 l0 l0.length) : namesOk l0 [] = true := by
  unfold N1 at hn
  rw [hn, List.drop_of_length_le (Nat.le_refl _)]
  rfl
def seenL (l1 : List Letter) (k : Nat) : List Int := (l1.take k).reverse.map (fun x => x.f0)
def L1 (n : Nat) (l1 : List Letter) (k : Nat) : Prop := lettersOk n l1 [] = lettersOk n (l1.drop k) (seenL l1 k)
theorem seenL_succ (l1 : List Letter) (k : Nat) (h : k < l1.length) : seenL l1 (k + 1) = l1[k].f0 :: seenL l1 k := by
  unfold seenL
  rw [List.take_succ_eq_append_getElem h, List.reverse_append, List.map_append]
  simp
theorem lettersOk_at (n : Nat) (l1 : List Letter) (k : Nat) (h : k < l1.length) (seen : List Int) :
    lettersOk n (l1.drop k) seen = (runeOk l1[k].f0 && !(seen.contains l1[k].f0) && withinB n l1[k].f1 l1[k].f2 && lettersOk n (l1.drop (k + 1)) (l1[k].f0 :: seen)) := by
  rw [List.drop_eq_getElem_cons h]
  rfl
theorem L1_zero (n : Nat) (l1 : List Letter) : L1 n l1 0 := rfl
theorem L1_succ (n : Nat) (l1 : List Letter) (k : Nat) (h : k < l1.length) (hn : L1 n l1 k) (h1 : runeOk l1[k].f0 = true) (h2 : ¬ Lit.int .i32 l1[k].f0 ∈ (seenL l1 k).map (Lit.int .i32)) (h3 : withinB n l1[k].f1 l1[k].f2 = true) : L1 n l1 (k + 1) := by
  unfold L1 at hn ⊢
  rw [hn, lettersOk_at n l1 k h, h1, h3, seenL_succ l1 k h]
  have : (seenL l1 k).contains l1[k].f0 = false := by
    rw [Bool.eq_false_iff]
    intro hc
    exact h2 (List.mem_map.2 ⟨_, by simpa using hc, rfl⟩)
  rw [this]
  simp
theorem L1_bad (l0 : List ByteArray) (l1 : List Letter) (k : Nat) (h : k < l1.length) (hn : L1 l0.length l1 k) (hb : runeOk l1[k].f0 = false ∨ Lit.int .i32 l1[k].f0 ∈ (seenL l1 k).map (Lit.int .i32) ∨ withinB l0.length l1[k].f1 l1[k].f2 = false) : okA l0 l1 = false := by
  unfold L1 at hn
  unfold okA
  rw [hn, lettersOk_at _ l1 k h]
  rcases hb with hb | hb | hb
  · rw [hb]; simp
  · obtain ⟨x, hx, e⟩ := List.mem_map.1 hb
    injection e with _ e
    subst e
    have : (seenL l1 k).contains l1[k].f0 = true := by simpa using hx
    rw [this]
    simp
  · rw [hb]; simp
theorem L1_end (n : Nat) (l1 : List Letter) (hn : L1 n l1 l1.length) : lettersOk n l1 [] = true := by
  unfold L1 at hn
  rw [hn, List.drop_of_length_le (Nat.le_refl _)]
  rfl
theorem okA_true (l0 : List ByteArray) (l1 : List Letter) (n0 : l0.length ≤ 24) (n1 : 1 ≤ l1.length) (n2 : l1.length ≤ 128) (h0 : namesOk l0 [] = true) (h1 : lettersOk l0.length l1 [] = true) : okA l0 l1 = true := by
  unfold okA
  simp [n0, n1, n2, h0, h1]
def chk (l0 : List ByteArray) (l1 : List Letter) : Int := if okA l0 l1 = true then 0 else 7
theorem chk_bad {l0 : List ByteArray} {l1 : List Letter} (h : okA l0 l1 = false) : chk l0 l1 = 7 := by unfold chk; rw [h]; rfl
theorem chk_ok {l0 : List ByteArray} {l1 : List Letter} (h : okA l0 l1 = true) : chk l0 l1 = 0 := by unfold chk; rw [h]; rfl
theorem ret_i64 {a b : Int} (h : a = b) : Ending.returned (.int .i64 a) = .returned (.int .i64 b) := by rw [h]
theorem rune_wf {r : Int} (h : runeOk r = true) : (Lit.int .i32 r).wf = true := by
  unfold runeOk at h
  simp at h
  have h0 : -2147483648 ≤ r ∧ r ≤ 2147483647 := by omega
  simp [Lit.wf, IntKind.min, IntKind.max, IntKind.signed, IntKind.bits]
  omega

set_option maxHeartbeats 2000000 in
set_option maxRecDepth 100000 in
theorem check_walk (A0 A1 : Option Addr) (c0 c1 : Nat) (l0 : List ByteArray) (l1 : List Letter) (r : Int) (w : World) (hF : Kd.C Kd.string w A0 l0.length l0) (hcF : l0.length ≤ c0) (hL : Kd.C kLetter w A1 l1.length l1) (hcL : l1.length ≤ c1)
    (n0 : l0.length ≤ 24) (n1 : 1 ≤ l1.length) (n2 : l1.length ≤ 128) (hr : Hid (chk l0 l1 = r)) :
    Calls Tryd.prog 39 #[.agg #[.slice A0 l0.length c0, .slice A1 l1.length c1]] w fun e w' => e = .returned (.int .i64 r) ∧ Below w.heap.size w w' := by
  have hmm := @run_makeMap Tryd.prog
  have HF := Lib.hid (Kd.reads_of_C (d := ByteArray.empty) (h1 := fun _ => rfl) hF)
  have HL := Lib.hid hL
  have HF0 := Lib.hid hF
  clear hF hL
  go_enter Tryd.func39, Tryd.ntmps39
  go_wp2_with fail
  go_loopw [29] (fun i wr => ∃ k : Nat, k ≤ l0.length ∧ i = .int .i64 k ∧ Below w.heap.size w wr ∧ w.heap.size + 2 ≤ wr.heap.size ∧ Hid (wr.heap[w.heap.size]? = some (.cells #[.slice A0 l0.length c0, .slice A1 l1.length c1] 25 (0, 0))) ∧ Hid (N1 l0 k) ∧
      ∃ D, wr.ownsMap Tryd.prog 9 (plainElem Tryd.prog 4) (w.heap.size + 1) k D ∧ Hid (SetIs D ((seenN l0 k).map Lit.string)))
    (fun i _ => l0.length - (intOf i).toNat)
  case atStart =>
    refine ⟨0, Nat.zero_le _, rfl, ((Below.refl _ _).alloc (Nat.le_refl _) _).alloc (by simp) _, by simp, blk_alloc (blk_new _ _) _, N1_zero _, _, ?_, SetIs.empty⟩
    have := World.ownsMap_made (w.alloc (.cells #[.slice A0 l0.length c0, .slice A1 l1.length c1] 25)) Tryd.prog 9 (plainElem (H := Unit) Tryd.prog 4)
    simpa using this
  case round =>
    obtain ⟨k, hk, rfl, hb, hsz, hbx, hN, D, hown, hS⟩ := hrel
    by_cases hlt : k < l0.length
    · obtain ⟨ad, hA, hc⟩ := HF.out.2.2 (by omega)
      subst hA
      have hck := hb.cell (p := ad.add k) (by have := World.block_lt_of_cell? w _ (hc k hlt); exact this)
      rw [hc k hlt] at hck
      clear hc
      obtain ⟨s, hs⟩ : ∃ s, s = l0.getD k ByteArray.empty := ⟨_, rfl⟩
      rw [← hs] at hck
      have Hs := Lib.hid hs
      clear hs
      cases hs : nameOk s with
      | false =>
        have hnm := fun W => feature_named.calls s false W ((named_eq s).trans (by rw [hs]))
        have Hok : Hid (okA l0 l1 = false) := N1_bad l0 k hlt hN.out (.inl (by rw [← Hs.out]; exact hs)) l1
        clear hs
        go_wp2_with (go_at_call 58; refine (hnm _).mono ?_; rintro e w1 ⟨rfl, hb1⟩)
        go_ret
        exact ⟨ret_i64 ((chk_bad Hok.out).symm.trans hr.out), below_step hb hb1⟩
      | true =>
        have hnm := fun W => feature_named.calls s true W ((named_eq s).trans (by rw [hs]))
        have hkey : keyOf Tryd.prog 9 (.string s) = some (.string s.data.toList) := keyOf_string_mk Tryd.underlying9 (by unfold nameOk at hs; simp at hs; unfold maxLen; omega)
        have Hn : Hid (nameOk s = true) := hs
        clear hs
        go_wp2_with (first | (go_at_call 58; refine (hnm _).mono ?_; rintro e w1 ⟨rfl, hb1⟩; have hown1 := hown.kept (grown_of_below hb1 none) (by simp)) | (at_lookup; (try (refine gate_guard (by rfl) ?_; dsimp only)); refine wpList_lookup_own_bool _ rfl _ _ 114 rfl 9 4 (string_keyed Tryd.underlying9) Tryd.underlying114 Tryd.underlying4 (zeroBool _) (w.heap.size + 1) k _ rfl hown1 _ _ rfl hkey ?_; intro c hat) | (at_mapUpdate; refine wpList_mapUpdate_own _ rfl _ _ _ 114 rfl 9 4 (string_keyed Tryd.underlying9) Tryd.underlying114 _ (w.heap.size + 1) k _ rfl hown1 (by unfold maxLen; omega) _ _ _ rfl rfl hkey _ [] (plainElem_bool Tryd.underlying4 true) ?_; intro w2 hown2 hgrow2))
        · have hc1 : c = true := by assumption
          have Hok : okA l0 l1 = false := N1_bad l0 k hlt hN.out (.inr (by rw [← Hs.out]; exact (hS.out.iff hat).1 hc1)) l1
          go_ret
          exact ⟨ret_i64 ((chk_bad Hok).symm.trans hr.out), below_step hb hb1⟩
        · have hc1 : c = false := by assumption
          have hni : ¬ Lit.string s.data.toList ∈ (seenN l0 k).map Lit.string := fun hm => by
            have := (hS.out.iff hat).2 hm
            rw [hc1] at this
            cases this
          have s1 := hb1.size
          have s2 := hgrow2.size
          go_roundw
          case rel =>
            refine ⟨k + 1, by omega, by go_num, (below_step hb hb1).grown hgrow2 (by omega) (fun j hj => by cases hj; omega), by omega, blk_grown (blk_below hbx.out hb1) hgrow2 (by simp), N1_succ l0 k hlt hN.out (by rw [← Hs.out]; exact Hn.out) (by rw [← Hs.out]; exact hni), _, hown2, ?_⟩
            have := hS.out.put (k := Lit.string s.data.toList) trivial
            rw [seenN_succ l0 k hlt, ← Hs.out]
            exact this
          case measure => simp [intOf]; omega
    · obtain rfl : k = l0.length := by omega
      have Hn := Lib.hid (N1_end l0 hN.out)
      have HbxL := Lib.hid hbx.out
      obtain ⟨wo, rfl⟩ : ∃ wo : World, wo = wr := ⟨_, rfl⟩
      have hcB0 : ∀ o, (wo.alloc o).cell? ⟨w.heap.size, 0, none⟩ = some (.slice A0 l0.length c0) := fun o => (blk_cell (blk_alloc hbx.out o) 0).trans rfl
      have hcB1 : ∀ o, (wo.alloc o).cell? ⟨w.heap.size, 1, none⟩ = some (.slice A1 l1.length c1) := fun o => (blk_cell (blk_alloc hbx.out o) 1).trans rfl
      have hb0 := hb
      clear hown hS hbx
      go_wp2_with fail
      clear hcB0 hcB1
      go_loopw [48] (fun i wr => ∃ k : Nat, k ≤ l1.length ∧ i = .int .i64 k ∧ Below w.heap.size w wr ∧ wo.heap.size + 1 ≤ wr.heap.size ∧ Hid (wr.heap[w.heap.size]? = some (.cells #[.slice A0 l0.length c0, .slice A1 l1.length c1] 25 (0, 0))) ∧ Hid (L1 l0.length l1 k) ∧
          ∃ D, wr.ownsMap Tryd.prog 21 (plainElem Tryd.prog 4) wo.heap.size k D ∧ Hid (SetIs D ((seenL l1 k).map (Lit.int .i32))))
        (fun i _ => l1.length - (intOf i).toNat)
      case atStart =>
        exact ⟨0, Nat.zero_le _, rfl, hb.alloc hb.size _, by simp, blk_alloc HbxL.out _, L1_zero _ _, _, World.ownsMap_made _ _ _ _, SetIs.empty⟩
      case round =>
        obtain ⟨k, hk, rfl, hb, hsz, hbx, hN, D, hown, hS⟩ := hrel
        by_cases hlt : k < l1.length
        · obtain ⟨ad, hA, hx0, hx1, hx2⟩ := at_T84 (Kd.C_below HL.out hb) k (by omega) (by omega)
          subst hA
          rw [Int.toNat_natCast] at hx0 hx1 hx2
          have hrd : rd_T84 l1 k = l1[k] := by simp [rd_T84, List.getD_eq_getElem?_getD, List.getElem?_eq_getElem hlt]
          rw [hrd] at hx0 hx1 hx2
          obtain ⟨x, hx⟩ : ∃ x, x = l1[k] := ⟨_, rfl⟩
          rw [← hx] at hx0 hx1 hx2
          have Hx := Lib.hid hx
          clear hx hrd
          obtain ⟨x0, x1, x2⟩ := x
          dsimp only at hx0 hx1 hx2
          cases h1 : runeOk x0 with
          | false =>
            have hlet := fun W => feature_lettered.calls 2 x0 false W ((lettered_eq 0 x0).trans (by rw [h1]))
            have Hok : Hid (okA l0 l1 = false) := L1_bad l0 l1 k hlt hN.out (.inl (by rw [← Hx.out]; exact h1))
            clear h1
            go_wp2_with (go_at_call 59; refine (hlet _).mono ?_; rintro e w1 ⟨rfl, ⟨nd, rfl⟩⟩)
            go_ret
            exact ⟨ret_i64 ((chk_bad Hok.out).symm.trans hr.out), pw_below_drewN (hb.alloc hb.size _) _⟩
          | true =>
            have hlet := fun W => feature_lettered.calls 2 x0 true W ((lettered_eq 0 x0).trans (by rw [h1]))
            have hkey : keyOf Tryd.prog 21 (.int .i32 x0) = some (.int .i32 x0) := keyOf_int_mk Tryd.underlying21 (rune_wf h1)
            have H1 : Hid (runeOk l1[k].f0 = true) := by rw [← Hx.out]; exact h1
            clear h1
            have hbo := hb.alloc hb.size (.cells #[.int .i32 x0, .int .u32 x1, .int .u32 x2] 84)
            have hown1 := hown.alloc (.cells #[.int .i32 x0, .int .u32 x1, .int .u32 x2] 84)
            have hcB0 : (wr.alloc (.cells #[.int .i32 x0, .int .u32 x1, .int .u32 x2] 84)).cell? ⟨w.heap.size, 0, none⟩ = some (.slice A0 l0.length c0) := (blk_cell (blk_alloc hbx.out _) 0).trans rfl
            have hcB1 : (wr.alloc (.cells #[.int .i32 x0, .int .u32 x1, .int .u32 x2] 84)).cell? ⟨w.heap.size, 1, none⟩ = some (.slice (some ad) l1.length c1) := (blk_cell (blk_alloc hbx.out _) 1).trans rfl
            have hbl := blk_new wr (.cells #[.int .i32 x0, .int .u32 x1, .int .u32 x2] 84)
            have HF1 := Lib.hid (fun n => Kd.C_below HF0.out (pw_below_drewN hbo n))
            have HL1 := Lib.hid (fun n => Kd.C_below HL.out (pw_below_drewN hbo n))
            have Hbl := Lib.hid hbl
            have Hbo := Lib.hid hbo
            clear hbl hbo
            cases h3 : withinB l0.length x1 x2 with
            | false =>
              have hwi := fun W hF hL => feature_within.calls A0 c0 l0 (some ad) c1 l1 x1 x2 false W hF hcF hL hcL ((within_eq l0 l1 x1 x2).trans (by rw [h3]))
              have Hok : Hid (okA l0 l1 = false) := L1_bad l0 l1 k hlt hN.out (.inr (.inr (by rw [← Hx.out]; exact h3)))
              clear h3
              go_wp2_with (first | (go_at_call 59; refine (hlet _).mono ?_; rintro e w1 ⟨rfl, ⟨nd, rfl⟩⟩) | (at_lookup; (try (refine gate_guard (by rfl) ?_; dsimp only)); refine wpList_lookup_own_bool _ rfl _ _ 92 rfl 21 4 (int_keyed Tryd.underlying21) Tryd.underlying92 Tryd.underlying4 (zeroBool _) wo.heap.size k _ rfl hown1 _ _ rfl hkey ?_; intro c hat) | (go_at_call 60; refine (hwi _ (HF1.out nd) (HL1.out nd)).mono ?_; rintro e w1 ⟨rfl, hb1⟩))
              · have hc1 : c = true := by assumption
                have Hok2 : okA l0 l1 = false := L1_bad l0 l1 k hlt hN.out (.inr (.inl (by rw [← Hx.out]; exact (hS.out.iff hat).1 hc1)))
                go_ret
                exact ⟨ret_i64 ((chk_bad Hok2).symm.trans hr.out), pw_below_drewN Hbo.out _⟩
              · go_ret
                exact ⟨ret_i64 ((chk_bad Hok.out).symm.trans hr.out), below_step (pw_below_drewN Hbo.out nd) hb1⟩
            | true =>
              have hwi := fun W hF hL => feature_within.calls A0 c0 l0 (some ad) c1 l1 x1 x2 true W hF hcF hL hcL ((within_eq l0 l1 x1 x2).trans (by rw [h3]))
              have H3 : Hid (withinB l0.length l1[k].f1 l1[k].f2 = true) := by rw [← Hx.out]; exact h3
              clear h3
              go_wp2_with (first | (go_at_call 59; refine (hlet _).mono ?_; rintro e w1 ⟨rfl, ⟨nd, rfl⟩⟩) | (at_lookup; (try (refine gate_guard (by rfl) ?_; dsimp only)); refine wpList_lookup_own_bool _ rfl _ _ 92 rfl 21 4 (int_keyed Tryd.underlying21) Tryd.underlying92 Tryd.underlying4 (zeroBool _) wo.heap.size k _ rfl hown1 _ _ rfl hkey ?_; intro c hat) | (go_at_call 60; refine (hwi _ (HF1.out nd) (HL1.out nd)).mono ?_; rintro e w1 ⟨rfl, hb1⟩; have hown2 := World.ownsMap.kept (w := (wr.alloc (.cells #[.int .i32 x0, .int .u32 x1, .int .u32 x2] 84)).drewN nd) hown1 (grown_of_below hb1 none) (by simp); have hcl : w1.cell? ⟨wr.heap.size, 0, none⟩ = some (.int .i32 x0) := (blk_cell (blk_below (blk_drewN Hbl.out nd) hb1) 0).trans rfl) | (at_mapUpdate; refine wpList_mapUpdate_own _ rfl _ _ _ 92 rfl 21 4 (int_keyed Tryd.underlying21) Tryd.underlying92 _ wo.heap.size k _ rfl hown2 (by unfold maxLen; omega) _ _ _ rfl rfl hkey _ [] (plainElem_bool Tryd.underlying4 true) ?_; intro w2 hown3 hgrow2))
              · have hc1 : c = true := by assumption
                have Hok2 : okA l0 l1 = false := L1_bad l0 l1 k hlt hN.out (.inr (.inl (by rw [← Hx.out]; exact (hS.out.iff hat).1 hc1)))
                go_ret
                exact ⟨ret_i64 ((chk_bad Hok2).symm.trans hr.out), pw_below_drewN Hbo.out _⟩
              · have hc0 : ¬ c = true := by assumption
                have hc1 : c = false := by simpa using hc0
                have hni : ¬ Lit.int .i32 x0 ∈ (seenL l1 k).map (Lit.int .i32) := fun hm => by
                  have := (hS.out.iff hat).2 hm
                  rw [hc1] at this
                  cases this
                have s1 := hb1.size
                have s2 := hgrow2.size
                simp at s1
                go_roundw
                case rel =>
                  refine ⟨k + 1, by omega, by go_num, (below_step (pw_below_drewN Hbo.out nd) hb1).grown hgrow2 (by omega) (fun j hj => by cases hj; exact hb0.size), by omega, blk_grown (blk_below (blk_drewN (blk_alloc hbx.out _) nd) hb1) hgrow2 (by simp; omega), L1_succ _ l1 k hlt hN.out H1.out (by rw [← Hx.out]; exact hni) H3.out, _, hown3, ?_⟩
                  have := hS.out.put (k := Lit.int .i32 x0) trivial
                  rw [seenL_succ l1 k hlt, ← Hx.out]
                  exact this
                case measure => simp [intOf]; omega
        · obtain rfl : k = l1.length := by omega
          have Hok := okA_true l0 l1 n0 n1 n2 Hn.out (L1_end _ _ hN.out)
          go_wp2_with fail
          go_ret
          exact ⟨ret_i64 ((chk_ok Hok).symm.trans hr.out), hb⟩

namespace Ext
def feature_Check.f (l0 : List ByteArray) (l1 : List Letter) : Option Int := some (chk l0 l1)
set_option maxHeartbeats 1000000 in
theorem feature_Check.calls (A0 : Option Addr) (c0 : Nat) (l0 : List ByteArray) (A1 : Option Addr) (c1 : Nat) (l1 : List Letter) (r : Int) (w : World) (hF : Kd.C Kd.string w A0 l0.length l0) (hcF : l0.length ≤ c0) (hL : Kd.C kLetter w A1 l1.length l1) (hcL : l1.length ≤ c1)
    (h : feature_Check.f l0 l1 = some r) :
    Calls Tryd.prog 39 #[.agg #[.slice A0 l0.length c0, .slice A1 l1.length c1]] w fun e w' => e = .returned (.int .i64 r) ∧ Below w.heap.size w w' := by
  have hr : chk l0 l1 = r := Option.some.inj h
  clear h
  by_cases n0 : l0.length ≤ 24
  · by_cases n1 : 1 ≤ l1.length
    · by_cases n2 : l1.length ≤ 128
      · exact check_walk A0 A1 c0 c1 l0 l1 r w hF hcF hL hcL n0 n1 n2 hr
      · have Hr : Hid (7 = r) := by rw [← hr]; exact (chk_bad (by unfold okA; simp [n2])).symm
        have e0 : decide (24 < l0.length) = false := decide_eq_false (by omega)
        have e1 : decide (l1.length < 1) = false := decide_eq_false (by omega)
        have e2 : decide (128 < l1.length) = true := decide_eq_true (by omega)
        clear hr
        go_enter Tryd.func39, Tryd.ntmps39
        go_wp2_with fail
        go_ret
        exact ⟨ret_i64 Hr.out, (Below.refl _ _).alloc (Nat.le_refl _) _⟩
    · have Hr : Hid (7 = r) := by rw [← hr]; exact (chk_bad (by unfold okA; simp [n1])).symm
      have e0 : decide (24 < l0.length) = false := decide_eq_false (by omega)
      have e1 : decide (l1.length < 1) = true := decide_eq_true (by omega)
      clear hr
      go_enter Tryd.func39, Tryd.ntmps39
      go_wp2_with fail
      go_ret
      exact ⟨ret_i64 Hr.out, (Below.refl _ _).alloc (Nat.le_refl _) _⟩
  · have Hr : Hid (7 = r) := by rw [← hr]; exact (chk_bad (by unfold okA; simp [n0])).symm
    have e0 : decide (24 < l0.length) = true := decide_eq_true (by omega)
    clear hr
    go_enter Tryd.func39, Tryd.ntmps39
    go_wp2_with fail
    go_ret
    exact ⟨ret_i64 Hr.out, (Below.refl _ _).alloc (Nat.le_refl _) _⟩
end Ext
end Go.Proofs.YthmjheclhcdinaaDoor
end
section
/-
  What a text's rune at a place is: width, range, and back again. Plain facts.
-/
set_option linter.unusedSimpArgs false
set_option linter.unusedVariables false
namespace Go.Proofs.YthmjheclhcdinaaDoor
open Go.RowKit Go.Proofs.YthmjheclhcdinaaDoorW.PrintWords Go.Proofs.YthmjheclhcdinaaDoorW.PrintLast Go.Proofs.YthmjheclhcdinaaDoorW.PrintMore Go.Proofs.YthmjheclhcdinaaDoor.RF0

theorem dec_pos (s : ByteArray) (pos : Nat) : 1 ≤ (Utf8.decode s pos).2 := Lib.width_pos s pos
theorem dropsz (s : ByteArray) (pos : Nat) (h : pos < s.size) : s.data.toList.drop pos ≠ [] := by
  intro e
  have := congrArg List.length e
  simp at this
  omega
theorem dec_le (s : ByteArray) (pos : Nat) (h : pos < s.size) : pos + (Utf8.decode s pos).2 ≤ s.size := by
  have := Lib.decodeL_le (s.data.toList.drop pos) (dropsz s pos h)
  rw [Lib.decodeL_drop] at this
  simp at this
  omega
theorem dec_shape (s : ByteArray) (pos : Nat) : (Utf8.decode s pos).1 ≤ 1114111 ∧ (Utf8.decode s pos).2 ≤ 4 := by
  rw [Lib.decode_at]
  have k0 := (s.get! pos).toNat_lt
  have k1 := (s.get! (pos + 1)).toNat_lt
  have k2 := (s.get! (pos + 2)).toNat_lt
  have k3 := (s.get! (pos + 3)).toNat_lt
  rcases Lib.decodeN_shape (s.size - pos) (s.get! pos).toNat (s.get! (pos + 1)).toNat (s.get! (pos + 2)).toNat (s.get! (pos + 3)).toNat with ⟨c, e⟩ | ⟨c1, c2, c3, cv, e⟩ | ⟨c1, c2, c3, c4, cv, cs, e⟩ | ⟨c1, c2, c3, c4, c5, cv, cw, e⟩ | e
  all_goals (rw [e]; dsimp only; omega)
theorem dec_rune (s : ByteArray) (pos : Nat) : (Utf8.decode s pos).1 ≤ 1114111 := (dec_shape s pos).1
theorem decodeGo_tail (s : ByteArray) (pos : Nat) (h : pos < s.size) : Lib.decodeGo (s.extract pos s.size) = Utf8.decode s pos := by
  unfold Lib.decodeGo
  rw [if_neg (by simp; omega), Lib.tail_decode]
  rfl
theorem runeLen_eq (r : Int) : utf8_RuneLen.f 1 r = some (Lib.runeLen r) := by
  simp only [utf8_RuneLen.f, utf8_RuneLen.j0]
  unfold Lib.runeLen
  by_cases a : r < 0
  · simp [a]
  · by_cases b : r ≤ 127
    · simp [a, b]
    · by_cases c : r ≤ 2047
      · simp [a, b, c]
      · by_cases d : 55296 ≤ r
        · by_cases e : r ≤ 57343
          · simp [a, b, c, d, e]
          · simp [a, b, c, d, e]
            by_cases f : r ≤ 65535
            · simp [f]
            · simp [f]
              by_cases g : r ≤ 1114111
              · simp [g]
              · simp [g]
        · simp [a, b, c, d]
          by_cases f : r ≤ 65535
          · simp [f]
          · omega
theorem runeLen_dec (s : ByteArray) (pos : Nat) (h : (Utf8.decode s pos).1 ≠ 65533) : Lib.runeLen ((Utf8.decode s pos).1 : Int) = ((Utf8.decode s pos).2 : Int) := by
  rw [← Lib.decodeL_drop] at h ⊢
  exact Lib.runeLen_decode _ h
/-- A rune of 65533 takes one byte (a broken one) or three. -/
theorem dec_err (s : ByteArray) (pos : Nat) (h : (Utf8.decode s pos).1 = 65533) : (Utf8.decode s pos).2 = 1 ∨ (Utf8.decode s pos).2 = 3 := by
  rw [Lib.decode_at] at h ⊢
  have k0 := (s.get! pos).toNat_lt
  have k1 := (s.get! (pos + 1)).toNat_lt
  have k2 := (s.get! (pos + 2)).toNat_lt
  have k3 := (s.get! (pos + 3)).toNat_lt
  rcases Lib.decodeN_shape (s.size - pos) (s.get! pos).toNat (s.get! (pos + 1)).toNat (s.get! (pos + 2)).toNat (s.get! (pos + 3)).toNat with ⟨c, e⟩ | ⟨c1, c2, c3, cv, e⟩ | ⟨c1, c2, c3, c4, cv, cs, e⟩ | ⟨c1, c2, c3, c4, c5, cv, cw, e⟩ | e
  all_goals (rw [e] at h ⊢; dsimp only at h ⊢; omega)
end Go.Proofs.YthmjheclhcdinaaDoor
end
section
/-
  runes.Pieces: the callback that appends a piece, the walk over a text's runes, the list.
-/
set_option linter.unusedSimpArgs false
set_option linter.unusedVariables false
namespace Go.Proofs.YthmjheclhcdinaaDoor
open Go.RowKit Go.Proofs.YthmjheclhcdinaaDoorW.PrintWords Go.Proofs.YthmjheclhcdinaaDoorW.PrintLast Go.Proofs.YthmjheclhcdinaaDoorW.PrintMore Go.Proofs.YthmjheclhcdinaaDoor.Ext Go.Proofs.YthmjheclhcdinaaDoor.RF0

/-- The piece of a text at a place. -/
def pieceAt (s : ByteArray) (pos : Nat) : Piece := ⟨(Utf8.decode s pos).1, pos, (Utf8.decode s pos).2, decide ((Utf8.decode s pos).1 = 65533 ∧ (Utf8.decode s pos).2 = 1)⟩
def piecesFrom (s : ByteArray) : Nat → Nat → List Piece
  | 0, _ => []
  | f + 1, pos => if pos < s.size then pieceAt s pos :: piecesFrom s f (pos + (Utf8.decode s pos).2) else []
def pieces (s : ByteArray) : List Piece := piecesFrom s s.size 0
theorem piecesFrom_length (s : ByteArray) : ∀ f pos, (piecesFrom s f pos).length ≤ f
  | 0, _ => by simp [piecesFrom]
  | f + 1, pos => by
    unfold piecesFrom
    split
    · have := piecesFrom_length s f (pos + (Utf8.decode s pos).2)
      simp only [List.length_cons]
      omega
    · simp

set_option maxHeartbeats 1000000 in
set_option maxRecDepth 100000 in
theorem addPiece (b : Nat) (v : Value) (xs : List Piece) (p : Piece) (w : World) (hblk : w.heap[b]? = some (.cells #[v] 141 (0, 0))) (HO : Kd.R kPiece 145 w (b + 1) (fun _ => True) v xs) (hl : xs.length ≤ 70000) :
    Calls Tryd.prog 86 #[.agg #[.int .i32 p.f0, .int .i64 p.f1, .int .i64 p.f2, .bool p.f3], .pointer (some ⟨b, 0, none⟩)] w fun e w' =>
      ∃ v', e = .returned (.bool true) ∧ w'.heap[b]? = some (.cells #[v'] 141 (0, 0)) ∧ Kd.R kPiece 145 w' (b + 1) (fun _ => True) v' (xs ++ [p]) ∧ Below b w w' ∧ Lib.OthersKept 145 (some b) w w' := by
  obtain ⟨A, c, rfl⟩ := Kd.R_slice HO
  have hbl := blk_lt hblk
  have hu := Tryd.underlying145
  have Hblk := Lib.hid hblk
  have Hblk1 := Lib.hid (blk_alloc hblk (.cells #[.int .i32 p.f0, .int .i64 p.f1, .int .i64 p.f2, .bool p.f3] 145))
  have hc0 : (w.alloc (.cells #[.int .i32 p.f0, .int .i64 p.f1, .int .i64 p.f2, .bool p.f3] 145)).cell? ⟨b, 0, none⟩ = some (.slice A xs.length c) := (blk_cell (blk_alloc hblk _) 0).trans rfl
  have HO1 := Kd.R_below HO ((Below.refl w.heap.size w).alloc (Nat.le_refl _) (.cells #[.int .i32 p.f0, .int .i64 p.f1, .int .i64 p.f2, .bool p.f3] 145))
  clear hblk
  go_enter Tryd.func86, Tryd.ntmps86
  go_wp2_with (at_builtin; go_must (refine Kd.R_append (w0 := w) kPiece (b + 1) rfl (.tmp 4) (.tmp 6) 141 145 _ _ rfl Tryd.underlying141 info145 (by decide) (by decide) (by decide) _ xs p _ (fun _ => True) (fun _ => False) rfl (by first | rfl | simp [Act.eval]) (k145_mkM _ _ _ p) (fun _ h => h.elim) (fun _ _ => trivial) HO1 ((Below.refl _ _).alloc (by omega) _) (by simp; omega) (by omega) ?_); intro v1 w2 HR HB hg hat; have hb2 := Lib.hid (blk_grown Hblk1.out hg (Kd.R_ne HO1 Hblk1.out (by decide))); obtain ⟨A2, c2, rfl⟩ := Kd.R_slice HR; have hc2 : w2.cell? ⟨b, 0, none⟩ = some (.slice A xs.length c) := (blk_cell hb2.out 0).trans rfl; have hf2 := blk_frozen hb2.out 0; have HRh := Lib.hid HR; have Hat := Lib.hid hat; clear HR hat)
  go_ret
  have hbw2 : Below b w w2 := HB.mono (by omega)
  refine ⟨_, rfl, by simpa using blk_set hb2.out 0 (.slice A2 (xs ++ [p]).length c2), Kd.R_set HRh.out hb2.out (by decide) 0 _, hbw2.setCell (Nat.le_refl _) _, ?_⟩
  refine Lib.OthersKept.setCell (b := b) (Lib.OthersKept.grown ((Lib.OthersKept.refl _ _ _).alloc _) hg ?_) ⟨b, 0, none⟩ rfl _
  intro g hg2
  obtain ⟨cells, hcl⟩ := own_typed (Kd.R_own HO1).choose_spec g hg2
  exact ⟨_, _, hcl⟩

theorem R_iterAt {α : Type} {d : Kd α} {e : Nat} {w : World} {base : Nat} {ok : Nat → Prop} {v : Value} {xs : List α} (h : d.R e w base ok v xs) {k : Nat} {s : ByteArray} {pos : Nat} (hk : w.heap[k]? = some (.stringIter s pos)) (pos' : Nat) : d.R e (w.iterAt k s pos') base ok v xs := by
  refine Kd.R_mono (Kd.R_move (Kd.R_bound h) (fun k0 hk0 => ?_)) (fun _ h => h.1)
  obtain ⟨_, _, _, q, _, cells, hc⟩ := hk0
  refine Lib.iterAt_other w k k0 s pos' ?_
  rintro rfl
  rw [hk] at hc
  cases hc
theorem R_alloc {α : Type} {d : Kd α} {e : Nat} {w : World} {base : Nat} {ok : Nat → Prop} {v : Value} {xs : List α} (h : d.R e w base ok v xs) (o : Obj) : d.R e (w.alloc o) base ok v xs := Kd.R_below h ((Below.refl _ _).alloc (Nat.le_refl _) o)

set_option maxHeartbeats 2000000 in
set_option maxRecDepth 100000 in
theorem each_walk (b : Nat) (v : Value) (s : ByteArray) (w : World) (hT : ∀ W, Below b w W → Tabs W) (hblk : w.heap[b]? = some (.cells #[v] 141 (0, 0))) (HO : Kd.R kPiece 145 w (b + 1) (fun _ => True) v []) (hs : s.size ≤ 65536) :
    Calls Tryd.prog 85 #[.string s, .func (.func 86) #[] #[.pointer (some ⟨b, 0, none⟩)]] w fun e w' =>
      ∃ v', e = .returned (.tuple #[]) ∧ w'.heap[b]? = some (.cells #[v'] 141 (0, 0)) ∧ Kd.R kPiece 145 w' (b + 1) (fun _ => True) v' (pieces s) ∧ Below b w w' := by
  have hbl := blk_lt hblk
  have hu := Tryd.underlying145
  have Hblk := Lib.hid hblk
  have HO0 := Lib.hid HO
  have HT := Lib.hid hT
  clear hblk HO hT
  go_enter Tryd.func85, Tryd.ntmps85
  go_wp2_with fail
  go_loopw [4] (fun _ wr => ∃ (pos fuel : Nat) (acc : List Piece) (v : Value), wr.heap[w.heap.size]? = some (.stringIter s pos) ∧ Hid (wr.heap[b]? = some (.cells #[v] 141 (0, 0))) ∧ Hid (Kd.R kPiece 145 wr (b + 1) (fun _ => True) v acc) ∧ Below b w wr ∧
      Hid (acc ++ piecesFrom s fuel pos = pieces s) ∧ s.size ≤ pos + fuel ∧ acc.length ≤ pos ∧ w.heap.size < wr.heap.size)
    (fun _ w' => s.size - w'.iterPos w.heap.size)
  case atStart => exact ⟨0, s.size, [], v, World.iter_heap _ _ _, blk_alloc Hblk.out _, R_alloc HO0.out _, (Below.refl _ _).alloc (by omega) _, rfl, by omega, by simp, by simp [World.iter]⟩
  case round =>
    obtain ⟨pos, fuel, acc, v, hit, hbk, hR, hb, hacc, hf, hal, hsz⟩ := hrel
    by_cases hp : pos < s.size
    · have hnx : ∀ ty, (Instr.next (.pointer (some ⟨w.heap.size, 0, none⟩)) true ty).run Tryd.prog wr = _ := fun ty => Lib.run_next_any_at wr w.heap.size s pos ty hit hp
      obtain ⟨r, n, hd⟩ : ∃ r n, Utf8.decode s pos = (r, n) := ⟨_, _, rfl⟩
      have f1 := dec_pos s pos
      have f2 := dec_le s pos hp
      have f3 := dec_rune s pos
      have HG := Lib.hid (decodeGo_tail s pos hp)
      have HE := Lib.hid (dec_err s pos)
      have HRL := Lib.hid (runeLen_dec s pos)
      have HP : Hid (pieceAt s pos = ⟨r, pos, n, decide (r = 65533 ∧ n = 1)⟩) := by unfold pieceAt; rw [hd]; rfl
      have HPF : Hid (piecesFrom s fuel pos = pieceAt s pos :: piecesFrom s (fuel - 1) (pos + n)) := by
        obtain ⟨f, rfl⟩ : ∃ f, fuel = f + 1 := ⟨fuel - 1, by omega⟩
        show piecesFrom s (f + 1) pos = _
        rw [piecesFrom, if_pos hp, hd]
        rfl
      rw [hd] at hnx f1 f2 f3 HG HE HRL
      dsimp only at hnx f1 f2 f3 HG HE HRL
      have hrl := fun W => utf8_RuneLen.calls 1 (r : Int) (Lib.runeLen r) W (runeLen_eq r)
      have hlr : ∃ m, Lib.runeLen (r : Int) = m := ⟨_, rfl⟩
      obtain ⟨m, hm⟩ := hlr
      rw [hm] at hrl
      have Hm := Lib.hid hm
      clear hm
      have hw1 : ∀ nd, ∃ wq, wq = (wr.iterAt w.heap.size s (pos + n)).drewN nd ∧ wq.heap[w.heap.size]? = some (.stringIter s (pos + n)) ∧ Hid (wq.heap[b]? = some (.cells #[v] 141 (0, 0))) ∧ Hid (Kd.R kPiece 145 wq (b + 1) (fun _ => True) v acc) ∧ Below b w wq ∧ w.heap.size < wq.heap.size := by
        intro nd
        have hz1 := Lib.iterAt_size wr w.heap.size s (pos + n)
        exact ⟨_, rfl, Lib.iterAt_heap wr w.heap.size s pos (pos + n) hit, (Lib.iterAt_other wr w.heap.size b s (pos + n) (by omega)).trans hbk.out, Kd.R_below (R_iterAt hR.out hit (pos + n)) ((Below.refl _ _).trans (pw_below_drewN (Below.refl _ _) nd)), pw_below_drewN (Lib.below_iterAt hb (Nat.le_of_lt hbl) s (pos + n)) nd, by show w.heap.size < (wr.iterAt w.heap.size s (pos + n)).heap.size; omega⟩
      by_cases hE : r = 65533
      · subst hE
        have HTq := Lib.hid (fun W (h : Below b w W) => HT.out W h)
        have HmE : Hid (m = 3) := by rw [← Hm.out]; rfl
        have hDc := fun W hT => utf8_DecodeRuneInString.calls (s.extract pos s.size) 65533 (n : Int) W hT (by unfold utf8_DecodeRuneInString.f; rw [HG.out]; rfl)
        by_cases hn1 : n = 1
        · subst hn1
          have hE1 : ((65533 : Int) == 65533) = true := rfl
          have hn2 : (((1 : Nat) : Int) == 1) = true := rfl
          go_wp2_with (first | (go_at_call 100; refine (hrl _).mono ?_; rintro e w1 ⟨rfl, ⟨nd, rfl⟩⟩; obtain ⟨wq, hwq, hit1, hbk1, hR1, hb1, hsz1⟩ := hw1 nd; rw [← hwq]; clear hwq hw1) | (go_at_call 75; refine (hDc _ (HTq.out _ (hb1.alloc (by omega) _))).mono ?_; rintro e w2 ⟨rfl, hb2⟩; have hbp := Lib.hid (blk_below (blk_new wq (.cells #[.int .i32 65533, .int .i64 pos, .int .i64 m, .bool false] 145)) hb2); have hc0 := blk_cell hbp.out 0; have hc1 := blk_cell hbp.out 1; have hc2 := blk_cell hbp.out 2; have hc3 := blk_cell hbp.out 3; have hf2 := blk_frozen hbp.out 2; have hf3 := blk_frozen hbp.out 3; simp at hc0 hc1 hc2 hc3) | (go_at_call 86; have HB : Hid (Below wq.heap.size wq ((w2.setCell ⟨wq.heap.size, 2, none⟩ (.int .i64 1)).setCell ⟨wq.heap.size, 3, none⟩ (.bool true))) := ((((Below.refl wq.heap.size wq).alloc (Nat.le_refl _) _).trans (hb2.mono (by simp))).setCell (Nat.le_refl _) _).setCell (Nat.le_refl _) _; refine (addPiece b v acc ⟨65533, (pos : Int), 1, true⟩ _ (blk_below hbk1.out HB.out) (Kd.R_below hR1.out HB.out) (by omega)).mono ?_; rintro e w3 ⟨v2, rfl, hbk2, hR2, hb3, hk2⟩))
          have HPF2 := HPF.out
          have e1 : (⟨65533, (pos : Int), 1, true⟩ : Piece) = pieceAt s pos := by rw [HP.out]; simp
          rw [e1] at hR2
          have hit2 := hk2 w.heap.size _ (blk_below hit1 HB.out) (by simp; omega) (by intro c fz; simp)
          have sz2 := hb3.size
          have sz3 := HB.out.size
          go_roundw
          case rel => exact ⟨pos + 1, fuel - 1, acc ++ [pieceAt s pos], v2, hit2, hbk2, hR2, ((hb1.trans (HB.out.mono (by omega))).trans hb3), by rw [List.append_assoc, List.singleton_append, ← HPF2]; exact hacc.out, by omega, by simp; omega, by omega⟩
          case measure => rw [iterPos_of hit, iterPos_of hit2]; omega
        · obtain rfl : n = 3 := (HE.out rfl).resolve_left hn1
          have hE1 : ((65533 : Int) == 65533) = true := rfl
          have hn2 : (((3 : Nat) : Int) == 1) = false := rfl
          go_wp2_with (first | (go_at_call 100; refine (hrl _).mono ?_; rintro e w1 ⟨rfl, ⟨nd, rfl⟩⟩; obtain ⟨wq, hwq, hit1, hbk1, hR1, hb1, hsz1⟩ := hw1 nd; rw [← hwq]; clear hwq hw1) | (go_at_call 75; refine (hDc _ (HTq.out _ (hb1.alloc (by omega) _))).mono ?_; rintro e w2 ⟨rfl, hb2⟩; have hbp := Lib.hid (blk_below (blk_new wq (.cells #[.int .i32 65533, .int .i64 pos, .int .i64 m, .bool false] 145)) hb2); have hc0 := blk_cell hbp.out 0; have hc1 := blk_cell hbp.out 1; have hc2 := blk_cell hbp.out 2; have hc3 := blk_cell hbp.out 3; simp at hc0 hc1 hc2 hc3; have HB : Hid (Below wq.heap.size wq w2) := ((Below.refl wq.heap.size wq).alloc (Nat.le_refl _) _).trans (hb2.mono (by simp))) | (go_at_call 86; refine (addPiece b v acc ⟨65533, (pos : Int), m, false⟩ _ (blk_below hbk1.out HB.out) (Kd.R_below hR1.out HB.out) (by omega)).mono ?_; rintro e w3 ⟨v2, rfl, hbk2, hR2, hb3, hk2⟩))
          have HPF2 := HPF.out
          have e1 : (⟨65533, (pos : Int), m, false⟩ : Piece) = pieceAt s pos := by rw [HP.out, HmE.out]; simp
          rw [e1] at hR2
          have hit2 := hk2 w.heap.size _ (blk_below hit1 HB.out) (by simp; omega) (by intro c fz; simp)
          have sz2 := hb3.size
          have sz3 := HB.out.size
          go_roundw
          case rel => exact ⟨pos + 3, fuel - 1, acc ++ [pieceAt s pos], v2, hit2, hbk2, hR2, ((hb1.trans (HB.out.mono (by omega))).trans hb3), by rw [List.append_assoc, List.singleton_append, ← HPF2]; exact hacc.out, by omega, by simp; omega, by omega⟩
          case measure => rw [iterPos_of hit, iterPos_of hit2]; omega
      · have hE1 : (((r : Nat) : Int) == 65533) = false := by simp; omega
        have HPn : Hid (m = (n : Int)) := by rw [← Hm.out]; exact HRL.out hE
        go_wp2_with (first | (go_at_call 100; refine (hrl _).mono ?_; rintro e w1 ⟨rfl, ⟨nd, rfl⟩⟩; obtain ⟨wq, hwq, hit1, hbk1, hR1, hb1, hsz1⟩ := hw1 nd; rw [← hwq]; clear hwq hw1) | (go_at_call 86; refine (addPiece b v acc ⟨(r : Int), (pos : Int), m, false⟩ _ (blk_alloc hbk1.out _) (R_alloc hR1.out _) (by omega)).mono ?_; rintro e w2 ⟨v2, rfl, hbk2, hR2, hb2, hk2⟩))
        have HPF2 := HPF.out
        have e1 : (⟨(r : Int), (pos : Int), m, false⟩ : Piece) = pieceAt s pos := by rw [HP.out, HPn.out, decide_eq_false (by omega)]
        rw [e1] at hR2
        have hit2 := hk2 w.heap.size _ (blk_alloc hit1 _) (by simp; omega) (by intro c fz; simp)
        have sz2 := hb2.size
        go_roundw
        case rel => exact ⟨pos + n, fuel - 1, acc ++ [pieceAt s pos], v2, hit2, hbk2, hR2, (hb1.alloc (by omega) _).trans hb2, by rw [List.append_assoc, List.singleton_append, ← HPF2]; exact hacc.out, by omega, by simp; omega, by simp at sz2; omega⟩
        case measure => rw [iterPos_of hit, iterPos_of hit2]; omega
    · have hnx : ∀ ty, (Instr.next (.pointer (some ⟨w.heap.size, 0, none⟩)) true ty).run Tryd.prog wr = _ := fun ty => Lib.run_next_end_at wr w.heap.size s pos ty hit hp
      go_wp2_with fail
      go_end0
      have hz : piecesFrom s fuel pos = [] := by
        cases fuel with
        | zero => rfl
        | succ f => exact if_neg hp
      have := hacc.out
      rw [hz, List.append_nil] at this
      subst this
      exact ⟨v, rfl, hbk.out, hR.out, hb⟩

set_option maxHeartbeats 1000000 in
set_option maxRecDepth 100000 in
theorem Pieces_walk (s : ByteArray) (w : World) (hT : Tabs w) :
    Calls Tryd.prog 72 #[.string s] w fun e w' =>
      ∃ v, e = .returned (.tuple #[v, .int .i64 (if s.size ≤ 65536 then 0 else 3)]) ∧ Kd.R kPiece 145 w' w.heap.size (fun _ => True) v (if s.size ≤ 65536 then pieces s else []) ∧ Below w.heap.size w w' := by
  have HT := Lib.hid hT
  clear hT
  by_cases hs : s.size ≤ 65536
  · rw [if_pos hs, if_pos hs]
    have hlo := fun W => runes_long.calls s 0 W (if_neg (by omega))
    go_enter Tryd.func72, Tryd.ntmps72
    go_wp2_with (first | (go_at_call 84; refine (hlo _).mono ?_; rintro e w1 ⟨rfl, ⟨nd, rfl⟩⟩) | (go_at_call 85; refine (each_walk w.heap.size (.slice none 0 0) s _ (fun W h => HT.out.below (((pw_below_drewN (Below.refl _ _) nd).alloc (Nat.le_refl _) _).trans h)) (blk_new (w.drewN nd) _) (Kd.R_nil _ _ _ _ _) hs).mono ?_; rintro e w2 ⟨v2, rfl, hbk2, hR2, hb2⟩; have hc := (blk_cell hbk2 0).trans rfl))
    go_ret2
    exact ⟨_, rfl, Kd.R_lower hR2 (by simp), ((pw_below_drewN (Below.refl _ _) nd).alloc (Nat.le_refl _) _).trans hb2⟩
  · rw [if_neg hs, if_neg hs]
    have hlo := fun W => runes_long.calls s 3 W (if_pos (by omega))
    go_enter Tryd.func72, Tryd.ntmps72
    go_wp2_with (first | (go_at_call 84; refine (hlo _).mono ?_; rintro e w1 ⟨rfl, ⟨nd, rfl⟩⟩))
    go_ret2
    exact ⟨_, rfl, Kd.R_nil _ _ _ _ _, pw_below_drewN (Below.refl _ _) nd⟩
end Go.Proofs.YthmjheclhcdinaaDoor
end
section
/-
  word.ranks, word.read, word.Letters by walks: a word's letters.
-/
set_option linter.unusedSimpArgs false
set_option linter.unusedVariables false
namespace Go.Proofs.YthmjheclhcdinaaDoor
open Go.RowKit Go.Maps Go.WideMaps Go.Proofs.YthmjheclhcdinaaDoorW.PrintWords Go.Proofs.YthmjheclhcdinaaDoorW.PrintLast Go.Proofs.YthmjheclhcdinaaDoorW.PrintMore Go.Proofs.YthmjheclhcdinaaDoor.Ext Go.Proofs.YthmjheclhcdinaaDoor.RF0

theorem C_alloc {α : Type} {d : Kd α} {w : World} {A : Option Addr} {n : Nat} {xs : List α} (h : Kd.C d w A n xs) (o : Obj) : Kd.C d (w.alloc o) A n xs := Kd.C_below h ((Below.refl _ _).alloc (Nat.le_refl _) o)
theorem T_alloc {w : World} (h : Tabs w) (o : Obj) : Tabs (w.alloc o) := h.below ((Below.refl _ _).alloc (Nat.le_refl _) o)
theorem B_alloc (w : World) (o : Obj) : Below w.heap.size w (w.alloc o) := (Below.refl _ _).alloc (Nat.le_refl _) o
/-- The map D has these keys and no others. -/
structure HasIs (D : DataW Unit) (ks : List Lit) : Prop where
  isMap : IsMap D
  iff : ∀ kl, Go.Maps.has D kl = true ↔ kl ∈ ks
theorem HasIs.empty : HasIs (.map []) [] := ⟨isMap_empty, fun kl => by simp [has_eq]⟩
theorem HasIs.put {D : DataW Unit} {ks : List Lit} (h : HasIs D ks) {k : Lit} (hk : WideAt.IsKeyLit k) (d : DataW Unit) : HasIs (D.put k d) (k :: ks) := by
  refine ⟨h.isMap.put _ _, fun kl => ?_⟩
  by_cases e : kl = k
  · subst e
    simp [has_put_same h.isMap hk]
  · rw [has_put_other e, h.iff]
    simp [e]
/-- make(map, n) is make(map). -/
theorem makeMap_hint {P : Program} {t k e : TypeId} (ht : P.underlying t = some (.map k e)) (w : World) (q : IntKind) (n : Int) : (Instr.makeMap t (some (.int q n))).run P w = .ok (.map (some w.heap.size)) (w.alloc (.map #[] 0)) := by
  simp [Instr.makeMap, run_underlying ht, asInt, asIntOf, Result.andThen]
theorem zeroInt (w : World) : (zeroValue 3).run Tryd.prog w = .ok (.int .i64 0) w := by kernel_rfl

theorem lettersOk_rune (n : Nat) : ∀ (l : List Letter) (seen : List Int), lettersOk n l seen = true → ∀ x ∈ l, runeOk x.f0 = true
  | [], _, _ => by simp
  | y :: ys, seen, h => by
    simp only [lettersOk, Bool.and_eq_true] at h
    intro x hx
    rcases List.mem_cons.1 hx with rfl | hx
    · exact h.1.1.1
    · exact lettersOk_rune n ys _ h.2 x hx
theorem chk_rune {l0 : List ByteArray} {l1 : List Letter} (h : chk l0 l1 = 0) : ∀ x ∈ l1, runeOk x.f0 = true := by
  have : okA l0 l1 = true := by
    unfold chk at h
    split at h
    · assumption
    · cases h
  unfold okA at this
  simp only [Bool.and_eq_true] at this
  exact lettersOk_rune _ _ _ this.2
theorem chk_len {l0 : List ByteArray} {l1 : List Letter} (h : chk l0 l1 = 0) : l1.length ≤ 128 := by
  have : okA l0 l1 = true := by
    unfold chk at h
    split at h
    · assumption
    · cases h
  unfold okA at this
  simp at this
  omega

def keysN (l1 : List Letter) (k : Nat) : List Lit := (l1.take k).reverse.map (fun x => Lit.int .i32 x.f0)
theorem keysN_succ (l1 : List Letter) (k : Nat) (h : k < l1.length) : keysN l1 (k + 1) = Lit.int .i32 l1[k].f0 :: keysN l1 k := by
  unfold keysN
  rw [List.take_succ_eq_append_getElem h, List.reverse_append, List.map_append]
  simp

set_option maxHeartbeats 2000000 in
set_option maxRecDepth 100000 in
theorem ranks_walk (A0 A1 : Option Addr) (c0 c1 : Nat) (l0 : List ByteArray) (l1 : List Letter) (w : World) (hF : Kd.C Kd.string w A0 l0.length l0) (hcF : l0.length ≤ c0) (hL : Kd.C kLetter w A1 l1.length l1) (hcL : l1.length ≤ c1) (hok : chk l0 l1 = 0) :
    Calls Tryd.prog 54 #[.agg #[.slice A0 l0.length c0, .slice A1 l1.length c1]] w fun e w' => ∃ b n D, e = .returned (.tuple #[.map (some b), .int .i64 0]) ∧ w.heap.size ≤ b ∧ w'.ownsMap Tryd.prog 21 (plainElem (H := Unit) Tryd.prog 3) b n D ∧ HasIs D (keysN l1 l1.length) ∧ Below w.heap.size w w' := by
  have hmm := fun w n => makeMap_hint (P := Tryd.prog) Tryd.underlying109 w .i64 n
  have hch := fun W hF hL => feature_Check.calls A0 c0 l0 A1 c1 l1 0 W hF hcF hL hcL (by unfold feature_Check.f; rw [hok])
  have HF := Lib.hid hF
  have HL := Lib.hid hL
  have Hok := Lib.hid hok
  clear hF hL hok
  go_enter Tryd.func54, Tryd.ntmps54
  go_wp2_with (first | (go_at_call 39; refine (hch _ (Kd.C_below HF.out ((Below.refl _ _).alloc (Nat.le_refl _) _)) (Kd.C_below HL.out ((Below.refl _ _).alloc (Nat.le_refl _) _))).mono ?_; rintro e w1 ⟨rfl, hb1⟩; have hbx := Lib.hid (blk_below (blk_new w (.cells #[.slice A0 l0.length c0, .slice A1 l1.length c1] 25)) hb1); have hc1 := (blk_cell hbx.out 1).trans rfl; have hcB : ∀ o, (w1.alloc o).cell? ⟨w.heap.size, 1, none⟩ = some (.slice A1 l1.length c1) := fun o => (blk_cell (blk_alloc hbx.out o) 1).trans rfl))
  go_loopw [20] (fun i wr => ∃ k : Nat, k ≤ l1.length ∧ i = .int .i64 k ∧ Below w.heap.size w wr ∧ w1.heap.size < wr.heap.size ∧
      ∃ D, wr.ownsMap Tryd.prog 21 (plainElem (H := Unit) Tryd.prog 3) w1.heap.size k D ∧ Hid (HasIs D (keysN l1 k)))
    (fun i _ => l1.length - (intOf i).toNat)
  case atStart =>
    refine ⟨0, Nat.zero_le _, rfl, (below_step ((Below.refl _ _).alloc (Nat.le_refl _) _) hb1).alloc ?_ _, by simp, _, World.ownsMap_made _ _ _ _, HasIs.empty⟩
    have h2 := hb1.size
    simp at h2
    omega
  case round =>
    obtain ⟨k, hk, rfl, hb, hsz, D, hown, hS⟩ := hrel
    by_cases hlt : k < l1.length
    · obtain ⟨ad, hA, hx0, hx1, hx2⟩ := at_T84 (Kd.C_below HL.out hb) k (by omega) (by omega)
      subst hA
      rw [Int.toNat_natCast] at hx0 hx1 hx2
      have hrd : rd_T84 l1 k = l1[k] := by simp [rd_T84, List.getD_eq_getElem?_getD, List.getElem?_eq_getElem hlt]
      rw [hrd] at hx0 hx1 hx2
      obtain ⟨x, hx⟩ : ∃ x, x = l1[k] := ⟨_, rfl⟩
      rw [← hx] at hx0 hx1 hx2
      have h1 : runeOk x.f0 = true := chk_rune Hok.out x (by rw [hx]; exact List.getElem_mem hlt)
      have Hx := Lib.hid hx
      clear hx hrd
      obtain ⟨x0, x1, x2⟩ := x
      dsimp only at hx0 hx1 hx2 h1
      have hkey : keyOf Tryd.prog 21 (.int .i32 x0) = some (.int .i32 x0) := keyOf_int_mk Tryd.underlying21 (rune_wf h1)
      clear h1
      have hln := chk_len Hok.out
      have hown1 := hown.alloc (.cells #[.int .i32 x0, .int .u32 x1, .int .u32 x2] 84)
      have Hb := Lib.hid (hb.alloc hb.size (.cells #[.int .i32 x0, .int .u32 x1, .int .u32 x2] 84))
      have h1s := hb1.size
      simp at h1s
      go_wp2_with (at_mapUpdate; refine wpList_mapUpdate_own _ rfl _ _ _ 109 rfl 21 3 (int_keyed Tryd.underlying21) Tryd.underlying109 _ w1.heap.size k _ rfl hown1 (by unfold maxLen; omega) _ _ _ rfl rfl hkey _ [] (plainElem_int Tryd.underlying3 (by simp [Lit.wf, IntKind.min, IntKind.max, IntKind.signed, IntKind.bits]; omega)) ?_; intro w2 hown3 hgrow2)
      have s2 := hgrow2.size
      simp at s2
      go_roundw
      case rel =>
        refine ⟨k + 1, by omega, by go_num, Hb.out.grown hgrow2 (by simp; omega) (fun j hj => by cases hj; omega), by omega, _, hown3, ?_⟩
        have := hS.out.put (k := Lit.int .i32 x0) trivial (.lit (.int .i64 k))
        rw [keysN_succ l1 k hlt, ← Hx.out]
        exact this
      case measure => simp [intOf]; omega
    · obtain rfl : k = l1.length := by omega
      go_wp2_with fail
      go_ret2
      exact ⟨_, _, _, rfl, by (have h2 := hb1.size); simp at h2; omega, hown, hS.out, hb⟩

theorem chk_or (l0 : List ByteArray) (l1 : List Letter) : chk l0 l1 = 0 ∨ chk l0 l1 = 7 := by
  unfold chk
  split
  · exact .inl rfl
  · exact .inr rfl

set_option maxHeartbeats 2000000 in
set_option maxRecDepth 100000 in
theorem ranks_bad (A0 A1 : Option Addr) (c0 c1 : Nat) (l0 : List ByteArray) (l1 : List Letter) (w : World) (hF : Kd.C Kd.string w A0 l0.length l0) (hcF : l0.length ≤ c0) (hL : Kd.C kLetter w A1 l1.length l1) (hcL : l1.length ≤ c1) (hok : chk l0 l1 = 7) :
    Calls Tryd.prog 54 #[.agg #[.slice A0 l0.length c0, .slice A1 l1.length c1]] w fun e w' => e = .returned (.tuple #[.map none, .int .i64 7]) ∧ Below w.heap.size w w' := by
  have hch := fun W hF hL => feature_Check.calls A0 c0 l0 A1 c1 l1 7 W hF hcF hL hcL (by unfold feature_Check.f; rw [hok])
  have HF := Lib.hid hF
  have HL := Lib.hid hL
  clear hF hL hok
  go_enter Tryd.func54, Tryd.ntmps54
  go_wp2_with (first | (go_at_call 39; refine (hch _ (Kd.C_below HF.out ((Below.refl _ _).alloc (Nat.le_refl _) _)) (Kd.C_below HL.out ((Below.refl _ _).alloc (Nat.le_refl _) _))).mono ?_; rintro e w1 ⟨rfl, hb1⟩))
  go_ret2
  exact ⟨rfl, below_step ((Below.refl _ _).alloc (Nat.le_refl _) _) hb1⟩

theorem piecesFrom_rune (s : ByteArray) : ∀ f pos, ∀ p ∈ piecesFrom s f pos, 0 ≤ p.f0 ∧ p.f0 ≤ 1114111
  | 0, _ => by simp [piecesFrom]
  | f + 1, pos => by
    unfold piecesFrom
    split
    · intro p hp
      rcases List.mem_cons.1 hp with rfl | hp
      · have := dec_rune s pos
        unfold pieceAt
        dsimp only
        omega
      · exact piecesFrom_rune s f _ p hp
    · simp
/-- A word's letters out of its pieces. -/
def readP (ks : List Int) : List Piece → List Int → List Int × Int
  | [], acc => (acc, 0)
  | p :: ps, acc => if p.f3 = true then ([], 6) else if ks.contains p.f0 = false then ([], 5) else if acc.length = 64 then ([], 4) else readP ks ps (acc ++ [p.f0])
theorem readP_at (ks : List Int) (ps : List Piece) (k : Nat) (h : k < ps.length) (acc : List Int) :
    readP ks (ps.drop k) acc = if ps[k].f3 = true then ([], 6) else if ks.contains ps[k].f0 = false then ([], 5) else if acc.length = 64 then ([], 4) else readP ks (ps.drop (k + 1)) (acc ++ [ps[k].f0]) := by
  rw [List.drop_eq_getElem_cons h]
  rfl
theorem rune_wf2 {r : Int} (h : 0 ≤ r ∧ r ≤ 1114111) : (Lit.int .i32 r).wf = true := by
  simp [Lit.wf, IntKind.min, IntKind.max, IntKind.signed, IntKind.bits]
  omega
def cut (s : ByteArray) : ByteArray := if s.size ≤ 65536 then s else s.extract 0 65536
theorem cut_size (s : ByteArray) : (cut s).size ≤ 65536 := by
  unfold cut
  split
  · assumption
  · simp; omega
def kindsOf (l1 : List Letter) : List Int := l1.map (fun x => x.f0)
theorem has_keys {D : DataW Unit} {l1 : List Letter} (h : HasIs D (keysN l1 l1.length)) (r : Int) : Go.Maps.has D (.int .i32 r) = (kindsOf l1).contains r := by
  rw [Bool.eq_iff_iff, h.iff]
  unfold keysN kindsOf
  simp

set_option maxHeartbeats 2000000 in
set_option maxRecDepth 100000 in
theorem read_walk (b n : Nat) (D : DataW Unit) (l1 : List Letter) (s : ByteArray) (w : World) (hT : Tabs w) (hown : w.ownsMap Tryd.prog 21 (plainElem (H := Unit) Tryd.prog 3) b n D) (hD : HasIs D (keysN l1 l1.length)) (l : List Int) (e : Int) (hr : Hid (readP (kindsOf l1) (pieces (cut s)) [] = (l, e))) :
    Calls Tryd.prog 55 #[.map (some b), .string s] w fun e' w' => ∃ v, e' = .returned (.tuple #[v, .int .i64 e]) ∧ Kd.R (Kd.int .i32) 21 w' w.heap.size (fun _ => True) v l ∧ Below w.heap.size w w' := by
  have hP := Pieces_walk (cut s) w hT
  rw [if_pos (cut_size s), if_pos (cut_size s)] at hP
  have HD := Lib.hid hD
  have hlen := piecesFrom_length (cut s) (cut s).size 0
  have hcs := cut_size s
  obtain ⟨ps, hps⟩ : ∃ ps, ps = pieces (cut s) := ⟨_, rfl⟩
  rw [← hps] at hP hr
  have hpl : ps.length ≤ 65536 := by rw [hps]; exact Nat.le_trans hlen hcs
  have hrn : ∀ p ∈ ps, 0 ≤ p.f0 ∧ p.f0 ≤ 1114111 := by rw [hps]; exact piecesFrom_rune _ _ _
  clear hps hD hT hlen
  have hcc : (cut s = s ∧ decide (65536 < (s.size : Int)) = false) ∨ (cut s = s.extract 0 65536 ∧ decide (65536 < (s.size : Int)) = true ∧ 65536 ≤ s.size) := by
    unfold cut
    by_cases h : s.size ≤ 65536
    · rw [if_pos h]
      exact .inl ⟨rfl, decide_eq_false (by omega)⟩
    · rw [if_neg h]
      exact .inr ⟨rfl, decide_eq_true (by omega), by omega⟩
  rcases hcc with ⟨hc, hd⟩ | ⟨hc, hd, hge⟩
  all_goals (
    rw [hc] at hP
    have HP := Lib.hid hP
    clear hP hc hcs
    go_enter Tryd.func55, Tryd.ntmps55
    go_wp2_with (first | (go_at_call 72; refine HP.out.mono ?_; rintro e1 w1 ⟨v1, rfl, hR1, hb1⟩; obtain ⟨A, c, rfl, hlc, hC1⟩ := Kd.R_reads hR1))
    have Hb1 := Lib.hid hb1
    have HC1 := Lib.hid hC1
    have hown1 := hown.kept (grown_of_below hb1 none) (by simp)
    clear hb1 hC1 hR1 hown
    go_loopw [8, 28] (fun o i wr => ∃ (k : Nat) (acc : List Int), k ≤ ps.length ∧ i = .int .i64 k ∧ Below w1.heap.size w1 wr ∧ Hid (Kd.R (Kd.int .i32) 21 wr w1.heap.size (fun _ => True) o acc) ∧ acc.length ≤ 64 ∧ Hid (readP (kindsOf l1) (ps.drop k) acc = (l, e)))
      (fun _ i _ => ps.length - (intOf i).toNat)
    case atStart => exact ⟨0, [], Nat.zero_le _, rfl, Below.refl _ _, Kd.R_nil _ _ _ _ _, by simp, hr⟩
    case round =>
      obtain ⟨k, acc, hk, rfl, hb, hR, hal, hq⟩ := hrel
      by_cases hlt : k < ps.length
      · obtain ⟨ad, hA, hx0, hx1, hx2, hx3⟩ := at_T145 (Kd.C_below HC1.out hb) k (by omega) (by omega)
        subst hA
        rw [Int.toNat_natCast] at hx0 hx1 hx2 hx3
        have hrd : rd_T145 ps k = ps[k] := by simp [rd_T145, List.getD_eq_getElem?_getD, List.getElem?_eq_getElem hlt]
        rw [hrd] at hx0 hx1 hx2 hx3
        have hq2 := hq.out
        rw [readP_at _ _ _ hlt] at hq2
        have hwf := rune_wf2 (hrn _ (List.getElem_mem hlt))
        obtain ⟨p, hp⟩ : ∃ p, p = ps[k] := ⟨_, rfl⟩
        rw [← hp] at hx0 hx1 hx2 hx3 hq2 hwf
        clear hp hrd hq
        obtain ⟨p0, p1, p2, p3⟩ := p
        dsimp only at hx0 hx1 hx2 hx3 hq2 hwf
        have hkey : keyOf Tryd.prog 21 (.int .i32 p0) = some (.int .i32 p0) := keyOf_int_mk Tryd.underlying21 hwf
        obtain ⟨Ao, co, hv⟩ := Kd.R_slice hR.out
        have hR2 := Lib.hid (hv ▸ hR.out)
        subst hv
        have hhas := has_keys HD.out p0
        have hown2 := hown1.kept (grown_of_below hb none) (by simp)
        have hown3 := hown2.alloc (.cells #[.int .i32 p0, .int .i64 p1, .int .i64 p2, .bool p3] 145)
        cases p3 with
        | true =>
          rw [if_pos rfl] at hq2
          obtain ⟨rfl, rfl⟩ : [] = l ∧ 6 = e := by simpa using hq2
          go_wp2_with fail
          go_ret2
          exact ⟨_, rfl, Kd.R_nil _ _ _ _ _, below_step Hb1.out (hb.alloc hb.size _)⟩
        | false =>
          rw [if_neg (by simp)] at hq2
          cases hks : (kindsOf l1).contains p0 with
          | false =>
            rw [if_pos hks] at hq2
            rw [hks] at hhas
            obtain ⟨rfl, rfl⟩ : [] = l ∧ 5 = e := by simpa using hq2
            go_wp2_with (at_lookup; (try (refine gate_guard (by rfl) ?_; dsimp only)); refine wpList_lookup_own_ok_int _ rfl _ _ 109 rfl 21 3 .i64 (int_keyed Tryd.underlying21) Tryd.underlying109 Tryd.underlying3 (zeroInt _) b n D rfl hown3 _ _ rfl hkey ?_; intro c hat hwc; rw [hhas])
            go_ret2
            exact ⟨_, rfl, Kd.R_nil _ _ _ _ _, below_step Hb1.out (hb.alloc hb.size _)⟩
          | true =>
            rw [if_neg (by rw [hks]; simp)] at hq2
            rw [hks] at hhas
            by_cases hm : acc.length = 64
            · rw [if_pos hm] at hq2
              obtain ⟨rfl, rfl⟩ : [] = l ∧ 4 = e := by simpa using hq2
              have he : ((acc.length : Int) == 64) = true := by simp; omega
              go_wp2_with (at_lookup; (try (refine gate_guard (by rfl) ?_; dsimp only)); refine wpList_lookup_own_ok_int _ rfl _ _ 109 rfl 21 3 .i64 (int_keyed Tryd.underlying21) Tryd.underlying109 Tryd.underlying3 (zeroInt _) b n D rfl hown3 _ _ rfl hkey ?_; intro c hat hwc; rw [hhas])
              go_ret2
              exact ⟨_, rfl, Kd.R_nil _ _ _ _ _, below_step Hb1.out (hb.alloc hb.size _)⟩
            · rw [if_neg hm] at hq2
              have Hq2 := Lib.hid hq2
              clear hq2
              have he : ((acc.length : Int) == 64) = false := by simp; omega
              go_wp2_with (first | (at_lookup; (try (refine gate_guard (by rfl) ?_; dsimp only)); refine wpList_lookup_own_ok_int _ rfl _ _ 109 rfl 21 3 .i64 (int_keyed Tryd.underlying21) Tryd.underlying109 Tryd.underlying3 (zeroInt _) b n D rfl hown3 _ _ rfl hkey ?_; intro c hat hwc; rw [hhas]) | (at_builtin; go_must (refine Kd.R_append (w0 := w1) (Kd.int .i32) w1.heap.size rfl (.tmp 46) (.tmp 49) 73 21 _ _ rfl Tryd.underlying73 info21 (by decide) (by decide) (by decide) _ acc p0 _ (fun _ => True) (fun _ => False) rfl (by first | rfl | simp [Act.eval]) rfl (fun _ h => h.elim) (fun _ _ => trivial) (R_alloc hR2.out _) (hb.alloc hb.size _) (hb.alloc hb.size _).size (by omega) ?_); intro v2 w2 HR HB hg hat; have HRh := Lib.hid HR; have HBh := Lib.hid HB; clear HR HB hg hat))
              go_roundw
              case rel => exact ⟨k + 1, acc ++ [p0], by omega, by go_num, HBh.out, HRh.out, by simp; omega, Hq2.out⟩
              case measure => simp [intOf]; omega
      · obtain rfl : k = ps.length := by omega
        have hq2 := hq.out
        rw [List.drop_of_length_le (Nat.le_refl _)] at hq2
        obtain ⟨rfl, rfl⟩ : acc = l ∧ 0 = e := by simpa [readP] using hq2
        go_wp2_with fail
        go_ret2
        exact ⟨_, rfl, Kd.R_lower hR.out Hb1.out.size, below_step Hb1.out hb⟩)

/-- A word's letters in an alphabet. -/
def lettersOf (l0 : List ByteArray) (l1 : List Letter) (s : ByteArray) : List Int × Int := if chk l0 l1 = 0 then readP (kindsOf l1) (pieces (cut s)) [] else ([], 7)

namespace Ext
def word_Letters.f (l0 : List ByteArray) (l1 : List Letter) (s : ByteArray) : Option (List Int × Int) := some (lettersOf l0 l1 s)
set_option maxHeartbeats 2000000 in
set_option maxRecDepth 100000 in
theorem word_Letters.calls (A0 : Option Addr) (c0 : Nat) (l0 : List ByteArray) (A1 : Option Addr) (c1 : Nat) (l1 : List Letter) (s : ByteArray) (r1 : List Int) (r2 : Int) (w : World) (hF : Kd.C Kd.string w A0 l0.length l0) (hcF : l0.length ≤ c0) (hL : Kd.C kLetter w A1 l1.length l1) (hcL : l1.length ≤ c1) (hT : Tabs w)
    (h : word_Letters.f l0 l1 s = some (r1, r2)) :
    Calls Tryd.prog 37 #[.agg #[.slice A0 l0.length c0, .slice A1 l1.length c1], .string s] w fun e w' => ∃ v, e = .returned (.tuple #[v, .int .i64 r2]) ∧ Kd.R (Kd.int .i32) 21 w' w.heap.size (fun _ => True) v r1 ∧ Below w.heap.size w w' := by
  have hr : lettersOf l0 l1 s = (r1, r2) := Option.some.inj h
  clear h
  unfold lettersOf at hr
  rcases chk_or l0 l1 with hk | hk
  · have hrk := fun W hF hL => ranks_walk A0 A1 c0 c1 l0 l1 W hF hcF hL hcL hk
    rw [if_pos hk] at hr
    have Hr := Lib.hid hr
    have HT := Lib.hid hT
    have HF := Lib.hid hF
    have HL := Lib.hid hL
    clear hr hF hL hT
    go_enter Tryd.func37, Tryd.ntmps37
    go_wp2_with (first | (go_at_call 54; refine (hrk _ (C_alloc HF.out _) (C_alloc HL.out _)).mono ?_; rintro e1 w1 ⟨b, n, D, rfl, hbw, hown, hD, hb1⟩; have hb1 := below_step (B_alloc w _) hb1) | (go_at_call 55; refine (read_walk b n D l1 s w1 (HT.out.below hb1) hown hD r1 r2 Hr.out).mono ?_; rintro e2 w2 ⟨v2, rfl, hR2, hb2⟩))
    go_ret2
    exact ⟨_, rfl, Kd.R_lower hR2 hb1.size, below_step hb1 hb2⟩
  · have hrk := fun W hF hL => ranks_bad A0 A1 c0 c1 l0 l1 W hF hcF hL hcL hk
    rw [if_neg (by omega)] at hr
    obtain ⟨rfl, rfl⟩ : [] = r1 ∧ 7 = r2 := by simpa using hr
    have HF := Lib.hid hF
    have HL := Lib.hid hL
    clear hr hF hL hT
    go_enter Tryd.func37, Tryd.ntmps37
    go_wp2_with (first | (go_at_call 54; refine (hrk _ (C_alloc HF.out _) (C_alloc HL.out _)).mono ?_; rintro e1 w1 ⟨rfl, hb1⟩; have hb1 := below_step (B_alloc w _) hb1))
    go_ret2
    exact ⟨_, rfl, Kd.R_nil _ _ _ _ _, hb1⟩
end Ext
end Go.Proofs.YthmjheclhcdinaaDoor
end
section
-- printed by a program of this session (wip/tools/prx.sh: a turned copy of the kit's print, with functions given from outside)
namespace Go.Proofs.YthmjheclhcdinaaDoor.RF1
open Go.RowKit Go.Proofs.YthmjheclhcdinaaDoor Go.Proofs.YthmjheclhcdinaaDoor.Ext Go.Proofs.YthmjheclhcdinaaDoorW.PrintWords Go.Proofs.YthmjheclhcdinaaDoorW.PrintLast Go.Proofs.YthmjheclhcdinaaDoorW.PrintMore
attribute [local go_sem] max2_int min2_int max_two min_two max_three min_three max_four min_four   -- for this text's walks alone
set_option linter.unusedVariables false
set_option linter.unusedSimpArgs false

/-! ### feature_within: function 60 -/
def feature_within.f (l0_0 : List ByteArray) (l0_1 : List (S84)) (a1 : Int) (a2 : Int) : Option (Bool) := if (shr .u32 (Go.bits .or .u32 a1 a2) (l0_0.length : Int)) = 0 then (some ((Go.bits .and .u32 a1 a2) == 0)) else (some false)
set_option maxHeartbeats 8000000 in
set_option maxRecDepth 100000 in
theorem feature_within.calls (A0_0 : Option Addr) (c0_0 : Nat) (l0_0 : List ByteArray) (A0_1 : Option Addr) (c0_1 : Nat) (l0_1 : List (S84)) (a1 : Int) (a2 : Int) (r : Bool) (w : World) (hr0_0 : Kd.C Kd.string w A0_0 l0_0.length l0_0) (hc0_0 : l0_0.length ≤ c0_0) (hr0_1 : Kd.C k84 w A0_1 l0_1.length l0_1) (hc0_1 : l0_1.length ≤ c0_1) (h : feature_within.f l0_0 l0_1 a1 a2 = some r) :
    Calls Tryd.prog 60 #[.agg #[.slice A0_0 l0_0.length c0_0, .slice A0_1 l0_1.length c0_1], .int .u32 a1, .int .u32 a2] w fun e w' => e = .returned (.bool r) ∧ Below w.heap.size w w' := by
  have hu25 := Tryd.underlying25
  have HR0_0 := Aside0.mk hr0_0
  have HC0_0 := Aside0.mk hc0_0
  clear hr0_0 hc0_0
  have HR0_1 := Aside0.mk hr0_1
  have HC0_1 := Aside0.mk hc0_1
  clear hr0_1 hc0_1
  have HB := Aside0.mk (Below.refl w.heap.size w)
  have H : (if (shr .u32 (Go.bits .or .u32 a1 a2) (l0_0.length : Int)) = 0 then (some ((Go.bits .and .u32 a1 a2) == 0)) else (some false)) = some r := h
  clear h
  obtain ⟨ji4, hji4⟩ : ∃ j_ : Int, (shr .u32 (Go.bits .or .u32 a1 a2) (l0_0.length : Int)) = j_ := ⟨_, rfl⟩
  replace H : (if (ji4) = 0 then (some ((Go.bits .and .u32 a1 a2) == 0)) else (some false)) = some r := by first | (rw [hji4] at H; exact H) | (simp only [hji4] at H ⊢; exact H)
  have hji4_ : ((Go.bits .or .u32 a1 a2) / 2 ^ min (l0_0.length : Int).toNat 32) = ji4 := hji4
  have hji4z : (l0_0.length : Int) ≤ 32 → ((Go.bits .or .u32 a1 a2) / 2 ^ (l0_0.length : Int).toNat) = ji4 := shr_small hji4
  have hji4p : ((Go.bits .or .u32 a1 a2) / 2 ^ min l0_0.length 32) = ji4 := hji4_
  have hji4q : (l0_0.length : Int) ≤ 32 → ((Go.bits .or .u32 a1 a2) / 2 ^ l0_0.length) = ji4 := hji4z
  by_cases c5 : (ji4) = 0
  · rw [if_pos c5] at H
    have c5b0 : ((ji4) == 0) = true := beq_iff_eq.mpr c5
    have c5b1 : ((ji4) != 0) = false := bne_eq_false_iff_eq.mpr c5
    clear c5
    obtain rfl := Option.some.inj H
    go_enter Tryd.func60, Tryd.ntmps60
    go_wp2_with (first | ((with_reducible refine gate_dst (N := 3) rfl ?_); refine box_event ?hg (N := 3) ?hd (cs := #[.slice A0_0 l0_0.length c0_0, .slice A0_1 l0_1.length c0_1]) (t := 25) ?hr ?_; (case hd => rfl); (case hg => rfl); (case hr => first | (go_simp; done) | (go_simp; rfl)); intro gb101 hg w6 hbox hb; have n0_ := Aside0.mk (below_step (by repeat (first | (with_reducible first | exact HB.out | apply below_alloc | apply pw_below_drewN | apply below_drew1) | exact HB.out)) hb); have n1_ := Aside0.mk (hbox); have n2_ := Aside0.mk ((by rw [hg]; exact (below_size (by repeat (first | (with_reducible first | exact HB.out | apply below_alloc | apply pw_below_drewN | apply below_drew1) | exact HB.out))) : w.heap.size ≤ gb101)); have n3_ := Aside0.mk ((by rw [hg]; exact (below_size (by repeat (first | (with_reducible first | exact HB.out | apply below_alloc | apply pw_below_drewN | apply below_drew1) | exact HB.out))) : w.heap.size ≤ gb101)); clear HB; have HB := n0_; have BK101 := n1_; have GW101 := n2_; have GE101 := n3_; clear n0_ n1_ n2_ n3_; clear hb hbox hg; have hcz7_0 : w6.cell? ⟨gb101, 0, none⟩ = some (.slice A0_0 l0_0.length c0_0) := (blk_cell BK101.out 0).trans rfl; have hcz7_1 : w6.cell? ⟨gb101, 1, none⟩ = some (.slice A0_1 l0_1.length c0_1) := (blk_cell BK101.out 1).trans rfl; have hfz7_0 := blk_frozen BK101.out 0; have hfz7_1 := blk_frozen BK101.out 1))
    go_ret
    exact ⟨by first | rfl | (simp [errW_none, errW_some] <;> rfl) | (simp only [← hji4]; first | rfl | (simp [errW_none, errW_some] <;> rfl)) | (simp [*, errW_none, errW_some] <;> rfl), by repeat (first | (with_reducible first | exact HB.out | apply below_alloc | apply pw_below_drewN | apply below_drew1 | refine below_set ?_ GE101.out) | exact HB.out)⟩
  · rw [if_neg c5] at H
    have c5b0 : ((ji4) == 0) = false := beq_eq_false_iff_ne.mpr c5
    have c5b1 : ((ji4) != 0) = true := bne_iff_ne.mpr c5
    obtain rfl := Option.some.inj H
    go_enter Tryd.func60, Tryd.ntmps60
    go_wp2_with (first | ((with_reducible refine gate_dst (N := 3) rfl ?_); refine box_event ?hg (N := 3) ?hd (cs := #[.slice A0_0 l0_0.length c0_0, .slice A0_1 l0_1.length c0_1]) (t := 25) ?hr ?_; (case hd => rfl); (case hg => rfl); (case hr => first | (go_simp; done) | (go_simp; rfl)); intro gb101 hg w8 hbox hb; have n0_ := Aside0.mk (below_step (by repeat (first | (with_reducible first | exact HB.out | apply below_alloc | apply pw_below_drewN | apply below_drew1) | exact HB.out)) hb); have n1_ := Aside0.mk (hbox); have n2_ := Aside0.mk ((by rw [hg]; exact (below_size (by repeat (first | (with_reducible first | exact HB.out | apply below_alloc | apply pw_below_drewN | apply below_drew1) | exact HB.out))) : w.heap.size ≤ gb101)); have n3_ := Aside0.mk ((by rw [hg]; exact (below_size (by repeat (first | (with_reducible first | exact HB.out | apply below_alloc | apply pw_below_drewN | apply below_drew1) | exact HB.out))) : w.heap.size ≤ gb101)); clear HB; have HB := n0_; have BK101 := n1_; have GW101 := n2_; have GE101 := n3_; clear n0_ n1_ n2_ n3_; clear hb hbox hg; have hcz9_0 : w8.cell? ⟨gb101, 0, none⟩ = some (.slice A0_0 l0_0.length c0_0) := (blk_cell BK101.out 0).trans rfl; have hcz9_1 : w8.cell? ⟨gb101, 1, none⟩ = some (.slice A0_1 l0_1.length c0_1) := (blk_cell BK101.out 1).trans rfl; have hfz9_0 := blk_frozen BK101.out 0; have hfz9_1 := blk_frozen BK101.out 1))
    go_ret
    exact ⟨by first | rfl | (simp [errW_none, errW_some] <;> rfl) | (simp only [← hji4]; first | rfl | (simp [errW_none, errW_some] <;> rfl)) | (simp [*, errW_none, errW_some] <;> rfl), by repeat (first | (with_reducible first | exact HB.out | apply below_alloc | apply pw_below_drewN | apply below_drew1 | refine below_set ?_ GE101.out) | exact HB.out)⟩

/-! ### feature_like: function 82 -/
def feature_like.f (a0_0 : Int) (a0_1 : Int) (a0_2 : Int) (a1 : Int) (a2 : Int) : Option (Bool) := if (Go.bits .andNot .u32 a1 a0_1) = 0 then (some ((Go.bits .andNot .u32 a2 a0_2) == 0)) else (some false)
set_option maxHeartbeats 8000000 in
set_option maxRecDepth 100000 in
theorem feature_like.calls (a0_0 : Int) (a0_1 : Int) (a0_2 : Int) (a1 : Int) (a2 : Int) (r : Bool) (w : World) (h : feature_like.f a0_0 a0_1 a0_2 a1 a2 = some r) :
    Calls Tryd.prog 82 #[.agg #[.int .i32 a0_0, .int .u32 a0_1, .int .u32 a0_2], .int .u32 a1, .int .u32 a2] w fun e w' => e = .returned (.bool r) ∧ Below w.heap.size w w' := by
  have hu84 := Tryd.underlying84
  have HB := Aside0.mk (Below.refl w.heap.size w)
  have H : (if (Go.bits .andNot .u32 a1 a0_1) = 0 then (some ((Go.bits .andNot .u32 a2 a0_2) == 0)) else (some false)) = some r := h
  clear h
  by_cases c4 : (Go.bits .andNot .u32 a1 a0_1) = 0
  · rw [if_pos c4] at H
    have c4b0 : ((Go.bits .andNot .u32 a1 a0_1) == 0) = true := beq_iff_eq.mpr c4
    have c4b1 : ((Go.bits .andNot .u32 a1 a0_1) != 0) = false := bne_eq_false_iff_eq.mpr c4
    clear c4
    obtain rfl := Option.some.inj H
    go_enter Tryd.func82, Tryd.ntmps82
    go_wp2_with (first | ((with_reducible refine gate_dst (N := 3) rfl ?_); refine box_event ?hg (N := 3) ?hd (cs := #[.int .i32 a0_0, .int .u32 a0_1, .int .u32 a0_2]) (t := 84) ?hr ?_; (case hd => rfl); (case hg => rfl); (case hr => first | (go_simp; done) | (go_simp; rfl)); intro gb102 hg w5 hbox hb; have n0_ := Aside0.mk (below_step (by repeat (first | (with_reducible first | exact HB.out | apply below_alloc | apply pw_below_drewN | apply below_drew1) | exact HB.out)) hb); have n1_ := Aside0.mk (hbox); have n2_ := Aside0.mk ((by rw [hg]; exact (below_size (by repeat (first | (with_reducible first | exact HB.out | apply below_alloc | apply pw_below_drewN | apply below_drew1) | exact HB.out))) : w.heap.size ≤ gb102)); have n3_ := Aside0.mk ((by rw [hg]; exact (below_size (by repeat (first | (with_reducible first | exact HB.out | apply below_alloc | apply pw_below_drewN | apply below_drew1) | exact HB.out))) : w.heap.size ≤ gb102)); clear HB; have HB := n0_; have BK102 := n1_; have GW102 := n2_; have GE102 := n3_; clear n0_ n1_ n2_ n3_; clear hb hbox hg; have hcz6_0 : w5.cell? ⟨gb102, 0, none⟩ = some (.int .i32 a0_0) := (blk_cell BK102.out 0).trans rfl; have hcz6_1 : w5.cell? ⟨gb102, 1, none⟩ = some (.int .u32 a0_1) := (blk_cell BK102.out 1).trans rfl; have hcz6_2 : w5.cell? ⟨gb102, 2, none⟩ = some (.int .u32 a0_2) := (blk_cell BK102.out 2).trans rfl; have hfz6_0 := blk_frozen BK102.out 0; have hfz6_1 := blk_frozen BK102.out 1; have hfz6_2 := blk_frozen BK102.out 2))
    go_ret
    exact ⟨by first | rfl | (simp [errW_none, errW_some] <;> rfl) | (simp [*, errW_none, errW_some] <;> rfl), by repeat (first | (with_reducible first | exact HB.out | apply below_alloc | apply pw_below_drewN | apply below_drew1 | refine below_set ?_ GE102.out) | exact HB.out)⟩
  · rw [if_neg c4] at H
    have c4b0 : ((Go.bits .andNot .u32 a1 a0_1) == 0) = false := beq_eq_false_iff_ne.mpr c4
    have c4b1 : ((Go.bits .andNot .u32 a1 a0_1) != 0) = true := bne_iff_ne.mpr c4
    obtain rfl := Option.some.inj H
    go_enter Tryd.func82, Tryd.ntmps82
    go_wp2_with (first | ((with_reducible refine gate_dst (N := 3) rfl ?_); refine box_event ?hg (N := 3) ?hd (cs := #[.int .i32 a0_0, .int .u32 a0_1, .int .u32 a0_2]) (t := 84) ?hr ?_; (case hd => rfl); (case hg => rfl); (case hr => first | (go_simp; done) | (go_simp; rfl)); intro gb102 hg w7 hbox hb; have n0_ := Aside0.mk (below_step (by repeat (first | (with_reducible first | exact HB.out | apply below_alloc | apply pw_below_drewN | apply below_drew1) | exact HB.out)) hb); have n1_ := Aside0.mk (hbox); have n2_ := Aside0.mk ((by rw [hg]; exact (below_size (by repeat (first | (with_reducible first | exact HB.out | apply below_alloc | apply pw_below_drewN | apply below_drew1) | exact HB.out))) : w.heap.size ≤ gb102)); have n3_ := Aside0.mk ((by rw [hg]; exact (below_size (by repeat (first | (with_reducible first | exact HB.out | apply below_alloc | apply pw_below_drewN | apply below_drew1) | exact HB.out))) : w.heap.size ≤ gb102)); clear HB; have HB := n0_; have BK102 := n1_; have GW102 := n2_; have GE102 := n3_; clear n0_ n1_ n2_ n3_; clear hb hbox hg; have hcz8_0 : w7.cell? ⟨gb102, 0, none⟩ = some (.int .i32 a0_0) := (blk_cell BK102.out 0).trans rfl; have hcz8_1 : w7.cell? ⟨gb102, 1, none⟩ = some (.int .u32 a0_1) := (blk_cell BK102.out 1).trans rfl; have hcz8_2 : w7.cell? ⟨gb102, 2, none⟩ = some (.int .u32 a0_2) := (blk_cell BK102.out 2).trans rfl; have hfz8_0 := blk_frozen BK102.out 0; have hfz8_1 := blk_frozen BK102.out 1; have hfz8_2 := blk_frozen BK102.out 2))
    go_ret
    exact ⟨by first | rfl | (simp [errW_none, errW_some] <;> rfl) | (simp [*, errW_none, errW_some] <;> rfl), by repeat (first | (with_reducible first | exact HB.out | apply below_alloc | apply pw_below_drewN | apply below_drew1 | refine below_set ?_ GE102.out) | exact HB.out)⟩

/-! ### feature_Class: function 67 -/
def feature_Class.l0 : Nat → Int → Int → List Int → List (S84) → Int → Int → Option (List Int × Int)
  | 0, _, _, _, _, _, _ => none
  | k + 1, x1, x2, x9, x23, x24, x25 => if x25 < x24 then (if 0 ≤ x25 then (if x25 < (x23.length : Int) then ((feature_like.f ((rd_T84 x23 x25).f0) ((rd_T84 x23 x25).f1) ((rd_T84 x23 x25).f2) x1 x2).bind fun t108 => (if t108 = true then (if x9.length < 35184372088832 then (feature_Class.l0 k x1 x2 (x9 ++ [(rd_T84 x23 x25).f0]) x23 x24 (wrap64 (x25 + 1))) else (none)) else (feature_Class.l0 k x1 x2 x9 x23 x24 (wrap64 (x25 + 1))))) else (none)) else (none)) else (some (x9, 0))
def feature_Class.f (k : Nat) (l0_0 : List ByteArray) (l0_1 : List (S84)) (a1 : Int) (a2 : Int) : Option (List Int × Int) := (feature_Check.f l0_0 l0_1).bind fun t104 => (if t104 = 0 then ((feature_within.f l0_0 l0_1 a1 a2).bind fun t105 => (if t105 = true then (feature_Class.l0 k a1 a2 ([] : List Int) l0_1 (l0_1.length : Int) 0) else (some (([] : List Int), 20)))) else (some (([] : List Int), t104)))
set_option maxHeartbeats 8000000 in
set_option maxRecDepth 100000 in
theorem feature_Class.calls (k : Nat) (A0_0 : Option Addr) (c0_0 : Nat) (l0_0 : List ByteArray) (A0_1 : Option Addr) (c0_1 : Nat) (l0_1 : List (S84)) (a1 : Int) (a2 : Int) (r1 : List Int) (r2 : Int) (w : World) (hr0_0 : Kd.C Kd.string w A0_0 l0_0.length l0_0) (hc0_0 : l0_0.length ≤ c0_0) (hr0_1 : Kd.C k84 w A0_1 l0_1.length l0_1) (hc0_1 : l0_1.length ≤ c0_1) (h : feature_Class.f k l0_0 l0_1 a1 a2 = some (r1, r2)) :
    Calls Tryd.prog 67 #[.agg #[.slice A0_0 l0_0.length c0_0, .slice A0_1 l0_1.length c0_1], .int .u32 a1, .int .u32 a2] w fun e w' => ∃ v0_ : Value, e = .returned (.tuple #[v0_, .int .i64 r2]) ∧ Kd.R (Kd.int .i32) 21 w' w.heap.size (fun _ => True) v0_ r1 ∧ Below w.heap.size w w' := by
  have hu25 := Tryd.underlying25
  have hu84 := Tryd.underlying84
  have HR0_0 := Aside0.mk hr0_0
  have HC0_0 := Aside0.mk hc0_0
  clear hr0_0 hc0_0
  have HR0_1 := Aside0.mk hr0_1
  have HC0_1 := Aside0.mk hc0_1
  clear hr0_1 hc0_1
  have HB := Aside0.mk (Below.refl w.heap.size w)
  have H : ((feature_Check.f l0_0 l0_1).bind fun t104 => (if t104 = 0 then ((feature_within.f l0_0 l0_1 a1 a2).bind fun t105 => (if t105 = true then (feature_Class.l0 k a1 a2 ([] : List Int) l0_1 (l0_1.length : Int) 0) else (some (([] : List Int), 20)))) else (some (([] : List Int), t104)))) = some (r1, r2) := h
  clear h
  replace H := Option.bind_eq_some_iff.mp H
  obtain ⟨t104, A40, H⟩ := H
  replace H : (if t104 = 0 then ((feature_within.f l0_0 l0_1 a1 a2).bind fun t105 => (if t105 = true then (feature_Class.l0 k a1 a2 ([] : List Int) l0_1 (l0_1.length : Int) 0) else (some (([] : List Int), 20)))) else (some (([] : List Int), t104))) = some (r1, r2) := H
  have A4 := Aside0.mk A40
  clear A40
  by_cases c5 : t104 = 0
  · rw [if_pos c5] at H
    have c5b0 : (t104 == 0) = true := beq_iff_eq.mpr c5
    have c5b1 : (t104 != 0) = false := bne_eq_false_iff_eq.mpr c5
    clear c5
    replace H := Option.bind_eq_some_iff.mp H
    obtain ⟨t105, A60, H⟩ := H
    replace H : (if t105 = true then (feature_Class.l0 k a1 a2 ([] : List Int) l0_1 (l0_1.length : Int) 0) else (some (([] : List Int), 20))) = some (r1, r2) := H
    have A6 := Aside0.mk A60
    clear A60
    by_cases c7 : t105 = true
    · subst c7
      have H1 : (feature_Class.l0 k a1 a2 ([] : List Int) l0_1 (l0_1.length : Int) 0) = some (r1, r2) := by rw [if_pos rfl] at H; exact H
      clear H
      have H := H1
      clear H1
      have H' := Aside0.mk H
      clear H
      go_enter Tryd.func67, Tryd.ntmps67
      go_wp2_with (first | ((with_reducible refine gate_dst (N := 3) rfl ?_); refine box_event ?hg (N := 3) ?hd (cs := #[.slice A0_0 l0_0.length c0_0, .slice A0_1 l0_1.length c0_1]) (t := 25) ?hr ?_; (case hd => rfl); (case hg => rfl); (case hr => first | (go_simp; done) | (go_simp; rfl)); intro gb103 hg w8 hbox hb; have n0_ := Aside0.mk (below_step (by repeat (first | (with_reducible first | exact HB.out | apply below_alloc | apply pw_below_drewN | apply below_drew1) | exact HB.out)) hb); have n1_ := Aside0.mk (hbox); have n2_ := Aside0.mk ((by rw [hg]; exact (below_size (by repeat (first | (with_reducible first | exact HB.out | apply below_alloc | apply pw_below_drewN | apply below_drew1) | exact HB.out))) : w.heap.size ≤ gb103)); have n3_ := Aside0.mk ((by rw [hg]; exact (below_size (by repeat (first | (with_reducible first | exact HB.out | apply below_alloc | apply pw_below_drewN | apply below_drew1) | exact HB.out))) : w.heap.size ≤ gb103)); clear HB; have HB := n0_; have BK103 := n1_; have GW103 := n2_; have GE103 := n3_; clear n0_ n1_ n2_ n3_; clear hb hbox hg; have hcz9_0 : w8.cell? ⟨gb103, 0, none⟩ = some (.slice A0_0 l0_0.length c0_0) := (blk_cell BK103.out 0).trans rfl; have hcz9_1 : w8.cell? ⟨gb103, 1, none⟩ = some (.slice A0_1 l0_1.length c0_1) := (blk_cell BK103.out 1).trans rfl; have hfz9_0 := blk_frozen BK103.out 0; have hfz9_1 := blk_frozen BK103.out 1) | ((with_reducible refine gate_callee (f := 39) rfl ?_); refine goesL_ (some 13) rfl rfl Tryd.func39 (by kernel_rfl) rfl #[.agg #[.slice A0_0 l0_0.length c0_0, .slice A0_1 l0_1.length c0_1]] rfl (by (try simp only [List.map_toArray, List.map_cons, List.map_nil]); first | done | rfl | (simp only [List.length_drop, List.length_take]; rfl)) ?_; (with_reducible refine (feature_Check.calls _ _ l0_0 _ _ l0_1 t104 _ ?side1 ?side2 ?side3 ?side4 A4.out).mono ?_); (case side1 => repeat (first | exact (Kd.C_below HR0_0.out HB.out) | (with_reducible refine Kd.C_alloc ?_ _) | (with_reducible refine Kd.C_drewN ?_ _) | (with_reducible refine Kd.C_drew ?_))); (case side2 => exact HC0_0.out); (case side3 => repeat (first | exact (Kd.C_below HR0_1.out HB.out) | (with_reducible refine Kd.C_alloc ?_ _) | (with_reducible refine Kd.C_drewN ?_ _) | (with_reducible refine Kd.C_drew ?_))); (case side4 => exact HC0_1.out); rintro e w10 ⟨rfl, hb⟩; refine ⟨_, rfl, ?_⟩; have n0_ := Aside0.mk (blk_below (g := gb103) (o := .cells #[.slice A0_0 l0_0.length c0_0, .slice A0_1 l0_1.length c0_1] 25 (0, 0)) (by (with_reducible repeat (first | refine blk_drewN ?_ _ | refine blk_drew ?_ | refine blk_alloc ?_ _)); exact BK103.out) hb); have n1_ := Aside0.mk (below_step (by repeat (first | (with_reducible first | exact HB.out | apply below_alloc | apply pw_below_drewN | apply below_drew1 | refine below_set ?_ GE103.out) | exact HB.out)) hb); clear BK103; clear HB; have BK103 := n0_; have HB := n1_; clear n0_ n1_; (try clear hb); (try clear hb2); (try clear hk); (try clear hi); have hcz11_0 : w10.cell? ⟨gb103, 0, none⟩ = some (.slice A0_0 l0_0.length c0_0) := (blk_cell BK103.out 0).trans rfl; have hcz11_1 : w10.cell? ⟨gb103, 1, none⟩ = some (.slice A0_1 l0_1.length c0_1) := (blk_cell BK103.out 1).trans rfl; have hfz11_0 := blk_frozen BK103.out 0; have hfz11_1 := blk_frozen BK103.out 1) | ((with_reducible refine gate_callee (f := 60) rfl ?_); refine goesL_ (some 20) rfl rfl Tryd.func60 (by kernel_rfl) rfl #[.agg #[.slice A0_0 l0_0.length c0_0, .slice A0_1 l0_1.length c0_1], .int .u32 a1, .int .u32 a2] rfl (by (try simp only [List.map_toArray, List.map_cons, List.map_nil]); first | done | rfl | (simp only [List.length_drop, List.length_take]; rfl)) ?_; (with_reducible refine (feature_within.calls _ _ l0_0 _ _ l0_1 a1 a2 true _ ?side1 ?side2 ?side3 ?side4 A6.out).mono ?_); (case side1 => repeat (first | exact (Kd.C_below HR0_0.out HB.out) | (with_reducible refine Kd.C_alloc ?_ _) | (with_reducible refine Kd.C_drewN ?_ _) | (with_reducible refine Kd.C_drew ?_))); (case side2 => exact HC0_0.out); (case side3 => repeat (first | exact (Kd.C_below HR0_1.out HB.out) | (with_reducible refine Kd.C_alloc ?_ _) | (with_reducible refine Kd.C_drewN ?_ _) | (with_reducible refine Kd.C_drew ?_))); (case side4 => exact HC0_1.out); rintro e w12 ⟨rfl, hb⟩; refine ⟨_, rfl, ?_⟩; have n0_ := Aside0.mk (blk_below (g := gb103) (o := .cells #[.slice A0_0 l0_0.length c0_0, .slice A0_1 l0_1.length c0_1] 25 (0, 0)) (by (with_reducible repeat (first | refine blk_drewN ?_ _ | refine blk_drew ?_ | refine blk_alloc ?_ _)); exact BK103.out) hb); have n1_ := Aside0.mk (below_step (by repeat (first | (with_reducible first | exact HB.out | apply below_alloc | apply pw_below_drewN | apply below_drew1 | refine below_set ?_ GE103.out) | exact HB.out)) hb); clear BK103; clear HB; have BK103 := n0_; have HB := n1_; clear n0_ n1_; (try clear hb); (try clear hb2); (try clear hk); (try clear hi); have hcz13_0 : w12.cell? ⟨gb103, 0, none⟩ = some (.slice A0_0 l0_0.length c0_0) := (blk_cell BK103.out 0).trans rfl; have hcz13_1 : w12.cell? ⟨gb103, 1, none⟩ = some (.slice A0_1 l0_1.length c0_1) := (blk_cell BK103.out 1).trans rfl; have hfz13_0 := blk_frozen BK103.out 0; have hfz13_1 := blk_frozen BK103.out 1))
      go_loopg [9, 25] k (fun kq v9 v25 w' => ∃ (x9_1 : List Int) (x25_1 : Int), v25 = .int .i64 x25_1 ∧ Aside0 (feature_Class.l0 kq a1 a2 x9_1 l0_1 (l0_1.length : Int) x25_1 = some (r1, r2)) ∧ Aside0 (kq ≤ k) ∧ Aside0 (Kd.R (Kd.int .i32) 21 w' w.heap.size (fun _ => True) v9 x9_1) ∧ Aside0 (w'.heap[gb103]? = some (.cells #[(.slice A0_0 l0_0.length c0_0), (.slice A0_1 l0_1.length c0_1)] 25 (0, 0))) ∧ Aside0 (Below w.heap.size w w'))
      case atStart => exact ⟨(([] : List Int)), (0), (by first | rfl | (simp; done) | (simp [*]; done)), H', ⟨Nat.le_refl _⟩, ⟨by first | exact Kd.R_nil _ _ _ _ _ | exact Kd.N_nil _ _ _ _ _ | exact Kd.V_nil _ _ _ _ _ | exact Kd.Q_nil _ _ _ _ _ | exact Kd.S_nil _ _ _ _ _⟩, ⟨by (with_reducible repeat (first | refine blk_drewN ?_ _ | refine blk_drew ?_ | refine blk_alloc ?_ _)); exact BK103.out⟩, ⟨by repeat (first | (with_reducible first | exact HB.out | apply below_alloc | apply pw_below_drewN | apply below_drew1 | refine below_set ?_ GE103.out) | exact HB.out)⟩⟩
      case round =>
        clear H'
        try clear p2
        try clear c3
        try clear c5
        try clear c5b0
        try clear c5b1
        try clear c6
        try clear c7
        try clear hcz11_0
        try clear hcz11_1
        try clear hcz13_0
        try clear hcz13_1
        try clear hcz9_0
        try clear hcz9_1
        try clear hfz11_0
        try clear hfz11_1
        try clear hfz13_0
        try clear hfz13_1
        try clear hfz9_0
        try clear hfz9_1
        obtain ⟨x9_1, x25_1, rfl, HA, HK1, HO_9, BK103, HB⟩ := hrel
        cases gk with
        | zero => exact absurd HA.out (by simp [feature_Class.l0])
        | succ k1 =>
          have H := HA.out
          clear HA
          simp only [feature_Class.l0] at H
          by_cases c14 : x25_1 < (l0_1.length : Int)
          · rw [if_pos c14] at H
            have c14b0 : decide (x25_1 < (l0_1.length : Int)) = true := decide_eq_true c14
            clear c14
            by_cases c15 : 0 ≤ x25_1
            · rw [if_pos c15] at H
              have c15b0 : decide (0 ≤ x25_1) = true := decide_eq_true c15
              clear c15
              by_cases c16 : x25_1 < (l0_1.length : Int)
              · rw [if_pos c16] at H
                have c16b0 : decide (x25_1 < (l0_1.length : Int)) = true := decide_eq_true c16
                clear c16
                replace H := Option.bind_eq_some_iff.mp H
                obtain ⟨t108, A170, H⟩ := H
                replace H : (if t108 = true then (if x9_1.length < 35184372088832 then (feature_Class.l0 k1 a1 a2 (x9_1 ++ [(rd_T84 l0_1 x25_1).f0]) l0_1 (l0_1.length : Int) (wrap64 (x25_1 + 1))) else (none)) else (feature_Class.l0 k1 a1 a2 x9_1 l0_1 (l0_1.length : Int) (wrap64 (x25_1 + 1)))) = some (r1, r2) := H
                have A17 := Aside0.mk A170
                clear A170
                by_cases c18 : t108 = true
                · subst c18
                  have H1 : (if x9_1.length < 35184372088832 then (feature_Class.l0 k1 a1 a2 (x9_1 ++ [(rd_T84 l0_1 x25_1).f0]) l0_1 (l0_1.length : Int) (wrap64 (x25_1 + 1))) else (none)) = some (r1, r2) := by rw [if_pos rfl] at H; exact H
                  clear H
                  have H := H1
                  clear H1
                  by_cases c19 : x9_1.length < 35184372088832
                  · rw [if_pos c19] at H
                    have LMc19 := Aside0.mk c19
                    clear c19
                    obtain ⟨y109, hy109⟩ : ∃ y_ : List Int, y_ = (x9_1 ++ [(rd_T84 l0_1 x25_1).f0]) := ⟨_, rfl⟩
                    replace H : (feature_Class.l0 k1 a1 a2 y109 l0_1 (l0_1.length : Int) (wrap64 (x25_1 + 1))) = some (r1, r2) := by first | (rw [hy109]; with_reducible exact H) | (have H2_ := (Option.bind_some _ _).symm.trans H; rw [hy109]; with_reducible exact H2_) | (have H2_ := (Option.bind_some _ _).symm.trans H; with_reducible exact H2_) | with_reducible exact H | (rw [hy109]; exact H) | exact H
                    have Ny109 := Aside0.mk hy109
                    clear hy109
                    have H' := Aside0.mk H
                    clear H
                    have p106 : 0 ≤ (x25_1 : Int) := of_decide_eq_true (by first | (with_reducible assumption) | assumption)
                    have q106 : x25_1 < (l0_1.length : Int) := of_decide_eq_true (by first | (with_reducible assumption) | assumption)
                    obtain ⟨ad106, e106, hx106_0, hx106_1, hx106_2⟩ := at_T84 HR0_1.out x25_1 p106 q106
                    cases e106
                    replace hx106_0 := (HB.out.cell (World.block_lt_of_cell? w _ hx106_0)).trans hx106_0
                    replace hx106_1 := (HB.out.cell (World.block_lt_of_cell? w _ hx106_1)).trans hx106_1
                    replace hx106_2 := (HB.out.cell (World.block_lt_of_cell? w _ hx106_2)).trans hx106_2
                    replace p106 := eq_true p106
                    replace q106 := eq_true q106
                    go_wp2_with (first | ((with_reducible refine gate_dst (N := 11) rfl ?_); refine box_event ?hg (N := 11) ?hd (cs := #[.int .i32 0, .int .u32 0, .int .u32 0]) (t := 84) ?hr ?_; (case hd => rfl); (case hg => rfl); (case hr => first | (go_simp; done) | (go_simp; rfl)); intro gb107 hg w20 hbox hb; have n0_ := Aside0.mk (Kd.R_below (by (with_reducible repeat (first | apply Kd.R_alloc | apply Kd.R_drewN | apply Kd.R_drew)); exact HO_9.out) hb); have n1_ := Aside0.mk (blk_below (g := gb103) (o := .cells #[.slice A0_0 l0_0.length c0_0, .slice (some ad106) l0_1.length c0_1] 25 (0, 0)) (by (with_reducible repeat (first | refine blk_drewN ?_ _ | refine blk_drew ?_ | refine blk_alloc ?_ _)); exact BK103.out) hb); have n2_ := Aside0.mk (below_step (by repeat (first | (with_reducible first | exact HB.out | apply below_alloc | apply pw_below_drewN | apply below_drew1 | refine below_set ?_ GE103.out) | exact HB.out)) hb); have n3_ := Aside0.mk (hbox); have n4_ := Aside0.mk ((by rw [hg]; exact (below_size (by repeat (first | (with_reducible first | exact HB.out | apply below_alloc | apply pw_below_drewN | apply below_drew1 | refine below_set ?_ GE103.out) | exact HB.out))) : w.heap.size ≤ gb107)); have n5_ := Aside0.mk ((by rw [hg]; exact (below_size (by repeat (first | (with_reducible first | exact HB.out | apply below_alloc | apply pw_below_drewN | apply below_drew1 | refine below_set ?_ GE103.out) | exact HB.out))) : w.heap.size ≤ gb107)); have n6_ := Aside0.mk ((by rw [hg]; exact Nat.ne_of_lt (blk_lt (g := gb103) (o := .cells #[.slice A0_0 l0_0.length c0_0, .slice (some ad106) l0_1.length c0_1] 25 (0, 0)) (by (with_reducible repeat (first | refine blk_drewN ?_ _ | refine blk_drew ?_ | refine blk_alloc ?_ _)); exact BK103.out)) : gb103 ≠ gb107)); have n7_ := Aside0.mk ((by rw [hg]; exact Nat.ne_of_gt (blk_lt (g := gb103) (o := .cells #[.slice A0_0 l0_0.length c0_0, .slice (some ad106) l0_1.length c0_1] 25 (0, 0)) (by (with_reducible repeat (first | refine blk_drewN ?_ _ | refine blk_drew ?_ | refine blk_alloc ?_ _)); exact BK103.out)) : gb107 ≠ gb103)); clear HO_9; clear BK103; clear HB; have HO_9 := n0_; have BK103 := n1_; have HB := n2_; have BK107 := n3_; have GW107 := n4_; have GE107 := n5_; have NB103_107 := n6_; have NB107_103 := n7_; clear n0_ n1_ n2_ n3_ n4_ n5_ n6_ n7_; clear hb hbox hg; have hnb21 := NB107_103.out; have hnc21 := NB103_107.out; have hcz22_0 : w20.cell? ⟨gb107, 0, none⟩ = some (.int .i32 0) := (blk_cell BK107.out 0).trans rfl; have hcz22_1 : w20.cell? ⟨gb107, 1, none⟩ = some (.int .u32 0) := (blk_cell BK107.out 1).trans rfl; have hcz22_2 : w20.cell? ⟨gb107, 2, none⟩ = some (.int .u32 0) := (blk_cell BK107.out 2).trans rfl; have hfz22_0 := blk_frozen BK107.out 0; have hfz22_1 := blk_frozen BK107.out 1; have hfz22_2 := blk_frozen BK107.out 2) | ((with_reducible refine gate_callee (f := 82) rfl ?_); refine goesL_ (some 32) rfl rfl Tryd.func82 (by kernel_rfl) rfl #[.agg #[.int .i32 ((rd_T84 l0_1 x25_1).f0), .int .u32 ((rd_T84 l0_1 x25_1).f1), .int .u32 ((rd_T84 l0_1 x25_1).f2)], .int .u32 a1, .int .u32 a2] rfl (by (try simp only [List.map_toArray, List.map_cons, List.map_nil]); first | done | rfl | (simp only [List.length_drop, List.length_take]; rfl)) ?_; (with_reducible refine (feature_like.calls ((rd_T84 l0_1 x25_1).f0) ((rd_T84 l0_1 x25_1).f1) ((rd_T84 l0_1 x25_1).f2) a1 a2 true _ A17.out).mono ?_); rintro e w23 ⟨rfl, hb⟩; refine ⟨_, rfl, ?_⟩; have n0_ := Aside0.mk (Kd.R_below (by (with_reducible repeat (first | apply Kd.R_alloc | apply Kd.R_drewN | apply Kd.R_drew)); exact (Kd.R_mono (Kd.R_far (p := ⟨gb107, 2, none⟩) (Kd.R_far (p := ⟨gb107, 1, none⟩) (Kd.R_far (p := ⟨gb107, 0, none⟩) (Kd.R_types HO_9.out BK107.out (by decide)) (fun _ hk => hk.2) (.int .i32 ((rd_T84 l0_1 x25_1).f0))) (fun _ hk => hk.2) (.int .u32 ((rd_T84 l0_1 x25_1).f1))) (fun _ hk => hk.2) (.int .u32 ((rd_T84 l0_1 x25_1).f2))) (fun _ h_ => h_.1))) hb); have n1_ := Aside0.mk (blk_below (g := gb103) (o := .cells #[.slice A0_0 l0_0.length c0_0, .slice (some ad106) l0_1.length c0_1] 25 (0, 0)) (by (with_reducible repeat (first | refine blk_drewN ?_ _ | refine blk_drew ?_ | refine blk_alloc ?_ _)); refine blk_far ?_ NB103_107.out _; (with_reducible repeat (first | refine blk_drewN ?_ _ | refine blk_drew ?_ | refine blk_alloc ?_ _)); refine blk_far ?_ NB103_107.out _; (with_reducible repeat (first | refine blk_drewN ?_ _ | refine blk_drew ?_ | refine blk_alloc ?_ _)); refine blk_far ?_ NB103_107.out _; (with_reducible repeat (first | refine blk_drewN ?_ _ | refine blk_drew ?_ | refine blk_alloc ?_ _)); exact BK103.out) hb); have n2_ := Aside0.mk (blk_below (g := gb107) (o := .cells #[.int .i32 ((rd_T84 l0_1 x25_1).f0), .int .u32 ((rd_T84 l0_1 x25_1).f1), .int .u32 ((rd_T84 l0_1 x25_1).f2)] 84 (0, 0)) (by (with_reducible repeat (first | refine blk_drewN ?_ _ | refine blk_drew ?_ | refine blk_alloc ?_ _)); refine blk_put (cs := #[.int .i32 ((rd_T84 l0_1 x25_1).f0), .int .u32 ((rd_T84 l0_1 x25_1).f1), .int .u32 0]) ?_ 2 _ rfl; (with_reducible repeat (first | refine blk_drewN ?_ _ | refine blk_drew ?_ | refine blk_alloc ?_ _)); refine blk_put (cs := #[.int .i32 ((rd_T84 l0_1 x25_1).f0), .int .u32 0, .int .u32 0]) ?_ 1 _ rfl; (with_reducible repeat (first | refine blk_drewN ?_ _ | refine blk_drew ?_ | refine blk_alloc ?_ _)); refine blk_put (cs := #[.int .i32 0, .int .u32 0, .int .u32 0]) ?_ 0 _ rfl; (with_reducible repeat (first | refine blk_drewN ?_ _ | refine blk_drew ?_ | refine blk_alloc ?_ _)); exact BK107.out) hb); have n3_ := Aside0.mk (below_step (by repeat (first | (with_reducible first | exact HB.out | apply below_alloc | apply pw_below_drewN | apply below_drew1 | refine below_set ?_ GE103.out | refine below_set ?_ GE107.out) | exact HB.out)) hb); clear HO_9; clear BK103; clear BK107; clear HB; have HO_9 := n0_; have BK103 := n1_; have BK107 := n2_; have HB := n3_; clear n0_ n1_ n2_ n3_; (try clear hb); (try clear hb2); (try clear hk); (try clear hi); have hcz24_0 : w23.cell? ⟨gb107, 0, none⟩ = some (.int .i32 ((rd_T84 l0_1 x25_1).f0)) := (blk_cell BK107.out 0).trans rfl; have hcz24_1 : w23.cell? ⟨gb107, 1, none⟩ = some (.int .u32 ((rd_T84 l0_1 x25_1).f1)) := (blk_cell BK107.out 1).trans rfl; have hcz24_2 : w23.cell? ⟨gb107, 2, none⟩ = some (.int .u32 ((rd_T84 l0_1 x25_1).f2)) := (blk_cell BK107.out 2).trans rfl; have hfz24_0 := blk_frozen BK107.out 0; have hfz24_1 := blk_frozen BK107.out 1; have hfz24_2 := blk_frozen BK107.out 2) | ((with_reducible refine gate_builtin (b := .append) (xs := #[.tmp 33, .tmp 36]) rfl ?_); at_builtin; refine Kd.R_append (Kd.int .i32) (w0 := w) w.heap.size rfl (.tmp 33) (.tmp 36) 73 21 (.int .i32 0) 4 rfl Tryd.underlying73 info21 rfl (by decide) (by omega) u9 x9_1 ((rd_T84 l0_1 x25_1).f0) [.int .i32 ((rd_T84 l0_1 x25_1).f0)] (fun _ => True) (fun _ => False) rfl rfl ?aP (fun _ hk => hk.elim) ?aF ?aO ?aB ?aS ?aL ?_; (case aP => exact rfl); (case aB => exact (by repeat (first | (with_reducible first | exact HB.out | apply below_alloc | apply pw_below_drewN | apply below_drew1 | refine below_set ?_ GE103.out | refine below_set ?_ GE107.out) | exact HB.out))); (case aF => exact (fun _ _ => trivial)); (case aO => exact (by (with_reducible repeat (first | apply Kd.R_alloc | apply Kd.R_drewN | apply Kd.R_drew)); exact HO_9.out)); (case aS => exact (below_size (by repeat (first | (with_reducible first | exact HB.out | apply below_alloc | apply pw_below_drewN | apply below_drew1 | refine below_set ?_ GE103.out | refine below_set ?_ GE107.out) | exact HB.out)))); (case aL => have := LMc19.out; omega); intro v110 w25 ho hb hg hat; rw [← Ny109.out] at ho; have n0_ := Aside0.mk (blk_grown (g := gb103) (o := .cells #[.slice A0_0 l0_0.length c0_0, .slice (some ad106) l0_1.length c0_1] 25 (0, 0)) (by (with_reducible repeat (first | refine blk_drewN ?_ _ | refine blk_drew ?_ | refine blk_alloc ?_ _)); exact BK103.out) hg (Kd.R_ne HO_9.out BK103.out (by decide))); have n1_ := Aside0.mk (blk_grown (g := gb107) (o := .cells #[.int .i32 ((rd_T84 l0_1 x25_1).f0), .int .u32 ((rd_T84 l0_1 x25_1).f1), .int .u32 ((rd_T84 l0_1 x25_1).f2)] 84 (0, 0)) (by (with_reducible repeat (first | refine blk_drewN ?_ _ | refine blk_drew ?_ | refine blk_alloc ?_ _)); exact BK107.out) hg (Kd.R_ne HO_9.out BK107.out (by decide))); have n2_ := Aside0.mk (hb); have n3_ := Aside0.mk (ho); clear BK103; clear BK107; clear HB; clear HO_9; have BK103 := n0_; have BK107 := n1_; have HB := n2_; have HO111 := n3_; clear n0_ n1_ n2_ n3_; clear ho hb hg hat))
                    go_roundg k1
                    case measure => have := HK1.out; omega
                    case rel => exact ⟨(y109), (wrap64 (x25_1 + 1)), (by first | rfl | (simp; done) | (simp [*]; done)), H', ⟨by have := HK1.out; omega⟩, ⟨by (with_reducible repeat (first | apply Kd.R_alloc | apply Kd.R_drewN | apply Kd.R_drew)); exact HO111.out⟩, ⟨by (with_reducible repeat (first | refine blk_drewN ?_ _ | refine blk_drew ?_ | refine blk_alloc ?_ _)); exact BK103.out⟩, ⟨by repeat (first | (with_reducible first | exact HB.out | apply below_alloc | apply pw_below_drewN | apply below_drew1 | refine below_set ?_ GE103.out | refine below_set ?_ GE107.out) | exact HB.out)⟩⟩
                  · rw [if_neg c19] at H
                    exact absurd H (by simp)
                · replace c18 := Bool.eq_false_iff.mpr c18
                  subst c18
                  have H1 : (feature_Class.l0 k1 a1 a2 x9_1 l0_1 (l0_1.length : Int) (wrap64 (x25_1 + 1))) = some (r1, r2) := by rw [if_neg (show ¬ (false = true) by decide)] at H; exact H
                  clear H
                  have H := H1
                  clear H1
                  have H' := Aside0.mk H
                  clear H
                  have p106 : 0 ≤ (x25_1 : Int) := of_decide_eq_true (by first | (with_reducible assumption) | assumption)
                  have q106 : x25_1 < (l0_1.length : Int) := of_decide_eq_true (by first | (with_reducible assumption) | assumption)
                  obtain ⟨ad106, e106, hx106_0, hx106_1, hx106_2⟩ := at_T84 HR0_1.out x25_1 p106 q106
                  cases e106
                  replace hx106_0 := (HB.out.cell (World.block_lt_of_cell? w _ hx106_0)).trans hx106_0
                  replace hx106_1 := (HB.out.cell (World.block_lt_of_cell? w _ hx106_1)).trans hx106_1
                  replace hx106_2 := (HB.out.cell (World.block_lt_of_cell? w _ hx106_2)).trans hx106_2
                  replace p106 := eq_true p106
                  replace q106 := eq_true q106
                  go_wp2_with (first | ((with_reducible refine gate_dst (N := 11) rfl ?_); refine box_event ?hg (N := 11) ?hd (cs := #[.int .i32 0, .int .u32 0, .int .u32 0]) (t := 84) ?hr ?_; (case hd => rfl); (case hg => rfl); (case hr => first | (go_simp; done) | (go_simp; rfl)); intro gb107 hg w26 hbox hb; have n0_ := Aside0.mk (Kd.R_below (by (with_reducible repeat (first | apply Kd.R_alloc | apply Kd.R_drewN | apply Kd.R_drew)); exact HO_9.out) hb); have n1_ := Aside0.mk (blk_below (g := gb103) (o := .cells #[.slice A0_0 l0_0.length c0_0, .slice (some ad106) l0_1.length c0_1] 25 (0, 0)) (by (with_reducible repeat (first | refine blk_drewN ?_ _ | refine blk_drew ?_ | refine blk_alloc ?_ _)); exact BK103.out) hb); have n2_ := Aside0.mk (below_step (by repeat (first | (with_reducible first | exact HB.out | apply below_alloc | apply pw_below_drewN | apply below_drew1 | refine below_set ?_ GE103.out) | exact HB.out)) hb); have n3_ := Aside0.mk (hbox); have n4_ := Aside0.mk ((by rw [hg]; exact (below_size (by repeat (first | (with_reducible first | exact HB.out | apply below_alloc | apply pw_below_drewN | apply below_drew1 | refine below_set ?_ GE103.out) | exact HB.out))) : w.heap.size ≤ gb107)); have n5_ := Aside0.mk ((by rw [hg]; exact (below_size (by repeat (first | (with_reducible first | exact HB.out | apply below_alloc | apply pw_below_drewN | apply below_drew1 | refine below_set ?_ GE103.out) | exact HB.out))) : w.heap.size ≤ gb107)); have n6_ := Aside0.mk ((by rw [hg]; exact Nat.ne_of_lt (blk_lt (g := gb103) (o := .cells #[.slice A0_0 l0_0.length c0_0, .slice (some ad106) l0_1.length c0_1] 25 (0, 0)) (by (with_reducible repeat (first | refine blk_drewN ?_ _ | refine blk_drew ?_ | refine blk_alloc ?_ _)); exact BK103.out)) : gb103 ≠ gb107)); have n7_ := Aside0.mk ((by rw [hg]; exact Nat.ne_of_gt (blk_lt (g := gb103) (o := .cells #[.slice A0_0 l0_0.length c0_0, .slice (some ad106) l0_1.length c0_1] 25 (0, 0)) (by (with_reducible repeat (first | refine blk_drewN ?_ _ | refine blk_drew ?_ | refine blk_alloc ?_ _)); exact BK103.out)) : gb107 ≠ gb103)); clear HO_9; clear BK103; clear HB; have HO_9 := n0_; have BK103 := n1_; have HB := n2_; have BK107 := n3_; have GW107 := n4_; have GE107 := n5_; have NB103_107 := n6_; have NB107_103 := n7_; clear n0_ n1_ n2_ n3_ n4_ n5_ n6_ n7_; clear hb hbox hg; have hnb27 := NB107_103.out; have hnc27 := NB103_107.out; have hcz28_0 : w26.cell? ⟨gb107, 0, none⟩ = some (.int .i32 0) := (blk_cell BK107.out 0).trans rfl; have hcz28_1 : w26.cell? ⟨gb107, 1, none⟩ = some (.int .u32 0) := (blk_cell BK107.out 1).trans rfl; have hcz28_2 : w26.cell? ⟨gb107, 2, none⟩ = some (.int .u32 0) := (blk_cell BK107.out 2).trans rfl; have hfz28_0 := blk_frozen BK107.out 0; have hfz28_1 := blk_frozen BK107.out 1; have hfz28_2 := blk_frozen BK107.out 2) | ((with_reducible refine gate_callee (f := 82) rfl ?_); refine goesL_ (some 32) rfl rfl Tryd.func82 (by kernel_rfl) rfl #[.agg #[.int .i32 ((rd_T84 l0_1 x25_1).f0), .int .u32 ((rd_T84 l0_1 x25_1).f1), .int .u32 ((rd_T84 l0_1 x25_1).f2)], .int .u32 a1, .int .u32 a2] rfl (by (try simp only [List.map_toArray, List.map_cons, List.map_nil]); first | done | rfl | (simp only [List.length_drop, List.length_take]; rfl)) ?_; (with_reducible refine (feature_like.calls ((rd_T84 l0_1 x25_1).f0) ((rd_T84 l0_1 x25_1).f1) ((rd_T84 l0_1 x25_1).f2) a1 a2 false _ A17.out).mono ?_); rintro e w29 ⟨rfl, hb⟩; refine ⟨_, rfl, ?_⟩; have n0_ := Aside0.mk (Kd.R_below (by (with_reducible repeat (first | apply Kd.R_alloc | apply Kd.R_drewN | apply Kd.R_drew)); exact (Kd.R_mono (Kd.R_far (p := ⟨gb107, 2, none⟩) (Kd.R_far (p := ⟨gb107, 1, none⟩) (Kd.R_far (p := ⟨gb107, 0, none⟩) (Kd.R_types HO_9.out BK107.out (by decide)) (fun _ hk => hk.2) (.int .i32 ((rd_T84 l0_1 x25_1).f0))) (fun _ hk => hk.2) (.int .u32 ((rd_T84 l0_1 x25_1).f1))) (fun _ hk => hk.2) (.int .u32 ((rd_T84 l0_1 x25_1).f2))) (fun _ h_ => h_.1))) hb); have n1_ := Aside0.mk (blk_below (g := gb103) (o := .cells #[.slice A0_0 l0_0.length c0_0, .slice (some ad106) l0_1.length c0_1] 25 (0, 0)) (by (with_reducible repeat (first | refine blk_drewN ?_ _ | refine blk_drew ?_ | refine blk_alloc ?_ _)); refine blk_far ?_ NB103_107.out _; (with_reducible repeat (first | refine blk_drewN ?_ _ | refine blk_drew ?_ | refine blk_alloc ?_ _)); refine blk_far ?_ NB103_107.out _; (with_reducible repeat (first | refine blk_drewN ?_ _ | refine blk_drew ?_ | refine blk_alloc ?_ _)); refine blk_far ?_ NB103_107.out _; (with_reducible repeat (first | refine blk_drewN ?_ _ | refine blk_drew ?_ | refine blk_alloc ?_ _)); exact BK103.out) hb); have n2_ := Aside0.mk (blk_below (g := gb107) (o := .cells #[.int .i32 ((rd_T84 l0_1 x25_1).f0), .int .u32 ((rd_T84 l0_1 x25_1).f1), .int .u32 ((rd_T84 l0_1 x25_1).f2)] 84 (0, 0)) (by (with_reducible repeat (first | refine blk_drewN ?_ _ | refine blk_drew ?_ | refine blk_alloc ?_ _)); refine blk_put (cs := #[.int .i32 ((rd_T84 l0_1 x25_1).f0), .int .u32 ((rd_T84 l0_1 x25_1).f1), .int .u32 0]) ?_ 2 _ rfl; (with_reducible repeat (first | refine blk_drewN ?_ _ | refine blk_drew ?_ | refine blk_alloc ?_ _)); refine blk_put (cs := #[.int .i32 ((rd_T84 l0_1 x25_1).f0), .int .u32 0, .int .u32 0]) ?_ 1 _ rfl; (with_reducible repeat (first | refine blk_drewN ?_ _ | refine blk_drew ?_ | refine blk_alloc ?_ _)); refine blk_put (cs := #[.int .i32 0, .int .u32 0, .int .u32 0]) ?_ 0 _ rfl; (with_reducible repeat (first | refine blk_drewN ?_ _ | refine blk_drew ?_ | refine blk_alloc ?_ _)); exact BK107.out) hb); have n3_ := Aside0.mk (below_step (by repeat (first | (with_reducible first | exact HB.out | apply below_alloc | apply pw_below_drewN | apply below_drew1 | refine below_set ?_ GE103.out | refine below_set ?_ GE107.out) | exact HB.out)) hb); clear HO_9; clear BK103; clear BK107; clear HB; have HO_9 := n0_; have BK103 := n1_; have BK107 := n2_; have HB := n3_; clear n0_ n1_ n2_ n3_; (try clear hb); (try clear hb2); (try clear hk); (try clear hi)))
                  go_roundg k1
                  case measure => have := HK1.out; omega
                  case rel => exact ⟨(x9_1), (wrap64 (x25_1 + 1)), (by first | rfl | (simp; done) | (simp [*]; done)), H', ⟨by have := HK1.out; omega⟩, ⟨by (with_reducible repeat (first | apply Kd.R_alloc | apply Kd.R_drewN | apply Kd.R_drew)); exact HO_9.out⟩, ⟨by (with_reducible repeat (first | refine blk_drewN ?_ _ | refine blk_drew ?_ | refine blk_alloc ?_ _)); exact BK103.out⟩, ⟨by repeat (first | (with_reducible first | exact HB.out | apply below_alloc | apply pw_below_drewN | apply below_drew1 | refine below_set ?_ GE103.out | refine below_set ?_ GE107.out) | exact HB.out)⟩⟩
              · rw [if_neg c16] at H
                exact absurd H (by simp)
            · rw [if_neg c15] at H
              exact absurd H (by simp)
          · rw [if_neg c14] at H
            have c14b0 : decide (x25_1 < (l0_1.length : Int)) = false := decide_eq_false c14
            clear c14
            simp only [Option.some.injEq, Prod.mk.injEq] at H
            obtain ⟨rfl, rfl⟩ := H
            go_wp2
            go_ret2
            exact ⟨_, by first | rfl | (simp [errW_none, errW_some] <;> rfl) | (simp [*, errW_none, errW_some] <;> rfl), by (with_reducible repeat (first | apply Kd.R_alloc | apply Kd.R_drewN | apply Kd.R_drew)); exact HO_9.out, by repeat (first | (with_reducible first | exact HB.out | apply below_alloc | apply pw_below_drewN | apply below_drew1 | refine below_set ?_ GE103.out) | exact HB.out)⟩
    · replace c7 := Bool.eq_false_iff.mpr c7
      subst c7
      have H1 : (some (([] : List Int), 20)) = some (r1, r2) := by rw [if_neg (show ¬ (false = true) by decide)] at H; exact H
      clear H
      have H := H1
      clear H1
      simp only [Option.some.injEq, Prod.mk.injEq] at H
      obtain ⟨rfl, rfl⟩ := H
      go_enter Tryd.func67, Tryd.ntmps67
      go_wp2_with (first | ((with_reducible refine gate_dst (N := 3) rfl ?_); refine box_event ?hg (N := 3) ?hd (cs := #[.slice A0_0 l0_0.length c0_0, .slice A0_1 l0_1.length c0_1]) (t := 25) ?hr ?_; (case hd => rfl); (case hg => rfl); (case hr => first | (go_simp; done) | (go_simp; rfl)); intro gb103 hg w30 hbox hb; have n0_ := Aside0.mk (below_step (by repeat (first | (with_reducible first | exact HB.out | apply below_alloc | apply pw_below_drewN | apply below_drew1) | exact HB.out)) hb); have n1_ := Aside0.mk (hbox); have n2_ := Aside0.mk ((by rw [hg]; exact (below_size (by repeat (first | (with_reducible first | exact HB.out | apply below_alloc | apply pw_below_drewN | apply below_drew1) | exact HB.out))) : w.heap.size ≤ gb103)); have n3_ := Aside0.mk ((by rw [hg]; exact (below_size (by repeat (first | (with_reducible first | exact HB.out | apply below_alloc | apply pw_below_drewN | apply below_drew1) | exact HB.out))) : w.heap.size ≤ gb103)); clear HB; have HB := n0_; have BK103 := n1_; have GW103 := n2_; have GE103 := n3_; clear n0_ n1_ n2_ n3_; clear hb hbox hg; have hcz31_0 : w30.cell? ⟨gb103, 0, none⟩ = some (.slice A0_0 l0_0.length c0_0) := (blk_cell BK103.out 0).trans rfl; have hcz31_1 : w30.cell? ⟨gb103, 1, none⟩ = some (.slice A0_1 l0_1.length c0_1) := (blk_cell BK103.out 1).trans rfl; have hfz31_0 := blk_frozen BK103.out 0; have hfz31_1 := blk_frozen BK103.out 1) | ((with_reducible refine gate_callee (f := 39) rfl ?_); refine goesL_ (some 13) rfl rfl Tryd.func39 (by kernel_rfl) rfl #[.agg #[.slice A0_0 l0_0.length c0_0, .slice A0_1 l0_1.length c0_1]] rfl (by (try simp only [List.map_toArray, List.map_cons, List.map_nil]); first | done | rfl | (simp only [List.length_drop, List.length_take]; rfl)) ?_; (with_reducible refine (feature_Check.calls _ _ l0_0 _ _ l0_1 t104 _ ?side1 ?side2 ?side3 ?side4 A4.out).mono ?_); (case side1 => repeat (first | exact (Kd.C_below HR0_0.out HB.out) | (with_reducible refine Kd.C_alloc ?_ _) | (with_reducible refine Kd.C_drewN ?_ _) | (with_reducible refine Kd.C_drew ?_))); (case side2 => exact HC0_0.out); (case side3 => repeat (first | exact (Kd.C_below HR0_1.out HB.out) | (with_reducible refine Kd.C_alloc ?_ _) | (with_reducible refine Kd.C_drewN ?_ _) | (with_reducible refine Kd.C_drew ?_))); (case side4 => exact HC0_1.out); rintro e w32 ⟨rfl, hb⟩; refine ⟨_, rfl, ?_⟩; have n0_ := Aside0.mk (blk_below (g := gb103) (o := .cells #[.slice A0_0 l0_0.length c0_0, .slice A0_1 l0_1.length c0_1] 25 (0, 0)) (by (with_reducible repeat (first | refine blk_drewN ?_ _ | refine blk_drew ?_ | refine blk_alloc ?_ _)); exact BK103.out) hb); have n1_ := Aside0.mk (below_step (by repeat (first | (with_reducible first | exact HB.out | apply below_alloc | apply pw_below_drewN | apply below_drew1 | refine below_set ?_ GE103.out) | exact HB.out)) hb); clear BK103; clear HB; have BK103 := n0_; have HB := n1_; clear n0_ n1_; (try clear hb); (try clear hb2); (try clear hk); (try clear hi); have hcz33_0 : w32.cell? ⟨gb103, 0, none⟩ = some (.slice A0_0 l0_0.length c0_0) := (blk_cell BK103.out 0).trans rfl; have hcz33_1 : w32.cell? ⟨gb103, 1, none⟩ = some (.slice A0_1 l0_1.length c0_1) := (blk_cell BK103.out 1).trans rfl; have hfz33_0 := blk_frozen BK103.out 0; have hfz33_1 := blk_frozen BK103.out 1) | ((with_reducible refine gate_callee (f := 60) rfl ?_); refine goesL_ (some 20) rfl rfl Tryd.func60 (by kernel_rfl) rfl #[.agg #[.slice A0_0 l0_0.length c0_0, .slice A0_1 l0_1.length c0_1], .int .u32 a1, .int .u32 a2] rfl (by (try simp only [List.map_toArray, List.map_cons, List.map_nil]); first | done | rfl | (simp only [List.length_drop, List.length_take]; rfl)) ?_; (with_reducible refine (feature_within.calls _ _ l0_0 _ _ l0_1 a1 a2 false _ ?side1 ?side2 ?side3 ?side4 A6.out).mono ?_); (case side1 => repeat (first | exact (Kd.C_below HR0_0.out HB.out) | (with_reducible refine Kd.C_alloc ?_ _) | (with_reducible refine Kd.C_drewN ?_ _) | (with_reducible refine Kd.C_drew ?_))); (case side2 => exact HC0_0.out); (case side3 => repeat (first | exact (Kd.C_below HR0_1.out HB.out) | (with_reducible refine Kd.C_alloc ?_ _) | (with_reducible refine Kd.C_drewN ?_ _) | (with_reducible refine Kd.C_drew ?_))); (case side4 => exact HC0_1.out); rintro e w34 ⟨rfl, hb⟩; refine ⟨_, rfl, ?_⟩; have n0_ := Aside0.mk (blk_below (g := gb103) (o := .cells #[.slice A0_0 l0_0.length c0_0, .slice A0_1 l0_1.length c0_1] 25 (0, 0)) (by (with_reducible repeat (first | refine blk_drewN ?_ _ | refine blk_drew ?_ | refine blk_alloc ?_ _)); exact BK103.out) hb); have n1_ := Aside0.mk (below_step (by repeat (first | (with_reducible first | exact HB.out | apply below_alloc | apply pw_below_drewN | apply below_drew1 | refine below_set ?_ GE103.out) | exact HB.out)) hb); clear BK103; clear HB; have BK103 := n0_; have HB := n1_; clear n0_ n1_; (try clear hb); (try clear hb2); (try clear hk); (try clear hi)))
      go_ret2
      exact ⟨_, by first | rfl | (simp [errW_none, errW_some] <;> rfl) | (simp [*, errW_none, errW_some] <;> rfl), by first | exact Kd.R_nil _ _ _ _ _ | exact Kd.N_nil _ _ _ _ _ | exact Kd.V_nil _ _ _ _ _ | exact Kd.Q_nil _ _ _ _ _ | exact Kd.S_nil _ _ _ _ _, by repeat (first | (with_reducible first | exact HB.out | apply below_alloc | apply pw_below_drewN | apply below_drew1 | refine below_set ?_ GE103.out) | exact HB.out)⟩
  · rw [if_neg c5] at H
    have c5b0 : (t104 == 0) = false := beq_eq_false_iff_ne.mpr c5
    have c5b1 : (t104 != 0) = true := bne_iff_ne.mpr c5
    simp only [Option.some.injEq, Prod.mk.injEq] at H
    obtain ⟨rfl, rfl⟩ := H
    go_enter Tryd.func67, Tryd.ntmps67
    go_wp2_with (first | ((with_reducible refine gate_dst (N := 3) rfl ?_); refine box_event ?hg (N := 3) ?hd (cs := #[.slice A0_0 l0_0.length c0_0, .slice A0_1 l0_1.length c0_1]) (t := 25) ?hr ?_; (case hd => rfl); (case hg => rfl); (case hr => first | (go_simp; done) | (go_simp; rfl)); intro gb103 hg w35 hbox hb; have n0_ := Aside0.mk (below_step (by repeat (first | (with_reducible first | exact HB.out | apply below_alloc | apply pw_below_drewN | apply below_drew1) | exact HB.out)) hb); have n1_ := Aside0.mk (hbox); have n2_ := Aside0.mk ((by rw [hg]; exact (below_size (by repeat (first | (with_reducible first | exact HB.out | apply below_alloc | apply pw_below_drewN | apply below_drew1) | exact HB.out))) : w.heap.size ≤ gb103)); have n3_ := Aside0.mk ((by rw [hg]; exact (below_size (by repeat (first | (with_reducible first | exact HB.out | apply below_alloc | apply pw_below_drewN | apply below_drew1) | exact HB.out))) : w.heap.size ≤ gb103)); clear HB; have HB := n0_; have BK103 := n1_; have GW103 := n2_; have GE103 := n3_; clear n0_ n1_ n2_ n3_; clear hb hbox hg; have hcz36_0 : w35.cell? ⟨gb103, 0, none⟩ = some (.slice A0_0 l0_0.length c0_0) := (blk_cell BK103.out 0).trans rfl; have hcz36_1 : w35.cell? ⟨gb103, 1, none⟩ = some (.slice A0_1 l0_1.length c0_1) := (blk_cell BK103.out 1).trans rfl; have hfz36_0 := blk_frozen BK103.out 0; have hfz36_1 := blk_frozen BK103.out 1) | ((with_reducible refine gate_callee (f := 39) rfl ?_); refine goesL_ (some 13) rfl rfl Tryd.func39 (by kernel_rfl) rfl #[.agg #[.slice A0_0 l0_0.length c0_0, .slice A0_1 l0_1.length c0_1]] rfl (by (try simp only [List.map_toArray, List.map_cons, List.map_nil]); first | done | rfl | (simp only [List.length_drop, List.length_take]; rfl)) ?_; (with_reducible refine (feature_Check.calls _ _ l0_0 _ _ l0_1 t104 _ ?side1 ?side2 ?side3 ?side4 A4.out).mono ?_); (case side1 => repeat (first | exact (Kd.C_below HR0_0.out HB.out) | (with_reducible refine Kd.C_alloc ?_ _) | (with_reducible refine Kd.C_drewN ?_ _) | (with_reducible refine Kd.C_drew ?_))); (case side2 => exact HC0_0.out); (case side3 => repeat (first | exact (Kd.C_below HR0_1.out HB.out) | (with_reducible refine Kd.C_alloc ?_ _) | (with_reducible refine Kd.C_drewN ?_ _) | (with_reducible refine Kd.C_drew ?_))); (case side4 => exact HC0_1.out); rintro e w37 ⟨rfl, hb⟩; refine ⟨_, rfl, ?_⟩; have n0_ := Aside0.mk (blk_below (g := gb103) (o := .cells #[.slice A0_0 l0_0.length c0_0, .slice A0_1 l0_1.length c0_1] 25 (0, 0)) (by (with_reducible repeat (first | refine blk_drewN ?_ _ | refine blk_drew ?_ | refine blk_alloc ?_ _)); exact BK103.out) hb); have n1_ := Aside0.mk (below_step (by repeat (first | (with_reducible first | exact HB.out | apply below_alloc | apply pw_below_drewN | apply below_drew1 | refine below_set ?_ GE103.out) | exact HB.out)) hb); clear BK103; clear HB; have BK103 := n0_; have HB := n1_; clear n0_ n1_; (try clear hb); (try clear hb2); (try clear hk); (try clear hi)))
    go_ret2
    exact ⟨_, by first | rfl | (simp [errW_none, errW_some] <;> rfl) | (simp [*, errW_none, errW_some] <;> rfl), by first | exact Kd.R_nil _ _ _ _ _ | exact Kd.N_nil _ _ _ _ _ | exact Kd.V_nil _ _ _ _ _ | exact Kd.Q_nil _ _ _ _ _ | exact Kd.S_nil _ _ _ _ _, by repeat (first | (with_reducible first | exact HB.out | apply below_alloc | apply pw_below_drewN | apply below_drew1 | refine below_set ?_ GE103.out) | exact HB.out)⟩

/-! ### slices_Index_rune_rune: function 83 -/
def slices_Index_rune_rune.l0 : Nat → List Int → Int → Int → Int → Option (Int)
  | 0, _, _, _, _ => none
  | k + 1, x0, x1, x7, x8 => if x8 < x7 then (if 0 ≤ x8 then (if x8 < (x0.length : Int) then (if x1 = (rd x0 x8) then (some x8) else (slices_Index_rune_rune.l0 k x0 x1 x7 (wrap64 (x8 + 1)))) else (none)) else (none)) else (some (-1))
def slices_Index_rune_rune.f (k : Nat) (l0 : List Int) (a1 : Int) : Option (Int) := slices_Index_rune_rune.l0 k l0 a1 (l0.length : Int) 0
set_option maxHeartbeats 8000000 in
set_option maxRecDepth 100000 in
theorem slices_Index_rune_rune.calls (k : Nat) (A0 : Option Addr) (c0 : Nat) (l0 : List Int) (a1 : Int) (r : Int) (w : World) (hr0 : Kd.C (Kd.int .i32) w A0 l0.length l0) (hc0 : l0.length ≤ c0) (h : slices_Index_rune_rune.f k l0 a1 = some r) :
    Calls Tryd.prog 83 #[.slice A0 l0.length c0, .int .i32 a1] w fun e w' => e = .returned (.int .i64 r) ∧ Drawn0 w w' := by
  have HR0 := Aside0.mk hr0
  have HC0 := Aside0.mk hc0
  clear hr0 hc0
  have H : (slices_Index_rune_rune.l0 k l0 a1 (l0.length : Int) 0) = some r := h
  clear h
  have H' := Aside0.mk H
  clear H
  go_enter Tryd.func83, Tryd.ntmps83
  go_wp2
  go_loopg [8] k (fun kq v8 w' => ∃ (x8_1 : Int), v8 = .int .i64 x8_1 ∧ Aside0 (slices_Index_rune_rune.l0 kq l0 a1 (l0.length : Int) x8_1 = some r) ∧ Aside0 (kq ≤ k) ∧ Drawn0 w w')
  case atStart => exact ⟨(0), (by first | rfl | (simp; done) | (simp [*]; done)), H', ⟨Nat.le_refl _⟩, by repeat (first | exact Drawn0.refl _ | apply Drawn0.step)⟩
  case round =>
    clear H'
    try clear p2
    obtain ⟨x8_1, rfl, HA, HK1, ⟨m1, rfl⟩⟩ := hrel
    cases gk with
    | zero => exact absurd HA.out (by simp [slices_Index_rune_rune.l0])
    | succ k1 =>
      have H := HA.out
      clear HA
      simp only [slices_Index_rune_rune.l0] at H
      by_cases c3 : x8_1 < (l0.length : Int)
      · rw [if_pos c3] at H
        have c3b0 : decide (x8_1 < (l0.length : Int)) = true := decide_eq_true c3
        clear c3
        by_cases c4 : 0 ≤ x8_1
        · rw [if_pos c4] at H
          have c4b0 : decide (0 ≤ x8_1) = true := decide_eq_true c4
          clear c4
          by_cases c5 : x8_1 < (l0.length : Int)
          · rw [if_pos c5] at H
            have c5b0 : decide (x8_1 < (l0.length : Int)) = true := decide_eq_true c5
            clear c5
            by_cases c6 : a1 = (rd l0 x8_1)
            · rw [if_pos c6] at H
              have c6b0 : (a1 == (rd l0 x8_1)) = true := beq_iff_eq.mpr c6
              have c6b1 : (a1 != (rd l0 x8_1)) = false := bne_eq_false_iff_eq.mpr c6
              clear c6
              obtain rfl := Option.some.inj H
              have p112 : 0 ≤ (x8_1 : Int) := of_decide_eq_true (by first | (with_reducible assumption) | assumption)
              have q112 : x8_1 < (l0.length : Int) := of_decide_eq_true (by first | (with_reducible assumption) | assumption)
              obtain ⟨ad112, e112, hx112_0⟩ := Kd.at_int HR0.out x8_1 p112 q112
              cases e112
              replace p112 := eq_true p112
              replace q112 := eq_true q112
              go_wp2
              go_ret
              exact ⟨by first | rfl | (simp; done) | (simp [*]; done), by repeat (first | exact Drawn0.refl _ | apply Drawn0.step)⟩
            · rw [if_neg c6] at H
              have c6b0 : (a1 == (rd l0 x8_1)) = false := beq_eq_false_iff_ne.mpr c6
              have c6b1 : (a1 != (rd l0 x8_1)) = true := bne_iff_ne.mpr c6
              have H' := Aside0.mk H
              clear H
              have p112 : 0 ≤ (x8_1 : Int) := of_decide_eq_true (by first | (with_reducible assumption) | assumption)
              have q112 : x8_1 < (l0.length : Int) := of_decide_eq_true (by first | (with_reducible assumption) | assumption)
              obtain ⟨ad112, e112, hx112_0⟩ := Kd.at_int HR0.out x8_1 p112 q112
              cases e112
              replace p112 := eq_true p112
              replace q112 := eq_true q112
              go_wp2
              go_roundg k1
              case measure => have := HK1.out; omega
              case rel => exact ⟨(wrap64 (x8_1 + 1)), (by first | rfl | (simp; done) | (simp [*]; done)), H', ⟨by have := HK1.out; omega⟩, by repeat (first | exact Drawn0.refl _ | apply Drawn0.step)⟩
          · rw [if_neg c5] at H
            exact absurd H (by simp)
        · rw [if_neg c4] at H
          exact absurd H (by simp)
      · rw [if_neg c3] at H
        have c3b0 : decide (x8_1 < (l0.length : Int)) = false := decide_eq_false c3
        clear c3
        obtain rfl := Option.some.inj H
        go_wp2
        go_ret
        exact ⟨by first | rfl | (simp; done) | (simp [*]; done), by repeat (first | exact Drawn0.refl _ | apply Drawn0.step)⟩

/-! ### slices_Contains_rune_rune: function 68 -/
def slices_Contains_rune_rune.f (k : Nat) (l0 : List Int) (a1 : Int) : Option (Bool) := (slices_Index_rune_rune.f k l0 a1).bind fun t113 => (some (decide (t113 ≥ 0)))
set_option maxHeartbeats 8000000 in
set_option maxRecDepth 100000 in
theorem slices_Contains_rune_rune.calls (k : Nat) (A0 : Option Addr) (c0 : Nat) (l0 : List Int) (a1 : Int) (r : Bool) (w : World) (hr0 : Kd.C (Kd.int .i32) w A0 l0.length l0) (hc0 : l0.length ≤ c0) (h : slices_Contains_rune_rune.f k l0 a1 = some r) :
    Calls Tryd.prog 68 #[.slice A0 l0.length c0, .int .i32 a1] w fun e w' => e = .returned (.bool r) ∧ Drawn0 w w' := by
  have HR0 := Aside0.mk hr0
  have HC0 := Aside0.mk hc0
  clear hr0 hc0
  have H : ((slices_Index_rune_rune.f k l0 a1).bind fun t113 => (some (decide (t113 ≥ 0)))) = some r := h
  clear h
  replace H := Option.bind_eq_some_iff.mp H
  obtain ⟨t113, A30, H⟩ := H
  replace H : (some (decide (t113 ≥ 0))) = some r := H
  have A3 := Aside0.mk A30
  clear A30
  obtain rfl := Option.some.inj H
  go_enter Tryd.func68, Tryd.ntmps68
  go_wp2_with (first | ((with_reducible refine gate_callee (f := 83) rfl ?_); refine goesL_ (some 7) rfl rfl Tryd.func83 (by kernel_rfl) rfl #[.slice A0 l0.length c0, .int .i32 a1] rfl (by (try simp only [List.map_toArray, List.map_cons, List.map_nil]); first | done | rfl | (simp only [List.length_drop, List.length_take]; rfl)) ?_; (with_reducible refine (slices_Index_rune_rune.calls k _ _ l0 a1 t113 _ ?side1 ?side2 A3.out).mono ?_); (case side1 => repeat (first | exact HR0.out | (with_reducible refine Kd.C_alloc ?_ _) | (with_reducible refine Kd.C_drewN ?_ _) | (with_reducible refine Kd.C_drew ?_))); (case side2 => exact HC0.out); rintro e w' ⟨rfl, ⟨nd, rfl⟩⟩; refine ⟨_, rfl, ?_⟩))
  go_ret
  exact ⟨by first | rfl | (simp; done) | (simp [*]; done), by repeat (first | exact Drawn0.refl _ | apply Drawn0.step)⟩

/-! ### word_Peaks: function 50 -/
def word_Peaks.l0 : Nat → List Int → List Int → List Int → Int → Int → Option (List Int × Int)
  | 0, _, _, _, _, _ => none
  | k + 1, x12, x13, x35, x36, x37 => if x37 < x36 then (if 0 ≤ x37 then (if x37 < (x35.length : Int) then ((slices_Contains_rune_rune.f k x12 (rd x35 x37)).bind fun t124 => (if t124 = true then (if x13.length < 17592186044416 then (word_Peaks.l0 k x12 (x13 ++ [x37]) x35 x36 (wrap64 (x37 + 1))) else (none)) else (word_Peaks.l0 k x12 x13 x35 x36 (wrap64 (x37 + 1))))) else (none)) else (none)) else (some (x13, 0))
def word_Peaks.f (k : Nat) (l0_0 : List ByteArray) (l0_1 : List (S84)) (a1 : ByteArray) (a2 : Int) (a3 : Int) : Option (List Int × Int) := (word_Letters.f l0_0 l0_1 a1).bind fun bt115 => (if bt115.2 = 0 then ((feature_Class.f k l0_0 l0_1 a2 a3).bind fun bt119 => (if bt119.2 = 0 then (word_Peaks.l0 k bt119.1 ([] : List Int) bt115.1 (bt115.1.length : Int) 0) else (some (([] : List Int), bt119.2)))) else (some (([] : List Int), bt115.2)))
set_option maxHeartbeats 8000000 in
set_option maxRecDepth 100000 in
theorem word_Peaks.calls (k : Nat) (A0_0 : Option Addr) (c0_0 : Nat) (l0_0 : List ByteArray) (A0_1 : Option Addr) (c0_1 : Nat) (l0_1 : List (S84)) (a1 : ByteArray) (a2 : Int) (a3 : Int) (r1 : List Int) (r2 : Int) (w : World) (hr0_0 : Kd.C Kd.string w A0_0 l0_0.length l0_0) (hc0_0 : l0_0.length ≤ c0_0) (hr0_1 : Kd.C k84 w A0_1 l0_1.length l0_1) (hc0_1 : l0_1.length ≤ c0_1) (hT : Tabs w) (h : word_Peaks.f k l0_0 l0_1 a1 a2 a3 = some (r1, r2)) :
    Calls Tryd.prog 50 #[.agg #[.slice A0_0 l0_0.length c0_0, .slice A0_1 l0_1.length c0_1], .string a1, .int .u32 a2, .int .u32 a3] w fun e w' => ∃ v0_ : Value, e = .returned (.tuple #[v0_, .int .i64 r2]) ∧ Kd.R (Kd.int .i64) 3 w' w.heap.size (fun _ => True) v0_ r1 ∧ Below w.heap.size w w' := by
  have hu25 := Tryd.underlying25
  have HR0_0 := Aside0.mk hr0_0
  have HC0_0 := Aside0.mk hc0_0
  clear hr0_0 hc0_0
  have HR0_1 := Aside0.mk hr0_1
  have HC0_1 := Aside0.mk hc0_1
  clear hr0_1 hc0_1
  have HB := Aside0.mk (Below.refl w.heap.size w)
  have HT := Aside0.mk hT
  clear hT
  have H : ((word_Letters.f l0_0 l0_1 a1).bind fun bt115 => (if bt115.2 = 0 then ((feature_Class.f k l0_0 l0_1 a2 a3).bind fun bt119 => (if bt119.2 = 0 then (word_Peaks.l0 k bt119.1 ([] : List Int) bt115.1 (bt115.1.length : Int) 0) else (some (([] : List Int), bt119.2)))) else (some (([] : List Int), bt115.2)))) = some (r1, r2) := h
  clear h
  replace H := Option.bind_eq_some_iff.mp H
  obtain ⟨⟨t115, t118⟩, A50, H⟩ := H
  replace H : (if t118 = 0 then ((feature_Class.f k l0_0 l0_1 a2 a3).bind fun bt119 => (if bt119.2 = 0 then (word_Peaks.l0 k bt119.1 ([] : List Int) t115 (t115.length : Int) 0) else (some (([] : List Int), bt119.2)))) else (some (([] : List Int), t118))) = some (r1, r2) := H
  have A5 := Aside0.mk A50
  clear A50
  by_cases c6 : t118 = 0
  · rw [if_pos c6] at H
    have c6b0 : (t118 == 0) = true := beq_iff_eq.mpr c6
    have c6b1 : (t118 != 0) = false := bne_eq_false_iff_eq.mpr c6
    clear c6
    replace H := Option.bind_eq_some_iff.mp H
    obtain ⟨⟨t119, t122⟩, A70, H⟩ := H
    replace H : (if t122 = 0 then (word_Peaks.l0 k t119 ([] : List Int) t115 (t115.length : Int) 0) else (some (([] : List Int), t122))) = some (r1, r2) := H
    have A7 := Aside0.mk A70
    clear A70
    by_cases c8 : t122 = 0
    · rw [if_pos c8] at H
      have c8b0 : (t122 == 0) = true := beq_iff_eq.mpr c8
      have c8b1 : (t122 != 0) = false := bne_eq_false_iff_eq.mpr c8
      clear c8
      have H' := Aside0.mk H
      clear H
      go_enter Tryd.func50, Tryd.ntmps50
      go_wp2_with (first | ((with_reducible refine gate_dst (N := 4) rfl ?_); refine box_event ?hg (N := 4) ?hd (cs := #[.slice A0_0 l0_0.length c0_0, .slice A0_1 l0_1.length c0_1]) (t := 25) ?hr ?_; (case hd => rfl); (case hg => rfl); (case hr => first | (go_simp; done) | (go_simp; rfl)); intro gb114 hg w9 hbox hb; have n0_ := Aside0.mk (below_step (by repeat (first | (with_reducible first | exact HB.out | apply below_alloc | apply pw_below_drewN | apply below_drew1) | exact HB.out)) hb); have n1_ := Aside0.mk (hbox); have n2_ := Aside0.mk ((by rw [hg]; exact (below_size (by repeat (first | (with_reducible first | exact HB.out | apply below_alloc | apply pw_below_drewN | apply below_drew1) | exact HB.out))) : w.heap.size ≤ gb114)); have n3_ := Aside0.mk ((by rw [hg]; exact (below_size (by repeat (first | (with_reducible first | exact HB.out | apply below_alloc | apply pw_below_drewN | apply below_drew1) | exact HB.out))) : w.heap.size ≤ gb114)); clear HB; have HB := n0_; have BK114 := n1_; have GW114 := n2_; have GE114 := n3_; clear n0_ n1_ n2_ n3_; clear hb hbox hg; have hcz10_0 : w9.cell? ⟨gb114, 0, none⟩ = some (.slice A0_0 l0_0.length c0_0) := (blk_cell BK114.out 0).trans rfl; have hcz10_1 : w9.cell? ⟨gb114, 1, none⟩ = some (.slice A0_1 l0_1.length c0_1) := (blk_cell BK114.out 1).trans rfl; have hfz10_0 := blk_frozen BK114.out 0; have hfz10_1 := blk_frozen BK114.out 1) | ((with_reducible refine gate_callee (f := 37) rfl ?_); refine goesL_ (some 19) rfl rfl Tryd.func37 (by kernel_rfl) rfl #[.agg #[.slice A0_0 l0_0.length c0_0, .slice A0_1 l0_1.length c0_1], .string a1] rfl (by (try simp only [List.map_toArray, List.map_cons, List.map_nil]); first | done | rfl | (simp only [List.length_drop, List.length_take]; rfl)) ?_; (with_reducible refine (word_Letters.calls _ _ l0_0 _ _ l0_1 a1 t115 t118 _ ?side1 ?side2 ?side3 ?side4 ?side5 A5.out).mono ?_); (case side1 => repeat (first | exact (Kd.C_below HR0_0.out HB.out) | (with_reducible refine Kd.C_alloc ?_ _) | (with_reducible refine Kd.C_drewN ?_ _) | (with_reducible refine Kd.C_drew ?_))); (case side2 => exact HC0_0.out); (case side3 => repeat (first | exact (Kd.C_below HR0_1.out HB.out) | (with_reducible refine Kd.C_alloc ?_ _) | (with_reducible refine Kd.C_drewN ?_ _) | (with_reducible refine Kd.C_drew ?_))); (case side4 => exact HC0_1.out); (case side5 => exact Tabs.below HT.out (by repeat (first | (with_reducible first | exact HB.out | apply below_alloc | apply pw_below_drewN | apply below_drew1 | refine below_set ?_ GE114.out) | exact HB.out))); rintro e w11 ⟨v116, rfl, ho0, hb⟩; refine ⟨_, rfl, ?_⟩; have n0_ := Aside0.mk (Kd.R_lower ho0 (below_size (by repeat (first | (with_reducible first | exact HB.out | apply below_alloc | apply pw_below_drewN | apply below_drew1 | refine below_set ?_ GE114.out) | exact HB.out)))); have n1_ := Aside0.mk (blk_below (g := gb114) (o := .cells #[.slice A0_0 l0_0.length c0_0, .slice A0_1 l0_1.length c0_1] 25 (0, 0)) (by (with_reducible repeat (first | refine blk_drewN ?_ _ | refine blk_drew ?_ | refine blk_alloc ?_ _)); exact BK114.out) hb); have n2_ := Aside0.mk (below_step (by repeat (first | (with_reducible first | exact HB.out | apply below_alloc | apply pw_below_drewN | apply below_drew1 | refine below_set ?_ GE114.out) | exact HB.out)) hb); clear BK114; clear HB; have HO117 := n0_; have BK114 := n1_; have HB := n2_; clear n0_ n1_ n2_; (try clear hb); (try clear hb2); (try clear hk); (try clear hi); (try clear ho0); have hcz12_0 : w11.cell? ⟨gb114, 0, none⟩ = some (.slice A0_0 l0_0.length c0_0) := (blk_cell BK114.out 0).trans rfl; have hcz12_1 : w11.cell? ⟨gb114, 1, none⟩ = some (.slice A0_1 l0_1.length c0_1) := (blk_cell BK114.out 1).trans rfl; have hfz12_0 := blk_frozen BK114.out 0; have hfz12_1 := blk_frozen BK114.out 1) | ((with_reducible refine gate_callee (f := 67) rfl ?_); refine goesL_ (some 29) rfl rfl Tryd.func67 (by kernel_rfl) rfl #[.agg #[.slice A0_0 l0_0.length c0_0, .slice A0_1 l0_1.length c0_1], .int .u32 a2, .int .u32 a3] rfl (by (try simp only [List.map_toArray, List.map_cons, List.map_nil]); first | done | rfl | (simp only [List.length_drop, List.length_take]; rfl)) ?_; (with_reducible refine (feature_Class.calls k _ _ l0_0 _ _ l0_1 a2 a3 t119 t122 _ ?side1 ?side2 ?side3 ?side4 A7.out).mono ?_); (case side1 => repeat (first | exact (Kd.C_below HR0_0.out HB.out) | (with_reducible refine Kd.C_alloc ?_ _) | (with_reducible refine Kd.C_drewN ?_ _) | (with_reducible refine Kd.C_drew ?_))); (case side2 => exact HC0_0.out); (case side3 => repeat (first | exact (Kd.C_below HR0_1.out HB.out) | (with_reducible refine Kd.C_alloc ?_ _) | (with_reducible refine Kd.C_drewN ?_ _) | (with_reducible refine Kd.C_drew ?_))); (case side4 => exact HC0_1.out); rintro e w13 ⟨v120, rfl, ho0, hb⟩; refine ⟨_, rfl, ?_⟩; have n0_ := Aside0.mk (Kd.R_elder' (by (with_reducible repeat (first | apply Kd.R_alloc | apply Kd.R_drewN | apply Kd.R_drew)); exact HO117.out) (Kd.R_base ho0) hb); have n1_ := Aside0.mk (Kd.R_lower (Kd.R_new' ho0 (Kd.R_lt (by (with_reducible repeat (first | apply Kd.R_alloc | apply Kd.R_drewN | apply Kd.R_drew)); exact HO117.out))) (below_size (by repeat (first | (with_reducible first | exact HB.out | apply below_alloc | apply pw_below_drewN | apply below_drew1 | refine below_set ?_ GE114.out) | exact HB.out)))); have n2_ := Aside0.mk (blk_below (g := gb114) (o := .cells #[.slice A0_0 l0_0.length c0_0, .slice A0_1 l0_1.length c0_1] 25 (0, 0)) (by (with_reducible repeat (first | refine blk_drewN ?_ _ | refine blk_drew ?_ | refine blk_alloc ?_ _)); exact BK114.out) hb); have n3_ := Aside0.mk (below_step (by repeat (first | (with_reducible first | exact HB.out | apply below_alloc | apply pw_below_drewN | apply below_drew1 | refine below_set ?_ GE114.out) | exact HB.out)) hb); clear HO117; clear BK114; clear HB; have HO117 := n0_; have HO121 := n1_; have BK114 := n2_; have HB := n3_; clear n0_ n1_ n2_ n3_; (try clear hb); (try clear hb2); (try clear hk); (try clear hi); (try clear ho0); obtain ⟨Ao14, co14, eo14⟩ := Kd.R_slice HO117.out; subst eo14))
      go_loopg [13, 37] k (fun kq v13 v37 w' => ∃ (x13_1 : List Int) (x37_1 : Int), v37 = .int .i64 x37_1 ∧ Aside0 (word_Peaks.l0 kq t119 x13_1 t115 (t115.length : Int) x37_1 = some (r1, r2)) ∧ Aside0 (kq ≤ k) ∧ Aside0 (Kd.R (Kd.int .i32) 21 w' w.heap.size (fun k_ => some k_ ≠ ((.slice Ao14 t115.length co14) : Value).ownBlock) v120 t119) ∧ Aside0 (Kd.R (Kd.int .i64) 3 w' w.heap.size (fun _ => True) v13 x13_1) ∧ Aside0 (Kd.R (Kd.int .i32) 21 w' w.heap.size (fun k_ => some k_ ≠ (v120 : Value).ownBlock) (.slice Ao14 t115.length co14) t115) ∧ Aside0 (w'.heap[gb114]? = some (.cells #[(.slice A0_0 l0_0.length c0_0), (.slice A0_1 l0_1.length c0_1)] 25 (0, 0))) ∧ Aside0 (Below w.heap.size w w'))
      case atStart => exact ⟨(([] : List Int)), (0), (by first | rfl | (simp; done) | (simp [*]; done)), H', ⟨Nat.le_refl _⟩, ⟨by (with_reducible repeat (first | apply Kd.R_alloc | apply Kd.R_drewN | apply Kd.R_drew)); exact Kd.R_mono HO121.out (fun _ hk => hk.2)⟩, ⟨by first | exact Kd.R_nil _ _ _ _ _ | exact Kd.N_nil _ _ _ _ _ | exact Kd.V_nil _ _ _ _ _ | exact Kd.Q_nil _ _ _ _ _ | exact Kd.S_nil _ _ _ _ _⟩, ⟨by (with_reducible repeat (first | apply Kd.R_alloc | apply Kd.R_drewN | apply Kd.R_drew)); exact Kd.R_mono HO117.out (fun _ hk => hk.2)⟩, ⟨by (with_reducible repeat (first | refine blk_drewN ?_ _ | refine blk_drew ?_ | refine blk_alloc ?_ _)); exact BK114.out⟩, ⟨by repeat (first | (with_reducible first | exact HB.out | apply below_alloc | apply pw_below_drewN | apply below_drew1 | refine below_set ?_ GE114.out) | exact HB.out)⟩⟩
      case round =>
        clear H'
        try clear p2
        try clear c3
        try clear c5
        try clear c6
        try clear c6b0
        try clear c6b1
        try clear c8
        try clear c8b0
        try clear c8b1
        try clear hcz10_0
        try clear hcz10_1
        try clear hcz12_0
        try clear hcz12_1
        try clear hfz10_0
        try clear hfz10_1
        try clear hfz12_0
        try clear hfz12_1
        obtain ⟨x13_1, x37_1, rfl, HA, HK1, HO_12, HO_13, HO_35, BK114, HB⟩ := hrel
        cases gk with
        | zero => exact absurd HA.out (by simp [word_Peaks.l0])
        | succ k1 =>
          have H := HA.out
          clear HA
          simp only [word_Peaks.l0] at H
          by_cases c15 : x37_1 < (t115.length : Int)
          · rw [if_pos c15] at H
            have c15b0 : decide (x37_1 < (t115.length : Int)) = true := decide_eq_true c15
            clear c15
            by_cases c16 : 0 ≤ x37_1
            · rw [if_pos c16] at H
              have c16b0 : decide (0 ≤ x37_1) = true := decide_eq_true c16
              clear c16
              by_cases c17 : x37_1 < (t115.length : Int)
              · rw [if_pos c17] at H
                have c17b0 : decide (x37_1 < (t115.length : Int)) = true := decide_eq_true c17
                clear c17
                replace H := Option.bind_eq_some_iff.mp H
                obtain ⟨t124, A180, H⟩ := H
                replace H : (if t124 = true then (if x13_1.length < 17592186044416 then (word_Peaks.l0 k1 t119 (x13_1 ++ [x37_1]) t115 (t115.length : Int) (wrap64 (x37_1 + 1))) else (none)) else (word_Peaks.l0 k1 t119 x13_1 t115 (t115.length : Int) (wrap64 (x37_1 + 1)))) = some (r1, r2) := H
                have A18 := Aside0.mk A180
                clear A180
                by_cases c19 : t124 = true
                · subst c19
                  have H1 : (if x13_1.length < 17592186044416 then (word_Peaks.l0 k1 t119 (x13_1 ++ [x37_1]) t115 (t115.length : Int) (wrap64 (x37_1 + 1))) else (none)) = some (r1, r2) := by rw [if_pos rfl] at H; exact H
                  clear H
                  have H := H1
                  clear H1
                  by_cases c20 : x13_1.length < 17592186044416
                  · rw [if_pos c20] at H
                    have LMc20 := Aside0.mk c20
                    clear c20
                    obtain ⟨y125, hy125⟩ : ∃ y_ : List Int, y_ = (x13_1 ++ [x37_1]) := ⟨_, rfl⟩
                    replace H : (word_Peaks.l0 k1 t119 y125 t115 (t115.length : Int) (wrap64 (x37_1 + 1))) = some (r1, r2) := by first | (rw [hy125]; with_reducible exact H) | (have H2_ := (Option.bind_some _ _).symm.trans H; rw [hy125]; with_reducible exact H2_) | (have H2_ := (Option.bind_some _ _).symm.trans H; with_reducible exact H2_) | with_reducible exact H | (rw [hy125]; exact H) | exact H
                    have Ny125 := Aside0.mk hy125
                    clear hy125
                    have H' := Aside0.mk H
                    clear H
                    have p123 : 0 ≤ (x37_1 : Int) := of_decide_eq_true (by first | (with_reducible assumption) | assumption)
                    have q123 : x37_1 < (t115.length : Int) := of_decide_eq_true (by first | (with_reducible assumption) | assumption)
                    obtain ⟨ad123, e123, hx123_0⟩ := Kd.at_int (Kd.R_reads' HO_35.out).2.2 x37_1 p123 q123
                    cases e123
                    replace p123 := eq_true p123
                    replace q123 := eq_true q123
                    obtain ⟨Ao21, co21, eo21⟩ := Kd.R_slice HO_12.out
                    subst eo21
                    go_wp2_with (first | ((with_reducible refine gate_callee (f := 68) rfl ?_); refine goesL_ (some 44) rfl rfl Tryd.func68 (by kernel_rfl) rfl #[.slice Ao21 t119.length co21, .int .i32 (rd t115 x37_1)] rfl (by (try simp only [List.map_toArray, List.map_cons, List.map_nil]); first | done | rfl | (simp only [List.length_drop, List.length_take]; rfl)) ?_; (with_reducible refine (slices_Contains_rune_rune.calls k1 _ _ t119 (rd t115 x37_1) true _ ?side1 ?side2 A18.out).mono ?_); (case side1 => repeat (first | exact (Kd.R_reads' HO_12.out).2.2 | (with_reducible refine Kd.C_alloc ?_ _) | (with_reducible refine Kd.C_drewN ?_ _) | (with_reducible refine Kd.C_drew ?_))); (case side2 => exact (Kd.R_reads' HO_12.out).2.1); rintro e w' ⟨rfl, ⟨nd, rfl⟩⟩; refine ⟨_, rfl, ?_⟩) | ((with_reducible refine gate_builtin (b := .append) (xs := #[.tmp 45, .tmp 47]) rfl ?_); at_builtin; refine Kd.R_append (Kd.int .i64) (w0 := w) w.heap.size rfl (.tmp 45) (.tmp 47) 35 3 (.int .i64 0) 8 rfl Tryd.underlying35 info3 rfl (by decide) (by omega) u13 x13_1 x37_1 [.int .i64 x37_1] (fun _ => True) (fun _ => False) rfl rfl ?aP (fun _ hk => hk.elim) ?aF ?aO ?aB ?aS ?aL ?_; (case aP => exact rfl); (case aB => exact (by repeat (first | (with_reducible first | exact HB.out | apply below_alloc | apply pw_below_drewN | apply below_drew1 | refine below_set ?_ GE114.out) | exact HB.out))); (case aF => exact (fun _ _ => trivial)); (case aO => exact (by (with_reducible repeat (first | apply Kd.R_alloc | apply Kd.R_drewN | apply Kd.R_drew)); exact HO_13.out)); (case aS => exact (below_size (by repeat (first | (with_reducible first | exact HB.out | apply below_alloc | apply pw_below_drewN | apply below_drew1 | refine below_set ?_ GE114.out) | exact HB.out)))); (case aL => have := LMc20.out; omega); intro v126 w22 ho hb hg hat; rw [← Ny125.out] at ho; have n0_ := Aside0.mk (Kd.R_over' (by (with_reducible repeat (first | apply Kd.R_alloc | apply Kd.R_drewN | apply Kd.R_drew)); exact HO_12.out) (Kd.R_typed (by (with_reducible repeat (first | apply Kd.R_alloc | apply Kd.R_drewN | apply Kd.R_drew)); exact HO_13.out)) (by decide) hg); have n1_ := Aside0.mk (Kd.R_over' (by (with_reducible repeat (first | apply Kd.R_alloc | apply Kd.R_drewN | apply Kd.R_drew)); exact HO_35.out) (Kd.R_typed (by (with_reducible repeat (first | apply Kd.R_alloc | apply Kd.R_drewN | apply Kd.R_drew)); exact HO_13.out)) (by decide) hg); have n2_ := Aside0.mk (blk_grown (g := gb114) (o := .cells #[.slice A0_0 l0_0.length c0_0, .slice A0_1 l0_1.length c0_1] 25 (0, 0)) (by (with_reducible repeat (first | refine blk_drewN ?_ _ | refine blk_drew ?_ | refine blk_alloc ?_ _)); exact BK114.out) hg (Kd.R_ne HO_13.out BK114.out (by decide))); have n3_ := Aside0.mk (hb); have n4_ := Aside0.mk (ho); clear HO_12; clear HO_35; clear BK114; clear HB; clear HO_13; have HO_12 := n0_; have HO_35 := n1_; have BK114 := n2_; have HB := n3_; have HO127 := n4_; clear n0_ n1_ n2_ n3_ n4_; clear ho hb hg hat))
                    go_roundg k1
                    case measure => have := HK1.out; omega
                    case rel => exact ⟨(y125), (wrap64 (x37_1 + 1)), (by first | rfl | (simp; done) | (simp [*]; done)), H', ⟨by have := HK1.out; omega⟩, ⟨by (with_reducible repeat (first | apply Kd.R_alloc | apply Kd.R_drewN | apply Kd.R_drew)); exact HO_12.out⟩, ⟨by (with_reducible repeat (first | apply Kd.R_alloc | apply Kd.R_drewN | apply Kd.R_drew)); exact HO127.out⟩, ⟨by (with_reducible repeat (first | apply Kd.R_alloc | apply Kd.R_drewN | apply Kd.R_drew)); exact HO_35.out⟩, ⟨by (with_reducible repeat (first | refine blk_drewN ?_ _ | refine blk_drew ?_ | refine blk_alloc ?_ _)); exact BK114.out⟩, ⟨by repeat (first | (with_reducible first | exact HB.out | apply below_alloc | apply pw_below_drewN | apply below_drew1 | refine below_set ?_ GE114.out) | exact HB.out)⟩⟩
                  · rw [if_neg c20] at H
                    exact absurd H (by simp)
                · replace c19 := Bool.eq_false_iff.mpr c19
                  subst c19
                  have H1 : (word_Peaks.l0 k1 t119 x13_1 t115 (t115.length : Int) (wrap64 (x37_1 + 1))) = some (r1, r2) := by rw [if_neg (show ¬ (false = true) by decide)] at H; exact H
                  clear H
                  have H := H1
                  clear H1
                  have H' := Aside0.mk H
                  clear H
                  have p123 : 0 ≤ (x37_1 : Int) := of_decide_eq_true (by first | (with_reducible assumption) | assumption)
                  have q123 : x37_1 < (t115.length : Int) := of_decide_eq_true (by first | (with_reducible assumption) | assumption)
                  obtain ⟨ad123, e123, hx123_0⟩ := Kd.at_int (Kd.R_reads' HO_35.out).2.2 x37_1 p123 q123
                  cases e123
                  replace p123 := eq_true p123
                  replace q123 := eq_true q123
                  obtain ⟨Ao23, co23, eo23⟩ := Kd.R_slice HO_12.out
                  subst eo23
                  go_wp2_with (first | ((with_reducible refine gate_callee (f := 68) rfl ?_); refine goesL_ (some 44) rfl rfl Tryd.func68 (by kernel_rfl) rfl #[.slice Ao23 t119.length co23, .int .i32 (rd t115 x37_1)] rfl (by (try simp only [List.map_toArray, List.map_cons, List.map_nil]); first | done | rfl | (simp only [List.length_drop, List.length_take]; rfl)) ?_; (with_reducible refine (slices_Contains_rune_rune.calls k1 _ _ t119 (rd t115 x37_1) false _ ?side1 ?side2 A18.out).mono ?_); (case side1 => repeat (first | exact (Kd.R_reads' HO_12.out).2.2 | (with_reducible refine Kd.C_alloc ?_ _) | (with_reducible refine Kd.C_drewN ?_ _) | (with_reducible refine Kd.C_drew ?_))); (case side2 => exact (Kd.R_reads' HO_12.out).2.1); rintro e w' ⟨rfl, ⟨nd, rfl⟩⟩; refine ⟨_, rfl, ?_⟩))
                  go_roundg k1
                  case measure => have := HK1.out; omega
                  case rel => exact ⟨(x13_1), (wrap64 (x37_1 + 1)), (by first | rfl | (simp; done) | (simp [*]; done)), H', ⟨by have := HK1.out; omega⟩, ⟨by (with_reducible repeat (first | apply Kd.R_alloc | apply Kd.R_drewN | apply Kd.R_drew)); exact HO_12.out⟩, ⟨by (with_reducible repeat (first | apply Kd.R_alloc | apply Kd.R_drewN | apply Kd.R_drew)); exact HO_13.out⟩, ⟨by (with_reducible repeat (first | apply Kd.R_alloc | apply Kd.R_drewN | apply Kd.R_drew)); exact HO_35.out⟩, ⟨by (with_reducible repeat (first | refine blk_drewN ?_ _ | refine blk_drew ?_ | refine blk_alloc ?_ _)); exact BK114.out⟩, ⟨by repeat (first | (with_reducible first | exact HB.out | apply below_alloc | apply pw_below_drewN | apply below_drew1 | refine below_set ?_ GE114.out) | exact HB.out)⟩⟩
              · rw [if_neg c17] at H
                exact absurd H (by simp)
            · rw [if_neg c16] at H
              exact absurd H (by simp)
          · rw [if_neg c15] at H
            have c15b0 : decide (x37_1 < (t115.length : Int)) = false := decide_eq_false c15
            clear c15
            simp only [Option.some.injEq, Prod.mk.injEq] at H
            obtain ⟨rfl, rfl⟩ := H
            go_wp2
            go_ret2
            exact ⟨_, by first | rfl | (simp [errW_none, errW_some] <;> rfl) | (simp [*, errW_none, errW_some] <;> rfl), by (with_reducible repeat (first | apply Kd.R_alloc | apply Kd.R_drewN | apply Kd.R_drew)); exact HO_13.out, by repeat (first | (with_reducible first | exact HB.out | apply below_alloc | apply pw_below_drewN | apply below_drew1 | refine below_set ?_ GE114.out) | exact HB.out)⟩
    · rw [if_neg c8] at H
      have c8b0 : (t122 == 0) = false := beq_eq_false_iff_ne.mpr c8
      have c8b1 : (t122 != 0) = true := bne_iff_ne.mpr c8
      simp only [Option.some.injEq, Prod.mk.injEq] at H
      obtain ⟨rfl, rfl⟩ := H
      go_enter Tryd.func50, Tryd.ntmps50
      go_wp2_with (first | ((with_reducible refine gate_dst (N := 4) rfl ?_); refine box_event ?hg (N := 4) ?hd (cs := #[.slice A0_0 l0_0.length c0_0, .slice A0_1 l0_1.length c0_1]) (t := 25) ?hr ?_; (case hd => rfl); (case hg => rfl); (case hr => first | (go_simp; done) | (go_simp; rfl)); intro gb114 hg w24 hbox hb; have n0_ := Aside0.mk (below_step (by repeat (first | (with_reducible first | exact HB.out | apply below_alloc | apply pw_below_drewN | apply below_drew1) | exact HB.out)) hb); have n1_ := Aside0.mk (hbox); have n2_ := Aside0.mk ((by rw [hg]; exact (below_size (by repeat (first | (with_reducible first | exact HB.out | apply below_alloc | apply pw_below_drewN | apply below_drew1) | exact HB.out))) : w.heap.size ≤ gb114)); have n3_ := Aside0.mk ((by rw [hg]; exact (below_size (by repeat (first | (with_reducible first | exact HB.out | apply below_alloc | apply pw_below_drewN | apply below_drew1) | exact HB.out))) : w.heap.size ≤ gb114)); clear HB; have HB := n0_; have BK114 := n1_; have GW114 := n2_; have GE114 := n3_; clear n0_ n1_ n2_ n3_; clear hb hbox hg; have hcz25_0 : w24.cell? ⟨gb114, 0, none⟩ = some (.slice A0_0 l0_0.length c0_0) := (blk_cell BK114.out 0).trans rfl; have hcz25_1 : w24.cell? ⟨gb114, 1, none⟩ = some (.slice A0_1 l0_1.length c0_1) := (blk_cell BK114.out 1).trans rfl; have hfz25_0 := blk_frozen BK114.out 0; have hfz25_1 := blk_frozen BK114.out 1) | ((with_reducible refine gate_callee (f := 37) rfl ?_); refine goesL_ (some 19) rfl rfl Tryd.func37 (by kernel_rfl) rfl #[.agg #[.slice A0_0 l0_0.length c0_0, .slice A0_1 l0_1.length c0_1], .string a1] rfl (by (try simp only [List.map_toArray, List.map_cons, List.map_nil]); first | done | rfl | (simp only [List.length_drop, List.length_take]; rfl)) ?_; (with_reducible refine (word_Letters.calls _ _ l0_0 _ _ l0_1 a1 t115 t118 _ ?side1 ?side2 ?side3 ?side4 ?side5 A5.out).mono ?_); (case side1 => repeat (first | exact (Kd.C_below HR0_0.out HB.out) | (with_reducible refine Kd.C_alloc ?_ _) | (with_reducible refine Kd.C_drewN ?_ _) | (with_reducible refine Kd.C_drew ?_))); (case side2 => exact HC0_0.out); (case side3 => repeat (first | exact (Kd.C_below HR0_1.out HB.out) | (with_reducible refine Kd.C_alloc ?_ _) | (with_reducible refine Kd.C_drewN ?_ _) | (with_reducible refine Kd.C_drew ?_))); (case side4 => exact HC0_1.out); (case side5 => exact Tabs.below HT.out (by repeat (first | (with_reducible first | exact HB.out | apply below_alloc | apply pw_below_drewN | apply below_drew1 | refine below_set ?_ GE114.out) | exact HB.out))); rintro e w26 ⟨v116, rfl, ho0, hb⟩; refine ⟨_, rfl, ?_⟩; have n0_ := Aside0.mk (Kd.R_lower ho0 (below_size (by repeat (first | (with_reducible first | exact HB.out | apply below_alloc | apply pw_below_drewN | apply below_drew1 | refine below_set ?_ GE114.out) | exact HB.out)))); have n1_ := Aside0.mk (blk_below (g := gb114) (o := .cells #[.slice A0_0 l0_0.length c0_0, .slice A0_1 l0_1.length c0_1] 25 (0, 0)) (by (with_reducible repeat (first | refine blk_drewN ?_ _ | refine blk_drew ?_ | refine blk_alloc ?_ _)); exact BK114.out) hb); have n2_ := Aside0.mk (below_step (by repeat (first | (with_reducible first | exact HB.out | apply below_alloc | apply pw_below_drewN | apply below_drew1 | refine below_set ?_ GE114.out) | exact HB.out)) hb); clear BK114; clear HB; have HO117 := n0_; have BK114 := n1_; have HB := n2_; clear n0_ n1_ n2_; (try clear hb); (try clear hb2); (try clear hk); (try clear hi); (try clear ho0); have hcz27_0 : w26.cell? ⟨gb114, 0, none⟩ = some (.slice A0_0 l0_0.length c0_0) := (blk_cell BK114.out 0).trans rfl; have hcz27_1 : w26.cell? ⟨gb114, 1, none⟩ = some (.slice A0_1 l0_1.length c0_1) := (blk_cell BK114.out 1).trans rfl; have hfz27_0 := blk_frozen BK114.out 0; have hfz27_1 := blk_frozen BK114.out 1) | ((with_reducible refine gate_callee (f := 67) rfl ?_); refine goesL_ (some 29) rfl rfl Tryd.func67 (by kernel_rfl) rfl #[.agg #[.slice A0_0 l0_0.length c0_0, .slice A0_1 l0_1.length c0_1], .int .u32 a2, .int .u32 a3] rfl (by (try simp only [List.map_toArray, List.map_cons, List.map_nil]); first | done | rfl | (simp only [List.length_drop, List.length_take]; rfl)) ?_; (with_reducible refine (feature_Class.calls k _ _ l0_0 _ _ l0_1 a2 a3 t119 t122 _ ?side1 ?side2 ?side3 ?side4 A7.out).mono ?_); (case side1 => repeat (first | exact (Kd.C_below HR0_0.out HB.out) | (with_reducible refine Kd.C_alloc ?_ _) | (with_reducible refine Kd.C_drewN ?_ _) | (with_reducible refine Kd.C_drew ?_))); (case side2 => exact HC0_0.out); (case side3 => repeat (first | exact (Kd.C_below HR0_1.out HB.out) | (with_reducible refine Kd.C_alloc ?_ _) | (with_reducible refine Kd.C_drewN ?_ _) | (with_reducible refine Kd.C_drew ?_))); (case side4 => exact HC0_1.out); rintro e w28 ⟨v120, rfl, ho0, hb⟩; refine ⟨_, rfl, ?_⟩; have n0_ := Aside0.mk (Kd.R_elder' (by (with_reducible repeat (first | apply Kd.R_alloc | apply Kd.R_drewN | apply Kd.R_drew)); exact HO117.out) (Kd.R_base ho0) hb); have n1_ := Aside0.mk (Kd.R_lower (Kd.R_new' ho0 (Kd.R_lt (by (with_reducible repeat (first | apply Kd.R_alloc | apply Kd.R_drewN | apply Kd.R_drew)); exact HO117.out))) (below_size (by repeat (first | (with_reducible first | exact HB.out | apply below_alloc | apply pw_below_drewN | apply below_drew1 | refine below_set ?_ GE114.out) | exact HB.out)))); have n2_ := Aside0.mk (blk_below (g := gb114) (o := .cells #[.slice A0_0 l0_0.length c0_0, .slice A0_1 l0_1.length c0_1] 25 (0, 0)) (by (with_reducible repeat (first | refine blk_drewN ?_ _ | refine blk_drew ?_ | refine blk_alloc ?_ _)); exact BK114.out) hb); have n3_ := Aside0.mk (below_step (by repeat (first | (with_reducible first | exact HB.out | apply below_alloc | apply pw_below_drewN | apply below_drew1 | refine below_set ?_ GE114.out) | exact HB.out)) hb); clear HO117; clear BK114; clear HB; have HO117 := n0_; have HO121 := n1_; have BK114 := n2_; have HB := n3_; clear n0_ n1_ n2_ n3_; (try clear hb); (try clear hb2); (try clear hk); (try clear hi); (try clear ho0)))
      go_ret2
      exact ⟨_, by first | rfl | (simp [errW_none, errW_some] <;> rfl) | (simp [*, errW_none, errW_some] <;> rfl), by first | exact Kd.R_nil _ _ _ _ _ | exact Kd.N_nil _ _ _ _ _ | exact Kd.V_nil _ _ _ _ _ | exact Kd.Q_nil _ _ _ _ _ | exact Kd.S_nil _ _ _ _ _, by repeat (first | (with_reducible first | exact HB.out | apply below_alloc | apply pw_below_drewN | apply below_drew1 | refine below_set ?_ GE114.out) | exact HB.out)⟩
  · rw [if_neg c6] at H
    have c6b0 : (t118 == 0) = false := beq_eq_false_iff_ne.mpr c6
    have c6b1 : (t118 != 0) = true := bne_iff_ne.mpr c6
    simp only [Option.some.injEq, Prod.mk.injEq] at H
    obtain ⟨rfl, rfl⟩ := H
    go_enter Tryd.func50, Tryd.ntmps50
    go_wp2_with (first | ((with_reducible refine gate_dst (N := 4) rfl ?_); refine box_event ?hg (N := 4) ?hd (cs := #[.slice A0_0 l0_0.length c0_0, .slice A0_1 l0_1.length c0_1]) (t := 25) ?hr ?_; (case hd => rfl); (case hg => rfl); (case hr => first | (go_simp; done) | (go_simp; rfl)); intro gb114 hg w29 hbox hb; have n0_ := Aside0.mk (below_step (by repeat (first | (with_reducible first | exact HB.out | apply below_alloc | apply pw_below_drewN | apply below_drew1) | exact HB.out)) hb); have n1_ := Aside0.mk (hbox); have n2_ := Aside0.mk ((by rw [hg]; exact (below_size (by repeat (first | (with_reducible first | exact HB.out | apply below_alloc | apply pw_below_drewN | apply below_drew1) | exact HB.out))) : w.heap.size ≤ gb114)); have n3_ := Aside0.mk ((by rw [hg]; exact (below_size (by repeat (first | (with_reducible first | exact HB.out | apply below_alloc | apply pw_below_drewN | apply below_drew1) | exact HB.out))) : w.heap.size ≤ gb114)); clear HB; have HB := n0_; have BK114 := n1_; have GW114 := n2_; have GE114 := n3_; clear n0_ n1_ n2_ n3_; clear hb hbox hg; have hcz30_0 : w29.cell? ⟨gb114, 0, none⟩ = some (.slice A0_0 l0_0.length c0_0) := (blk_cell BK114.out 0).trans rfl; have hcz30_1 : w29.cell? ⟨gb114, 1, none⟩ = some (.slice A0_1 l0_1.length c0_1) := (blk_cell BK114.out 1).trans rfl; have hfz30_0 := blk_frozen BK114.out 0; have hfz30_1 := blk_frozen BK114.out 1) | ((with_reducible refine gate_callee (f := 37) rfl ?_); refine goesL_ (some 19) rfl rfl Tryd.func37 (by kernel_rfl) rfl #[.agg #[.slice A0_0 l0_0.length c0_0, .slice A0_1 l0_1.length c0_1], .string a1] rfl (by (try simp only [List.map_toArray, List.map_cons, List.map_nil]); first | done | rfl | (simp only [List.length_drop, List.length_take]; rfl)) ?_; (with_reducible refine (word_Letters.calls _ _ l0_0 _ _ l0_1 a1 t115 t118 _ ?side1 ?side2 ?side3 ?side4 ?side5 A5.out).mono ?_); (case side1 => repeat (first | exact (Kd.C_below HR0_0.out HB.out) | (with_reducible refine Kd.C_alloc ?_ _) | (with_reducible refine Kd.C_drewN ?_ _) | (with_reducible refine Kd.C_drew ?_))); (case side2 => exact HC0_0.out); (case side3 => repeat (first | exact (Kd.C_below HR0_1.out HB.out) | (with_reducible refine Kd.C_alloc ?_ _) | (with_reducible refine Kd.C_drewN ?_ _) | (with_reducible refine Kd.C_drew ?_))); (case side4 => exact HC0_1.out); (case side5 => exact Tabs.below HT.out (by repeat (first | (with_reducible first | exact HB.out | apply below_alloc | apply pw_below_drewN | apply below_drew1 | refine below_set ?_ GE114.out) | exact HB.out))); rintro e w31 ⟨v116, rfl, ho0, hb⟩; refine ⟨_, rfl, ?_⟩; have n0_ := Aside0.mk (Kd.R_lower ho0 (below_size (by repeat (first | (with_reducible first | exact HB.out | apply below_alloc | apply pw_below_drewN | apply below_drew1 | refine below_set ?_ GE114.out) | exact HB.out)))); have n1_ := Aside0.mk (blk_below (g := gb114) (o := .cells #[.slice A0_0 l0_0.length c0_0, .slice A0_1 l0_1.length c0_1] 25 (0, 0)) (by (with_reducible repeat (first | refine blk_drewN ?_ _ | refine blk_drew ?_ | refine blk_alloc ?_ _)); exact BK114.out) hb); have n2_ := Aside0.mk (below_step (by repeat (first | (with_reducible first | exact HB.out | apply below_alloc | apply pw_below_drewN | apply below_drew1 | refine below_set ?_ GE114.out) | exact HB.out)) hb); clear BK114; clear HB; have HO117 := n0_; have BK114 := n1_; have HB := n2_; clear n0_ n1_ n2_; (try clear hb); (try clear hb2); (try clear hk); (try clear hi); (try clear ho0)))
    go_ret2
    exact ⟨_, by first | rfl | (simp [errW_none, errW_some] <;> rfl) | (simp [*, errW_none, errW_some] <;> rfl), by first | exact Kd.R_nil _ _ _ _ _ | exact Kd.N_nil _ _ _ _ _ | exact Kd.V_nil _ _ _ _ _ | exact Kd.Q_nil _ _ _ _ _ | exact Kd.S_nil _ _ _ _ _, by repeat (first | (with_reducible first | exact HB.out | apply below_alloc | apply pw_below_drewN | apply below_drew1 | refine below_set ?_ GE114.out) | exact HB.out)⟩

/-! ### radical_Skip: function 14 -/
-- NOT PRINTED: function 96 (api_Letter)

-- NOT PRINTED: function 79 (feature_Of)

end Go.Proofs.YthmjheclhcdinaaDoor.RF1
end
section
-- printed by a program of this session (wip/tools/prx.sh: a turned copy of the kit's print, with functions given from outside)
namespace Go.Proofs.YthmjheclhcdinaaDoor.RF1
open Go.RowKit Go.Proofs.YthmjheclhcdinaaDoor Go.Proofs.YthmjheclhcdinaaDoor.Ext Go.Proofs.YthmjheclhcdinaaDoorW.PrintWords Go.Proofs.YthmjheclhcdinaaDoorW.PrintLast Go.Proofs.YthmjheclhcdinaaDoorW.PrintMore
attribute [local go_sem] max2_int min2_int max_two min_two max_three min_three max_four min_four   -- for this text's walks alone
set_option linter.unusedVariables false
set_option linter.unusedSimpArgs false

/-! ### radical_Holes: function 65 -/
end Go.Proofs.YthmjheclhcdinaaDoor.RF1
end
section
/-
  What the printed functions feature.Class, slices.Contains, word.Peaks, radical.Skip compute, in plain words.
-/
set_option linter.unusedSimpArgs false
set_option linter.unusedVariables false
namespace Go.Proofs.YthmjheclhcdinaaDoor
open Go.RowKit Go.Proofs.YthmjheclhcdinaaDoorW.PrintWords Go.Proofs.YthmjheclhcdinaaDoorW.PrintLast Go.Proofs.YthmjheclhcdinaaDoorW.PrintMore Go.Proofs.YthmjheclhcdinaaDoor.Ext

theorem wrap_succ {i : Int} (h0 : 0 ≤ i) (h1 : i < 4611686018427387904) : wrap64 (i + 1) = i + 1 := by
  unfold wrap64
  omega

def likeB (x : Letter) (p m : Int) : Bool := decide (Go.bits .andNot .u32 p x.f1 = 0) && decide (Go.bits .andNot .u32 m x.f2 = 0)
theorem like_eq (x : Letter) (p m : Int) : RF1.feature_like.f x.f0 x.f1 x.f2 p m = some (likeB x p m) := by
  unfold RF1.feature_like.f likeB
  by_cases h : Go.bits .andNot .u32 p x.f1 = 0
  · rw [if_pos h, decide_eq_true h]
    simp [Bool.beq_eq_decide_eq]
  · rw [if_neg h, decide_eq_false h]
    rfl
theorem within1_eq (l0 : List ByteArray) (l1 : List Letter) (p m : Int) : RF1.feature_within.f l0 l1 p m = some (withinB l0.length p m) := within_eq l0 l1 p m

def classL (l1 : List Letter) (p m : Int) : List Int := (l1.filter (fun x => likeB x p m)).map (fun x => x.f0)
def classOf (l0 : List ByteArray) (l1 : List Letter) (p m : Int) : List Int × Int := if chk l0 l1 = 0 then (if withinB l0.length p m = true then (classL l1 p m, 0) else ([], 20)) else ([], chk l0 l1)

theorem rdL (l1 : List Letter) (i : Nat) (h : i < l1.length) : rd_T84 l1 (i : Int) = l1[i] := by
  simp [rd_T84, List.getD_eq_getElem?_getD, List.getElem?_eq_getElem h]
theorem Class_loop (p m : Int) (l1 : List Letter) (hl : l1.length ≤ 128) : ∀ (n i : Nat) (acc : List Int) (k : Nat), i + n = l1.length → n + 1 ≤ k → acc.length ≤ i →
    RF1.feature_Class.l0 k p m acc l1 (l1.length : Int) (i : Int) = some (acc ++ classL (l1.drop i) p m, 0)
  | 0, i, acc, k, hi, hk, ha => by
    obtain ⟨k, rfl⟩ : ∃ q, k = q + 1 := ⟨k - 1, by omega⟩
    unfold RF1.feature_Class.l0
    rw [if_neg (by omega), List.drop_of_length_le (by omega)]
    simp [classL]
  | n + 1, i, acc, k, hi, hk, ha => by
    obtain ⟨k, rfl⟩ : ∃ q, k = q + 1 := ⟨k - 1, by omega⟩
    have hlt : i < l1.length := by omega
    unfold RF1.feature_Class.l0
    rw [if_pos (by omega), if_pos (by omega), if_pos (by omega), rdL l1 i hlt, like_eq, wrap_succ (by omega) (by omega)]
    have e : (i : Int) + 1 = ((i + 1 : Nat) : Int) := by omega
    rw [List.drop_eq_getElem_cons hlt, e]
    cases hb : likeB l1[i] p m with
    | true =>
      rw [Option.bind_some, if_pos rfl, if_pos (by omega), Class_loop p m l1 hl n (i + 1) _ k (by omega) (by omega) (by simp; omega)]
      generalize List.drop (i + 1) l1 = t
      simp [classL, hb]
    | false =>
      rw [Option.bind_some, if_neg (by simp), Class_loop p m l1 hl n (i + 1) _ k (by omega) (by omega) (by omega)]
      generalize List.drop (i + 1) l1 = t
      simp [classL, hb]
theorem Class_eq (l0 : List ByteArray) (l1 : List Letter) (p m : Int) (k : Nat) (hk : 129 ≤ k) : RF1.feature_Class.f k l0 l1 p m = some (classOf l0 l1 p m) := by
  unfold RF1.feature_Class.f feature_Check.f classOf
  rw [Option.bind_some]
  by_cases hc : chk l0 l1 = 0
  · rw [if_pos hc, if_pos hc, within1_eq, Option.bind_some]
    split
    · have := Class_loop p m l1 (chk_len hc) l1.length 0 [] k (by omega) (by have := chk_len hc; omega) (by simp)
      simpa using this
    · rfl
  · rw [if_neg hc, if_neg hc]
theorem classOf_len (l0 : List ByteArray) (l1 : List Letter) (p m : Int) : (classOf l0 l1 p m).1.length ≤ 128 := by
  unfold classOf
  split
  · rename_i h
    split
    · unfold classL
      rw [List.length_map]
      exact Nat.le_trans (List.length_filter_le _ _) (chk_len h)
    · simp
  · simp

theorem Index_loop (l : List Int) (x : Int) (hl : l.length < 1000000) : ∀ (n i k : Nat), i + n = l.length → n + 1 ≤ k →
    ∃ r, RF1.slices_Index_rune_rune.l0 k l x (l.length : Int) (i : Int) = some r ∧ (r ≥ 0 ↔ (l.drop i).contains x = true)
  | 0, i, k, hi, hk => by
    obtain ⟨k, rfl⟩ : ∃ q, k = q + 1 := ⟨k - 1, by omega⟩
    unfold RF1.slices_Index_rune_rune.l0
    rw [if_neg (by omega), List.drop_of_length_le (by omega)]
    exact ⟨_, rfl, by simp⟩
  | n + 1, i, k, hi, hk => by
    obtain ⟨k, rfl⟩ : ∃ q, k = q + 1 := ⟨k - 1, by omega⟩
    have hlt : i < l.length := by omega
    have hr : rd l (i : Int) = l[i] := by simp [rd, List.getD_eq_getElem?_getD, List.getElem?_eq_getElem hlt]
    unfold RF1.slices_Index_rune_rune.l0
    rw [if_pos (by omega), if_pos (by omega), if_pos (by omega), hr, wrap_succ (by omega) (by omega), List.drop_eq_getElem_cons hlt]
    have e : (i : Int) + 1 = ((i + 1 : Nat) : Int) := by omega
    by_cases hx : x = l[i]
    · rw [if_pos hx]
      generalize List.drop (i + 1) l = t
      exact ⟨_, rfl, by rw [hx]; simp⟩
    · rw [if_neg hx, e]
      obtain ⟨r, h1, h2⟩ := Index_loop l x hl n (i + 1) k (by omega) (by omega)
      refine ⟨r, h1, h2.trans ?_⟩
      generalize List.drop (i + 1) l = t
      simp [hx]
theorem Contains_eq (l : List Int) (x : Int) (hl : l.length < 1000000) (k : Nat) (hk : l.length + 1 ≤ k) : RF1.slices_Contains_rune_rune.f k l x = some (l.contains x) := by
  unfold RF1.slices_Contains_rune_rune.f RF1.slices_Index_rune_rune.f
  obtain ⟨r, h1, h2⟩ := Index_loop l x hl l.length 0 k (by omega) hk
  have e : ((0 : Nat) : Int) = 0 := rfl
  rw [e] at h1
  rw [h1, Option.bind_some]
  congr 1
  rw [List.drop_zero] at h2
  rw [Bool.eq_iff_iff, decide_eq_true_iff]
  exact h2

/-- The numbers (from i on) of those that are of a class. -/
def peaksL (cls : List Int) : List Int → Nat → List Int
  | [], _ => []
  | x :: xs, i => if cls.contains x = true then (i : Int) :: peaksL cls xs (i + 1) else peaksL cls xs (i + 1)
theorem Peaks_loop (cls l : List Int) (hc : cls.length ≤ 128) (hl : l.length ≤ 64) : ∀ (n i : Nat) (acc : List Int) (k : Nat), i + n = l.length → n + 130 ≤ k → acc.length ≤ i →
    RF1.word_Peaks.l0 k cls acc l (l.length : Int) (i : Int) = some (acc ++ peaksL cls (l.drop i) i, 0)
  | 0, i, acc, k, hi, hk, ha => by
    obtain ⟨k, rfl⟩ : ∃ q, k = q + 1 := ⟨k - 1, by omega⟩
    unfold RF1.word_Peaks.l0
    rw [if_neg (by omega), List.drop_of_length_le (by omega)]
    simp [peaksL]
  | n + 1, i, acc, k, hi, hk, ha => by
    obtain ⟨k, rfl⟩ : ∃ q, k = q + 1 := ⟨k - 1, by omega⟩
    have hlt : i < l.length := by omega
    have hr : rd l (i : Int) = l[i] := by simp [rd, List.getD_eq_getElem?_getD, List.getElem?_eq_getElem hlt]
    have e : (i : Int) + 1 = ((i + 1 : Nat) : Int) := by omega
    unfold RF1.word_Peaks.l0
    rw [if_pos (by omega), if_pos (by omega), if_pos (by omega), hr, Contains_eq cls _ (by omega) k (by omega), Option.bind_some, wrap_succ (by omega) (by omega), e, List.drop_eq_getElem_cons hlt]
    by_cases hx : cls.contains l[i] = true
    · rw [if_pos hx, if_pos (by omega), Peaks_loop cls l hc hl n (i + 1) _ k (by omega) (by omega) (by simp; omega)]
      simp only [peaksL, if_pos hx, List.append_assoc, List.singleton_append]
    · rw [if_neg hx, Peaks_loop cls l hc hl n (i + 1) _ k (by omega) (by omega) (by omega)]
      simp only [peaksL, if_neg hx]
theorem readP_len (ks : List Int) : ∀ (ps : List Piece) (acc : List Int), acc.length ≤ 64 → (readP ks ps acc).1.length ≤ 64
  | [], acc, h => h
  | p :: ps, acc, h => by
    unfold readP
    split
    · simp
    · split
      · simp
      · split
        · simp
        · exact readP_len ks ps _ (by simp; omega)
theorem lettersOf_len (l0 : List ByteArray) (l1 : List Letter) (s : ByteArray) : (lettersOf l0 l1 s).1.length ≤ 64 := by
  unfold lettersOf
  split
  · exact readP_len _ _ _ (by simp)
  · simp
/-- A word's letters, the letters of a class, the error. -/
def partsOf (l0 : List ByteArray) (l1 : List Letter) (s : ByteArray) (p : Int) : List Int × List Int × Int :=
  if (lettersOf l0 l1 s).2 = 0 then (if (classOf l0 l1 p 0).2 = 0 then ((lettersOf l0 l1 s).1, (classOf l0 l1 p 0).1, 0) else ([], [], (classOf l0 l1 p 0).2)) else ([], [], (lettersOf l0 l1 s).2)
def peaksOf (l0 : List ByteArray) (l1 : List Letter) (s : ByteArray) (p m : Int) : List Int × Int :=
  if (lettersOf l0 l1 s).2 = 0 then (if (classOf l0 l1 p m).2 = 0 then (peaksL (classOf l0 l1 p m).1 (lettersOf l0 l1 s).1 0, 0) else ([], (classOf l0 l1 p m).2)) else ([], (lettersOf l0 l1 s).2)
theorem Peaks_eq (l0 : List ByteArray) (l1 : List Letter) (s : ByteArray) (p m : Int) (k : Nat) (hk : 200 ≤ k) : RF1.word_Peaks.f k l0 l1 s p m = some (peaksOf l0 l1 s p m) := by
  unfold RF1.word_Peaks.f word_Letters.f peaksOf
  rw [Option.bind_some]
  by_cases h : (lettersOf l0 l1 s).2 = 0
  · rw [if_pos h, if_pos h, Class_eq l0 l1 p m k (by omega), Option.bind_some]
    by_cases h2 : (classOf l0 l1 p m).2 = 0
    · rw [if_pos h2, if_pos h2]
      have h64 := lettersOf_len l0 l1 s
      have := Peaks_loop (classOf l0 l1 p m).1 (lettersOf l0 l1 s).1 (classOf_len _ _ _ _) h64 (lettersOf l0 l1 s).1.length 0 [] k (by omega) (by omega) (by simp)
      simpa using this
    · rw [if_neg h2, if_neg h2]
  · rw [if_neg h, if_neg h]
theorem mem_peaksL (cls : List Int) : ∀ (l : List Int) (i : Nat) (j : Int), j ∈ peaksL cls l i ↔ ∃ q : Nat, ∃ h : q < l.length, j = ((i + q : Nat) : Int) ∧ cls.contains l[q] = true
  | [], i, j => by simp [peaksL]
  | x :: xs, i, j => by
    have ih := mem_peaksL cls xs (i + 1) j
    unfold peaksL
    constructor
    · intro h
      split at h
      · rename_i hx
        rcases List.mem_cons.1 h with rfl | h
        · exact ⟨0, by simp, by simp, hx⟩
        · obtain ⟨q, hq, he, hc⟩ := ih.1 h
          exact ⟨q + 1, by simp; omega, by omega, by simpa using hc⟩
      · obtain ⟨q, hq, he, hc⟩ := ih.1 h
        exact ⟨q + 1, by simp; omega, by omega, by simpa using hc⟩
    · rintro ⟨q, hq, he, hc⟩
      cases q with
      | zero =>
        rw [if_pos (by simpa using hc)]
        simp [he]
      | succ q =>
        have : j ∈ peaksL cls xs (i + 1) := ih.2 ⟨q, by simpa using hq, by omega, by simpa using hc⟩
        split
        · exact List.mem_cons_of_mem _ this
        · exact this
theorem peaksL_len (cls : List Int) : ∀ (l : List Int) (i : Nat), (peaksL cls l i).length ≤ l.length
  | [], i => by simp [peaksL]
  | x :: xs, i => by
    have := peaksL_len cls xs (i + 1)
    unfold peaksL
    split <;> simp <;> omega
end Go.Proofs.YthmjheclhcdinaaDoor
end
section
/-
  What the printed reference functions (layers 1 to 3) compute, in plain words.
-/
set_option linter.unusedSimpArgs false
set_option linter.unusedVariables false
namespace Go.Proofs.YthmjheclhcdinaaDoor
open Go.RowKit Go.Proofs.YthmjheclhcdinaaDoorW.PrintWords Go.Proofs.YthmjheclhcdinaaDoorW.PrintLast Go.Proofs.YthmjheclhcdinaaDoorW.PrintMore Go.Proofs.YthmjheclhcdinaaDoor.Ext

/-! ### runes as bytes -/
end Go.Proofs.YthmjheclhcdinaaDoor
end
section
/-
  What the printed reference functions of layer 2 compute: May, Check.
-/
set_option linter.unusedSimpArgs false
set_option linter.unusedVariables false
namespace Go.Proofs.YthmjheclhcdinaaDoor
open Go.RowKit Go.Proofs.YthmjheclhcdinaaDoorW.PrintWords Go.Proofs.YthmjheclhcdinaaDoorW.PrintLast Go.Proofs.YthmjheclhcdinaaDoorW.PrintMore Go.Proofs.YthmjheclhcdinaaDoor.Ext

def u32 (x : Int) : Prop := 0 ≤ x ∧ x < 4294967296
instance (x : Int) : Decidable (u32 x) := by unfold u32; exact inferInstance
end Go.Proofs.YthmjheclhcdinaaDoor
end
section
/-
  What the printed reference functions of layers 2 and 3 compute: Check, Find, Letters, Has, lists compared.
-/
set_option linter.unusedSimpArgs false
set_option linter.unusedVariables false
namespace Go.Proofs.YthmjheclhcdinaaDoor
open Go.RowKit Go.Proofs.YthmjheclhcdinaaDoorW.PrintWords Go.Proofs.YthmjheclhcdinaaDoorW.PrintLast Go.Proofs.YthmjheclhcdinaaDoorW.PrintMore Go.Proofs.YthmjheclhcdinaaDoor.Ext

/-- Each letter's bits are 32. -/
def wfA (l1 : List Letter) : Prop := ∀ x ∈ l1, u32 x.f1 ∧ u32 x.f2
instance (l1 : List Letter) : Decidable (wfA l1) := by unfold wfA; exact inferInstance
/-! ### a rune's number -/
def numOf (l1 : List Letter) (r : Int) : Int := match l1.findIdx? (fun x => x.f0 == r) with | some i => (i : Int) | none => -1
theorem numOf_neg (l1 : List Letter) (r : Int) : numOf l1 r < 0 ↔ (kindsOf l1).contains r = false := by
  unfold numOf kindsOf
  cases h : l1.findIdx? (fun x => x.f0 == r) with
  | none =>
    rw [List.findIdx?_eq_none_iff] at h
    constructor
    · intro _
      rw [Bool.eq_false_iff]
      intro hc
      simp only [List.contains_iff_mem, List.mem_map] at hc
      obtain ⟨x, hx, e⟩ := hc
      have := h x hx
      simp [e] at this
    · intro _
      show (-1 : Int) < 0
      omega
  | some i =>
    rw [List.findIdx?_eq_some_iff_getElem] at h
    obtain ⟨hi, hp, _⟩ := h
    constructor
    · intro h2
      have h2 : (i : Int) < 0 := h2
      omega
    · intro hc
      rw [Bool.eq_false_iff] at hc
      exact absurd (by simp only [List.contains_iff_mem, List.mem_map]; exact ⟨l1[i], List.getElem_mem hi, by simpa using hp⟩) hc

/-! ### a word's letters -/
/-! ### lists compared -/
end Go.Proofs.YthmjheclhcdinaaDoor
end
section
/-
  feature.Of by walks: a rune's letter.
-/
set_option linter.unusedSimpArgs false
set_option linter.unusedVariables false
namespace Go.Proofs.YthmjheclhcdinaaDoor
open Go.RowKit Go.Proofs.YthmjheclhcdinaaDoorW.PrintWords Go.Proofs.YthmjheclhcdinaaDoorW.PrintLast Go.Proofs.YthmjheclhcdinaaDoorW.PrintMore Go.Proofs.YthmjheclhcdinaaDoor.Ext

set_option maxHeartbeats 1000000 in
set_option maxRecDepth 100000 in
theorem isRune (b : Nat) (r x0 x1 x2 : Int) (w : World) (hblk : w.heap[b]? = some (.cells #[.int .i32 r] 21 (0, 0))) :
    Calls Tryd.prog 97 #[.agg #[.int .i32 x0, .int .u32 x1, .int .u32 x2], .pointer (some ⟨b, 0, none⟩)] w fun e w' => e = .returned (.bool (x0 == r)) ∧ Below w.heap.size w w' := by
  have hbl := blk_lt hblk
  have hc0 : ∀ o, (w.alloc o).cell? ⟨b, 0, none⟩ = some (.int .i32 r) := fun o => (blk_cell (blk_alloc hblk o) 0).trans rfl
  have hc1 : w.cell? ⟨b, 0, none⟩ = some (.int .i32 r) := (blk_cell hblk 0).trans rfl
  clear hblk
  go_enter Tryd.func97, Tryd.ntmps97
  go_wp2_with fail
  go_ret
  exact ⟨rfl, (Below.refl _ _).alloc (Nat.le_refl _) _⟩

theorem numOf_here (l1 : List Letter) (r : Int) (k : Nat) (h : k < l1.length) (hn : ∀ j (hj : j < k), (l1[j]'(by omega)).f0 ≠ r) (hk : l1[k].f0 = r) : numOf l1 r = (k : Int) := by
  unfold numOf
  have : l1.findIdx? (fun x => x.f0 == r) = some k := by
    rw [List.findIdx?_eq_some_iff_getElem]
    exact ⟨h, by simpa using hk, fun j hj => by simpa using hn j hj⟩
  rw [this]
theorem numOf_none (l1 : List Letter) (r : Int) (hn : ∀ j (hj : j < l1.length), l1[j].f0 ≠ r) : numOf l1 r = -1 := by
  unfold numOf
  have : l1.findIdx? (fun x => x.f0 == r) = none := by
    rw [List.findIdx?_eq_none_iff]
    intro x hx
    obtain ⟨j, hj, rfl⟩ := List.getElem_of_mem hx
    simpa using hn j hj
  rw [this]

set_option maxHeartbeats 2000000 in
set_option maxRecDepth 100000 in
theorem find_walk (A : Option Addr) (c : Nat) (l1 : List Letter) (b : Nat) (r : Int) (w : World) (hblk : w.heap[b]? = some (.cells #[.int .i32 r] 21 (0, 0))) (hL : Kd.C kLetter w A l1.length l1) (hcL : l1.length ≤ c) (hl : l1.length ≤ 1000000) :
    Calls Tryd.prog 96 #[.slice A l1.length c, .func (.func 97) #[] #[.pointer (some ⟨b, 0, none⟩)]] w fun e w' => e = .returned (.int .i64 (numOf l1 r)) ∧ Below w.heap.size w w' := by
  have Hblk := Lib.hid hblk
  have HL := Lib.hid hL
  clear hblk hL
  go_enter Tryd.func96, Tryd.ntmps96
  go_wp2_with fail
  go_loopw [8] (fun i wr => ∃ k : Nat, k ≤ l1.length ∧ i = .int .i64 k ∧ Below w.heap.size w wr ∧ Hid (∀ j (hj : j < k) (hj2 : j < l1.length), l1[j].f0 ≠ r)) (fun i _ => l1.length - (intOf i).toNat)
  case atStart => exact ⟨0, Nat.zero_le _, rfl, Below.refl _ _, fun j hj _ => absurd hj (by omega)⟩
  case round =>
    obtain ⟨k, hk, rfl, hb, hn⟩ := hrel
    by_cases hlt : k < l1.length
    · obtain ⟨ad, hA, hx0, hx1, hx2⟩ := at_T84 (Kd.C_below HL.out hb) k (by omega) (by omega)
      subst hA
      rw [Int.toNat_natCast] at hx0 hx1 hx2
      rw [rdL l1 k hlt] at hx0 hx1 hx2
      obtain ⟨x, hx⟩ : ∃ x, x = l1[k] := ⟨_, rfl⟩
      rw [← hx] at hx0 hx1 hx2
      have Hx := Lib.hid hx
      clear hx
      obtain ⟨x0, x1, x2⟩ := x
      dsimp only at hx0 hx1 hx2
      have hcall := isRune b r x0 x1 x2 wr (blk_below Hblk.out hb)
      cases hq : (x0 == r) with
      | true =>
        rw [hq] at hcall
        have Hq := Lib.hid (numOf_here l1 r k hlt (fun j hj => hn.out j hj (by omega)) (by rw [← Hx.out]; simpa using hq))
        clear hq
        go_wp2_with (go_at_call 97; refine hcall.mono ?_; rintro e w1 ⟨rfl, hb1⟩)
        go_ret
        exact ⟨ret_i64 Hq.out.symm, below_step hb hb1⟩
      | false =>
        rw [hq] at hcall
        have Hq : Hid (x0 ≠ r) := by simpa [Hid] using hq
        clear hq
        go_wp2_with (go_at_call 97; refine hcall.mono ?_; rintro e w1 ⟨rfl, hb1⟩)
        go_roundw
        case rel =>
          refine ⟨k + 1, by omega, by go_num, below_step hb hb1, fun j hj hj2 => ?_⟩
          by_cases e : j = k
          · subst e
            rw [← Hx.out]
            exact Hq.out
          · exact hn.out j (by omega) hj2
        case measure => simp [intOf]; omega
    · obtain rfl : k = l1.length := by omega
      have Hq := Lib.hid (numOf_none l1 r (fun j hj => hn.out j hj hj))
      go_wp2_with fail
      go_ret
      exact ⟨ret_i64 Hq.out.symm, hb⟩

theorem boxes3 (w : World) (a b c : Obj) : Below w.heap.size w (((w.alloc a).alloc b).alloc c) ∧ (((w.alloc a).alloc b).alloc c).heap[w.heap.size]? = some a ∧ (((w.alloc a).alloc b).alloc c).heap[w.heap.size + 1]? = some b ∧ (((w.alloc a).alloc b).alloc c).heap[w.heap.size + 1 + 1]? = some c := by
  have e1 : (w.alloc a).heap.size = w.heap.size + 1 := by simp
  have e2 : ((w.alloc a).alloc b).heap.size = w.heap.size + 1 + 1 := by simp
  refine ⟨(((Below.refl _ _).alloc (Nat.le_refl _) _).alloc (by simp) _).alloc (by simp; omega) _, blk_alloc (blk_alloc (blk_new w a) b) c, ?_, ?_⟩
  · have := blk_alloc (blk_new (w.alloc a) b) c
    rwa [e1] at this
  · have := blk_new ((w.alloc a).alloc b) c
    rwa [e2] at this
namespace Ext
def feature_Of.f (l0 : List ByteArray) (l1 : List Letter) (r : Int) : Option (Int × Int × Int × Int) :=
  some (if chk l0 l1 = 0 then (if numOf l1 r < 0 then (0, 0, 0, 5) else ((rd_T84 l1 (numOf l1 r)).f0, (rd_T84 l1 (numOf l1 r)).f1, (rd_T84 l1 (numOf l1 r)).f2, 0)) else (0, 0, 0, chk l0 l1))
set_option maxHeartbeats 2000000 in
set_option maxRecDepth 100000 in
theorem feature_Of.calls (A0 : Option Addr) (c0 : Nat) (l0 : List ByteArray) (A1 : Option Addr) (c1 : Nat) (l1 : List Letter) (r : Int) (r1 r2 r3 r4 : Int) (w : World) (hF : Kd.C Kd.string w A0 l0.length l0) (hcF : l0.length ≤ c0) (hL : Kd.C kLetter w A1 l1.length l1) (hcL : l1.length ≤ c1)
    (h : feature_Of.f l0 l1 r = some (r1, r2, r3, r4)) :
    Calls Tryd.prog 79 #[.agg #[.slice A0 l0.length c0, .slice A1 l1.length c1], .int .i32 r] w fun e w' => e = .returned (.tuple #[.agg #[.int .i32 r1, .int .u32 r2, .int .u32 r3], .int .i64 r4]) ∧ Below w.heap.size w w' := by
  have h := Option.some.inj h
  have hch := fun W hF hL => feature_Check.calls A0 c0 l0 A1 c1 l1 (chk l0 l1) W hF hcF hL hcL rfl
  have HF := Lib.hid hF
  have HL := Lib.hid hL
  clear hF hL
  by_cases hk : chk l0 l1 = 0
  · rw [if_pos hk] at h
    rw [hk] at hch
    have hlen := chk_len hk
    have hfi := fun W b hb hL => find_walk A1 c1 l1 b r W hb hL hcL (by omega)
    have Hk := Lib.hid hk
    clear hk
    by_cases hneg : numOf l1 r < 0
    · rw [if_pos hneg] at h
      simp only [Prod.mk.injEq] at h
      obtain ⟨rfl, rfl, rfl, rfl⟩ := h
      have hd := decide_eq_true hneg
      clear hneg
      go_enter Tryd.func79, Tryd.ntmps79
      go_wp2_with (first | (go_at_call 39; have hB3 := boxes3 w (.cells #[.slice A0 l0.length c0, .slice A1 l1.length c1] 25) (.cells #[.int .i32 r] 21) (.cells #[.int .i32 0, .int .u32 0, .int .u32 0] 84); refine (hch _ (Kd.C_below HF.out hB3.1) (Kd.C_below HL.out hB3.1)).mono ?_; rintro e w1 ⟨rfl, hb1⟩; have hB1 := Lib.hid (below_step hB3.1 hb1); have ha := Lib.hid (blk_below hB3.2.1 hb1); have hr := Lib.hid (blk_below hB3.2.2.1 hb1); have hz := Lib.hid (blk_below hB3.2.2.2 hb1); have hA0 := (blk_cell ha.out 0).trans rfl; have hA1 := (blk_cell ha.out 1).trans rfl; have hR0 := (blk_cell hr.out 0).trans rfl; have hz0 := (blk_cell hz.out 0).trans rfl; have hz1 := (blk_cell hz.out 1).trans rfl; have hz2 := (blk_cell hz.out 2).trans rfl; have hf0 := blk_frozen hz.out 0; have hf1 := blk_frozen hz.out 1; have hf2 := blk_frozen hz.out 2; clear hB3) | (go_at_call 96; refine (hfi _ (w.heap.size + 1) hr.out (Kd.C_below HL.out hB1.out)).mono ?_; rintro e w2 ⟨rfl, hb2⟩; have hB2 := Lib.hid (below_step hB1.out hb2); have ha2 := Lib.hid (blk_below ha.out hb2); have hz2' := Lib.hid (blk_below hz.out hb2); have gA1 := (blk_cell ha2.out 1).trans rfl; have gz0 := (blk_cell hz2'.out 0).trans rfl; have gz1 := (blk_cell hz2'.out 1).trans rfl; have gz2 := (blk_cell hz2'.out 2).trans rfl; have gf0 := blk_frozen hz2'.out 0; have gf1 := blk_frozen hz2'.out 1; have gf2 := blk_frozen hz2'.out 2))
      refine bodyPost_ret (results_ct rfl _ _ (w.heap.size + 1 + 1) 84 #[.int .i32 0, .int .u32 0, .int .u32 0] (0, 0) _ rfl (by refine blk_put (cs := #[.int .i32 0, .int .u32 0, .int .u32 0]) ?_ 2 _ rfl; refine blk_put (cs := #[.int .i32 0, .int .u32 0, .int .u32 0]) ?_ 1 _ rfl; refine blk_put (cs := #[.int .i32 0, .int .u32 0, .int .u32 0]) ?_ 0 _ rfl; exact hz2'.out) Tryd.underlying84 rfl (by kernel_rfl)) rfl ?_
      exact ⟨rfl, below_set (below_set (below_set hB2.out (by omega)) (by omega)) (by omega)⟩
    · rw [if_neg hneg] at h
      simp only [Prod.mk.injEq] at h
      obtain ⟨rfl, rfl, rfl, rfl⟩ := h
      have hd := decide_eq_false hneg
      have hge : 0 ≤ numOf l1 r := by omega
      have hlt : numOf l1 r < l1.length := by
        unfold numOf at hge ⊢
        cases hfd : l1.findIdx? (fun x => x.f0 == r) with
        | none => rw [hfd] at hge; exact absurd hge (by show ¬ (0 : Int) ≤ -1; omega)
        | some i =>
          rw [List.findIdx?_eq_some_iff_getElem] at hfd
          obtain ⟨hi, _⟩ := hfd
          show (i : Int) < _
          omega
      obtain ⟨q, hq⟩ : ∃ q, q = numOf l1 r := ⟨_, rfl⟩
      rw [← hq] at hd hge hlt hfi ⊢
      have hT := fun W (hb : Below w.heap.size w W) => at_T84 (Kd.C_below HL.out hb) q hge hlt
      have HT := Lib.hid hT
      obtain ⟨ad, hA, _⟩ := hT w (Below.refl _ _)
      subst hA
      have p1 := eq_true hge
      have p2 := eq_true hlt
      clear hq hT hneg
      go_enter Tryd.func79, Tryd.ntmps79
      go_wp2_with (first | (go_at_call 39; have hB3 := boxes3 w (.cells #[.slice A0 l0.length c0, .slice (some ad) l1.length c1] 25) (.cells #[.int .i32 r] 21) (.cells #[.int .i32 0, .int .u32 0, .int .u32 0] 84); refine (hch _ (Kd.C_below HF.out hB3.1) (Kd.C_below HL.out hB3.1)).mono ?_; rintro e w1 ⟨rfl, hb1⟩; have hB1 := Lib.hid (below_step hB3.1 hb1); have ha := Lib.hid (blk_below hB3.2.1 hb1); have hr := Lib.hid (blk_below hB3.2.2.1 hb1); have hz := Lib.hid (blk_below hB3.2.2.2 hb1); have hA0 := (blk_cell ha.out 0).trans rfl; have hA1 := (blk_cell ha.out 1).trans rfl; have hR0 := (blk_cell hr.out 0).trans rfl; have hz0 := (blk_cell hz.out 0).trans rfl; have hz1 := (blk_cell hz.out 1).trans rfl; have hz2 := (blk_cell hz.out 2).trans rfl; have hf0 := blk_frozen hz.out 0; have hf1 := blk_frozen hz.out 1; have hf2 := blk_frozen hz.out 2; clear hB3) | (go_at_call 96; refine (hfi _ (w.heap.size + 1) hr.out (Kd.C_below HL.out hB1.out)).mono ?_; rintro e w2 ⟨rfl, hb2⟩; have hB2 := Lib.hid (below_step hB1.out hb2); have ha2 := Lib.hid (blk_below ha.out hb2); have hz2' := Lib.hid (blk_below hz.out hb2); have gA1 := (blk_cell ha2.out 1).trans rfl; have gz0 := (blk_cell hz2'.out 0).trans rfl; have gz1 := (blk_cell hz2'.out 1).trans rfl; have gz2 := (blk_cell hz2'.out 2).trans rfl; have gf0 := blk_frozen hz2'.out 0; have gf1 := blk_frozen hz2'.out 1; have gf2 := blk_frozen hz2'.out 2; obtain ⟨ad2, hA2, hx0, hx1, hx2⟩ := HT.out w2 hB2.out; cases hA2))
      refine bodyPost_ret (results_ct rfl _ _ (w.heap.size + 1 + 1) 84 #[.int .i32 (rd_T84 l1 q).f0, .int .u32 (rd_T84 l1 q).f1, .int .u32 (rd_T84 l1 q).f2] (0, 0) _ rfl (by refine blk_put (cs := #[.int .i32 (rd_T84 l1 q).f0, .int .u32 (rd_T84 l1 q).f1, .int .u32 0]) ?_ 2 _ rfl; refine blk_put (cs := #[.int .i32 (rd_T84 l1 q).f0, .int .u32 0, .int .u32 0]) ?_ 1 _ rfl; refine blk_put (cs := #[.int .i32 0, .int .u32 0, .int .u32 0]) ?_ 0 _ rfl; exact hz2'.out) Tryd.underlying84 rfl (by kernel_rfl)) rfl ?_
      exact ⟨rfl, below_set (below_set (below_set hB2.out (by omega)) (by omega)) (by omega)⟩
  · rw [if_neg hk] at h
    simp only [Prod.mk.injEq] at h
    obtain ⟨rfl, rfl, rfl, rfl⟩ := h
    have heb : (chk l0 l1 == 0) = false := beq_eq_false_iff_ne.mpr hk
    have heb2 : (chk l0 l1 != 0) = true := bne_iff_ne.mpr hk
    clear hk
    go_enter Tryd.func79, Tryd.ntmps79
    go_wp2_with (go_at_call 39; have hB3 := boxes3 w (.cells #[.slice A0 l0.length c0, .slice A1 l1.length c1] 25) (.cells #[.int .i32 r] 21) (.cells #[.int .i32 0, .int .u32 0, .int .u32 0] 84); refine (hch _ (Kd.C_below HF.out hB3.1) (Kd.C_below HL.out hB3.1)).mono ?_; rintro e w1 ⟨rfl, hb1⟩; have hB1 := Lib.hid (below_step hB3.1 hb1); have ha := Lib.hid (blk_below hB3.2.1 hb1); have hr := Lib.hid (blk_below hB3.2.2.1 hb1); have hz := Lib.hid (blk_below hB3.2.2.2 hb1); have hA0 := (blk_cell ha.out 0).trans rfl; have hA1 := (blk_cell ha.out 1).trans rfl; have hR0 := (blk_cell hr.out 0).trans rfl; have hz0 := (blk_cell hz.out 0).trans rfl; have hz1 := (blk_cell hz.out 1).trans rfl; have hz2 := (blk_cell hz.out 2).trans rfl; have hf0 := blk_frozen hz.out 0; have hf1 := blk_frozen hz.out 1; have hf2 := blk_frozen hz.out 2; clear hB3)
    refine bodyPost_ret (results_ct rfl _ _ (w.heap.size + 1 + 1) 84 #[.int .i32 0, .int .u32 0, .int .u32 0] (0, 0) _ rfl (by refine blk_put (cs := #[.int .i32 0, .int .u32 0, .int .u32 0]) ?_ 2 _ rfl; refine blk_put (cs := #[.int .i32 0, .int .u32 0, .int .u32 0]) ?_ 1 _ rfl; refine blk_put (cs := #[.int .i32 0, .int .u32 0, .int .u32 0]) ?_ 0 _ rfl; exact hz.out) Tryd.underlying84 rfl (by kernel_rfl)) rfl ?_
    exact ⟨rfl, below_set (below_set (below_set hB1.out (by omega)) (by omega)) (by omega)⟩
end Ext
end Go.Proofs.YthmjheclhcdinaaDoor
end
section
/-
  What radical.Check asks of a shape, in plain words, over a text's pieces.
-/
set_option linter.unusedSimpArgs false
set_option linter.unusedVariables false
namespace Go.Proofs.YthmjheclhcdinaaDoor
open Go.RowKit Go.Proofs.YthmjheclhcdinaaDoorW.PrintWords Go.Proofs.YthmjheclhcdinaaDoorW.PrintLast Go.Proofs.YthmjheclhcdinaaDoorW.PrintMore Go.Proofs.YthmjheclhcdinaaDoor.Ext

theorem runeCount_pieces (s : ByteArray) : ∀ f pos, Lib.runeCountFrom s f pos = (piecesFrom s f pos).length
  | 0, _ => rfl
  | f + 1, pos => by
    unfold Lib.runeCountFrom piecesFrom
    split
    · rw [runeCount_pieces s f]
      simp
      omega
    · rfl
theorem runeCount_eq (s : ByteArray) : Lib.runeCount s = (pieces s).length := runeCount_pieces s s.size 0
theorem validGo_pieces (s : ByteArray) : ∀ f pos, Lib.validGoD f (s.data.toList.drop pos) = (piecesFrom s f pos).all (fun p => !p.f3)
  | 0, _ => rfl
  | f + 1, pos => by
    have hl : s.data.toList.length = s.size := by rw [Array.length_toList]; rfl
    unfold Lib.validGoD piecesFrom
    by_cases h : pos < s.size
    · rw [if_pos h, if_neg (dropsz s pos h), Lib.decodeL_drop, List.drop_drop, validGo_pieces s f]
      have hf3 : (pieceAt s pos).f3 = decide ((Utf8.decode s pos).1 = 65533 ∧ (Utf8.decode s pos).2 = 1) := rfl
      rw [List.all_cons, hf3]
      by_cases e : (Utf8.decode s pos).1 = 65533 ∧ (Utf8.decode s pos).2 = 1
      · rw [if_pos e, decide_eq_true e]
        rfl
      · rw [if_neg e, decide_eq_false e]
        simp
    · rw [if_neg h, if_pos (List.drop_of_length_le (by omega))]
      rfl
theorem valid_pieces (s : ByteArray) : Lib.validD s.data.toList = (pieces s).all (fun p => !p.f3) := by
  unfold Lib.validD pieces
  have hl : s.data.toList.length = s.size := by rw [Array.length_toList]; rfl
  rw [hl]
  have := validGo_pieces s s.size 0
  simpa using this
theorem runesFrom_pieces (s : ByteArray) : ∀ (f pos : Nat) (acc : Array Value), (Conv.runesFrom s f pos acc).toList = acc.toList ++ (piecesFrom s f pos).map (fun p => Value.int .i32 p.f0)
  | 0, _, acc => by simp [Conv.runesFrom, piecesFrom]
  | f + 1, pos, acc => by
    unfold Conv.runesFrom piecesFrom
    split
    · rename_i h
      show (Conv.runesFrom s f (pos + (Utf8.decode s pos).2) (acc.push (Value.int .i32 (Int.ofNat (Utf8.decode s pos).1)))).toList = _
      rw [runesFrom_pieces s f, Array.toList_push, List.map_cons, List.append_assoc]
      rfl
    · simp
theorem runesOf_pieces (s : ByteArray) : runesOf s = (pieces s).map (fun p => p.f0) := by
  unfold runesOf pieces
  rw [runesFrom_pieces]
  simp
/-- A shape's name. -/
def nameC (b : UInt8) : Bool := az b || (decide (48 ≤ b.toNat) && decide (b.toNat ≤ 57)) || decide (b.toNat = 45)
def nameS (s : ByteArray) : Bool := decide (s.size ≤ 32) && s.data.toList.all nameC
def formS (ks : List Int) (s : ByteArray) : Bool := (pieces s).all (fun p => !p.f3) && decide ((pieces s).length ≤ 64) && (pieces s).all (fun p => ks.contains p.f0 || decide (p.f0 = 95))
/-- radical.Check. -/
def chkS (l0 : List ByteArray) (l1 : List Letter) (n f : ByteArray) : Int := if chk l0 l1 = 0 then (if (nameS n && formS (kindsOf l1) f) = true then 0 else 130) else chk l0 l1
end Go.Proofs.YthmjheclhcdinaaDoor
end
