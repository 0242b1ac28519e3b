/-
  ParadigmBack: what an affix made, as long as it may be handed in, is taken off again; what is taken off, put, is the word: of any alphabet, vowels, word and affix; no condition but that the tables of utf8 stand as their text lays them.
-/
import Derived.Test.YthmjheclhcdinaaDoorClP4
section
/-
  ParadigmBack: what an affix made, as long as it may be handed in, is taken off again; what is taken off, put, is the word: of any alphabet, vowels, word and affix; no condition but that the tables of utf8 stand as their text lays them.
-/
set_option linter.unusedSimpArgs false
set_option linter.unusedVariables false
namespace Go.Proofs.YthmjheclhcdinaaDoor.paradigmBack
open Go.ChangeShapes Go.WideShapes Go.ChangeAt Go.RowKit Go.Proofs.YthmjheclhcdinaaDoorW.PrintWords Go.Proofs.YthmjheclhcdinaaDoorW.PrintLast Go.Proofs.YthmjheclhcdinaaDoorW.PrintMore Go.Proofs.YthmjheclhcdinaaDoor.Ext
open Go.ChangeMaps (open_string shut_string)

theorem u32_of {x : Int} (h : (Lit.int .u32 x).wf = true) : u32 x := by
  simp [Lit.wf, IntKind.min, IntKind.max, IntKind.signed, IntKind.bits] at h
  exact ⟨by omega, by omega⟩
set_option maxRecDepth 100000 in
theorem contract (H : Type) (enc : TypeId × Value → H) (W : World) (base : Nat) (args : Array Value) (ds gs : List (DataW H)) (before : List MemPlace)
    (hval : ∀ (j : Nat) t v, Tryd.f7.params[j]? = some t → args[j]? = some v → Value.okWide Tryd.prog W .any base t v)
    (hW : DataW.Whole enc Tryd.prog Tryd.f7.params.toList Rows.paradigmBackSpec.vars false W args.toList ds gs before)
    (hsz : (DataW.weightsEach Tryd.prog (Tryd.f7.params.toList ++ (OpenSpec.ofChange Rows.paradigmBackSpec).bare.plain.varTypes Tryd.prog) (ds ++ gs)).all (· ≤ reachBytes) = true) (hL : laidMetH Tryd.prog theLaid W) :
    Calls Tryd.prog 7 args W fun e W' => ∃ v, e = .returned v ∧ Rows.paradigmBackSpec.post enc Tryd.prog Tryd.f7 false true false false W args v W' := by
  have hW' := hW
  obtain ⟨p, q, hA0, hV, rfl, hfz, hnd⟩ := hW
  have hA : DataW.TrodAll enc Tryd.prog W 0 (fun _ => true) true Tryd.f7.params.toList args.toList ds p := hA0
  rw [Tryd.params7] at hA hval hsz
  obtain ⟨v0, vs0, d0, ds0, p0, q0, hargs, rfl, rfl, h0, r0⟩ := trodAll_cons hA
  obtain ⟨v1, vs1, d1, ds1, p1, q1, rfl, rfl, rfl, h1, r1⟩ := trodAll_cons r0
  obtain ⟨v2, vs2, d2, ds2, p2, q2, rfl, rfl, rfl, h2, r2⟩ := trodAll_cons r1
  obtain ⟨v3, vs3, d3, ds3, p3, q3, rfl, rfl, rfl, h3, r3⟩ := trodAll_cons r2
  obtain ⟨rfl, rfl, rfl⟩ := trodAll_nil r3
  obtain rfl : args = #[v0, v1, v2, v3] := by cases args; simp_all
  obtain ⟨rfl, rfl⟩ := trodVars_none hV
  have k0 := h0
  have lt0 : ∀ x ∈ p0, x.block < W.heap.size := by obtain ⟨m, hm⟩ := k0; exact DataW.trod_lt m _ _ _ hm
  have wt0 : ∀ m ∈ d0.weights Tryd.prog 25, m ≤ reachBytes := fun m hm => by have := List.all_eq_true.1 hsz m (DataW.weights_mem_each (j := 0) rfl rfl m hm); simpa using this
  have k1 := h1
  have lt1 : ∀ x ∈ p1, x.block < W.heap.size := by obtain ⟨m, hm⟩ := k1; exact DataW.trod_lt m _ _ _ hm
  have wt1 : ∀ m ∈ d1.weights Tryd.prog 26, m ≤ reachBytes := fun m hm => by have := List.all_eq_true.1 hsz m (DataW.weights_mem_each (j := 1) rfl rfl m hm); simpa using this
  have k2 := h2
  have lt2 : ∀ x ∈ p2, x.block < W.heap.size := by obtain ⟨m, hm⟩ := k2; exact DataW.trod_lt m _ _ _ hm
  have wt2 : ∀ m ∈ d2.weights Tryd.prog 9, m ≤ reachBytes := fun m hm => by have := List.all_eq_true.1 hsz m (DataW.weights_mem_each (j := 2) rfl rfl m hm); simpa using this
  have k3 := h3
  have lt3 : ∀ x ∈ p3, x.block < W.heap.size := by obtain ⟨m, hm⟩ := k3; exact DataW.trod_lt m _ _ _ hm
  have wt3 : ∀ m ∈ d3.weights Tryd.prog 49, m ≤ reachBytes := fun m hm => by have := List.all_eq_true.1 hsz m (DataW.weights_mem_each (j := 3) rfl rfl m hm); simpa using this
  obtain ⟨A0, c0, l0, A0', c0', l0', rfl, g0, h0, g0', h0', w0⟩ := alphabet_arg (hval 0 25 v0 rfl rfl) h0
  have hwf0 : wfA l0' := fun y hy => ⟨u32_of (w0.2.2 y hy).2.1, u32_of (w0.2.2 y hy).2.2⟩
  obtain ⟨x1, rfl, rfl, rfl, w1⟩ := open_int Tryd.underlying26 (hval 1 26 v1 rfl rfl) h1
  obtain ⟨a2, rfl, rfl, rfl, w2⟩ := open_string Tryd.underlying9 (hval 2 9 v2 rfl rfl) h2
  obtain ⟨cs3, ⟨x3, f3, n3, y3⟩, rfl, hk3, w3, z3⟩ := structS_arg Tryd.underlying49 (hval 3 49 v3 rfl rfl) (opensS_affix W) h3
  replace z3 := z3 wt3
  obtain rfl : cs3 = #[.int .u8 x3, .string f3, .string n3, .int .i64 y3] := Array.toList_inj.1 (k49_open hk3)
  clear hA0 hval
  refine Calls.mono (RPBack.cognatelaw17_ParadigmBack.calls 10 A0 c0 l0 A0' c0' l0' x1 a2 x3 f3 n3 y3 true W h0 g0 h0' g0' (tabs_of_laid hL) rfl (back_true l0 l0' x1 a2 x3 f3 n3 y3 ⟨Int.ofNat_le.2 (Nat.le_trans z3.1 (by decide)), Int.ofNat_le.2 (Nat.le_trans z3.2 (by decide))⟩)) fun e W' ⟨he, bel⟩ => ?_
  subst he
  exact ⟨_, rfl, _, _, _, [], _, [], hW', trodAll_mk1 (shut_bool Tryd.underlying4 _), (trodAll_cons_mk (Below.trod laidOut (by kernel_rfl) (of_decide_eq_true (by kernel_rfl)) k0 bel lt0) (trodAll_cons_mk (Below.trod laidOut (by kernel_rfl) (of_decide_eq_true (by kernel_rfl)) k1 bel lt1) (trodAll_cons_mk (Below.trod laidOut (by kernel_rfl) (of_decide_eq_true (by kernel_rfl)) k2 bel lt2) (trodAll_cons_mk (Below.trod laidOut (by kernel_rfl) (of_decide_eq_true (by kernel_rfl)) k3 bel lt3) trodAll_mk0)))), rfl, bel.frame _, fun h => by cases h⟩
abbrev wargs : Array Value := #[.agg #[.slice none 0 0, .slice none 0 0], .int .u32 0, .string ⟨#[]⟩, .agg #[.int .u8 0, .string ⟨#[]⟩, .string ⟨#[]⟩, .int .i64 0]]
theorem reads (os : Os) {H : Type} (enc : TypeId × Value → H) : ∃ ds places, DataW.whole enc Tryd.prog ((laidWorld os).forCall (fun _ _ => 0) ⟨#[], wargs, []⟩).memory Tryd.f7.params.toList Rows.paradigmBackSpec.vars false wargs.toList 8 = some (ds, [], places) :=
  ⟨[.agg [.nil, .nil], .lit (.int .u32 0), .lit (.string []), .agg [.lit (.int .u8 0), .lit (.string []), .lit (.string []), .lit (.int .i64 0)]], [], by kernel_rfl⟩
theorem w_ok (os : Os) : Input.okWideB Tryd.prog ((laidWorld os).forCall (fun _ _ => 0) ⟨#[], wargs, []⟩) 7 ⟨#[], wargs, []⟩ = true := by kernel_rfl
theorem w_sized (os : Os) {H : Type} (enc : TypeId × Value → H) : (OpenSpec.ofChange Rows.paradigmBackSpec).bare.sizedB enc Tryd.prog Tryd.f7 false ((laidWorld os).forCall (fun _ _ => 0) ⟨#[], wargs, []⟩).memory wargs 8 = true := by kernel_rfl
theorem noInit : Tryd.prog.inits.idxOf? 7 = Option.none := by kernel_rfl
theorem w_row (os : Os) {H : Type} (enc : TypeId × Value → H) : (OpenSpec.ofChange Rows.paradigmBackSpec).preRow enc Tryd.prog Tryd.f7 Rows.paradigmBackRow.domain false Rows.paradigmBackRow.laid ((laidWorld os).forCall (fun _ _ => 0) ⟨#[], wargs, []⟩).memory wargs := by
  obtain ⟨ds, places, hx⟩ := reads os enc
  exact OpenSpec.preRow_of_cond 8 hx rfl (fun k hk => by cases hk) (w_sized os enc) (laid_met os wargs)
set_option maxRecDepth 100000 in
theorem lifted (os : Os) (started : os.Started) (H : Type) (enc : TypeId × Value → H) (F : Stop.Interp) :
    ReturnsInHanded {} Tryd.checked os 7 .any ((OpenSpec.ofChange Rows.paradigmBackSpec).preRow enc Tryd.prog Tryd.f7 Rows.paradigmBackRow.domain false Rows.paradigmBackRow.laid) (((OpenSpec.ofChange Rows.paradigmBackSpec).at F).post enc Tryd.prog Tryd.f7 false true false false) := by
  refine returnsInHanded_of_row (C := Tryd.checked) (s := OpenSpec.ofChange Rows.paradigmBackSpec) own started noInit Tryd.func7
    (witness_row_at (enc := enc) (C := Tryd.checked) false (laidWorld os) wargs (w_os os) (w_vars os wargs) (w_rest os wargs) (w_ok os) (w_row os enc)) ?_
  intro W base args ds gs before hval hW _ _ hsz hL _ _
  exact contract H enc W base args ds gs before hval hW hsz hL
theorem named : Tryd.pinned.checked.prog.funcNamed Rows.paradigmBackRow.func = some 7 := by kernel_rfl
set_option maxHeartbeats 100000000 in
theorem facts : joinedFacts Tryd.pinned.checked.prog 7 Tryd.f7 (OpenSpec.ofChange Rows.paradigmBackSpec).bare Rows.paradigmBackRow = true := by
  unfold joinedFacts
  repeat' (with_reducible refine and_both ?_ ?_)
  all_goals (as_aux_lemma => kernel_rfl)
theorem inst : Tryd.f7.isInstance Tryd.pinned.checked.prog Rows.paradigmBackRow.origin Rows.paradigmBackRow.targs := of_decide_eq_true (by kernel_rfl)
theorem wrap : Tryd.f7.isWrapper Tryd.pinned.checked.prog Rows.paradigmBackRow.wrapper Rows.paradigmBackRow.mainSum := by unfold Func.isWrapper; first | (rw [if_pos (by decide +kernel)]; kernel_rfl) | (rw [if_neg (by decide +kernel)]; exact ⟨rfl, rfl⟩)
theorem said : Rows.ParadigmBackSaid :=
  OpenClaim.holds_of_cond 7 Tryd.f7 rfl rfl rfl rfl rfl rfl rfl ⟨rfl, rfl, rfl, rfl, rfl⟩ rfl rfl rfl rfl rfl named Tryd.func7 facts
    inst wrap
    (fun os started H enc _ F => by rw [OpenClaim.pre_eq_preRow]; exact lifted os started H enc F)
theorem plain (f : FuncId) (fn : Func) (hf : Tryd.pinned.checked.prog.funcNamed "cognate/cognatelaw17.ParadigmBack" = some f) (hfn : Tryd.pinned.checked.prog.funcs[f]? = some fn) :
    true = Tryd.pinned.checked.prog.looks [] ∧ ∀ (j : Nat) t, fn.params[j]? = some t → Tryd.pinned.checked.prog.wantsStandIn t = false := by
  obtain rfl : f = 7 := Option.some.inj ((show Tryd.prog.funcNamed "cognate/cognatelaw17.ParadigmBack" = some 7 by kernel_rfl).symm.trans hf) |>.symm
  obtain rfl : fn = Tryd.f7 := (Option.some.inj (Tryd.func7.symm.trans hfn)).symm
  refine ⟨looks_on, fun j t ht => ?_⟩
  rw [Tryd.params7] at ht
  have hm : t ∈ [25, 26, 9, 49] := by simpa using Array.mem_of_getElem? ht
  have hall : ([25, 26, 9, 49].all fun u => !Tryd.prog.wantsStandIn u) = true := by kernel_rfl
  exact (show Tryd.prog.wantsStandIn t = false by simpa using List.all_eq_true.1 hall t hm)
theorem wf : Rows.paradigmBackRow.wfByText (OpenSpec.ofChange Rows.paradigmBackSpec) = true := by kernel_rfl
theorem goes : false = Rows.paradigmBackRow.goesBy Tryd.pinned.checked.prog := by kernel_rfl
theorem card : Rows.ParadigmBackCardSaid :=
  Claim7.holds_tied_plain_at .later [] _ _ (true, "c79581bdf228af4a406eb950c3edf7d61f6ca33bfe0f7aa492cf7aa6fa8bd25e") _ said (fun _ h => by cases h) wf (fun _ h => by cases h) paradigmBack_row_tie rfl ⟨rfl, rfl⟩ main_is rfl plain goes
#print axioms card
end Go.Proofs.YthmjheclhcdinaaDoor.paradigmBack
namespace Go.Proofs.YthmjheclhcdinaaDoor
theorem paradigmBack_holds : Rows.ParadigmBackCardSaid := paradigmBack.card
end Go.Proofs.YthmjheclhcdinaaDoor
end
