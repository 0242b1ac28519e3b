/-
  ParadigmTwins: of any alphabet, vowels, word, form and place: a doubling is double's work, a shape radical's; what is taken off goes with these, too; no condition but that the tables of utf8 stand as their text lays them.
-/
import Derived.Test.YthmjheclhcdinaaDoorClPd1
section
/-
  The plain law of ParadigmTwins: what the printed statement computes is true.
-/
set_option linter.unusedSimpArgs false
set_option linter.unusedVariables false
namespace Go.Proofs.YthmjheclhcdinaaDoor
open Go.RowKit Go.Proofs.YthmjheclhcdinaaDoorW.PrintWords Go.Proofs.YthmjheclhcdinaaDoorW.PrintLast Go.Proofs.YthmjheclhcdinaaDoorW.PrintMore Go.Proofs.YthmjheclhcdinaaDoor.Ext
theorem merge_f {l0 : List ByteArray} {l1 : List Letter} {r n f : ByteArray} (hn : n.size ≤ 9223372036854775807) (hf : f.size ≤ 1000000) : radical_Merge.f l0 l1 r n f = some (mergeOf l0 l1 r n f) := if_pos ⟨hn, hf⟩
theorem split_f {l0 : List ByteArray} {l1 : List Letter} {r n f : ByteArray} (hn : n.size ≤ 9223372036854775807) (hf : f.size ≤ 1000000) : radical_Split.f l0 l1 r n f = some (splitOf l0 l1 r n f) := if_pos ⟨hn, by omega⟩
theorem radicals_f (l0 : List ByteArray) (l1 : List Letter) (s : ByteArray) (p : Int) {l cls : List Int} {e : Int} (h : partsOf l0 l1 s p = (l, cls, e)) : radical_Radicals.f l0 l1 s p = some (if e = 0 then (runesBytes (l.filter (notC cls)), 0) else (noB, e)) := by
  unfold radical_Radicals.f
  rw [h]
theorem class_err {l0 : List ByteArray} {l1 : List Letter} {v : Int} (hk : chk l0 l1 = 0) (h : ¬ (classOf l0 l1 v 0).2 = 0) : (classOf l0 l1 v 0).2 = 20 := by
  unfold classOf at h ⊢
  rw [if_pos hk] at h ⊢
  by_cases h2 : withinB l0.length v 0 = true
  · rw [if_pos h2] at h
    exact absurd rfl h
  · rw [if_neg h2]
theorem letters_err {l0 : List ByteArray} {l1 : List Letter} {s : ByteArray} (hk : ¬ chk l0 l1 = 0) : lettersOf l0 l1 s = ([], 7) := by
  unfold lettersOf
  rw [if_neg hk]
/-! ### a doubling taken off, and double.Single -/
theorem off6 (ks cls fo ot l : List Int) (p : Nat) : offL ks cls ⟨6, fo, ot, p⟩ l = if l.length < 2 * (if p = 0 then l.length / 2 else p) then none else some (l.drop (if p = 0 then l.length / 2 else p)) := by
  unfold offL
  dsimp only
  rw [if_neg (by omega), if_neg (by omega), if_neg (by omega), if_neg (by omega), if_neg (by omega)]
theorem put6 (ks cls fo ot l : List Int) (p : Nat) : putL ks cls ⟨6, fo, ot, p⟩ l = if l.length < p then ([], 150) else (l.take (if p = 0 then l.length else p) ++ l, 0) := by
  unfold putL
  dsimp only
  rw [if_neg (by omega), if_neg (by omega), if_neg (by omega), if_neg (by omega), if_neg (by omega)]
theorem taken6_zero (ks cls fo ot l : List Int) : takenL ks cls ⟨6, fo, ot, 0⟩ l = if l.drop (l.length / 2) ++ l.drop (l.length / 2) = l then some (l.drop (l.length / 2)) else none := by
  unfold takenL
  have h : ¬ l.length < 2 * (l.length / 2) := by omega
  rw [off6, if_pos rfl, if_neg h]
  dsimp only
  have h0 : putL ks cls ⟨6, fo, ot, 0⟩ (l.drop (l.length / 2)) = (l.drop (l.length / 2) ++ l.drop (l.length / 2), 0) := by rw [put6, if_neg (by omega), if_pos rfl, List.take_length]
  rw [h0]
  simp only [Prod.mk.injEq, and_true]
theorem taken6_pos (ks cls fo ot l : List Int) (p : Nat) (hp : p ≠ 0) : takenL ks cls ⟨6, fo, ot, p⟩ l = if l.length < 2 * p then none else if (l.drop p).take p ++ l.drop p = l then some (l.drop p) else none := by
  unfold takenL
  rw [off6, if_neg hp]
  by_cases h : l.length < 2 * p
  · rw [if_pos h, if_pos h]
  · rw [if_neg h, if_neg h]
    dsimp only
    have h0 : putL ks cls ⟨6, fo, ot, p⟩ (l.drop p) = ((l.drop p).take p ++ l.drop p, 0) := by rw [put6, if_neg (by simp; omega), if_neg hp]
    rw [h0]
    simp only [Prod.mk.injEq, and_true]
theorem single_taken (ks cls : List Int) (p : Nat) (fo ot : List Int) (l : List Int) (hl : l ≠ []) : singleL l (p : Int) = takenL ks cls ⟨6, fo, ot, p⟩ l := by
  have hlen : 1 ≤ l.length := List.length_pos_iff.2 hl
  by_cases hp : p = 0
  · subst hp
    rw [taken6_zero]
    have hc : cutOf l ((0 : Nat) : Int) = l.length / 2 := by unfold cutOf; rw [if_pos (by omega)]
    unfold singleL
    rw [hc]
    by_cases h1 : l.length / 2 = 0
    · rw [if_pos (.inl h1), h1, List.drop_zero, if_neg]
      intro h
      have := congrArg List.length h
      rw [List.length_append] at this
      omega
    · by_cases h2 : l.length % 2 = 0
      · have e2 : 2 * (l.length / 2) = l.length := by omega
        rw [e2, List.take_length]
        unfold twiceB
        rw [decide_eq_true h2, Bool.true_and]
        by_cases h3 : l.take (l.length / 2) = l.drop (l.length / 2)
        · have h4 : l.drop (l.length / 2) ++ l.drop (l.length / 2) = l := by
            have := List.take_append_drop (l.length / 2) l
            rw [h3] at this
            exact this
          rw [decide_eq_true h3, if_pos h4, if_neg]
          simp
          omega
        · rw [decide_eq_false h3, if_pos (.inr (.inr (.inr rfl))), if_neg]
          intro h5
          have h6 := congrArg (List.take (l.length / 2)) h5
          have h7 : (l.drop (l.length / 2)).length = l.length / 2 := by simp; omega
          have h8 : (l.drop (l.length / 2) ++ l.drop (l.length / 2)).take (l.length / 2) = l.drop (l.length / 2) := List.take_left' h7
          rw [h8] at h6
          exact h3 h6.symm
      · rw [if_pos (.inr (.inr (.inl ⟨rfl, h2⟩))), if_neg]
        intro h
        have := congrArg List.length h
        simp at this
        omega
  · rw [taken6_pos ks cls fo ot l p hp]
    have hc : cutOf l (p : Int) = p := by unfold cutOf; rw [if_neg (by omega)]; omega
    unfold singleL
    rw [hc]
    by_cases h1 : l.length < 2 * p
    · rw [if_pos (.inr (.inl h1)), if_pos h1]
    · rw [if_neg h1]
      unfold twiceB
      have hl2 : (l.take (2 * p)).length = 2 * p := by simp; omega
      have e0 : 2 * p / 2 = p := by omega
      have e1 : (l.take (2 * p)).take p = l.take p := by
        rw [List.take_take]
        congr 1
        omega
      have e2 : (l.take (2 * p)).drop p = (l.drop p).take p := by
        rw [List.drop_take]
        congr 1
        omega
      rw [hl2, e0, decide_eq_true (by omega : 2 * p % 2 = 0), Bool.true_and, e1, e2]
      have htd := List.take_append_drop p l
      by_cases h3 : l.take p = (l.drop p).take p
      · have h4 : (l.drop p).take p ++ l.drop p = l := by rw [← h3]; exact htd
        rw [decide_eq_true h3, if_pos h4, if_neg]
        simp
        omega
      · rw [decide_eq_false h3, if_pos (.inr (.inr (.inr rfl))), if_neg]
        intro h5
        have h6 := congrArg (List.take p) h5
        have h7 : ((l.drop p).take p).length = p := by simp; omega
        have h8 : (((l.drop p).take p) ++ l.drop p).take p = (l.drop p).take p := List.take_left' h7
        rw [h8] at h6
        exact h3 h6.symm
theorem off5 (ks cls l : List Int) (form : ByteArray) : offL ks cls (affOf ⟨5, form, noB, 0⟩) l = if l.length = (runesOf form).length then pickC (consB ks cls) l (runesOf form) else none := by
  unfold offL affOf
  dsimp only
  rw [if_neg (by omega), if_neg (by omega), if_neg (by omega), if_neg (by omega), if_pos rfl]
theorem put5 (ks cls l : List Int) (form : ByteArray) : putL ks cls (affOf ⟨5, form, noB, 0⟩) l = if (runesOf form).count 95 = (l.filter (consB ks cls)).length then (fillH (runesOf form) (l.filter (consB ks cls)), 0) else ([], 130) := by
  unfold putL affOf
  dsimp only
  rw [if_neg (by omega), if_neg (by omega), if_neg (by omega), if_neg (by omega), if_pos rfl]
theorem noB_list : noB.toList = [] := by rw [ByteArray.toList_eq]
section
variable (l0 : List ByteArray) (l1 : List Letter) (v : Int) (w form : ByteArray)
theorem k5 (form : ByteArray) : (affOf ⟨5, form, noB, 0⟩).kind = 5 := rfl
theorem toList_inj {a b : ByteArray} (h : a.toList = b.toList) : a = b := by
  rw [ByteArray.toList_eq, ByteArray.toList_eq] at h
  exact bytes_ext h
theorem text_inj {a b : List Int} (ha : ∀ x ∈ a, Utf8.valid x = true) (hb : ∀ x ∈ b, Utf8.valid x = true) (h : runesBytes a = runesBytes b) : a = b := by
  rw [← (runes_forth a ha).1, ← (runes_forth b hb).1, h]
theorem shaped_j0 (hf : form.size ≤ 2000) (hx : sizedX form noB) {cls l : List Int} (hc : classOf l0 l1 v 0 = (cls, 0)) (hw : lettersOf l0 l1 w = (l, 0)) (hs : chkS l0 l1 noB form = 0) (k : Nat) :
    RPTwins.cognatelaw17_shaped.j0 (k + 1) v w form false l0 l1 5 form noB 0 = some true := by
  have hsz := letters_size (l0 := l0) (l1 := l1) (s := w) (by rw [hw])
  have hlo := letters_ok (by omega) hw
  have hv : ∀ y ∈ l, Utf8.valid y = true := fun y hy => rune_valid (kinds_valid hlo.1 (hlo.2.2.2.1 y hy))
  have haff : affOk l0 l1 ⟨5, form, noB, 0⟩ = true := by
    unfold affOk
    dsimp only
    rw [if_neg (by omega), if_neg (by omega), if_neg (by omega), if_pos rfl, hs]
    rfl
  have hoff : offS l0 l1 v w ⟨5, form, noB, 0⟩ = (oneText (takenL (kindsOf l1) cls (affOf ⟨5, form, noB, 0⟩) l), 0) := by
    unfold offS
    rw [hc, if_pos rfl, hw, if_pos rfl, if_pos haff]
  have hsp : splitOf l0 l1 w noB form = ((pickB l (runesOf form)).1, (pickB l (runesOf form)).2, 0) := by
    unfold splitOf
    rw [hw, if_pos rfl, if_pos hs]
  rw [RPTwins.cognatelaw17_shaped.j0, if_neg (by simp), off_f hx, Option.bind_some, split_f (by show (0 : Nat) ≤ _; omega) (by omega), Option.bind_some, hoff, hsp]
  dsimp only
  rw [if_pos rfl, if_pos rfl]
  cases ht : takenL (kindsOf l1) cls (affOf ⟨5, form, noB, 0⟩) l with
  | some m =>
    have ho := taken_off ht
    have hp := taken_put ht
    rw [off5] at ho
    have hpk : pickC (consB (kindsOf l1) cls) l (runesOf form) = some m := by
      by_cases hle : l.length = (runesOf form).length
      · rw [if_pos hle] at ho
        exact ho
      · rw [if_neg hle] at ho
        cases ho
    obtain ⟨hm1, hm2, hm3⟩ := pickC_mem _ _ _ _ hpk
    have hcm : ∀ y ∈ m, consB (kindsOf l1) cls y = true := fun y hy => (hm1 y hy).2
    have hmk : ∀ y ∈ m, (kindsOf l1).contains y = true := fun y hy => hlo.2.2.2.1 y (hm1 y hy).1
    rw [put5, filter_self _ _ hcm, if_pos hm3] at hp
    have hfl : fillH (runesOf form) m = l := (Prod.mk.inj hp).1
    have hpick : pickH l (runesOf form) = some m := by rw [← hfl]; exact pick_fill _ _ hm3
    have hlm := letters_forth (l0 := l0) hlo.1 hmk (by omega : m.length ≤ 64)
    have hfm : m.filter (notC cls) = m := by
      rw [← cons_notC (ks := kindsOf l1) hmk]
      exact filter_self _ _ hcm
    unfold oneText pickB
    rw [hpick]
    dsimp only
    rw [if_pos (by simp), if_pos rfl, if_pos (by simp), rdOf_one, if_pos rfl, radicals_f l0 l1 (runesBytes m) v (parts_mk hlm hc), Option.bind_some, if_pos rfl, hfm]
    dsimp only
    rw [if_pos rfl]
    simp
  | none =>
    unfold oneText
    dsimp only
    rw [if_neg (by simp)]
    unfold pickB
    cases hpick : pickH l (runesOf form) with
    | none =>
      have hl0 : lettersOf l0 l1 noB = ([], 0) := by
        have := letters_forth (l0 := l0) (l := []) hlo.1 (by simp) (by simp)
        exact this
      dsimp only
      rw [radicals_f l0 l1 noB v (parts_mk hl0 hc), Option.bind_some, if_pos rfl]
      dsimp only
      rw [if_pos rfl, if_neg (by simp)]
      rfl
    | some q =>
      obtain ⟨hq1, hq2, hq3, hq4⟩ := fill_pick _ _ _ hpick
      have hqk : ∀ y ∈ q, (kindsOf l1).contains y = true := fun y hy => hlo.2.2.2.1 y (hq3 y hy)
      have hql : q.length ≤ 64 := by
        have := hlo.2.2.2.2
        have h2 := List.count_le_length (a := (95 : Int)) (l := runesOf form)
        omega
      have hlq := letters_forth (l0 := l0) hlo.1 hqk hql
      have hqv : ∀ y ∈ q, Utf8.valid y = true := fun y hy => hv y (hq3 y hy)
      dsimp only
      rw [radicals_f l0 l1 (runesBytes q) v (parts_mk hlq hc), Option.bind_some, if_pos rfl]
      dsimp only
      rw [if_pos rfl, if_pos rfl]
      have hne : ¬ q.filter (notC cls) = q := by
        intro he
        have hcq : ∀ y ∈ q, consB (kindsOf l1) cls y = true := by
          intro y hy
          rw [← he, ← cons_notC (ks := kindsOf l1) hqk] at hy
          exact (List.mem_filter.1 hy).2
        have h1 : pickC (consB (kindsOf l1) cls) l (runesOf form) = some q := by
          rw [← hq1]
          exact pickC_fill _ _ _ hq2 hcq
        unfold takenL at ht
        rw [off5, if_pos hq4, h1] at ht
        dsimp only at ht
        have h3 : putL (kindsOf l1) cls (affOf ⟨5, form, noB, 0⟩) q = (l, 0) := by
          rw [put5, filter_self _ _ hcq, if_pos hq2, hq1]
        rw [if_pos h3] at ht
        cases ht
      have hne2 : ((runesBytes (q.filter (notC cls))).toList == (runesBytes q).toList) = false := by
        rw [beq_eq_false_iff_ne]
        intro he
        refine hne (text_inj (fun y hy => hqv y (List.mem_filter.1 hy).1) hqv ?_)
        exact toList_inj he
      rw [hne2]
      rfl
theorem shaped_true (hf : form.size ≤ 2000) (k : Nat) : RPTwins.cognatelaw17_shaped.f (k + 1) l0 l1 v w form = some true := by
  have hx : sizedX form noB := ⟨by omega, by show ((0 : Nat) : Int) ≤ _; omega⟩
  unfold RPTwins.cognatelaw17_shaped.f
  rw [put_f hx, Option.bind_some]
  obtain ⟨l, cls, e, hp⟩ : ∃ l cls e, partsOf l0 l1 w v = (l, cls, e) := ⟨_, _, _, rfl⟩
  rw [radicals_f l0 l1 w v hp, Option.bind_some, merge_f (by show (0 : Nat) ≤ _; omega) (by omega), Option.bind_some]
  by_cases he : e = 0
  · subst he
    obtain ⟨hw, hc⟩ := parts_ok hp
    have hsz := letters_size (l0 := l0) (l1 := l1) (s := w) (by rw [hw])
    have hlo := letters_ok (by omega) hw
    rw [if_pos rfl]
    have hfk : ∀ y ∈ l.filter (notC cls), (kindsOf l1).contains y = true := fun y hy => hlo.2.2.2.1 y (List.mem_filter.1 hy).1
    have hlf := letters_forth (l0 := l0) hlo.1 hfk (Nat.le_trans (List.length_filter_le _ _) hlo.2.2.2.2)
    by_cases hs : chkS l0 l1 noB form = 0
    · have haff : affOk l0 l1 ⟨5, form, noB, 0⟩ = true := by
        unfold affOk
        dsimp only
        rw [if_neg (by omega), if_neg (by omega), if_neg (by omega), if_pos rfl, hs]
        rfl
      have hff := formS_ok (chkS_zero hs).2.2
      have hcnt := holes_runes form hff.1
      by_cases hn : (runesOf form).count 95 = (l.filter (notC cls)).length
      · have hpu : putL (kindsOf l1) cls (affOf ⟨5, form, noB, 0⟩) l = (fillH (runesOf form) (l.filter (notC cls)), 0) := by
          rw [put5, cons_notC hlo.2.2.2.1, if_pos hn]
        have hP : putS l0 l1 v w ⟨5, form, noB, 0⟩ = (runesBytes (fillH (runesOf form) (l.filter (notC cls))), 0) := by
          unfold putS
          rw [hc, if_pos rfl, hw, if_pos rfl, if_pos haff]
          dsimp only
          rw [hpu, capped_mk (by rw [fill_len]; omega)]
          rfl
        have hM : mergeOf l0 l1 (runesBytes (l.filter (notC cls))) noB form = (runesBytes (fillH (runesOf form) (l.filter (notC cls))), 0) := by
          unfold mergeOf
          rw [hlf, if_pos rfl, if_pos ⟨hs, by rw [hcnt]; exact hn⟩]
        dsimp only
        have hP' : putS l0 l1 v w ⟨5, form, (⟨#[]⟩ : ByteArray), 0⟩ = (runesBytes (fillH (runesOf form) (l.filter (notC cls))), 0) := hP
        have hM' : mergeOf l0 l1 (runesBytes (l.filter (notC cls))) (⟨#[]⟩ : ByteArray) form = (runesBytes (fillH (runesOf form) (l.filter (notC cls))), 0) := hM
        rw [hP', hM']
        dsimp only
        rw [if_pos rfl, if_pos rfl, if_pos rfl]
        have hne : ((runesBytes (fillH (runesOf form) (l.filter (notC cls)))).toList != (runesBytes (fillH (runesOf form) (l.filter (notC cls)))).toList) = false := by simp
        rw [hne]
        exact shaped_j0 l0 l1 v w form hf hx hc hw hs k
      · have hpu : putL (kindsOf l1) cls (affOf ⟨5, form, noB, 0⟩) l = ([], 130) := by
          rw [put5, cons_notC hlo.2.2.2.1, if_neg hn]
        have hP : putS l0 l1 v w ⟨5, form, (⟨#[]⟩ : ByteArray), 0⟩ = (noB, 130) := by
          show putS l0 l1 v w ⟨5, form, noB, 0⟩ = _
          unfold putS
          rw [hc, if_pos rfl, hw, if_pos rfl, if_pos haff]
          dsimp only
          rw [hpu]
          rfl
        have hM : mergeOf l0 l1 (runesBytes (l.filter (notC cls))) (⟨#[]⟩ : ByteArray) form = (noB, 130) := by
          show mergeOf l0 l1 (runesBytes (l.filter (notC cls))) noB form = _
          unfold mergeOf
          rw [hlf, if_pos rfl, if_neg (fun h => hn (by rw [← hcnt]; exact h.2))]
        dsimp only
        rw [hP, hM]
        dsimp only
        rw [if_neg (by omega), if_pos noB_list, if_pos rfl]
        rfl
    · have haff : ¬ affOk l0 l1 ⟨5, form, noB, 0⟩ = true := by
        unfold affOk
        dsimp only
        rw [if_neg (by omega), if_neg (by omega), if_neg (by omega), if_pos rfl]
        simp [hs]
      have hP : putS l0 l1 v w ⟨5, form, (⟨#[]⟩ : ByteArray), 0⟩ = (noB, 170) := by
        show putS l0 l1 v w ⟨5, form, noB, 0⟩ = _
        unfold putS
        rw [hc, if_pos rfl, hw, if_pos rfl, if_neg haff]
      have hM : mergeOf l0 l1 (runesBytes (l.filter (notC cls))) (⟨#[]⟩ : ByteArray) form = (noB, 130) := by
        show mergeOf l0 l1 (runesBytes (l.filter (notC cls))) noB form = _
        unfold mergeOf
        rw [hlf, if_pos rfl, if_neg (fun h => hs h.1)]
      dsimp only
      rw [hP, hM]
      dsimp only
      rw [if_neg (by omega), if_pos noB_list, if_pos rfl]
      rfl
  · rw [if_neg he]
    dsimp only
    have hP : ¬ (putS l0 l1 v w ⟨5, form, (⟨#[]⟩ : ByteArray), 0⟩).2 = 0 := by
      intro h0
      obtain ⟨cls2, l2, m, hc2, hl2, -⟩ := put_ok (s := (putS l0 l1 v w ⟨5, form, (⟨#[]⟩ : ByteArray), 0⟩).1) (Prod.ext rfl h0)
      have := parts_mk hl2 hc2
      rw [hp] at this
      exact he (Prod.mk.inj (Prod.mk.inj this).2).2
    rw [if_neg hP, putS_no hP, if_pos noB_list, if_neg he]
end
section
variable (l0 : List ByteArray) (l1 : List Letter) (v : Int) (w form : ByteArray) (at_ : Int)
theorem dput_f {l : List Int} {n : Int} (h0 : 0 ≤ n) (h1 : n ≤ l.length) (h2 : l.length ≤ 64) : double_put.f l n = some (runesBytes (l.take n.toNat ++ l)) := by
  unfold double_put.f
  rw [if_pos ⟨h0, h1, by omega⟩, runesBytes_append]
def frontS : ByteArray × Int := if (lettersOf l0 l1 w).2 = 0 then (if at_ < 0 ∨ at_ > 64 then (noB, 2) else if at_ > (lettersOf l0 l1 w).1.length then (noB, 150) else (runesBytes ((lettersOf l0 l1 w).1.take at_.toNat ++ (lettersOf l0 l1 w).1), 0)) else (noB, (lettersOf l0 l1 w).2)
def wholeS : ByteArray × Int := if (lettersOf l0 l1 w).2 = 0 then (runesBytes ((lettersOf l0 l1 w).1 ++ (lettersOf l0 l1 w).1), 0) else (noB, (lettersOf l0 l1 w).2)
theorem front_f (k : Nat) : RPTwins.double_Front.f (k + 1) l0 l1 w at_ = some (frontS l0 l1 w at_) := by
  have h64 := lettersOf_len l0 l1 w
  unfold RPTwins.double_Front.f word_Letters.f
  rw [Option.bind_some]
  by_cases he : (lettersOf l0 l1 w).2 = 0
  · rw [if_pos he]
    by_cases h1 : at_ < 0
    · have hF : frontS l0 l1 w at_ = (noB, 2) := by unfold frontS; rw [if_pos he, if_pos (.inl h1)]
      rw [if_pos h1, RPTwins.double_Front.j0, if_pos rfl, hF]
    · rw [if_neg h1, RPTwins.double_Front.j0]
      by_cases h2 : at_ > 64
      · have hF : frontS l0 l1 w at_ = (noB, 2) := by unfold frontS; rw [if_pos he, if_pos (.inr h2)]
        rw [decide_eq_true h2, if_pos rfl, hF]
      · rw [decide_eq_false h2, if_neg (by simp)]
        by_cases h3 : at_ > (lettersOf l0 l1 w).1.length
        · have hF : frontS l0 l1 w at_ = (noB, 150) := by unfold frontS; rw [if_pos he, if_neg (by omega), if_pos h3]
          rw [if_pos h3, hF]
        · have hF : frontS l0 l1 w at_ = (runesBytes ((lettersOf l0 l1 w).1.take at_.toNat ++ (lettersOf l0 l1 w).1), 0) := by unfold frontS; rw [if_pos he, if_neg (by omega), if_neg h3]
          rw [if_neg h3, dput_f (by omega) (by omega) h64, Option.bind_some, hF]
  · have hF : frontS l0 l1 w at_ = (noB, (lettersOf l0 l1 w).2) := by unfold frontS; rw [if_neg he]
    rw [if_neg he, hF]
theorem whole_f : RPTwins.double_Whole.f l0 l1 w = some (wholeS l0 l1 w) := by
  have h64 := lettersOf_len l0 l1 w
  unfold RPTwins.double_Whole.f word_Letters.f
  rw [Option.bind_some]
  by_cases he : (lettersOf l0 l1 w).2 = 0
  · have hW : wholeS l0 l1 w = (runesBytes ((lettersOf l0 l1 w).1 ++ (lettersOf l0 l1 w).1), 0) := by unfold wholeS; rw [if_pos he]
    rw [if_pos he, dput_f (by omega) (by omega) h64, Option.bind_some, Int.toNat_natCast, List.take_length, hW]
  · have hW : wholeS l0 l1 w = (noB, (lettersOf l0 l1 w).2) := by unfold wholeS; rw [if_neg he]
    rw [if_neg he, hW]
def dblS : ByteArray × Int := if at_ = 0 then wholeS l0 l1 w else frontS l0 l1 w at_
abbrev dblX : Affix := ⟨6, (⟨#[]⟩ : ByteArray), (⟨#[]⟩ : ByteArray), at_⟩
theorem dbl_no (hE : ¬ (putS l0 l1 v w (dblX at_)).2 = 0) (hF : (dblS l0 l1 w at_).2 = 0) : (putS l0 l1 v w (dblX at_)).2 = 20 := by
  have hl : (lettersOf l0 l1 w).2 = 0 := by
    by_cases h : (lettersOf l0 l1 w).2 = 0
    · exact h
    · unfold dblS wholeS frontS at hF
      rw [if_neg h, if_neg h] at hF
      split at hF <;> exact absurd hF h
  have hk : chk l0 l1 = 0 := by
    by_cases h : chk l0 l1 = 0
    · exact h
    · rw [letters_err h] at hl
      exact absurd hl (by decide)
  by_cases hc : (classOf l0 l1 v 0).2 = 0
  · exfalso
    unfold putS at hE
    rw [if_pos hc, if_pos hl] at hE
    unfold dblS wholeS frontS at hF
    rw [if_pos hl, if_pos hl] at hF
    by_cases ha : affOk l0 l1 (dblX at_) = true
    · rw [if_pos ha] at hE
      unfold affOk placeB at ha
      simp at ha
      unfold putL at hE
      rw [if_neg (by simp [affOf]), if_neg (by simp [affOf]), if_neg (by simp [affOf]), if_neg (by simp [affOf]), if_neg (by simp [affOf])] at hE
      have hpl : (affOf (dblX at_)).place = at_.toNat := rfl
      rw [hpl] at hE
      by_cases hlt : (lettersOf l0 l1 w).1.length < at_.toNat
      · rw [if_neg (by omega), if_neg (by omega), if_pos (by omega)] at hF
        exact absurd hF (by decide)
      · rw [if_neg hlt, capped_mk] at hE
        · exact hE rfl
        · have := lettersOf_len l0 l1 w
          simp
          split <;> omega
    · have ha2 : affOk l0 l1 (dblX at_) = placeB at_ := by
        unfold affOk
        dsimp only
        rw [if_neg (by omega), if_neg (by omega), if_neg (by omega), if_neg (by omega), if_pos rfl]
        rfl
      rw [ha2] at ha
      unfold placeB at ha
      simp only [Bool.and_eq_true, decide_eq_true_eq] at ha
      by_cases h0 : 0 ≤ at_
      · have h64 : 64 < at_ := by omega
        rw [if_neg (by omega), if_pos (.inr (by omega))] at hF
        exact absurd hF (by decide)
      · rw [if_neg (by omega), if_pos (.inl (by omega))] at hF
        exact absurd hF (by decide)
  · have := class_err hk hc
    unfold putS
    rw [if_neg hc]
    exact this
theorem dbl_yes {V : ByteArray} (hE : putS l0 l1 v w (dblX at_) = (V, 0)) : dblS l0 l1 w at_ = (V, 0) ∧ 0 ≤ at_ ∧ at_ ≤ 64 := by
  obtain ⟨cls, l, m, hc, hl, ha, hp, hm, rfl, hks⟩ := put_ok hE
  unfold affOk placeB at ha
  simp at ha
  refine ⟨?_, ha.2.1, ha.2.2⟩
  unfold putL at hp
  rw [if_neg (by simp [affOf]), if_neg (by simp [affOf]), if_neg (by simp [affOf]), if_neg (by simp [affOf]), if_neg (by simp [affOf])] at hp
  have hpl : (affOf (dblX at_)).place = at_.toNat := rfl
  rw [hpl] at hp
  by_cases hlt : l.length < at_.toNat
  · rw [if_pos hlt] at hp
    exact absurd (Prod.mk.inj hp).2 (by decide)
  · rw [if_neg hlt] at hp
    obtain ⟨rfl, -⟩ := Prod.mk.inj hp
    unfold dblS wholeS frontS
    rw [hl]
    dsimp only
    rw [if_pos rfl, if_pos rfl]
    by_cases h0 : at_ = 0
    · subst h0
      rw [if_pos rfl, if_pos (by rfl), List.take_length]
    · rw [if_neg h0, if_neg (by omega), if_neg (by omega), if_neg (by omega)]
theorem tw_j2 (hf : form.size ≤ 2000) {V : ByteArray} (hE : putS l0 l1 v w (dblX at_) = (V, 0)) (k : Nat) :
    RPTwins.cognatelaw17_ParadigmTwins.j2 (k + 3) v w form at_ false l0 l1 6 (⟨#[]⟩ : ByteArray) (⟨#[]⟩ : ByteArray) at_ = some true := by
  obtain ⟨-, h0, h64⟩ := dbl_yes l0 l1 v w at_ hE
  obtain ⟨cls, l, m, hc, hl, ha, hp, hm, rfl, hks⟩ := put_ok hE
  have hx : sizedX (⟨#[]⟩ : ByteArray) (⟨#[]⟩ : ByteArray) := ⟨by show ((0 : Nat) : Int) ≤ _; omega, by show ((0 : Nat) : Int) ≤ _; omega⟩
  have hsz := letters_size (l0 := l0) (l1 := l1) (s := w) (by rw [hl])
  have hoff : offS l0 l1 v w ⟨6, (⟨#[]⟩ : ByteArray), (⟨#[]⟩ : ByteArray), at_⟩ = (oneText (takenL (kindsOf l1) cls (affOf (dblX at_)) l), 0) := by
    unfold offS
    rw [hc, if_pos rfl, hl, if_pos rfl, if_pos ha]
  have hsg : singleS l0 l1 w at_ = sgOf (singleL l at_) := by
    unfold singleS
    rw [hl, if_pos rfl, if_neg (by omega)]
  have hsh := shaped_true l0 l1 v w form hf (k + 1)
  rw [RPTwins.cognatelaw17_ParadigmTwins.j2, if_neg (by simp), off_f hx, Option.bind_some, hoff]
  unfold double_Single.f
  rw [Option.bind_some, hsg]
  dsimp only
  rw [if_pos rfl]
  have h3 : (sgOf (singleL l at_)).2.2 = 0 := by unfold sgOf; cases singleL l at_ <;> rfl
  rw [if_pos h3]
  by_cases hw : (w.size : Int) > 0
  · rw [if_pos hw]
    have hne : l ≠ [] := by
      intro h
      subst h
      have := letters_back (by omega) hl
      rw [← this] at hw
      simp [runesBytes_nil, ByteArray.size] at hw
    have hst := single_taken (kindsOf l1) cls at_.toNat (runesOf (⟨#[]⟩ : ByteArray)) (runesOf (⟨#[]⟩ : ByteArray)) l hne
    have hat : ((at_.toNat : Nat) : Int) = at_ := by omega
    rw [hat] at hst
    have htk : takenL (kindsOf l1) cls (affOf (dblX at_)) l = singleL l at_ := hst.symm
    rw [htk]
    cases hs : singleL l at_ with
    | none =>
      unfold sgOf oneText
      dsimp only
      rw [if_neg (by simp), if_neg (by simp), hsh]
      rfl
    | some q =>
      unfold sgOf oneText
      dsimp only
      rw [if_neg (by simp), if_pos rfl, if_pos (by simp), rdOf_one, if_pos rfl, hsh]
      rfl
  · rw [if_neg hw, hsh]
    rfl
theorem tw_j1 (hf : form.size ≤ 2000) (k : Nat) :
    RPTwins.cognatelaw17_ParadigmTwins.j1 (k + 4) v w form at_ (putS l0 l1 v w (dblX at_)).1 (putS l0 l1 v w (dblX at_)).2 (dblS l0 l1 w at_).1 (dblS l0 l1 w at_).2 l0 l1 6 (⟨#[]⟩ : ByteArray) (⟨#[]⟩ : ByteArray) at_ = some true := by
  rw [RPTwins.cognatelaw17_ParadigmTwins.j1]
  by_cases hE : (putS l0 l1 v w (dblX at_)).2 = 0
  · have hE2 : putS l0 l1 v w (dblX at_) = ((putS l0 l1 v w (dblX at_)).1, 0) := Prod.ext rfl hE
    have hd := (dbl_yes l0 l1 v w at_ hE2).1
    rw [if_pos hE, hd, if_pos rfl]
    dsimp only
    have hne : ((putS l0 l1 v w (dblX at_)).1.toList != (putS l0 l1 v w (dblX at_)).1.toList) = false := by simp
    rw [hne]
    exact tw_j2 l0 l1 v w form at_ hf hE2 k
  · rw [if_neg hE, putS_no hE, if_pos noB_list]
    by_cases hF : (dblS l0 l1 w at_).2 = 0
    · rw [if_pos hF, dbl_no l0 l1 v w at_ hE hF]
      rfl
    · rw [if_neg hF]
theorem twins_true : RPTwins.cognatelaw17_ParadigmTwins.f 10 l0 l1 v w form at_ = some true := by
  unfold RPTwins.cognatelaw17_ParadigmTwins.f cognatelaw17_alive.f
  rw [Option.bind_some, if_pos rfl]
  have hx : sizedX (⟨#[]⟩ : ByteArray) (⟨#[]⟩ : ByteArray) := ⟨by show ((0 : Nat) : Int) ≤ _; omega, by show ((0 : Nat) : Int) ≤ _; omega⟩
  split
  · rw [RPTwins.cognatelaw17_ParadigmTwins.j0, if_pos rfl]
  · rw [RPTwins.cognatelaw17_ParadigmTwins.j0]
    by_cases hf : (form.size : Int) > 2000
    · rw [decide_eq_true hf, if_pos rfl]
    · rw [decide_eq_false hf, if_neg (by simp), put_f hx, Option.bind_some, front_f, Option.bind_some]
      have hj := tw_j1 l0 l1 v w form at_ (by omega) 5
      unfold dblS at hj
      by_cases h0 : at_ = 0
      · rw [if_pos h0] at hj ⊢
        rw [whole_f, Option.bind_some]
        exact hj
      · rw [if_neg h0] at hj ⊢
        exact hj
end
end Go.Proofs.YthmjheclhcdinaaDoor
end
section
/-
  ParadigmTwins: of any alphabet, vowels, word, form and place: a doubling is double's work, a shape radical's; what is taken off goes with these, too; no condition but that the tables of utf8 stand as their text lays them.
-/
set_option linter.unusedSimpArgs false
set_option linter.unusedVariables false
namespace Go.Proofs.YthmjheclhcdinaaDoor.paradigmTwins
open Go.ChangeShapes Go.WideShapes Go.ChangeAt Go.RowKit Go.Proofs.YthmjheclhcdinaaDoorW.PrintWords Go.Proofs.YthmjheclhcdinaaDoorW.PrintLast Go.Proofs.YthmjheclhcdinaaDoorW.PrintMore Go.Proofs.YthmjheclhcdinaaDoor.Ext
open Go.ChangeMaps (open_string shut_string)

theorem u32_of {x : Int} (h : (Lit.int .u32 x).wf = true) : u32 x := by
  simp [Lit.wf, IntKind.min, IntKind.max, IntKind.signed, IntKind.bits] at h
  exact ⟨by omega, by omega⟩
set_option maxRecDepth 100000 in
theorem contract (H : Type) (enc : TypeId × Value → H) (W : World) (base : Nat) (args : Array Value) (ds gs : List (DataW H)) (before : List MemPlace)
    (hval : ∀ (j : Nat) t v, Tryd.f8.params[j]? = some t → args[j]? = some v → Value.okWide Tryd.prog W .any base t v)
    (hW : DataW.Whole enc Tryd.prog Tryd.f8.params.toList Rows.paradigmTwinsSpec.vars false W args.toList ds gs before)
    (hsz : (DataW.weightsEach Tryd.prog (Tryd.f8.params.toList ++ (OpenSpec.ofChange Rows.paradigmTwinsSpec).bare.plain.varTypes Tryd.prog) (ds ++ gs)).all (· ≤ reachBytes) = true) (hL : laidMetH Tryd.prog theLaid W) :
    Calls Tryd.prog 8 args W fun e W' => ∃ v, e = .returned v ∧ Rows.paradigmTwinsSpec.post enc Tryd.prog Tryd.f8 false true false false W args v W' := by
  have hW' := hW
  obtain ⟨p, q, hA0, hV, rfl, hfz, hnd⟩ := hW
  have hA : DataW.TrodAll enc Tryd.prog W 0 (fun _ => true) true Tryd.f8.params.toList args.toList ds p := hA0
  rw [Tryd.params8] at hA hval hsz
  obtain ⟨v0, vs0, d0, ds0, p0, q0, hargs, rfl, rfl, h0, r0⟩ := trodAll_cons hA
  obtain ⟨v1, vs1, d1, ds1, p1, q1, rfl, rfl, rfl, h1, r1⟩ := trodAll_cons r0
  obtain ⟨v2, vs2, d2, ds2, p2, q2, rfl, rfl, rfl, h2, r2⟩ := trodAll_cons r1
  obtain ⟨v3, vs3, d3, ds3, p3, q3, rfl, rfl, rfl, h3, r3⟩ := trodAll_cons r2
  obtain ⟨v4, vs4, d4, ds4, p4, q4, rfl, rfl, rfl, h4, r4⟩ := trodAll_cons r3
  obtain ⟨rfl, rfl, rfl⟩ := trodAll_nil r4
  obtain rfl : args = #[v0, v1, v2, v3, v4] := by cases args; simp_all
  obtain ⟨rfl, rfl⟩ := trodVars_none hV
  have k0 := h0
  have lt0 : ∀ x ∈ p0, x.block < W.heap.size := by obtain ⟨m, hm⟩ := k0; exact DataW.trod_lt m _ _ _ hm
  have wt0 : ∀ m ∈ d0.weights Tryd.prog 25, m ≤ reachBytes := fun m hm => by have := List.all_eq_true.1 hsz m (DataW.weights_mem_each (j := 0) rfl rfl m hm); simpa using this
  have k1 := h1
  have lt1 : ∀ x ∈ p1, x.block < W.heap.size := by obtain ⟨m, hm⟩ := k1; exact DataW.trod_lt m _ _ _ hm
  have wt1 : ∀ m ∈ d1.weights Tryd.prog 26, m ≤ reachBytes := fun m hm => by have := List.all_eq_true.1 hsz m (DataW.weights_mem_each (j := 1) rfl rfl m hm); simpa using this
  have k2 := h2
  have lt2 : ∀ x ∈ p2, x.block < W.heap.size := by obtain ⟨m, hm⟩ := k2; exact DataW.trod_lt m _ _ _ hm
  have wt2 : ∀ m ∈ d2.weights Tryd.prog 9, m ≤ reachBytes := fun m hm => by have := List.all_eq_true.1 hsz m (DataW.weights_mem_each (j := 2) rfl rfl m hm); simpa using this
  have k3 := h3
  have lt3 : ∀ x ∈ p3, x.block < W.heap.size := by obtain ⟨m, hm⟩ := k3; exact DataW.trod_lt m _ _ _ hm
  have wt3 : ∀ m ∈ d3.weights Tryd.prog 9, m ≤ reachBytes := fun m hm => by have := List.all_eq_true.1 hsz m (DataW.weights_mem_each (j := 3) rfl rfl m hm); simpa using this
  have k4 := h4
  have lt4 : ∀ x ∈ p4, x.block < W.heap.size := by obtain ⟨m, hm⟩ := k4; exact DataW.trod_lt m _ _ _ hm
  have wt4 : ∀ m ∈ d4.weights Tryd.prog 3, m ≤ reachBytes := fun m hm => by have := List.all_eq_true.1 hsz m (DataW.weights_mem_each (j := 4) rfl rfl m hm); simpa using this
  obtain ⟨A0, c0, l0, A0', c0', l0', rfl, g0, h0, g0', h0', w0⟩ := alphabet_arg (hval 0 25 v0 rfl rfl) h0
  have hwf0 : wfA l0' := fun y hy => ⟨u32_of (w0.2.2 y hy).2.1, u32_of (w0.2.2 y hy).2.2⟩
  obtain ⟨x1, rfl, rfl, rfl, w1⟩ := open_int Tryd.underlying26 (hval 1 26 v1 rfl rfl) h1
  obtain ⟨a2, rfl, rfl, rfl, w2⟩ := open_string Tryd.underlying9 (hval 2 9 v2 rfl rfl) h2
  obtain ⟨a3, rfl, rfl, rfl, w3⟩ := open_string Tryd.underlying9 (hval 3 9 v3 rfl rfl) h3
  obtain ⟨x4, rfl, rfl, rfl, w4⟩ := open_int Tryd.underlying3 (hval 4 3 v4 rfl rfl) h4
  clear hA0 hval
  refine Calls.mono (RPTwins.cognatelaw17_ParadigmTwins.calls 10 A0 c0 l0 A0' c0' l0' x1 a2 a3 x4 true W h0 g0 h0' g0' (tabs_of_laid hL) rfl (twins_true l0 l0' x1 a2 a3 x4)) fun e W' ⟨he, bel⟩ => ?_
  subst he
  exact ⟨_, rfl, _, _, _, [], _, [], hW', trodAll_mk1 (shut_bool Tryd.underlying4 _), (trodAll_cons_mk (Below.trod laidOut (by kernel_rfl) (of_decide_eq_true (by kernel_rfl)) k0 bel lt0) (trodAll_cons_mk (Below.trod laidOut (by kernel_rfl) (of_decide_eq_true (by kernel_rfl)) k1 bel lt1) (trodAll_cons_mk (Below.trod laidOut (by kernel_rfl) (of_decide_eq_true (by kernel_rfl)) k2 bel lt2) (trodAll_cons_mk (Below.trod laidOut (by kernel_rfl) (of_decide_eq_true (by kernel_rfl)) k3 bel lt3) (trodAll_cons_mk (Below.trod laidOut (by kernel_rfl) (of_decide_eq_true (by kernel_rfl)) k4 bel lt4) trodAll_mk0))))), rfl, bel.frame _, fun h => by cases h⟩
abbrev wargs : Array Value := #[.agg #[.slice none 0 0, .slice none 0 0], .int .u32 0, .string ⟨#[]⟩, .string ⟨#[]⟩, .int .i64 0]
theorem reads (os : Os) {H : Type} (enc : TypeId × Value → H) : ∃ ds places, DataW.whole enc Tryd.prog ((laidWorld os).forCall (fun _ _ => 0) ⟨#[], wargs, []⟩).memory Tryd.f8.params.toList Rows.paradigmTwinsSpec.vars false wargs.toList 8 = some (ds, [], places) :=
  ⟨[.agg [.nil, .nil], .lit (.int .u32 0), .lit (.string []), .lit (.string []), .lit (.int .i64 0)], [], by kernel_rfl⟩
theorem w_ok (os : Os) : Input.okWideB Tryd.prog ((laidWorld os).forCall (fun _ _ => 0) ⟨#[], wargs, []⟩) 8 ⟨#[], wargs, []⟩ = true := by kernel_rfl
theorem w_sized (os : Os) {H : Type} (enc : TypeId × Value → H) : (OpenSpec.ofChange Rows.paradigmTwinsSpec).bare.sizedB enc Tryd.prog Tryd.f8 false ((laidWorld os).forCall (fun _ _ => 0) ⟨#[], wargs, []⟩).memory wargs 8 = true := by kernel_rfl
theorem noInit : Tryd.prog.inits.idxOf? 8 = Option.none := by kernel_rfl
theorem w_row (os : Os) {H : Type} (enc : TypeId × Value → H) : (OpenSpec.ofChange Rows.paradigmTwinsSpec).preRow enc Tryd.prog Tryd.f8 Rows.paradigmTwinsRow.domain false Rows.paradigmTwinsRow.laid ((laidWorld os).forCall (fun _ _ => 0) ⟨#[], wargs, []⟩).memory wargs := by
  obtain ⟨ds, places, hx⟩ := reads os enc
  exact OpenSpec.preRow_of_cond 8 hx rfl (fun k hk => by cases hk) (w_sized os enc) (laid_met os wargs)
set_option maxRecDepth 100000 in
theorem lifted (os : Os) (started : os.Started) (H : Type) (enc : TypeId × Value → H) (F : Stop.Interp) :
    ReturnsInHanded {} Tryd.checked os 8 .any ((OpenSpec.ofChange Rows.paradigmTwinsSpec).preRow enc Tryd.prog Tryd.f8 Rows.paradigmTwinsRow.domain false Rows.paradigmTwinsRow.laid) (((OpenSpec.ofChange Rows.paradigmTwinsSpec).at F).post enc Tryd.prog Tryd.f8 false true false false) := by
  refine returnsInHanded_of_row (C := Tryd.checked) (s := OpenSpec.ofChange Rows.paradigmTwinsSpec) own started noInit Tryd.func8
    (witness_row_at (enc := enc) (C := Tryd.checked) false (laidWorld os) wargs (w_os os) (w_vars os wargs) (w_rest os wargs) (w_ok os) (w_row os enc)) ?_
  intro W base args ds gs before hval hW _ _ hsz hL _ _
  exact contract H enc W base args ds gs before hval hW hsz hL
theorem named : Tryd.pinned.checked.prog.funcNamed Rows.paradigmTwinsRow.func = some 8 := by kernel_rfl
set_option maxHeartbeats 100000000 in
theorem facts : joinedFacts Tryd.pinned.checked.prog 8 Tryd.f8 (OpenSpec.ofChange Rows.paradigmTwinsSpec).bare Rows.paradigmTwinsRow = true := by
  unfold joinedFacts
  repeat' (with_reducible refine and_both ?_ ?_)
  all_goals (as_aux_lemma => kernel_rfl)
theorem inst : Tryd.f8.isInstance Tryd.pinned.checked.prog Rows.paradigmTwinsRow.origin Rows.paradigmTwinsRow.targs := of_decide_eq_true (by kernel_rfl)
theorem wrap : Tryd.f8.isWrapper Tryd.pinned.checked.prog Rows.paradigmTwinsRow.wrapper Rows.paradigmTwinsRow.mainSum := by unfold Func.isWrapper; first | (rw [if_pos (by decide +kernel)]; kernel_rfl) | (rw [if_neg (by decide +kernel)]; exact ⟨rfl, rfl⟩)
theorem said : Rows.ParadigmTwinsSaid :=
  OpenClaim.holds_of_cond 8 Tryd.f8 rfl rfl rfl rfl rfl rfl rfl ⟨rfl, rfl, rfl, rfl, rfl⟩ rfl rfl rfl rfl rfl named Tryd.func8 facts
    inst wrap
    (fun os started H enc _ F => by rw [OpenClaim.pre_eq_preRow]; exact lifted os started H enc F)
theorem plain (f : FuncId) (fn : Func) (hf : Tryd.pinned.checked.prog.funcNamed "cognate/cognatelaw17.ParadigmTwins" = some f) (hfn : Tryd.pinned.checked.prog.funcs[f]? = some fn) :
    true = Tryd.pinned.checked.prog.looks [] ∧ ∀ (j : Nat) t, fn.params[j]? = some t → Tryd.pinned.checked.prog.wantsStandIn t = false := by
  obtain rfl : f = 8 := Option.some.inj ((show Tryd.prog.funcNamed "cognate/cognatelaw17.ParadigmTwins" = some 8 by kernel_rfl).symm.trans hf) |>.symm
  obtain rfl : fn = Tryd.f8 := (Option.some.inj (Tryd.func8.symm.trans hfn)).symm
  refine ⟨looks_on, fun j t ht => ?_⟩
  rw [Tryd.params8] at ht
  have hm : t ∈ [25, 26, 9, 9, 3] := by simpa using Array.mem_of_getElem? ht
  have hall : ([25, 26, 9, 9, 3].all fun u => !Tryd.prog.wantsStandIn u) = true := by kernel_rfl
  exact (show Tryd.prog.wantsStandIn t = false by simpa using List.all_eq_true.1 hall t hm)
theorem wf : Rows.paradigmTwinsRow.wfByText (OpenSpec.ofChange Rows.paradigmTwinsSpec) = true := by kernel_rfl
theorem goes : false = Rows.paradigmTwinsRow.goesBy Tryd.pinned.checked.prog := by kernel_rfl
theorem card : Rows.ParadigmTwinsCardSaid :=
  Claim7.holds_tied_plain_at .later [] _ _ (true, "c79581bdf228af4a406eb950c3edf7d61f6ca33bfe0f7aa492cf7aa6fa8bd25e") _ said (fun _ h => by cases h) wf (fun _ h => by cases h) paradigmTwins_row_tie rfl ⟨rfl, rfl⟩ main_is rfl plain goes
#print axioms card
end Go.Proofs.YthmjheclhcdinaaDoor.paradigmTwins
namespace Go.Proofs.YthmjheclhcdinaaDoor
theorem paradigmTwins_holds : Rows.ParadigmTwinsCardSaid := paradigmTwins.card
end Go.Proofs.YthmjheclhcdinaaDoor
end
