/- The law FnLearned answers true for every input, and its arguments read behind the call as they read before; no condition. -/
import Derived.Test.YtgbkecenhbcihaaLnC
import Derived.Test.YtgbkecenhbcihaaLnB
import Derived.Test.YtgbkecenhbcihaaAvxB
import Derived.Test.YtgbkecenhbcihaaRows
set_option linter.unusedVariables false
set_option linter.unusedSimpArgs false
namespace Go.Proofs.Ytgbkecenhbcihaa
open Go.ChangeShapes Go.WideShapes Go.ChangeAt Go.RowKit Go.Proofs.Avx

theorem Try.own : ownKnob Try.prog.godebug = none := by kernel_rfl
theorem Try.laidOut : laidOutB Try.prog = true := by kernel_rfl
theorem fits22 : Fits Try.prog 22 (.sl (.int .u8)) := by
  simp only [Fits]
  exact ⟨5, Try.underlying22, by kernel_rfl, Try.underlying5⟩
theorem bytes_of {l : List Int} (h : wfD (.sl (.int .u8)) l) : isBytes l := by
  intro x hx
  have := h.2 x hx
  simp only [wfD, Lit.wf, Bool.and_eq_true, decide_eq_true_eq] at this
  exact ⟨this.1, by have := this.2; simp [IntKind.max, IntKind.bits, IntKind.signed] at this; omega⟩

set_option maxRecDepth 100000 in
theorem fnLearned_lifted (os : Os) (started : os.Started) (H : Type) (enc : TypeId × Value → H) :
    ReturnsInHanded {} Try.checked os 4 .any (Rows.fnLearnedSpec.pre6 enc Try.prog Try.f4 Rows.fnLearnedRow.domain false) (Rows.fnLearnedSpec.post enc Try.prog Try.f4 false true false false) := by
  refine returnsInHanded_of_change (C := Try.checked) Try.own started (by kernel_rfl) Try.func4
    (ChangeSpec.witness6 (enc := enc) (C := Try.checked) false ⟨#[], #[.slice none 0 0, .slice none 0 0], []⟩ 8 (by kernel_rfl) (by kernel_rfl) (by kernel_rfl) (by kernel_rfl)) ?_
  intro W base args ds gs before hval0 hW hcnd _
  have hval : ∀ (j : Nat) t v, Try.f4.params[j]? = some t → args[j]? = some v → Value.okWide Try.prog W .any base t v := hval0
  have hW' := hW
  obtain ⟨p, q, hA0, hV, rfl, hfz, hnd⟩ := hW
  have hA : DataW.TrodAll enc Try.prog W 0 (fun _ => true) true Try.f4.params.toList args.toList ds p := hA0
  rw [Try.params4] at hA hval
  obtain ⟨v0, v1, d0, d1, p0, p1, rfl, rfl, rfl, h0, h1⟩ := trodAll_two hA
  obtain ⟨rfl, rfl⟩ := trodVars_none hV
  obtain ⟨c, hc1, hc2⟩ := arg_sl fits22 (hval 0 22 v0 rfl rfl) h0
  obtain ⟨m, hm1, hm2⟩ := arg_sl fits22 (hval 1 22 v1 rfl rfl) h1
  refine (calls_of_AF (vs := [v0, v1]) (law_of Repeat_spec c m (bytes_of hc1) (bytes_of hm1)) ⟨Try.f4, Try.func4, by kernel_rfl, by kernel_rfl⟩ ⟨_, _, rfl, hc2, _, _, rfl, hm2, rfl⟩).mono fun e W' ⟨he, hb⟩ => ?_
  subst he
  refine ⟨_, rfl, law_post (tb := 4) Try.laidOut ?_ ?_ Try.underlying4 rfl rfl hW' hb⟩
  · rw [Try.params4]
    intro t ht
    simp at ht
    subst ht
    exact ⟨by kernel_rfl, of_decide_eq_true (by kernel_rfl)⟩
  · kernel_rfl

noncomputable abbrev Try.pp : Program := Try.pinned.checked.prog
theorem Try.rowed : mapsRowed Try.pp = true := by kernel_rfl
theorem Try.heard : Try.pp.stopsHeard = true := by kernel_rfl
theorem Try.enters : Try.pp.mayEnter = true := by kernel_rfl
theorem fnLearned_inPlace : (Rows.fnLearnedRow.inPlace == Try.pp.inPlace 4) = true := by kernel_rfl
theorem fnLearned_unfollowed : (Rows.fnLearnedRow.unfollowed == Try.pp.unfollowed 4) = true := by kernel_rfl
theorem fnLearned_recurses : (Rows.fnLearnedRow.recurses == Try.pp.recurses 4) = true := by kernel_rfl
theorem fnLearned_named : (Rows.fnLearnedRow.named == Try.pp.varsNamed 4) = true := by kernel_rfl
theorem fnLearned_a9 : ((Rows.fnLearnedRow.maps == (Try.f4.params.toList ++ Rows.fnLearnedSpec.plain.varTypes Try.pp).any (Try.pp.mapsRec ·)) && (Rows.fnLearnedRow.ifaces == (Try.f4.params.toList ++ Rows.fnLearnedSpec.plain.varTypes Try.pp).any (Try.pp.ifacesRec ·)) && (Rows.fnLearnedRow.mapsOut == Try.pp.mapsAmong Try.f4.resultTypes.toList) &&
      (Rows.fnLearnedRow.loops == (Try.f4.params.toList ++ Rows.fnLearnedSpec.plain.varTypes Try.pp).any (Try.pp.loopsFrom ·)) && (Rows.fnLearnedRow.wideKeys == (Try.f4.params.toList ++ Rows.fnLearnedSpec.plain.varTypes Try.pp ++ Try.f4.resultTypes.toList).any (Try.pp.wideKeysFrom ·))) = true := by kernel_rfl
theorem fnLearned_a15 : ((Rows.fnLearnedRow.veiled == (Try.f4.params.toList ++ Rows.fnLearnedSpec.plain.varTypes Try.pp ++ Try.f4.resultTypes.toList).any (Try.pp.veiledRec ·)) && Rows.fnLearnedRow.veiledFits Try.pp Try.f4.params.toList (Try.f4.params.toList ++ Rows.fnLearnedSpec.plain.varTypes Try.pp ++ Try.f4.resultTypes.toList)) = true := by kernel_rfl
theorem fnLearned_closed : joinedFacts Try.pp 4 Try.f4 Rows.fnLearnedSpec Rows.fnLearnedRow = true :=
  joined_parts (by kernel_rfl) Try.laidOut Try.rowed (by kernel_rfl) fnLearned_inPlace fnLearned_unfollowed fnLearned_recurses fnLearned_named fnLearned_a9 (by kernel_rfl) (by kernel_rfl) (by kernel_rfl) Try.enters (by kernel_rfl) rfl rfl fnLearned_a15
theorem fnLearned_inst : Try.f4.isInstance Try.pp Rows.fnLearnedRow.origin Rows.fnLearnedRow.targs := of_decide_eq_true (by kernel_rfl)
theorem fnLearned_wrap : Try.f4.isWrapper Try.pp Rows.fnLearnedRow.wrapper Rows.fnLearnedRow.mainSum := by unfold Func.isWrapper; first | (rw [if_pos (by decide +kernel)]; kernel_rfl) | (rw [if_neg (by decide +kernel)]; exact ⟨rfl, rfl⟩)
theorem fnLearned_num : Try.pp.funcNamed Rows.fnLearnedRow.func = some 4 := by kernel_rfl

theorem fnLearned_holds : Rows.FnLearnedSaid :=
  OpenClaim.holds_of_wide 4 Try.f4 rfl rfl rfl rfl rfl rfl rfl ⟨rfl, rfl, rfl, rfl, rfl⟩ rfl rfl rfl rfl rfl fnLearned_num Try.func4 fnLearned_closed fnLearned_inst fnLearned_wrap
    (fun os started H enc _ => fnLearned_lifted os started H enc)
end Go.Proofs.Ytgbkecenhbcihaa
