/- The law FnExactRelaxFlow answers true for every input, and its arguments read behind the call as they read before; no condition. -/
import Derived.Test.YtgbkecenhbcihaaRfB
import Derived.Test.YtgbkecenhbcihaaAvxB
import Derived.Test.YtgbkecenhbcihaaRows
set_option linter.unusedVariables false
set_option linter.unusedSimpArgs false
namespace Go.Proofs.Ytgbkecenhbcihaa
open Go.ChangeShapes Go.WideShapes Go.ChangeAt Go.RowKit Go.Proofs.Avx

theorem Try.own : ownKnob Try.prog.godebug = none := by kernel_rfl
theorem Try.laidOut : laidOutB Try.prog = true := by kernel_rfl
theorem fits26 : Fits Try.prog 26 (.sl .bool) := by
  simp only [Fits]
  exact ⟨4, Try.underlying26, by kernel_rfl, Try.underlying4⟩
theorem fits68 : Fits Try.prog 68 (.sl (.flt .f32)) := by
  simp only [Fits]
  exact ⟨71, Try.underlying68, by kernel_rfl, Try.underlying71⟩
abbrev FlowT : Ty := .pair (.int .i64) (.pair (.int .i64) (.pair (.sl (.flt .f32)) (.pair (.sl .bool) .unit)))
theorem fits70 : Fits Try.prog 70 FlowT := by
  unfold Fits
  refine ⟨_, _, _, Try.underlying70, rfl, by kernel_rfl, rfl, by kernel_rfl, ?_, ?_⟩
  · simp only [Fits]; exact Try.underlying2
  · simp only [FitsF]
    exact ⟨rfl, by kernel_rfl, by simp only [Fits]; exact Try.underlying2, rfl, by kernel_rfl, fits68, rfl, by kernel_rfl, fits26, trivial⟩

set_option maxRecDepth 100000 in
theorem fnExactRelaxFlow_lifted (os : Os) (started : os.Started) (H : Type) (enc : TypeId × Value → H) :
    ReturnsInHanded {} Try.checked os 6 .any (Rows.fnExactRelaxFlowSpec.pre6 enc Try.prog Try.f6 Rows.fnExactRelaxFlowRow.domain false) (Rows.fnExactRelaxFlowSpec.post enc Try.prog Try.f6 false true false false) := by
  refine returnsInHanded_of_change (C := Try.checked) Try.own started (by kernel_rfl) Try.func6
    (ChangeSpec.witness6 (enc := enc) (C := Try.checked) false ⟨#[], #[.agg #[.int .i64 0, .int .i64 0, .slice none 0 0, .slice none 0 0], .float .f32 0], []⟩ 8 (by kernel_rfl) (by kernel_rfl) (by kernel_rfl) (by kernel_rfl)) ?_
  intro W base args ds gs before hval0 hW hcnd _
  have hval : ∀ (j : Nat) t v, Try.f6.params[j]? = some t → args[j]? = some v → Value.okWide Try.prog W .any base t v := hval0
  have hW' := hW
  obtain ⟨p, q, hA0, hV, rfl, hfz, hnd⟩ := hW
  have hA : DataW.TrodAll enc Try.prog W 0 (fun _ => true) true Try.f6.params.toList args.toList ds p := hA0
  rw [Try.params6] at hA hval
  obtain ⟨v0, v1, d0, d1, p0, p1, rfl, rfl, rfl, h0, h1⟩ := trodAll_two hA
  obtain ⟨rfl, rfl⟩ := trodVars_none hV
  obtain ⟨⟨r, c, ps, bs, u⟩, ⟨_, _, hp, hb, _⟩, hc2⟩ := arg_struct fits70 (hval 0 70 v0 rfl rfl) h0
  obtain ⟨s, hm2⟩ := arg_flt Try.underlying71 (hval 1 71 v1 rfl rfl) h1
  refine (calls_of_AF (vs := [v0, v1]) (lawRelax_spec r c s ps bs hp.1 hb.1) ⟨Try.f6, Try.func6, by kernel_rfl, by kernel_rfl⟩ ⟨_, _, rfl, hc2, _, _, rfl, hm2, rfl⟩ trivial).mono fun e W' ⟨he, hb⟩ => ?_
  subst he
  refine ⟨_, rfl, law_post (tb := 4) Try.laidOut ?_ ?_ Try.underlying4 rfl rfl hW' hb⟩
  · rw [Try.params6]
    intro t ht
    simp at ht
    rcases ht with rfl | rfl
    · exact ⟨by kernel_rfl, of_decide_eq_true (by kernel_rfl)⟩
    · exact ⟨by kernel_rfl, of_decide_eq_true (by kernel_rfl)⟩
  · kernel_rfl

noncomputable abbrev Try.pp : Program := Try.pinned.checked.prog
theorem Try.rowed : mapsRowed Try.pp = true := by kernel_rfl
theorem Try.heard : Try.pp.stopsHeard = true := by kernel_rfl
theorem Try.enters : Try.pp.mayEnter = true := by kernel_rfl
theorem fnExactRelaxFlow_inPlace : (Rows.fnExactRelaxFlowRow.inPlace == Try.pp.inPlace 6) = true := by kernel_rfl
theorem fnExactRelaxFlow_unfollowed : (Rows.fnExactRelaxFlowRow.unfollowed == Try.pp.unfollowed 6) = true := by kernel_rfl
theorem fnExactRelaxFlow_recurses : (Rows.fnExactRelaxFlowRow.recurses == Try.pp.recurses 6) = true := by kernel_rfl
theorem fnExactRelaxFlow_named : (Rows.fnExactRelaxFlowRow.named == Try.pp.varsNamed 6) = true := by kernel_rfl
theorem fnExactRelaxFlow_a9 : ((Rows.fnExactRelaxFlowRow.maps == (Try.f6.params.toList ++ Rows.fnExactRelaxFlowSpec.plain.varTypes Try.pp).any (Try.pp.mapsRec ·)) && (Rows.fnExactRelaxFlowRow.ifaces == (Try.f6.params.toList ++ Rows.fnExactRelaxFlowSpec.plain.varTypes Try.pp).any (Try.pp.ifacesRec ·)) && (Rows.fnExactRelaxFlowRow.mapsOut == Try.pp.mapsAmong Try.f6.resultTypes.toList) &&
      (Rows.fnExactRelaxFlowRow.loops == (Try.f6.params.toList ++ Rows.fnExactRelaxFlowSpec.plain.varTypes Try.pp).any (Try.pp.loopsFrom ·)) && (Rows.fnExactRelaxFlowRow.wideKeys == (Try.f6.params.toList ++ Rows.fnExactRelaxFlowSpec.plain.varTypes Try.pp ++ Try.f6.resultTypes.toList).any (Try.pp.wideKeysFrom ·))) = true := by kernel_rfl
theorem fnExactRelaxFlow_a15 : ((Rows.fnExactRelaxFlowRow.veiled == (Try.f6.params.toList ++ Rows.fnExactRelaxFlowSpec.plain.varTypes Try.pp ++ Try.f6.resultTypes.toList).any (Try.pp.veiledRec ·)) && Rows.fnExactRelaxFlowRow.veiledFits Try.pp Try.f6.params.toList (Try.f6.params.toList ++ Rows.fnExactRelaxFlowSpec.plain.varTypes Try.pp ++ Try.f6.resultTypes.toList)) = true := by kernel_rfl
theorem fnExactRelaxFlow_closed : joinedFacts Try.pp 6 Try.f6 Rows.fnExactRelaxFlowSpec Rows.fnExactRelaxFlowRow = true :=
  joined_parts (by kernel_rfl) Try.laidOut Try.rowed (by kernel_rfl) fnExactRelaxFlow_inPlace fnExactRelaxFlow_unfollowed fnExactRelaxFlow_recurses fnExactRelaxFlow_named fnExactRelaxFlow_a9 (by kernel_rfl) (by kernel_rfl) (by kernel_rfl) Try.enters (by kernel_rfl) rfl rfl fnExactRelaxFlow_a15
theorem fnExactRelaxFlow_inst : Try.f6.isInstance Try.pp Rows.fnExactRelaxFlowRow.origin Rows.fnExactRelaxFlowRow.targs := of_decide_eq_true (by kernel_rfl)
theorem fnExactRelaxFlow_wrap : Try.f6.isWrapper Try.pp Rows.fnExactRelaxFlowRow.wrapper Rows.fnExactRelaxFlowRow.mainSum := by unfold Func.isWrapper; first | (rw [if_pos (by decide +kernel)]; kernel_rfl) | (rw [if_neg (by decide +kernel)]; exact ⟨rfl, rfl⟩)
theorem fnExactRelaxFlow_num : Try.pp.funcNamed Rows.fnExactRelaxFlowRow.func = some 6 := by kernel_rfl

theorem fnExactRelaxFlow_holds : Rows.FnExactRelaxFlowSaid :=
  OpenClaim.holds_of_wide 6 Try.f6 rfl rfl rfl rfl rfl rfl rfl ⟨rfl, rfl, rfl, rfl, rfl⟩ rfl rfl rfl rfl rfl fnExactRelaxFlow_num Try.func6 fnExactRelaxFlow_closed fnExactRelaxFlow_inst fnExactRelaxFlow_wrap
    (fun os started H enc _ => fnExactRelaxFlow_lifted os started H enc)
end Go.Proofs.Ytgbkecenhbcihaa
