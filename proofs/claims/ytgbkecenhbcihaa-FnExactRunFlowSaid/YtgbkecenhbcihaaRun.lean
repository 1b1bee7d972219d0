/- The law FnExactRunFlow answers true for every input, and its arguments read behind the call as they read before; no condition. -/
import Derived.Test.YtgbkecenhbcihaaRfC
import Derived.Test.YtgbkecenhbcihaaAvxB
import Derived.Test.YtgbkecenhbcihaaRows
set_option linter.unusedVariables false
set_option linter.unusedSimpArgs false
namespace Go.Proofs.Ytgbkecenhbcihaa
open Go.ChangeShapes Go.WideShapes Go.ChangeAt Go.RowKit Go.Proofs.Avx

theorem Try.own : ownKnob Try.prog.godebug = none := by kernel_rfl
theorem Try.laidOut : laidOutB Try.prog = true := by kernel_rfl
theorem fits26 : Fits Try.prog 26 (.sl .bool) := by
  simp only [Fits]
  exact ⟨4, Try.underlying26, by kernel_rfl, Try.underlying4⟩
theorem fits68 : Fits Try.prog 68 (.sl (.flt .f32)) := by
  simp only [Fits]
  exact ⟨71, Try.underlying68, by kernel_rfl, Try.underlying71⟩
abbrev FlowT : Ty := .pair (.int .i64) (.pair (.int .i64) (.pair (.sl (.flt .f32)) (.pair (.sl .bool) .unit)))
theorem fits70 : Fits Try.prog 70 FlowT := by
  unfold Fits
  refine ⟨_, _, _, Try.underlying70, rfl, by kernel_rfl, rfl, by kernel_rfl, ?_, ?_⟩
  · simp only [Fits]; exact Try.underlying2
  · simp only [FitsF]
    exact ⟨rfl, by kernel_rfl, by simp only [Fits]; exact Try.underlying2, rfl, by kernel_rfl, fits68, rfl, by kernel_rfl, fits26, trivial⟩

set_option maxRecDepth 100000 in
theorem fnExactRunFlow_lifted (os : Os) (started : os.Started) (H : Type) (enc : TypeId × Value → H) :
    ReturnsInHanded {} Try.checked os 8 .any (Rows.fnExactRunFlowSpec.pre6 enc Try.prog Try.f8 Rows.fnExactRunFlowRow.domain false) (Rows.fnExactRunFlowSpec.post enc Try.prog Try.f8 false true false false) := by
  refine returnsInHanded_of_change (C := Try.checked) Try.own started (by kernel_rfl) Try.func8
    (ChangeSpec.witness6 (enc := enc) (C := Try.checked) false ⟨#[], #[.agg #[.int .i64 0, .int .i64 0, .slice none 0 0, .slice none 0 0], .float .f32 0, .int .i64 0], []⟩ 8 (by kernel_rfl) (by kernel_rfl) (by kernel_rfl) (by kernel_rfl)) ?_
  intro W base args ds gs before hval0 hW hcnd _
  have hval : ∀ (j : Nat) t v, Try.f8.params[j]? = some t → args[j]? = some v → Value.okWide Try.prog W .any base t v := hval0
  have hW' := hW
  obtain ⟨p, q, hA0, hV, rfl, hfz, hnd⟩ := hW
  have hA : DataW.TrodAll enc Try.prog W 0 (fun _ => true) true Try.f8.params.toList args.toList ds p := hA0
  rw [Try.params8] at hA hval
  obtain ⟨v0, v1, v2, d0, d1, d2, p0, p1, p2, rfl, rfl, rfl, h0, h1, h2⟩ := trodAll_three hA
  obtain ⟨rfl, rfl⟩ := trodVars_none hV
  obtain ⟨⟨r, c, ps, bs, u⟩, ⟨_, _, hp, hb, _⟩, hc2⟩ := arg_struct fits70 (hval 0 70 v0 rfl rfl) h0
  obtain ⟨s, hm2⟩ := arg_flt Try.underlying71 (hval 1 71 v1 rfl rfl) h1
  obtain ⟨m, _, hm3⟩ := arg_int Try.underlying2 (hval 2 2 v2 rfl rfl) h2
  refine (calls_of_AF (vs := [v0, v1, v2]) (lawRun_spec r c s m ps bs hp.1 hb.1) ⟨Try.f8, Try.func8, by kernel_rfl, by kernel_rfl⟩ ⟨_, _, rfl, hc2, _, _, rfl, hm2, _, _, rfl, hm3, rfl⟩ trivial).mono fun e W' ⟨he, hb⟩ => ?_
  subst he
  refine ⟨_, rfl, law_post (tb := 4) Try.laidOut ?_ ?_ Try.underlying4 rfl rfl hW' hb⟩
  · rw [Try.params8]
    intro t ht
    simp at ht
    rcases ht with rfl | rfl | rfl
    all_goals exact ⟨by kernel_rfl, of_decide_eq_true (by kernel_rfl)⟩
  · kernel_rfl

noncomputable abbrev Try.pp : Program := Try.pinned.checked.prog
theorem Try.rowed : mapsRowed Try.pp = true := by kernel_rfl
theorem Try.heard : Try.pp.stopsHeard = true := by kernel_rfl
theorem Try.enters : Try.pp.mayEnter = true := by kernel_rfl
theorem fnExactRunFlow_inPlace : (Rows.fnExactRunFlowRow.inPlace == Try.pp.inPlace 8) = true := by kernel_rfl
theorem fnExactRunFlow_unfollowed : (Rows.fnExactRunFlowRow.unfollowed == Try.pp.unfollowed 8) = true := by kernel_rfl
theorem fnExactRunFlow_recurses : (Rows.fnExactRunFlowRow.recurses == Try.pp.recurses 8) = true := by kernel_rfl
theorem fnExactRunFlow_named : (Rows.fnExactRunFlowRow.named == Try.pp.varsNamed 8) = true := by kernel_rfl
theorem fnExactRunFlow_a9 : ((Rows.fnExactRunFlowRow.maps == (Try.f8.params.toList ++ Rows.fnExactRunFlowSpec.plain.varTypes Try.pp).any (Try.pp.mapsRec ·)) && (Rows.fnExactRunFlowRow.ifaces == (Try.f8.params.toList ++ Rows.fnExactRunFlowSpec.plain.varTypes Try.pp).any (Try.pp.ifacesRec ·)) && (Rows.fnExactRunFlowRow.mapsOut == Try.pp.mapsAmong Try.f8.resultTypes.toList) &&
      (Rows.fnExactRunFlowRow.loops == (Try.f8.params.toList ++ Rows.fnExactRunFlowSpec.plain.varTypes Try.pp).any (Try.pp.loopsFrom ·)) && (Rows.fnExactRunFlowRow.wideKeys == (Try.f8.params.toList ++ Rows.fnExactRunFlowSpec.plain.varTypes Try.pp ++ Try.f8.resultTypes.toList).any (Try.pp.wideKeysFrom ·))) = true := by kernel_rfl
theorem fnExactRunFlow_a15 : ((Rows.fnExactRunFlowRow.veiled == (Try.f8.params.toList ++ Rows.fnExactRunFlowSpec.plain.varTypes Try.pp ++ Try.f8.resultTypes.toList).any (Try.pp.veiledRec ·)) && Rows.fnExactRunFlowRow.veiledFits Try.pp Try.f8.params.toList (Try.f8.params.toList ++ Rows.fnExactRunFlowSpec.plain.varTypes Try.pp ++ Try.f8.resultTypes.toList)) = true := by kernel_rfl
theorem fnExactRunFlow_closed : joinedFacts Try.pp 8 Try.f8 Rows.fnExactRunFlowSpec Rows.fnExactRunFlowRow = true :=
  joined_parts (by kernel_rfl) Try.laidOut Try.rowed (by kernel_rfl) fnExactRunFlow_inPlace fnExactRunFlow_unfollowed fnExactRunFlow_recurses fnExactRunFlow_named fnExactRunFlow_a9 (by kernel_rfl) (by kernel_rfl) (by kernel_rfl) Try.enters (by kernel_rfl) rfl rfl fnExactRunFlow_a15
theorem fnExactRunFlow_inst : Try.f8.isInstance Try.pp Rows.fnExactRunFlowRow.origin Rows.fnExactRunFlowRow.targs := of_decide_eq_true (by kernel_rfl)
theorem fnExactRunFlow_wrap : Try.f8.isWrapper Try.pp Rows.fnExactRunFlowRow.wrapper Rows.fnExactRunFlowRow.mainSum := by unfold Func.isWrapper; first | (rw [if_pos (by decide +kernel)]; kernel_rfl) | (rw [if_neg (by decide +kernel)]; exact ⟨rfl, rfl⟩)
theorem fnExactRunFlow_num : Try.pp.funcNamed Rows.fnExactRunFlowRow.func = some 8 := by kernel_rfl

theorem fnExactRunFlow_holds : Rows.FnExactRunFlowSaid :=
  OpenClaim.holds_of_wide 8 Try.f8 rfl rfl rfl rfl rfl rfl rfl ⟨rfl, rfl, rfl, rfl, rfl⟩ rfl rfl rfl rfl rfl fnExactRunFlow_num Try.func8 fnExactRunFlow_closed fnExactRunFlow_inst fnExactRunFlow_wrap
    (fun os started H enc _ => fnExactRunFlow_lifted os started H enc)
end Go.Proofs.Ytgbkecenhbcihaa
