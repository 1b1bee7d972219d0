/- The law FnExactCountOutputs answers true for every input, and its argument reads behind the call as it read before; the tied card; no condition. -/
import Derived.Test.YtgbkecenhbcihaaDoorDnA
import Derived.Test.YtgbkecenhbcihaaDoorAvxB
import Derived.Test.YtgbkecenhbcihaaDoorTie
import Derived.Test.YtgbkecenhbcihaaDoorCards
import Derived.Lay
import Derived.LaidMore
import Derived.SevenTiedAt
import Derived.Stop.Joined
set_option linter.unusedVariables false
set_option linter.unusedSimpArgs false
namespace Go.Proofs.YtgbkecenhbcihaaDoor
open Go.ChangeShapes Go.WideShapes Go.ChangeAt Go.RowKit Go.Proofs.Avx

theorem Tryd.own : ownKnob Tryd.prog.godebug = none := by kernel_rfl
theorem Tryd.laidOut : laidOutB Tryd.prog = true := by kernel_rfl
noncomputable abbrev Tryd.pp : Program := Tryd.pinned.checked.prog
theorem Tryd.rowed : mapsRowed Tryd.pp = true := by kernel_rfl
theorem Tryd.enters : Tryd.pp.mayEnter = true := by kernel_rfl

set_option maxRecDepth 100000 in
theorem fnExactCountOutputs_lifted (os : Os) (started : os.Started) (H : Type) (enc : TypeId × Value → H) :
    ReturnsInHanded {} Tryd.checked os 3 .any (fun w args => (Rows.fnExactCountOutputsSpec.pre enc Tryd.prog Tryd.f3 Rows.fnExactCountOutputsRow.domain false w args ∧ laidMetH Tryd.prog Rows.fnExactCountOutputsRow.laid w) ∧ sizedMet enc Tryd.prog Tryd.f3 (OpenSpec.ofChange Rows.fnExactCountOutputsSpec) false w args)
      (Rows.fnExactCountOutputsSpec.post enc Tryd.prog Tryd.f3 false true false false) := by
  refine returnsInHanded_of_change_and (C := Tryd.checked) (X := fun w _ => laidMetH Tryd.prog Rows.fnExactCountOutputsRow.laid w) (fun _ _ _ hh h => h.of_heap hh) Tryd.own started (by kernel_rfl) Tryd.func3
    (ChangeSpec.witness_shaped (enc := enc) (C := Tryd.checked) (os := os) (X := fun w _ => laidMetH Tryd.prog Rows.fnExactCountOutputsRow.laid w) false (World.laidAll Tryd.prog os Rows.fnExactCountOutputsRow.laid) #[.string ByteArray.empty] 8 (World.laidAll_os _ _ _)
      (World.shaped_of_ZipB (by kernel_rfl) (by kernel_rfl)) (by kernel_rfl) (by kernel_rfl) (by kernel_rfl)
      (by rw [MakeChecks.laidMetH_plain _ _ _ (by kernel_rfl)]; exact laidMet_laidAll _ (by kernel_rfl) (by kernel_rfl))) ?_
  intro W base args ds gs before hval0 hW hc _ hL _
  have hval : ∀ (j : Nat) t v, Tryd.f3.params[j]? = some t → args[j]? = some v → Value.okWide Tryd.prog W .any base t v := hval0
  have hW' := hW
  obtain ⟨p, q, hA0, hV, rfl, _, _⟩ := hW
  have hA : DataW.TrodAll enc Tryd.prog W 0 (fun _ => true) true Tryd.f3.params.toList args.toList ds p := hA0
  rw [Tryd.params3] at hA hval
  obtain ⟨v0, d0, rfl, rfl, h0⟩ := trodAll_one hA
  obtain ⟨rfl, rfl⟩ := trodVars_none hV
  obtain ⟨c, hc1, hc2⟩ := arg_str Tryd.underlying9 (hval 0 9 v0 rfl rfl) h0
  refine (calls_of_AF (vs := [v0]) (lawCount_spec c) ⟨Tryd.f3, Tryd.func3, by kernel_rfl, by kernel_rfl⟩ ⟨_, _, rfl, hc2, rfl⟩).mono fun e W' ⟨he, hb⟩ => ?_
  subst he
  refine ⟨_, rfl, law_post (tb := 4) Tryd.laidOut ?_ ?_ Tryd.underlying4 rfl rfl hW' hb⟩
  · rw [Tryd.params3]
    intro t ht
    simp at ht
    subst ht
    exact ⟨by kernel_rfl, of_decide_eq_true (by kernel_rfl)⟩
  · kernel_rfl
theorem fnExactCountOutputs_inPlace : (Rows.fnExactCountOutputsRow.inPlace == Tryd.pp.inPlace 3) = true := by kernel_rfl
theorem fnExactCountOutputs_unfollowed : (Rows.fnExactCountOutputsRow.unfollowed == Tryd.pp.unfollowed 3) = true := by kernel_rfl
theorem fnExactCountOutputs_recurses : (Rows.fnExactCountOutputsRow.recurses == Tryd.pp.recurses 3) = true := by kernel_rfl
theorem fnExactCountOutputs_named : (Rows.fnExactCountOutputsRow.named == Tryd.pp.varsNamed 3) = true := by kernel_rfl
theorem fnExactCountOutputs_a9 : ((Rows.fnExactCountOutputsRow.maps == (Tryd.f3.params.toList ++ Rows.fnExactCountOutputsSpec.plain.varTypes Tryd.pp).any (Tryd.pp.mapsRec ·)) && (Rows.fnExactCountOutputsRow.ifaces == (Tryd.f3.params.toList ++ Rows.fnExactCountOutputsSpec.plain.varTypes Tryd.pp).any (Tryd.pp.ifacesRec ·)) && (Rows.fnExactCountOutputsRow.mapsOut == Tryd.pp.mapsAmong Tryd.f3.resultTypes.toList) &&
      (Rows.fnExactCountOutputsRow.loops == (Tryd.f3.params.toList ++ Rows.fnExactCountOutputsSpec.plain.varTypes Tryd.pp).any (Tryd.pp.loopsFrom ·)) && (Rows.fnExactCountOutputsRow.wideKeys == (Tryd.f3.params.toList ++ Rows.fnExactCountOutputsSpec.plain.varTypes Tryd.pp ++ Tryd.f3.resultTypes.toList).any (Tryd.pp.wideKeysFrom ·))) = true := by kernel_rfl
theorem fnExactCountOutputs_a15 : ((Rows.fnExactCountOutputsRow.veiled == (Tryd.f3.params.toList ++ Rows.fnExactCountOutputsSpec.plain.varTypes Tryd.pp ++ Tryd.f3.resultTypes.toList).any (Tryd.pp.veiledRec ·)) && Rows.fnExactCountOutputsRow.veiledFits Tryd.pp Tryd.f3.params.toList (Tryd.f3.params.toList ++ Rows.fnExactCountOutputsSpec.plain.varTypes Tryd.pp ++ Tryd.f3.resultTypes.toList)) = true := by kernel_rfl
theorem fnExactCountOutputs_closed : joinedFacts Tryd.pp 3 Tryd.f3 Rows.fnExactCountOutputsSpec Rows.fnExactCountOutputsRow = true :=
  joined_parts (by kernel_rfl) Tryd.laidOut Tryd.rowed (by kernel_rfl) fnExactCountOutputs_inPlace fnExactCountOutputs_unfollowed fnExactCountOutputs_recurses fnExactCountOutputs_named fnExactCountOutputs_a9 (by kernel_rfl) (by kernel_rfl) (by kernel_rfl) Tryd.enters (by kernel_rfl) rfl rfl fnExactCountOutputs_a15
theorem fnExactCountOutputs_inst : Tryd.f3.isInstance Tryd.pp Rows.fnExactCountOutputsRow.origin Rows.fnExactCountOutputsRow.targs := of_decide_eq_true (by kernel_rfl)
theorem fnExactCountOutputs_wrap : Tryd.f3.isWrapper Tryd.pp Rows.fnExactCountOutputsRow.wrapper Rows.fnExactCountOutputsRow.mainSum := by unfold Func.isWrapper; first | (rw [if_pos (by decide +kernel)]; kernel_rfl) | (rw [if_neg (by decide +kernel)]; exact ⟨rfl, rfl⟩)
theorem fnExactCountOutputs_num : Tryd.pp.funcNamed Rows.fnExactCountOutputsRow.func = some 3 := by kernel_rfl

theorem fnExactCountOutputs_holds : Rows.FnExactCountOutputsSaid :=
  OpenClaim.holds_of_wide 3 Tryd.f3 rfl rfl rfl rfl rfl rfl rfl ⟨rfl, rfl, rfl, rfl, rfl⟩ rfl rfl rfl rfl rfl fnExactCountOutputs_num Tryd.func3 fnExactCountOutputs_closed fnExactCountOutputs_inst fnExactCountOutputs_wrap
    (fun os started H enc _ => fnExactCountOutputs_lifted os started H enc)
theorem fnExactCountOutputs_card : Rows.FnExactCountOutputsCardSaid :=
  Claim7.holds_tied_plain_at .later [] [.data, .pinned] true (true, "3cdb938ab4e99e199c6d4cfec1d4e696bf6d8b3a77cc2b05e3fd5cfe2218a99a") true fnExactCountOutputs_holds (fun _ h => by cases h) (by kernel_rfl) (fun _ h => by cases h) fnExactCountOutputs_row_tie rfl ⟨rfl, rfl⟩ (by kernel_rfl) rfl
    (fun f fn hf hfn => by
      obtain rfl : f = 3 := Option.some.inj (fnExactCountOutputs_num.symm.trans hf) |>.symm
      obtain rfl : fn = Tryd.f3 := (Option.some.inj (Tryd.func3.symm.trans hfn)).symm
      exact ⟨by kernel_rfl, fun j t ht => by
        rw [Tryd.params3] at ht
        have hm : t ∈ [9] := by simpa using Array.mem_of_getElem? ht
        have hall : ([9].all fun u => !Tryd.prog.wantsStandIn u) = true := by kernel_rfl
        exact (show Tryd.prog.wantsStandIn t = false by simpa using List.all_eq_true.1 hall t hm)⟩)
    (by kernel_rfl)
end Go.Proofs.YtgbkecenhbcihaaDoor
