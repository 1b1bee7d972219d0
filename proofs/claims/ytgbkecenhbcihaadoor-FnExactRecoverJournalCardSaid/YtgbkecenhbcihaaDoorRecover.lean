/- The law FnExactRecoverJournal answers true for every input, and its argument reads behind the call as it read before; the tied card; no condition. -/
import Derived.Test.YtgbkecenhbcihaaDoorDnB
import Derived.Test.YtgbkecenhbcihaaDoorAvxB
import Derived.Test.YtgbkecenhbcihaaDoorTie
import Derived.Test.YtgbkecenhbcihaaDoorCards
import Derived.Lay
import Derived.LaidMore
import Derived.SevenTiedAt
import Derived.Stop.Joined
import Derived.Stop.LaidErr
set_option linter.unusedVariables false
set_option linter.unusedSimpArgs false
namespace Go.Proofs.YtgbkecenhbcihaaDoor
open Go.ChangeShapes Go.WideShapes Go.ChangeAt Go.RowKit Go.Proofs.Avx

theorem Tryd.own : ownKnob Tryd.prog.godebug = none := by kernel_rfl
theorem Tryd.laidOut : laidOutB Tryd.prog = true := by kernel_rfl
noncomputable abbrev Tryd.pp : Program := Tryd.pinned.checked.prog
theorem Tryd.rowed : mapsRowed Tryd.pp = true := by kernel_rfl
theorem Tryd.enters : Tryd.pp.mayEnter = true := by kernel_rfl
theorem fnExactRecoverJournal_known {W : World} (h : laidMetH Tryd.prog Rows.fnExactRecoverJournalRow.laid W) : Kn.K (fun g => g < W.heap.size) W := by
  rw [MakeChecks.laidMetH_plain _ _ _ (by kernel_rfl)] at h
  intro g hg
  have ht : Lib.TabIs Tryd.prog W "internal/strconv.uint64pow10" .u64 Lib.pow10Tab :=
    Lib.tabIs_of_head (rest := []) (g := 1) (t := 121) (e := 107) (n := 20) (by kernel_rfl) (by kernel_rfl) Tryd.underlying121 Tryd.underlying107 (by kernel_rfl) (by kernel_rfl) h.tail.tail
  refine ⟨?_, ht⟩
  unfold Lib.TabIs World.var? at ht
  rw [hg] at ht
  simp only [Option.bind_some] at ht
  split at ht
  · rename_i hc
    exact (Array.getElem?_eq_some_iff.1 hc).1
  · simp at ht

set_option maxRecDepth 100000 in
theorem fnExactRecoverJournal_lifted (os : Os) (started : os.Started) (H : Type) (enc : TypeId × Value → H) :
    ReturnsInHanded {} Tryd.checked os 5 .any (fun w args => (Rows.fnExactRecoverJournalSpec.pre enc Tryd.prog Tryd.f5 Rows.fnExactRecoverJournalRow.domain false w args ∧ laidMetH Tryd.prog Rows.fnExactRecoverJournalRow.laid w) ∧ sizedMet enc Tryd.prog Tryd.f5 (OpenSpec.ofChange Rows.fnExactRecoverJournalSpec) false w args)
      (Rows.fnExactRecoverJournalSpec.post enc Tryd.prog Tryd.f5 false true false false) := by
  refine returnsInHanded_of_change_and (C := Tryd.checked) (X := fun w _ => laidMetH Tryd.prog Rows.fnExactRecoverJournalRow.laid w) (fun _ _ _ hh h => h.of_heap hh) Tryd.own started (by kernel_rfl) Tryd.func5
    (ChangeSpec.witness_shaped (enc := enc) (C := Tryd.checked) (os := os) (X := fun w _ => laidMetH Tryd.prog Rows.fnExactRecoverJournalRow.laid w) false (World.laidAll Tryd.prog os Rows.fnExactRecoverJournalRow.laid) #[.string ByteArray.empty] 8 (World.laidAll_os _ _ _)
      (World.shaped_of_ZipB (by kernel_rfl) (by kernel_rfl)) (by kernel_rfl) (by kernel_rfl) (by kernel_rfl)
      (by rw [MakeChecks.laidMetH_plain _ _ _ (by kernel_rfl)]; exact laidMet_laidAll _ (by kernel_rfl) (by kernel_rfl))) ?_
  intro W base args ds gs before hval0 hW hc _ hL _
  have hval : ∀ (j : Nat) t v, Tryd.f5.params[j]? = some t → args[j]? = some v → Value.okWide Tryd.prog W .any base t v := hval0
  have hW' := hW
  obtain ⟨p, q, hA0, hV, rfl, _, _⟩ := hW
  have hA : DataW.TrodAll enc Tryd.prog W 0 (fun _ => true) true Tryd.f5.params.toList args.toList ds p := hA0
  rw [Tryd.params5] at hA hval
  obtain ⟨v0, d0, rfl, rfl, h0⟩ := trodAll_one hA
  obtain ⟨rfl, rfl⟩ := trodVars_none hV
  obtain ⟨c, hc1, hc2⟩ := arg_str Tryd.underlying9 (hval 0 9 v0 rfl rfl) h0
  refine (calls_of_AF (vs := [v0]) (lawRecover_spec c) ⟨Tryd.f5, Tryd.func5, by kernel_rfl, by kernel_rfl⟩ ⟨_, _, rfl, hc2, rfl⟩ (fnExactRecoverJournal_known hL)).mono fun e W' ⟨he, hb⟩ => ?_
  subst he
  refine ⟨_, rfl, law_post (tb := 4) Tryd.laidOut ?_ ?_ Tryd.underlying4 rfl rfl hW' hb⟩
  · rw [Tryd.params5]
    intro t ht
    simp at ht
    subst ht
    exact ⟨by kernel_rfl, of_decide_eq_true (by kernel_rfl)⟩
  · kernel_rfl
theorem fnExactRecoverJournal_inPlace : (Rows.fnExactRecoverJournalRow.inPlace == Tryd.pp.inPlace 5) = true := by kernel_rfl
theorem fnExactRecoverJournal_unfollowed : (Rows.fnExactRecoverJournalRow.unfollowed == Tryd.pp.unfollowed 5) = true := by kernel_rfl
theorem fnExactRecoverJournal_recurses : (Rows.fnExactRecoverJournalRow.recurses == Tryd.pp.recurses 5) = true := by kernel_rfl
theorem fnExactRecoverJournal_named : (Rows.fnExactRecoverJournalRow.named == Tryd.pp.varsNamed 5) = true := by kernel_rfl
theorem fnExactRecoverJournal_a9 : ((Rows.fnExactRecoverJournalRow.maps == (Tryd.f5.params.toList ++ Rows.fnExactRecoverJournalSpec.plain.varTypes Tryd.pp).any (Tryd.pp.mapsRec ·)) && (Rows.fnExactRecoverJournalRow.ifaces == (Tryd.f5.params.toList ++ Rows.fnExactRecoverJournalSpec.plain.varTypes Tryd.pp).any (Tryd.pp.ifacesRec ·)) && (Rows.fnExactRecoverJournalRow.mapsOut == Tryd.pp.mapsAmong Tryd.f5.resultTypes.toList) &&
      (Rows.fnExactRecoverJournalRow.loops == (Tryd.f5.params.toList ++ Rows.fnExactRecoverJournalSpec.plain.varTypes Tryd.pp).any (Tryd.pp.loopsFrom ·)) && (Rows.fnExactRecoverJournalRow.wideKeys == (Tryd.f5.params.toList ++ Rows.fnExactRecoverJournalSpec.plain.varTypes Tryd.pp ++ Tryd.f5.resultTypes.toList).any (Tryd.pp.wideKeysFrom ·))) = true := by kernel_rfl
theorem fnExactRecoverJournal_a15 : ((Rows.fnExactRecoverJournalRow.veiled == (Tryd.f5.params.toList ++ Rows.fnExactRecoverJournalSpec.plain.varTypes Tryd.pp ++ Tryd.f5.resultTypes.toList).any (Tryd.pp.veiledRec ·)) && Rows.fnExactRecoverJournalRow.veiledFits Tryd.pp Tryd.f5.params.toList (Tryd.f5.params.toList ++ Rows.fnExactRecoverJournalSpec.plain.varTypes Tryd.pp ++ Tryd.f5.resultTypes.toList)) = true := by kernel_rfl
theorem fnExactRecoverJournal_closed : joinedFacts Tryd.pp 5 Tryd.f5 Rows.fnExactRecoverJournalSpec Rows.fnExactRecoverJournalRow = true :=
  joined_parts (by kernel_rfl) Tryd.laidOut Tryd.rowed (by kernel_rfl) fnExactRecoverJournal_inPlace fnExactRecoverJournal_unfollowed fnExactRecoverJournal_recurses fnExactRecoverJournal_named fnExactRecoverJournal_a9 (by kernel_rfl) (by kernel_rfl) (by kernel_rfl) Tryd.enters (by kernel_rfl) rfl rfl fnExactRecoverJournal_a15
theorem fnExactRecoverJournal_inst : Tryd.f5.isInstance Tryd.pp Rows.fnExactRecoverJournalRow.origin Rows.fnExactRecoverJournalRow.targs := of_decide_eq_true (by kernel_rfl)
theorem fnExactRecoverJournal_wrap : Tryd.f5.isWrapper Tryd.pp Rows.fnExactRecoverJournalRow.wrapper Rows.fnExactRecoverJournalRow.mainSum := by unfold Func.isWrapper; first | (rw [if_pos (by decide +kernel)]; kernel_rfl) | (rw [if_neg (by decide +kernel)]; exact ⟨rfl, rfl⟩)
theorem fnExactRecoverJournal_num : Tryd.pp.funcNamed Rows.fnExactRecoverJournalRow.func = some 5 := by kernel_rfl

theorem fnExactRecoverJournal_holds : Rows.FnExactRecoverJournalSaid :=
  OpenClaim.holds_of_wide 5 Tryd.f5 rfl rfl rfl rfl rfl rfl rfl ⟨rfl, rfl, rfl, rfl, rfl⟩ rfl rfl rfl rfl rfl fnExactRecoverJournal_num Tryd.func5 fnExactRecoverJournal_closed fnExactRecoverJournal_inst fnExactRecoverJournal_wrap
    (fun os started H enc _ => fnExactRecoverJournal_lifted os started H enc)
theorem fnExactRecoverJournal_card : Rows.FnExactRecoverJournalCardSaid :=
  Claim7.holds_tied_plain_at .later [] [.data, .data, .data] true (true, "3cdb938ab4e99e199c6d4cfec1d4e696bf6d8b3a77cc2b05e3fd5cfe2218a99a") true fnExactRecoverJournal_holds (fun _ h => by cases h) (by kernel_rfl) (fun _ h => by cases h) fnExactRecoverJournal_row_tie rfl ⟨rfl, rfl⟩ (by kernel_rfl) rfl
    (fun f fn hf hfn => by
      obtain rfl : f = 5 := Option.some.inj (fnExactRecoverJournal_num.symm.trans hf) |>.symm
      obtain rfl : fn = Tryd.f5 := (Option.some.inj (Tryd.func5.symm.trans hfn)).symm
      exact ⟨by kernel_rfl, fun j t ht => by
        rw [Tryd.params5] at ht
        have hm : t ∈ [9] := by simpa using Array.mem_of_getElem? ht
        have hall : ([9].all fun u => !Tryd.prog.wantsStandIn u) = true := by kernel_rfl
        exact (show Tryd.prog.wantsStandIn t = false by simpa using List.all_eq_true.1 hall t hm)⟩)
    (by kernel_rfl)
end Go.Proofs.YtgbkecenhbcihaaDoor
