/- What the reference's relax computes, that both are the same, and that its law answers true; conditions stand in each statement. -/
import Derived.Test.YtgbkecenhbcihaaRfA
set_option linter.unusedVariables false
set_option linter.unusedSimpArgs false
namespace Go.Proofs.Avx
attribute [local irreducible] canon flB flO flW floatOfInt
/-! ### The reference lets flows become calmer -/
theorem l06Calm_spec (m u v : Nat) : AFp Try.prog 273 [F m, F u, F v] (Ff 0 ((List.range 9).map (clm m u v))) := by
  refine AF_body okG0 Try.func273 rfl rfl (by simp [Try.ntmps273]) (by simp) ?_; simp only [Try.ntmps273]
  refine aw_seq_k fun K1 hK1 => aw_region okG0 ?_; simp only [push_cast, Nat.reduceLT, Nat.reduceLeDiff, Nat.reduceEqDiff, reduceIte, reduceCtorEq, Nat.reduceAdd, Nat.reduceMul, Nat.reduceMod, Nat.reduceBEq, Nat.reduceBNe, List.reduceReplicate, Int.reduceLE, Int.reduceLT, Int.reduceNe]
  apply hK1; clear hK1
  refine aw_seq_k fun K2 hK2 => aw_region okG0 ?_; simp only [push_cast, Nat.reduceLT, Nat.reduceLeDiff, Nat.reduceEqDiff, reduceIte, reduceCtorEq, Nat.reduceAdd, Nat.reduceMul, Nat.reduceMod, Nat.reduceBEq, Nat.reduceBNe, List.reduceReplicate, Int.reduceLE, Int.reduceLT, Int.reduceNe]
  apply hK2; clear hK2
  refine aw_seq_k fun K3 hK3 => ?_
  refine aw_seq_k fun K4 hK4 => aw_region okG0 ?_; simp only [push_cast, Nat.reduceLT, Nat.reduceLeDiff, Nat.reduceEqDiff, reduceIte, reduceCtorEq, Nat.reduceAdd, Nat.reduceMul, Nat.reduceMod, Nat.reduceBEq, Nat.reduceBNe, List.reduceReplicate, Int.reduceLE, Int.reduceLT, Int.reduceNe]
  apply hK4; clear hK4
  refine aw_block ?_
  refine aw_loop (fun k : {k : Nat // k ≤ 9} => ⟨[(0, F m), (1, F u), (2, F v), (7, Ff 6500 ((List.range k.1).map (clm m u v))), (8, I k.1)], [], [6500]⟩) (fun k => 9 - k.1) ⟨0, Nat.zero_le _⟩ (sub_ren_to [(1600, 6500)] (by simp [renN]) rfl (by simp [allE, getE, renE, renV, renVs, renN]) (by simp [allB, getB, renB, renVs, renV, renN]) rfl rfl rfl) ?_
  rintro ⟨k, hk⟩
  have hlen : ((List.range k).map (clm m u v)).length = k := by simp
  have hsucc : (List.range k).map (clm m u v) ++ [clm m u v k] = (List.range (k + 1)).map (clm m u v) := by rw [List.range_succ, List.map_append]; rfl
  refine aw_seq_k fun K5 hK5 => ?_
  refine aw_seq_k fun K6 hK6 => aw_region okG0 ?_; simp only [push_cast, Nat.reduceLT, Nat.reduceLeDiff, Nat.reduceEqDiff, reduceIte, reduceCtorEq, Nat.reduceAdd, Nat.reduceMul, Nat.reduceMod, Nat.reduceBEq, Nat.reduceBNe, List.reduceReplicate, Int.reduceLE, Int.reduceLT, Int.reduceNe]
  apply hK6; clear hK6
  refine aw_cond rfl (fun hc => ?_) (fun hc => ?_)
  · have hlt : k < 9 := by have : (k : Int) < 9 := by simpa using hc
                           omega
    refine aw_skip ?_
    simp only [push_cast, Nat.reduceLT, Nat.reduceLeDiff, Nat.reduceEqDiff, reduceIte, reduceCtorEq, Nat.reduceAdd, Nat.reduceMul, Nat.reduceMod, Nat.reduceBEq, Nat.reduceBNe, List.reduceReplicate, Int.reduceLE, Int.reduceLT, Int.reduceNe]
    apply hK5; clear hK5
    refine aw_seq_k fun K7 hK7 => ?_
    refine aw_block ?_
    refine aw_seq_k fun K8 hK8 => aw_region okG0 ?_; simp only [push_cast, Nat.reduceLT, Nat.reduceLeDiff, Nat.reduceEqDiff, reduceIte, reduceCtorEq, Nat.reduceAdd, Nat.reduceMul, Nat.reduceMod, Nat.reduceBEq, Nat.reduceBNe, List.reduceReplicate, Int.reduceLE, Int.reduceLT, Int.reduceNe]
    refine call_pure (l06Part_spec k hlt) (fits_of rfl) (by decide) rfl (by simp [idsV, idsVs]) ?_; simp only [push_cast, Nat.reduceLT, Nat.reduceLeDiff, Nat.reduceEqDiff, reduceIte, reduceCtorEq, Nat.reduceAdd, Nat.reduceMul, Nat.reduceMod, Nat.reduceBEq, Nat.reduceBNe, List.reduceReplicate, Int.reduceLE, Int.reduceLT, Int.reduceNe]
    apply hK8; clear hK8
    refine aw_seq_k fun K9 hK9 => aw_region okG0 ?_; simp only [push_cast, Nat.reduceLT, Nat.reduceLeDiff, Nat.reduceEqDiff, reduceIte, reduceCtorEq, Nat.reduceAdd, Nat.reduceMul, Nat.reduceMod, Nat.reduceBEq, Nat.reduceBNe, List.reduceReplicate, Int.reduceLE, Int.reduceLT, Int.reduceNe]
    apply hK9; clear hK9
    refine aw_seq_k fun K10 hK10 => ?_
    refine aw_seq_k fun K11 hK11 => aw_region okG0 ?_; simp only [push_cast, Nat.reduceLT, Nat.reduceLeDiff, Nat.reduceEqDiff, reduceIte, reduceCtorEq, Nat.reduceAdd, Nat.reduceMul, Nat.reduceMod, Nat.reduceBEq, Nat.reduceBNe, List.reduceReplicate, Int.reduceLE, Int.reduceLT, Int.reduceNe]
    apply hK11; clear hK11
    refine aw_cond rfl (fun h0 => ?_) (fun h0 => ?_)
    · have g0 : 0 < k := by have : (0 : Int) < k := by simpa using h0
                            omega
      refine aw_region okG0 ?_
      simp only [push_cast, Nat.reduceLT, Nat.reduceLeDiff, Nat.reduceEqDiff, reduceIte, reduceCtorEq, Nat.reduceAdd, Nat.reduceMul, Nat.reduceMod, Nat.reduceBEq, Nat.reduceBNe, List.reduceReplicate, Int.reduceLE, Int.reduceLT, Int.reduceNe]
      apply hK10; clear hK10
      refine aw_seq_k fun K12 hK12 => ?_
      refine aw_seq_k fun K13 hK13 => aw_region okG0 ?_; simp only [push_cast, Nat.reduceLT, Nat.reduceLeDiff, Nat.reduceEqDiff, reduceIte, reduceCtorEq, Nat.reduceAdd, Nat.reduceMul, Nat.reduceMod, Nat.reduceBEq, Nat.reduceBNe, List.reduceReplicate, Int.reduceLE, Int.reduceLT, Int.reduceNe]
      apply hK13; clear hK13
      refine aw_cond rfl (fun h4 => ?_) (fun h4 => ?_)
      · have hwt : wt k = canon .f32 1021546041 := by
          have : (4 : Int) < k := by simpa using h4
          unfold wt; rw [if_neg (by omega), if_neg (by omega)]
        refine aw_region okG0 ?_
        simp only [push_cast, Nat.reduceLT, Nat.reduceLeDiff, Nat.reduceEqDiff, reduceIte, reduceCtorEq, Nat.reduceAdd, Nat.reduceMul, Nat.reduceMod, Nat.reduceBEq, Nat.reduceBNe, List.reduceReplicate, Int.reduceLE, Int.reduceLT, Int.reduceNe]
        apply hK12; clear hK12
        refine aw_seq_k fun K14 hK14 => aw_region okG0 ?_; simp only [push_cast, Nat.reduceLT, Nat.reduceLeDiff, Nat.reduceEqDiff, reduceIte, reduceCtorEq, Nat.reduceAdd, Nat.reduceMul, Nat.reduceMod, Nat.reduceBEq, Nat.reduceBNe, List.reduceReplicate, Int.reduceLE, Int.reduceLT, Int.reduceNe]
        apply hK14; clear hK14
        refine aw_seq_k fun K15 hK15 => aw_region okG0 ?_; simp only [push_cast, Nat.reduceLT, Nat.reduceLeDiff, Nat.reduceEqDiff, reduceIte, reduceCtorEq, Nat.reduceAdd, Nat.reduceMul, Nat.reduceMod, Nat.reduceBEq, Nat.reduceBNe, List.reduceReplicate, Int.reduceLE, Int.reduceLT, Int.reduceNe]
        apply hK15; clear hK15
        refine aw_seq_k fun K16 hK16 => aw_region okG0 ?_; simp only [push_cast, Nat.reduceLT, Nat.reduceLeDiff, Nat.reduceEqDiff, reduceIte, reduceCtorEq, Nat.reduceAdd, Nat.reduceMul, Nat.reduceMod, Nat.reduceBEq, Nat.reduceBNe, List.reduceReplicate, Int.reduceLE, Int.reduceLT, Int.reduceNe]
        apply hK16; clear hK16
        refine aw_seq_k fun K17 hK17 => aw_region okG0 ?_; simp only [push_cast, Nat.reduceLT, Nat.reduceLeDiff, Nat.reduceEqDiff, reduceIte, reduceCtorEq, Nat.reduceAdd, Nat.reduceMul, Nat.reduceMod, Nat.reduceBEq, Nat.reduceBNe, List.reduceReplicate, Int.reduceLE, Int.reduceLT, Int.reduceNe]
        apply hK17; clear hK17
        refine aw_region okG0 ?_
        simp only [push_cast, Nat.reduceLT, Nat.reduceLeDiff, Nat.reduceEqDiff, reduceIte, reduceCtorEq, Nat.reduceAdd, Nat.reduceMul, Nat.reduceMod, Nat.reduceBEq, Nat.reduceBNe, List.reduceReplicate, Int.reduceLE, Int.reduceLT, Int.reduceNe]
        refine ⟨by rw [hlen]; omega, by rw [hlen]; omega, ?_⟩
        apply hK7; clear hK7
        refine aw_region okG0 ?_
        simp only [push_cast, Nat.reduceLT, Nat.reduceLeDiff, Nat.reduceEqDiff, reduceIte, reduceCtorEq, Nat.reduceAdd, Nat.reduceMul, Nat.reduceMod, Nat.reduceBEq, Nat.reduceBNe, List.reduceReplicate, Int.reduceLE, Int.reduceLT, Int.reduceNe]
        refine ⟨⟨k + 1, by omega⟩, ?_, by show 9 - (k + 1) < 9 - k; omega⟩
        rw [w64 (n := (k : Int) + 1) (by omega) (by omega)]
        rw [← hsucc]
        rw [show clm m u v k = flB .mul .f32 (flB .mul .f32 (wt k) m) (xx u v k) from rfl, hwt]
        exact sub_to (by simp [allE, getE] <;> (repeat' apply And.intro) <;> rfl) (by simp [allB, getB] <;> rfl) rfl rfl rfl
      · have hwt : wt k = canon .f32 1038323257 := by
          have : ¬ (4 : Int) < k := by simpa using h4
          unfold wt; rw [if_neg (by omega), if_pos (by omega)]
        refine aw_skip ?_
        simp only [push_cast, Nat.reduceLT, Nat.reduceLeDiff, Nat.reduceEqDiff, reduceIte, reduceCtorEq, Nat.reduceAdd, Nat.reduceMul, Nat.reduceMod, Nat.reduceBEq, Nat.reduceBNe, List.reduceReplicate, Int.reduceLE, Int.reduceLT, Int.reduceNe]
        apply hK12; clear hK12
        refine aw_seq_k fun K14 hK14 => aw_region okG0 ?_; simp only [push_cast, Nat.reduceLT, Nat.reduceLeDiff, Nat.reduceEqDiff, reduceIte, reduceCtorEq, Nat.reduceAdd, Nat.reduceMul, Nat.reduceMod, Nat.reduceBEq, Nat.reduceBNe, List.reduceReplicate, Int.reduceLE, Int.reduceLT, Int.reduceNe]
        apply hK14; clear hK14
        refine aw_seq_k fun K15 hK15 => aw_region okG0 ?_; simp only [push_cast, Nat.reduceLT, Nat.reduceLeDiff, Nat.reduceEqDiff, reduceIte, reduceCtorEq, Nat.reduceAdd, Nat.reduceMul, Nat.reduceMod, Nat.reduceBEq, Nat.reduceBNe, List.reduceReplicate, Int.reduceLE, Int.reduceLT, Int.reduceNe]
        apply hK15; clear hK15
        refine aw_seq_k fun K16 hK16 => aw_region okG0 ?_; simp only [push_cast, Nat.reduceLT, Nat.reduceLeDiff, Nat.reduceEqDiff, reduceIte, reduceCtorEq, Nat.reduceAdd, Nat.reduceMul, Nat.reduceMod, Nat.reduceBEq, Nat.reduceBNe, List.reduceReplicate, Int.reduceLE, Int.reduceLT, Int.reduceNe]
        apply hK16; clear hK16
        refine aw_seq_k fun K17 hK17 => aw_region okG0 ?_; simp only [push_cast, Nat.reduceLT, Nat.reduceLeDiff, Nat.reduceEqDiff, reduceIte, reduceCtorEq, Nat.reduceAdd, Nat.reduceMul, Nat.reduceMod, Nat.reduceBEq, Nat.reduceBNe, List.reduceReplicate, Int.reduceLE, Int.reduceLT, Int.reduceNe]
        apply hK17; clear hK17
        refine aw_region okG0 ?_
        simp only [push_cast, Nat.reduceLT, Nat.reduceLeDiff, Nat.reduceEqDiff, reduceIte, reduceCtorEq, Nat.reduceAdd, Nat.reduceMul, Nat.reduceMod, Nat.reduceBEq, Nat.reduceBNe, List.reduceReplicate, Int.reduceLE, Int.reduceLT, Int.reduceNe]
        refine ⟨by rw [hlen]; omega, by rw [hlen]; omega, ?_⟩
        apply hK7; clear hK7
        refine aw_region okG0 ?_
        simp only [push_cast, Nat.reduceLT, Nat.reduceLeDiff, Nat.reduceEqDiff, reduceIte, reduceCtorEq, Nat.reduceAdd, Nat.reduceMul, Nat.reduceMod, Nat.reduceBEq, Nat.reduceBNe, List.reduceReplicate, Int.reduceLE, Int.reduceLT, Int.reduceNe]
        refine ⟨⟨k + 1, by omega⟩, ?_, by show 9 - (k + 1) < 9 - k; omega⟩
        rw [w64 (n := (k : Int) + 1) (by omega) (by omega)]
        rw [← hsucc]
        rw [show clm m u v k = flB .mul .f32 (flB .mul .f32 (wt k) m) (xx u v k) from rfl, hwt]
        exact sub_to (by simp [allE, getE] <;> (repeat' apply And.intro) <;> rfl) (by simp [allB, getB] <;> rfl) rfl rfl rfl
    · have g0 : k = 0 := by have : ¬ (0 : Int) < k := by simpa using h0
                            omega
      refine aw_skip ?_
      simp only [push_cast, Nat.reduceLT, Nat.reduceLeDiff, Nat.reduceEqDiff, reduceIte, reduceCtorEq, Nat.reduceAdd, Nat.reduceMul, Nat.reduceMod, Nat.reduceBEq, Nat.reduceBNe, List.reduceReplicate, Int.reduceLE, Int.reduceLT, Int.reduceNe]
      apply hK10; clear hK10
      refine aw_seq_k fun K12 hK12 => ?_
      refine aw_seq_k fun K13 hK13 => aw_region okG0 ?_; simp only [push_cast, Nat.reduceLT, Nat.reduceLeDiff, Nat.reduceEqDiff, reduceIte, reduceCtorEq, Nat.reduceAdd, Nat.reduceMul, Nat.reduceMod, Nat.reduceBEq, Nat.reduceBNe, List.reduceReplicate, Int.reduceLE, Int.reduceLT, Int.reduceNe]
      apply hK13; clear hK13
      refine aw_cond rfl (fun h4 => ?_) (fun h4 => ?_)
      · have : (4 : Int) < k := by simpa using h4
        omega
      · have hwt : wt k = canon .f32 1055100473 := by
          unfold wt; rw [if_pos g0]
        refine aw_skip ?_
        simp only [push_cast, Nat.reduceLT, Nat.reduceLeDiff, Nat.reduceEqDiff, reduceIte, reduceCtorEq, Nat.reduceAdd, Nat.reduceMul, Nat.reduceMod, Nat.reduceBEq, Nat.reduceBNe, List.reduceReplicate, Int.reduceLE, Int.reduceLT, Int.reduceNe]
        apply hK12; clear hK12
        refine aw_seq_k fun K14 hK14 => aw_region okG0 ?_; simp only [push_cast, Nat.reduceLT, Nat.reduceLeDiff, Nat.reduceEqDiff, reduceIte, reduceCtorEq, Nat.reduceAdd, Nat.reduceMul, Nat.reduceMod, Nat.reduceBEq, Nat.reduceBNe, List.reduceReplicate, Int.reduceLE, Int.reduceLT, Int.reduceNe]
        apply hK14; clear hK14
        refine aw_seq_k fun K15 hK15 => aw_region okG0 ?_; simp only [push_cast, Nat.reduceLT, Nat.reduceLeDiff, Nat.reduceEqDiff, reduceIte, reduceCtorEq, Nat.reduceAdd, Nat.reduceMul, Nat.reduceMod, Nat.reduceBEq, Nat.reduceBNe, List.reduceReplicate, Int.reduceLE, Int.reduceLT, Int.reduceNe]
        apply hK15; clear hK15
        refine aw_seq_k fun K16 hK16 => aw_region okG0 ?_; simp only [push_cast, Nat.reduceLT, Nat.reduceLeDiff, Nat.reduceEqDiff, reduceIte, reduceCtorEq, Nat.reduceAdd, Nat.reduceMul, Nat.reduceMod, Nat.reduceBEq, Nat.reduceBNe, List.reduceReplicate, Int.reduceLE, Int.reduceLT, Int.reduceNe]
        apply hK16; clear hK16
        refine aw_seq_k fun K17 hK17 => aw_region okG0 ?_; simp only [push_cast, Nat.reduceLT, Nat.reduceLeDiff, Nat.reduceEqDiff, reduceIte, reduceCtorEq, Nat.reduceAdd, Nat.reduceMul, Nat.reduceMod, Nat.reduceBEq, Nat.reduceBNe, List.reduceReplicate, Int.reduceLE, Int.reduceLT, Int.reduceNe]
        apply hK17; clear hK17
        refine aw_region okG0 ?_
        simp only [push_cast, Nat.reduceLT, Nat.reduceLeDiff, Nat.reduceEqDiff, reduceIte, reduceCtorEq, Nat.reduceAdd, Nat.reduceMul, Nat.reduceMod, Nat.reduceBEq, Nat.reduceBNe, List.reduceReplicate, Int.reduceLE, Int.reduceLT, Int.reduceNe]
        refine ⟨by rw [hlen]; omega, by rw [hlen]; omega, ?_⟩
        apply hK7; clear hK7
        refine aw_region okG0 ?_
        simp only [push_cast, Nat.reduceLT, Nat.reduceLeDiff, Nat.reduceEqDiff, reduceIte, reduceCtorEq, Nat.reduceAdd, Nat.reduceMul, Nat.reduceMod, Nat.reduceBEq, Nat.reduceBNe, List.reduceReplicate, Int.reduceLE, Int.reduceLT, Int.reduceNe]
        refine ⟨⟨k + 1, by omega⟩, ?_, by show 9 - (k + 1) < 9 - k; omega⟩
        rw [w64 (n := (k : Int) + 1) (by omega) (by omega)]
        rw [← hsucc]
        rw [show clm m u v k = flB .mul .f32 (flB .mul .f32 (wt k) m) (xx u v k) from rfl, hwt]
        exact sub_to (by simp [allE, getE] <;> (repeat' apply And.intro) <;> rfl) (by simp [allB, getB] <;> rfl) rfl rfl rfl
  · have hlt : k = 9 := by have : ¬ (k : Int) < 9 := by simpa using hc
                           omega
    subst hlt
    refine aw_exit ?_
    simp only [push_cast, Nat.reduceLT, Nat.reduceLeDiff, Nat.reduceEqDiff, reduceIte, reduceCtorEq, Nat.reduceAdd, Nat.reduceMul, Nat.reduceMod, Nat.reduceBEq, Nat.reduceBNe, List.reduceReplicate, Int.reduceLE, Int.reduceLT, Int.reduceNe]
    apply hK3; clear hK3
    refine aw_seq_k fun K32 hK32 => aw_region okG0 ?_; simp only [push_cast, Nat.reduceLT, Nat.reduceLeDiff, Nat.reduceEqDiff, reduceIte, reduceCtorEq, Nat.reduceAdd, Nat.reduceMul, Nat.reduceMod, Nat.reduceBEq, Nat.reduceBNe, List.reduceReplicate, Int.reduceLE, Int.reduceLT, Int.reduceNe]
    apply hK32; clear hK32
    exact aw_ret (ret_o [(6500, 0)] rfl rfl (by simp [renN]) rfl)
end Go.Proofs.Avx

set_option linter.unusedVariables false
set_option linter.unusedSimpArgs false
namespace Go.Proofs.Avx
attribute [local irreducible] canon flB flO flW floatOfInt
/-- All cells before k can be calmed, says the reference. -/
def okToS (p : List Nat) (b : List Bool) (k : Nat) : Prop := ∀ j, j < k → b.getD j false = true ∨ (fin (mas (cel p j)) && gt0 (mas (cel p j))) = true
instance (p : List Nat) (b : List Bool) (k : Nat) : Decidable (okToS p b k) := by unfold okToS; exact inferInstance
def relaxS (r c : Int) (s : Nat) (p : List Nat) (b : List Bool) : Option (List Nat) := if okToS p b b.length ∧ vf r c (rTo s p b (9 * b.length)) b = true then some (rTo s p b (9 * b.length)) else none
/-- What the reference's flow holds at a place. -/
def rAt (s : Nat) (p : List Nat) (b : List Bool) (n : Nat) : List Nat := rTo s p b n ++ p.drop n
theorem rAt_len {s : Nat} {p : List Nat} {b : List Bool} {n : Nat} (h : n ≤ p.length) : (rAt s p b n).length = p.length := by simp [rAt, rTo_len]; omega
theorem rAt_zero (s : Nat) (p : List Nat) (b : List Bool) : rAt s p b 0 = p := by simp [rAt, rTo]
theorem rAt_all (s : Nat) (p : List Nat) (b : List Bool) (n : Nat) (h : p.length = n) : rAt s p b n = rTo s p b n := by simp [rAt, ← h]
theorem rAt_set (s : Nat) (p : List Nat) (b : List Bool) (k q : Nat) (hq : q < 9) (h : 9 * k + q < p.length) : (rAt s p b (9 * k + q)).set (9 * k + q) (rcq s (b.getD k false) (cel p k) q) = rAt s p b (9 * k + (q + 1)) := by
  unfold rAt
  rw [List.set_append, if_neg (by rw [rTo_len]; omega), rTo_len, Nat.sub_self, List.drop_eq_getElem_cons h, List.set_cons_zero, ← rTo_succ s p b k q hq, List.append_assoc]
  rfl
theorem ordI {q : Nat} (h : q < 9) : ([0, 3, 4, 1, 2, 7, 8, 5, 6] : List Int).getD q 0 = ((ord q : Nat) : Int) := by
  have h9 : q = 0 ∨ q = 1 ∨ q = 2 ∨ q = 3 ∨ q = 4 ∨ q = 5 ∨ q = 6 ∨ q = 7 ∨ q = 8 := by omega
  rcases h9 with rfl | rfl | rfl | rfl | rfl | rfl | rfl | rfl | rfl <;> rfl
set_option maxHeartbeats 4000000 in
theorem l06Relaxed_spec (r c : Int) (s : Nat) (p : List Nat) (b : List Bool) (hs : sides r c = true) (hp : p.length = 9 * b.length) (hb : (b.length : Int) = r * c) :
    AFp Try.prog 153 [.rptr [I r, I c, Fs p, Bs b], F s] (resF r c b (relaxS r c s p b)) := by
  obtain ⟨h1, h2, h3, h4, h5, h6⟩ := sides_of hs
  have hb1 : b.length ≤ 256 := by omega
  have hp0 : p ≠ [] := by intro h; subst h; simp at hp; omega
  have hrc : IntKind.i64.wrap (r * c) = (b.length : Int) := by rw [w64 (by omega) (by omega), hb]
  refine AF_body okG0 Try.func153 rfl rfl (by simp [Try.ntmps153]) (by simp) ?_; simp only [Try.ntmps153]
  refine aw_seq_k fun K1 hK1 => aw_region okG0 ?_; simp only [push_cast, Nat.reduceLT, Nat.reduceLeDiff, Nat.reduceEqDiff, reduceIte, reduceCtorEq, Nat.reduceAdd, Nat.reduceMul, Nat.reduceMod, Nat.reduceBEq, Nat.reduceBNe, List.reduceReplicate, Int.reduceLE, Int.reduceLT, Int.reduceNe]
  apply hK1; clear hK1
  refine aw_seq_k fun K2 hK2 => aw_region okG0 ?_; simp only [push_cast, Nat.reduceLT, Nat.reduceLeDiff, Nat.reduceEqDiff, reduceIte, reduceCtorEq, Nat.reduceAdd, Nat.reduceMul, Nat.reduceMod, Nat.reduceBEq, Nat.reduceBNe, List.reduceReplicate, Int.reduceLE, Int.reduceLT, Int.reduceNe]
  refine call_pure (l06OwnFlow_spec r c p b hp0 (by omega) (by omega)) (fits_of rfl) (by decide) rfl (by simp [idsV, idsVs]) ?_; simp only [push_cast, Nat.reduceLT, Nat.reduceLeDiff, Nat.reduceEqDiff, reduceIte, reduceCtorEq, Nat.reduceAdd, Nat.reduceMul, Nat.reduceMod, Nat.reduceBEq, Nat.reduceBNe, List.reduceReplicate, Int.reduceLE, Int.reduceLT, Int.reduceNe]
  apply hK2; clear hK2
  refine aw_seq_k fun K3 hK3 => ?_
  refine aw_seq_k fun K4 hK4 => aw_region okG0 ?_; simp only [push_cast, Nat.reduceLT, Nat.reduceLeDiff, Nat.reduceEqDiff, reduceIte, reduceCtorEq, Nat.reduceAdd, Nat.reduceMul, Nat.reduceMod, Nat.reduceBEq, Nat.reduceBNe, List.reduceReplicate, Int.reduceLE, Int.reduceLT, Int.reduceNe]
  apply hK4; clear hK4
  refine aw_block ?_
  refine aw_loop (fun k : {k : Nat // k ≤ b.length ∧ okToS p b k} => ⟨[(0, .rptr [I r, I c, Fs p, Bs b]), (1, F s), (4, .ptr 499 0), (6, .ptr 699 0), (7, I k.1)], [(699, [I r, I c, Ff 1700 (rAt s p b (9 * k.1)), Bf 1701 b]), (499, [I 0, I 0, .nilsl, .nilsl])], [699, 1700, 1701, 499]⟩) (fun k => b.length - k.1) ⟨0, Nat.zero_le _, fun j hj => absurd hj (Nat.not_lt_zero j)⟩ (by simp only [Nat.mul_zero, rAt_zero]; exact sub_to (by simp [allE, getE] <;> (repeat' apply And.intro) <;> rfl) (by simp [allB, getB] <;> rfl) rfl rfl rfl) ?_
  rintro ⟨k, hk, hok⟩
  have hlen := rAt_len (s := s) (p := p) (b := b) (n := 9 * k) (by omega)
  refine aw_seq_k fun K5 hK5 => ?_
  refine aw_seq_k fun K6 hK6 => aw_draw fol okG0 10 (by kernel_rfl) ?_; simp only [push_cast, Nat.reduceLT, Nat.reduceLeDiff, Nat.reduceEqDiff, reduceIte, reduceCtorEq, Nat.reduceAdd, Nat.reduceMul, Nat.reduceMod, Nat.reduceBEq, Nat.reduceBNe, List.reduceReplicate, Int.reduceLE, Int.reduceLT, Int.reduceNe]
  rw [hrc]
  apply hK6; clear hK6
  refine aw_cond rfl (fun hc => ?_) (fun hc => ?_)
  · have hlt : k < b.length := by simpa using hc
    have hcl : (cel p k).length = 9 := cel_len (by omega)
    refine aw_skip ?_
    simp only [push_cast, Nat.reduceLT, Nat.reduceLeDiff, Nat.reduceEqDiff, reduceIte, reduceCtorEq, Nat.reduceAdd, Nat.reduceMul, Nat.reduceMod, Nat.reduceBEq, Nat.reduceBNe, List.reduceReplicate, Int.reduceLE, Int.reduceLT, Int.reduceNe]
    apply hK5; clear hK5
    refine aw_seq_k fun K7 hK7 => ?_
    refine aw_block ?_
    refine aw_seq_k fun K8 hK8 => aw_region okG0 ?_; simp only [push_cast, Nat.reduceLT, Nat.reduceLeDiff, Nat.reduceEqDiff, reduceIte, reduceCtorEq, Nat.reduceAdd, Nat.reduceMul, Nat.reduceMod, Nat.reduceBEq, Nat.reduceBNe, List.reduceReplicate, Int.reduceLE, Int.reduceLT, Int.reduceNe]
    refine call_ro (l06Cell_spec r c p b k (by omega) (by omega)) (fits_of rfl) rfl (by decide) (by simp [idsV, idsVs]) ?_; simp only [push_cast, Nat.reduceLT, Nat.reduceLeDiff, Nat.reduceEqDiff, reduceIte, reduceCtorEq, Nat.reduceAdd, Nat.reduceMul, Nat.reduceMod, Nat.reduceBEq, Nat.reduceBNe, List.reduceReplicate, Int.reduceLE, Int.reduceLT, Int.reduceNe]
    apply hK8; clear hK8
    refine aw_seq_k fun K9 hK9 => ?_
    refine aw_seq_k fun K10 hK10 => aw_region okG0 ?_; simp only [push_cast, Nat.reduceLT, Nat.reduceLeDiff, Nat.reduceEqDiff, reduceIte, reduceCtorEq, Nat.reduceAdd, Nat.reduceMul, Nat.reduceMod, Nat.reduceBEq, Nat.reduceBNe, List.reduceReplicate, Int.reduceLE, Int.reduceLT, Int.reduceNe]
    refine ⟨⟨by omega, by omega⟩, ?_⟩
    apply hK10; clear hK10
    refine aw_cond rfl (fun hw => ?_) (fun hw => ?_)
    · have okS : okToS p b (k + 1) := fun j hj => by
        by_cases hjk : j < k
        · exact hok j hjk
        · have : j = k := by omega
          subst this; exact .inl hw
      refine aw_seq_k fun K11 hK11 => aw_region okG0 ?_; simp only [push_cast, Nat.reduceLT, Nat.reduceLeDiff, Nat.reduceEqDiff, reduceIte, reduceCtorEq, Nat.reduceAdd, Nat.reduceMul, Nat.reduceMod, Nat.reduceBEq, Nat.reduceBNe, List.reduceReplicate, Int.reduceLE, Int.reduceLT, Int.reduceNe]
      apply hK11; clear hK11
      refine aw_seq_k fun K12 hK12 => ?_
      refine aw_seq_k fun K13 hK13 => aw_region okG0 ?_; simp only [push_cast, Nat.reduceLT, Nat.reduceLeDiff, Nat.reduceEqDiff, reduceIte, reduceCtorEq, Nat.reduceAdd, Nat.reduceMul, Nat.reduceMod, Nat.reduceBEq, Nat.reduceBNe, List.reduceReplicate, Int.reduceLE, Int.reduceLT, Int.reduceNe]
      apply hK13; clear hK13
      refine aw_block ?_
      refine aw_loop (fun q : {q : Nat // q ≤ 9} => ⟨[(0, .rptr [I r, I c, Fs p, Bs b]), (1, F s), (4, .ptr 499 0), (6, .ptr 699 0), (7, I k), (8, Fs (cel p k)), (9, .own 4100 3 (.int .i64) [0, 3, 4, 1, 2, 7, 8, 5, 6]), (10, I q.1)], [(699, [I r, I c, Ff 1700 (rAt s p b (9 * k + q.1)), Bf 1701 b]), (499, [I 0, I 0, .nilsl, .nilsl])], [4100, 699, 1700, 1701, 499]⟩) (fun q => 9 - q.1) ⟨0, Nat.zero_le _⟩ (sub_to (by simp [allE, getE] <;> (repeat' apply And.intro) <;> rfl) (by simp [allB, getB] <;> rfl) rfl rfl rfl) ?_
      rintro ⟨q, hq⟩
      refine aw_seq_k fun K14 hK14 => ?_
      refine aw_seq_k fun K15 hK15 => aw_region okG0 ?_; simp only [push_cast, Nat.reduceLT, Nat.reduceLeDiff, Nat.reduceEqDiff, reduceIte, reduceCtorEq, Nat.reduceAdd, Nat.reduceMul, Nat.reduceMod, Nat.reduceBEq, Nat.reduceBNe, List.reduceReplicate, Int.reduceLE, Int.reduceLT, Int.reduceNe]
      apply hK15; clear hK15
      refine aw_cond rfl (fun hc => ?_) (fun hc => ?_)
      · have hlt : q < 9 := by have : (q : Int) < 9 := by simpa using hc
                               omega
        have hlen := rAt_len (s := s) (p := p) (b := b) (n := 9 * k + q) (by omega)
        have e1 : rcq s (b.getD k false) (cel p k) q = (cel p k).getD (ord q) 0 := by rw [hw]; rfl
        have ho := ord_lt hlt
        have h9 : IntKind.i64.wrap (9 * (k : Int)) = ((9 * k : Nat) : Int) := by rw [w64 (by omega) (by omega)]; omega
        have h9q : IntKind.i64.wrap (((9 * k : Nat) : Int) + (q : Int)) = ((9 * k + q : Nat) : Int) := by rw [w64 (by omega) (by omega)]; omega
        refine aw_skip ?_
        simp only [push_cast, Nat.reduceLT, Nat.reduceLeDiff, Nat.reduceEqDiff, reduceIte, reduceCtorEq, Nat.reduceAdd, Nat.reduceMul, Nat.reduceMod, Nat.reduceBEq, Nat.reduceBNe, List.reduceReplicate, Int.reduceLE, Int.reduceLT, Int.reduceNe]
        apply hK14; clear hK14
        refine aw_seq_k fun K16 hK16 => ?_
        refine aw_block ?_
        refine aw_draw fol okG0 13 (by kernel_rfl) ?_
        simp only [push_cast, Nat.reduceLT, Nat.reduceLeDiff, Nat.reduceEqDiff, reduceIte, reduceCtorEq, Nat.reduceAdd, Nat.reduceMul, Nat.reduceMod, Nat.reduceBEq, Nat.reduceBNe, List.reduceReplicate, Int.reduceLE, Int.reduceLT, Int.reduceNe]
        rw [h9, h9q]
        refine ⟨⟨by omega, by show (q : Int) < 9; omega⟩, hlt, ?_⟩
        simp only [ordI hlt, Int.toNat_natCast]
        refine ⟨⟨by omega, by omega⟩, ⟨by omega, by omega⟩, by omega, ?_⟩
        rw [← e1, rAt_set s p b k q hlt (by omega)]
        apply hK16; clear hK16
        refine aw_region okG0 ?_
        simp only [push_cast, Nat.reduceLT, Nat.reduceLeDiff, Nat.reduceEqDiff, reduceIte, reduceCtorEq, Nat.reduceAdd, Nat.reduceMul, Nat.reduceMod, Nat.reduceBEq, Nat.reduceBNe, List.reduceReplicate, Int.reduceLE, Int.reduceLT, Int.reduceNe]
        refine ⟨⟨q + 1, by omega⟩, ?_, by show 9 - (q + 1) < 9 - q; omega⟩
        rw [w64 (n := (q : Int) + 1) (by omega) (by omega)]
        exact sub_to (by simp [allE, getE] <;> (repeat' apply And.intro) <;> rfl) (by simp [allB, getB] <;> rfl) rfl rfl rfl
      · have hlt : q = 9 := by have : ¬ (q : Int) < 9 := by simpa using hc
                               omega
        subst hlt
        refine aw_exit ?_
        simp only [push_cast, Nat.reduceLT, Nat.reduceLeDiff, Nat.reduceEqDiff, reduceIte, reduceCtorEq, Nat.reduceAdd, Nat.reduceMul, Nat.reduceMod, Nat.reduceBEq, Nat.reduceBNe, List.reduceReplicate, Int.reduceLE, Int.reduceLT, Int.reduceNe]
        apply hK12; clear hK12
        refine aw_exit ?_
        simp only [push_cast, Nat.reduceLT, Nat.reduceLeDiff, Nat.reduceEqDiff, reduceIte, reduceCtorEq, Nat.reduceAdd, Nat.reduceMul, Nat.reduceMod, Nat.reduceBEq, Nat.reduceBNe, List.reduceReplicate, Int.reduceLE, Int.reduceLT, Int.reduceNe]
        apply hK7; clear hK7
        refine aw_region okG0 ?_
        simp only [push_cast, Nat.reduceLT, Nat.reduceLeDiff, Nat.reduceEqDiff, reduceIte, reduceCtorEq, Nat.reduceAdd, Nat.reduceMul, Nat.reduceMod, Nat.reduceBEq, Nat.reduceBNe, List.reduceReplicate, Int.reduceLE, Int.reduceLT, Int.reduceNe]
        refine ⟨⟨k + 1, by omega, okS⟩, ?_, by show b.length - (k + 1) < b.length - k; omega⟩
        rw [w64 (n := (k : Int) + 1) (by omega) (by omega)]
        exact sub_to (by simp [allE, getE] <;> (repeat' apply And.intro) <;> rfl) (by simp [allB, getB] <;> rfl) rfl rfl rfl
    · have hwf : b.getD k false = false := by simpa using hw
      refine aw_skip ?_
      simp only [push_cast, Nat.reduceLT, Nat.reduceLeDiff, Nat.reduceEqDiff, reduceIte, reduceCtorEq, Nat.reduceAdd, Nat.reduceMul, Nat.reduceMod, Nat.reduceBEq, Nat.reduceBNe, List.reduceReplicate, Int.reduceLE, Int.reduceLT, Int.reduceNe]
      apply hK9; clear hK9
      refine aw_seq_k fun K17 hK17 => aw_region okG0 ?_; simp only [push_cast, Nat.reduceLT, Nat.reduceLeDiff, Nat.reduceEqDiff, reduceIte, reduceCtorEq, Nat.reduceAdd, Nat.reduceMul, Nat.reduceMod, Nat.reduceBEq, Nat.reduceBNe, List.reduceReplicate, Int.reduceLE, Int.reduceLT, Int.reduceNe]
      refine call_pure (l06Mass_spec (cel p k) hcl) (fits_of rfl) (by decide) rfl (by simp [idsV, idsVs]) ?_; simp only [push_cast, Nat.reduceLT, Nat.reduceLeDiff, Nat.reduceEqDiff, reduceIte, reduceCtorEq, Nat.reduceAdd, Nat.reduceMul, Nat.reduceMod, Nat.reduceBEq, Nat.reduceBNe, List.reduceReplicate, Int.reduceLE, Int.reduceLT, Int.reduceNe]
      apply hK17; clear hK17
      refine aw_seq_k fun K18 hK18 => ?_
      refine aw_seq_k fun K19 hK19 => aw_region okG0 ?_; simp only [push_cast, Nat.reduceLT, Nat.reduceLeDiff, Nat.reduceEqDiff, reduceIte, reduceCtorEq, Nat.reduceAdd, Nat.reduceMul, Nat.reduceMod, Nat.reduceBEq, Nat.reduceBNe, List.reduceReplicate, Int.reduceLE, Int.reduceLT, Int.reduceNe]
      refine call_pure (l02Above_spec (mTo (cel p k) (cel p k).length)) (fits_of rfl) (by decide) rfl (by simp [idsV, idsVs]) ?_; simp only [push_cast, Nat.reduceLT, Nat.reduceLeDiff, Nat.reduceEqDiff, reduceIte, reduceCtorEq, Nat.reduceAdd, Nat.reduceMul, Nat.reduceMod, Nat.reduceBEq, Nat.reduceBNe, List.reduceReplicate, Int.reduceLE, Int.reduceLT, Int.reduceNe]
      apply hK19; clear hK19
      refine aw_cond rfl (fun hm => ?_) (fun hm => ?_)
      · have hno : relaxS r c s p b = none := by
          unfold relaxS
          rw [if_neg]
          intro h
          rcases h.1 k hlt with h | h
          · rw [h] at hwf; exact absurd hwf (by simp)
          · have hm2 : (fin (mas (cel p k)) && gt0 (mas (cel p k))) = false := by
              cases hx : (fin (mas (cel p k)) && gt0 (mas (cel p k)))
              · rfl
              · exact absurd hm (by rw [show (fin (mTo (cel p k) (cel p k).length) && gt0 (mTo (cel p k) (cel p k).length)) = true from hx]; simp)
            rw [hm2] at h; exact absurd h (by simp)
        rw [hno]
        refine aw_seq_k fun K20 hK20 => aw_region okG0 ?_; simp only [push_cast, Nat.reduceLT, Nat.reduceLeDiff, Nat.reduceEqDiff, reduceIte, reduceCtorEq, Nat.reduceAdd, Nat.reduceMul, Nat.reduceMod, Nat.reduceBEq, Nat.reduceBNe, List.reduceReplicate, Int.reduceLE, Int.reduceLT, Int.reduceNe]
        apply hK20; clear hK20
        exact aw_ret (ret_p rfl rfl rfl (by simp))
      · have okS : okToS p b (k + 1) := fun j hj => by
          by_cases hjk : j < k
          · exact hok j hjk
          · have : j = k := by omega
            subst this
            refine .inr ?_
            cases hx : (fin (mas (cel p j)) && gt0 (mas (cel p j)))
            · exact absurd hm (by rw [show (fin (mTo (cel p j) (cel p j).length) && gt0 (mTo (cel p j) (cel p j).length)) = false from hx]; simp)
            · rfl
        refine aw_skip ?_
        simp only [push_cast, Nat.reduceLT, Nat.reduceLeDiff, Nat.reduceEqDiff, reduceIte, reduceCtorEq, Nat.reduceAdd, Nat.reduceMul, Nat.reduceMod, Nat.reduceBEq, Nat.reduceBNe, List.reduceReplicate, Int.reduceLE, Int.reduceLT, Int.reduceNe]
        apply hK18; clear hK18
        refine aw_seq_k fun K21 hK21 => aw_region okG0 ?_; simp only [push_cast, Nat.reduceLT, Nat.reduceLeDiff, Nat.reduceEqDiff, reduceIte, reduceCtorEq, Nat.reduceAdd, Nat.reduceMul, Nat.reduceMod, Nat.reduceBEq, Nat.reduceBNe, List.reduceReplicate, Int.reduceLE, Int.reduceLT, Int.reduceNe]
        refine call_pure (l06Calm_spec (mas (cel p k)) (spd pd (cel p k)) (spd pr (cel p k))) (fits_of rfl) (by decide) rfl (by simp [idsV, idsVs]) ?_; simp only [push_cast, Nat.reduceLT, Nat.reduceLeDiff, Nat.reduceEqDiff, reduceIte, reduceCtorEq, Nat.reduceAdd, Nat.reduceMul, Nat.reduceMod, Nat.reduceBEq, Nat.reduceBNe, List.reduceReplicate, Int.reduceLE, Int.reduceLT, Int.reduceNe]
        apply hK21; clear hK21
        refine aw_seq_k fun K22 hK22 => aw_region okG0 ?_; simp only [push_cast, Nat.reduceLT, Nat.reduceLeDiff, Nat.reduceEqDiff, reduceIte, reduceCtorEq, Nat.reduceAdd, Nat.reduceMul, Nat.reduceMod, Nat.reduceBEq, Nat.reduceBNe, List.reduceReplicate, Int.reduceLE, Int.reduceLT, Int.reduceNe]
        apply hK22; clear hK22
        refine aw_block ?_
        refine aw_loop (fun q : {q : Nat // q ≤ 9} => ⟨[(0, .rptr [I r, I c, Fs p, Bs b]), (1, F s), (4, .ptr 499 0), (6, .ptr 699 0), (7, I k), (8, Fs (cel p k)), (14, Ff 7300 ((List.range 9).map (clm (mas (cel p k)) (spd pd (cel p k)) (spd pr (cel p k))))), (15, I q.1)], [(699, [I r, I c, Ff 1700 (rAt s p b (9 * k + q.1)), Bf 1701 b]), (499, [I 0, I 0, .nilsl, .nilsl])], [7300, 699, 1700, 1701, 499]⟩) (fun q => 9 - q.1) ⟨0, Nat.zero_le _⟩ (sub_to (by simp [allE, getE] <;> (repeat' apply And.intro) <;> rfl) (by simp [allB, getB] <;> rfl) rfl rfl rfl) ?_
        rintro ⟨q, hq⟩
        refine aw_seq_k fun K23 hK23 => ?_
        refine aw_seq_k fun K24 hK24 => aw_region okG0 ?_; simp only [push_cast, Nat.reduceLT, Nat.reduceLeDiff, Nat.reduceEqDiff, reduceIte, reduceCtorEq, Nat.reduceAdd, Nat.reduceMul, Nat.reduceMod, Nat.reduceBEq, Nat.reduceBNe, List.reduceReplicate, Int.reduceLE, Int.reduceLT, Int.reduceNe]
        apply hK24; clear hK24
        refine aw_cond rfl (fun hc => ?_) (fun hc => ?_)
        · have hlt : q < 9 := by have : (q : Int) < 9 := by simpa using hc
                                 omega
          have hlen := rAt_len (s := s) (p := p) (b := b) (n := 9 * k + q) (by omega)
          have e1 : rcq s (b.getD k false) (cel p k) q = rel1 s (cel p k) q := by rw [hwf]; rfl
          have h9 : IntKind.i64.wrap (9 * (k : Int)) = ((9 * k : Nat) : Int) := by rw [w64 (by omega) (by omega)]; omega
          have h9q : IntKind.i64.wrap (((9 * k : Nat) : Int) + (q : Int)) = ((9 * k + q : Nat) : Int) := by rw [w64 (by omega) (by omega)]; omega
          have hcq : ((List.range 9).map (clm (mas (cel p k)) (spd pd (cel p k)) (spd pr (cel p k)))).getD q 0 = clm (mas (cel p k)) (spd pd (cel p k)) (spd pr (cel p k)) q := by simp [List.getD, hlt]
          refine aw_skip ?_
          simp only [push_cast, Nat.reduceLT, Nat.reduceLeDiff, Nat.reduceEqDiff, reduceIte, reduceCtorEq, Nat.reduceAdd, Nat.reduceMul, Nat.reduceMod, Nat.reduceBEq, Nat.reduceBNe, List.reduceReplicate, Int.reduceLE, Int.reduceLT, Int.reduceNe]
          apply hK23; clear hK23
          refine aw_seq_k fun K25 hK25 => ?_
          refine aw_block ?_
          refine aw_draw fol okG0 22 (by kernel_rfl) ?_
          simp only [push_cast, Nat.reduceLT, Nat.reduceLeDiff, Nat.reduceEqDiff, reduceIte, reduceCtorEq, Nat.reduceAdd, Nat.reduceMul, Nat.reduceMod, Nat.reduceBEq, Nat.reduceBNe, List.reduceReplicate, Int.reduceLE, Int.reduceLT, Int.reduceNe]
          rw [h9, h9q]
          refine ⟨⟨by omega, by omega⟩, ⟨by omega, by simp; omega⟩, by simp; omega, ⟨by omega, by omega⟩, ?_⟩
          simp only [Int.toNat_natCast]
          refine ⟨⟨by omega, by omega⟩, by omega, ?_⟩
          rw [hcq, show flB .add .f32 ((cel p k).getD q 0) (flB .mul .f32 s (flB .sub .f32 (clm (mas (cel p k)) (spd pd (cel p k)) (spd pr (cel p k)) q) ((cel p k).getD q 0))) = rel1 s (cel p k) q from rfl, ← e1, rAt_set s p b k q hlt (by omega)]
          apply hK25; clear hK25
          refine aw_region okG0 ?_
          simp only [push_cast, Nat.reduceLT, Nat.reduceLeDiff, Nat.reduceEqDiff, reduceIte, reduceCtorEq, Nat.reduceAdd, Nat.reduceMul, Nat.reduceMod, Nat.reduceBEq, Nat.reduceBNe, List.reduceReplicate, Int.reduceLE, Int.reduceLT, Int.reduceNe]
          refine ⟨⟨q + 1, by omega⟩, ?_, by show 9 - (q + 1) < 9 - q; omega⟩
          rw [w64 (n := (q : Int) + 1) (by omega) (by omega)]
          exact sub_to (by simp [allE, getE] <;> (repeat' apply And.intro) <;> rfl) (by simp [allB, getB] <;> rfl) rfl rfl rfl
        · have hlt : q = 9 := by have : ¬ (q : Int) < 9 := by simpa using hc
                                 omega
          subst hlt
          refine aw_exit ?_
          simp only [push_cast, Nat.reduceLT, Nat.reduceLeDiff, Nat.reduceEqDiff, reduceIte, reduceCtorEq, Nat.reduceAdd, Nat.reduceMul, Nat.reduceMod, Nat.reduceBEq, Nat.reduceBNe, List.reduceReplicate, Int.reduceLE, Int.reduceLT, Int.reduceNe]
          apply hK7; clear hK7
          refine aw_region okG0 ?_
          simp only [push_cast, Nat.reduceLT, Nat.reduceLeDiff, Nat.reduceEqDiff, reduceIte, reduceCtorEq, Nat.reduceAdd, Nat.reduceMul, Nat.reduceMod, Nat.reduceBEq, Nat.reduceBNe, List.reduceReplicate, Int.reduceLE, Int.reduceLT, Int.reduceNe]
          refine ⟨⟨k + 1, by omega, okS⟩, ?_, by show b.length - (k + 1) < b.length - k; omega⟩
          rw [w64 (n := (k : Int) + 1) (by omega) (by omega)]
          exact sub_to (by simp [allE, getE] <;> (repeat' apply And.intro) <;> rfl) (by simp [allB, getB] <;> rfl) rfl rfl rfl
  · have hlt : k = b.length := by have : ¬ (k : Int) < b.length := by simpa using hc
                                  omega
    subst hlt
    rw [rAt_all s p b (9 * b.length) hp]
    refine aw_exit ?_
    simp only [push_cast, Nat.reduceLT, Nat.reduceLeDiff, Nat.reduceEqDiff, reduceIte, reduceCtorEq, Nat.reduceAdd, Nat.reduceMul, Nat.reduceMod, Nat.reduceBEq, Nat.reduceBNe, List.reduceReplicate, Int.reduceLE, Int.reduceLT, Int.reduceNe]
    apply hK3; clear hK3
    cases hv : vf r c (rTo s p b (9 * b.length)) b with
    | false =>
      have hno : relaxS r c s p b = none := by
        unfold relaxS
        rw [if_neg]
        intro h
        rw [h.2] at hv; exact absurd hv (by simp)
      refine aw_seq_k fun K26 hK26 => aw_region okG0 ?_; simp only [push_cast, Nat.reduceLT, Nat.reduceLeDiff, Nat.reduceEqDiff, reduceIte, reduceCtorEq, Nat.reduceAdd, Nat.reduceMul, Nat.reduceMod, Nat.reduceBEq, Nat.reduceBNe, List.reduceReplicate, Int.reduceLE, Int.reduceLT, Int.reduceNe]
      refine call_io false [(1700, 98), (1701, 198)] (giveFlow_no r c (rTo s p b (9 * b.length)) b (by rw [rTo_len]; omega) hv) rfl (fits_of rfl) (by decide) (by decide) rfl (by simp [ioOK, getB, back, borVs, borV, kee, inSnd, fitsVs, fitsV]) rfl (by simp [newIds, idsV, idsVs, inSnd, dstN]) (by rfl) (by rfl) rfl (.inl rfl) ?_; simp only [push_cast, Nat.reduceLT, Nat.reduceLeDiff, Nat.reduceEqDiff, reduceIte, reduceCtorEq, Nat.reduceAdd, Nat.reduceMul, Nat.reduceMod, Nat.reduceBEq, Nat.reduceBNe, List.reduceReplicate, Int.reduceLE, Int.reduceLT, Int.reduceNe]
      apply hK26; clear hK26
      rw [hno]
      exact aw_ret (ret_p rfl rfl rfl (by simp))
    | true =>
      have hyes : relaxS r c s p b = some (rTo s p b (9 * b.length)) := by
        unfold relaxS
        rw [if_pos ⟨hok, hv⟩]
      refine aw_seq_k fun K26 hK26 => aw_region okG0 ?_; simp only [push_cast, Nat.reduceLT, Nat.reduceLeDiff, Nat.reduceEqDiff, reduceIte, reduceCtorEq, Nat.reduceAdd, Nat.reduceMul, Nat.reduceMod, Nat.reduceBEq, Nat.reduceBNe, List.reduceReplicate, Int.reduceLE, Int.reduceLT, Int.reduceNe]
      refine call_io false [(1700, 98), (1701, 198)] (giveFlow_spec r c (rTo s p b (9 * b.length)) b (by rw [rTo_len]; omega) hv) rfl (fits_of rfl) (by decide) (by decide) rfl (by simp [ioOK, getB, back, borVs, borV, kee, inSnd, fitsVs, fitsV]) rfl (by simp [newIds, idsV, idsVs, inSnd, dstN]) (by rfl) (by rfl) rfl (.inl rfl) ?_; simp only [push_cast, Nat.reduceLT, Nat.reduceLeDiff, Nat.reduceEqDiff, reduceIte, reduceCtorEq, Nat.reduceAdd, Nat.reduceMul, Nat.reduceMod, Nat.reduceBEq, Nat.reduceBNe, List.reduceReplicate, Int.reduceLE, Int.reduceLT, Int.reduceNe]
      apply hK26; clear hK26
      rw [hyes]
      exact aw_ret (ret_o [(1700, 0), (1701, 1)] rfl rfl (by simp [renN]) rfl)
end Go.Proofs.Avx

set_option linter.unusedVariables false
set_option linter.unusedSimpArgs false
namespace Go.Proofs.Avx
/-! ### A mass that is no finite number spoils its cell -/
abbrev dc (x : Nat) : Ieee.Datum := FloatKind.f32.decode x
abbrev INF : Nat := 2139095040
abbrev NINF : Nat := 4286578688
theorem flB_some {op : BinOp} {a b r : Nat} (h : floatBits op .f32 a b = some r) : flB op .f32 a b = canon .f32 r := by rw [flB_eq, h]
theorem flB_none {op : BinOp} {a b : Nat} (h : floatBits op .f32 a b = none) : flB op .f32 a b = flN .f32 := by rw [flB_eq, h]
theorem w_inf (t : Bool) : FloatKind.f32.format.write (.infinity t) = if t then NINF else INF := by cases t <;> rfl
theorem c_inf : canon .f32 INF = INF := by rfl
theorem c_ninf : canon .f32 NINF = NINF := by rfl
theorem c_zero : canon .f32 0 = 0 := by rfl
theorem c_nzero : canon .f32 2147483648 = 2147483648 := by rfl
theorem d_inf : dc INF = .infinity false := by rfl
theorem d_ninf : dc NINF = .infinity true := by rfl
theorem d_nan : ∃ s t, dc (flN .f32) = .nan s t := ⟨_, _, rfl⟩
theorem nan_l {op : BinOp} {b : Nat} : flB op .f32 (flN .f32) b = flN .f32 := flB_none (fb_nan_l (dec_flN .f32))
theorem nan_r {op : BinOp} {a : Nat} : flB op .f32 a (flN .f32) = flN .f32 := flB_none (fb_nan_r (dec_flN .f32))
theorem zero_num : flO .f32 (canon .f32 0) (canon .f32 0) = some .eq := by rw [c_zero]; exact flO_num (by rfl)
theorem fin_of {x : Nat} {s : Bool} {m : Nat} {e : Int} (h : dc x = .number s m e) : fin x = true := by
  have hb : floatBits .sub .f32 x x = some (FloatKind.f32.format.write (.number false 0 e)) := by
    have h' : FloatKind.f32.format.read x = .number s m e := h
    simp only [floatBits, Ieee.Format.sub, h', Ieee.Datum.opposite, Ieee.Datum.sum, Int.min_self, Int.sub_self, Int.toNat_zero, Option.map_some]
    cases s <;> simp [Ieee.signed, Int.add_right_neg, Int.add_left_neg]
  unfold fin
  rw [flB_some hb]
  have : FloatKind.f32.format.write (.number false 0 e) = 0 := by
    show FloatKind.f32.format.nearest false 0 e = 0
    unfold Ieee.Format.nearest
    rw [if_pos rfl]; rfl
  rw [this, zero_num]
  rfl
theorem fin_nan : fin (flN .f32) = false := by
  unfold fin
  rw [nan_l, flO_eq, or_nan_l (dec_flN .f32)]
  rfl
theorem fin_inf {x : Nat} {s : Bool} (h : dc x = .infinity s) : fin x = false := by
  have hb : floatBits .sub .f32 x x = none := by
    have h' : FloatKind.f32.format.read x = .infinity s := h
    simp only [floatBits, Ieee.Format.sub, h', Ieee.Datum.opposite, Ieee.Datum.sum]
    cases s <;> rfl
  unfold fin
  rw [flB_none hb, flO_eq, or_nan_l (dec_flN .f32)]
  rfl
theorem num_of {x : Nat} (h : fin x = true) : ∃ s m e, dc x = .number s m e := by
  cases hd : dc x with
  | number s m e => exact ⟨s, m, e, rfl⟩
  | infinity s => rw [fin_inf hd] at h; cases h
  | nan s t =>
    have hn : (FloatKind.f32.decode x).isNaN = true := by rw [show FloatKind.f32.decode x = _ from hd]; rfl
    unfold fin at h
    rw [flB_none (fb_nan_l hn), flO_eq, or_nan_l (dec_flN .f32)] at h
    cases h
theorem inf_of {m : Nat} (h1 : fin m = false) (h2 : gt0 m = true) : dc m = .infinity false := by
  cases hd : dc m with
  | number s n e => rw [fin_of hd] at h1; cases h1
  | infinity s =>
    cases s with
    | false => rfl
    | true =>
      unfold gt0 at h2
      rw [c_zero, flO_eq] at h2
      have h' : FloatKind.f32.format.read m = .infinity true := hd
      have h0 : FloatKind.f32.format.read 0 = .number false 0 FloatKind.f32.format.leastPlace := by rfl
      simp [Ieee.Format.order, h', h0, Ieee.Datum.order] at h2
  | nan s t =>
    have hn : (FloatKind.f32.decode m).isNaN = true := by rw [show FloatKind.f32.decode m = _ from hd]; rfl
    unfold gt0 at h2
    rw [flO_eq, or_nan_l hn] at h2
    cases h2
/-- Three values that are no numbers. -/
def bad (x : Nat) : Prop := x = flN .f32 ∨ x = INF ∨ x = NINF
theorem bad_fin {x : Nat} (h : bad x) : fin x = false := by
  rcases h with rfl | rfl | rfl
  · exact fin_nan
  · exact fin_inf d_inf
  · exact fin_inf d_ninf
theorem bad_inf (t : Bool) : bad (canon .f32 (FloatKind.f32.format.write (.infinity t))) := by
  rw [w_inf]
  cases t
  · right; left; exact c_inf
  · right; right; exact c_ninf
theorem add_bad {x y : Nat} (hx : fin x = true) (hy : bad y) : bad (flB .add .f32 x y) := by
  obtain ⟨s, m, e, hd⟩ := num_of hx
  have h' : FloatKind.f32.format.read x = .number s m e := hd
  have key : ∀ t, dc y = .infinity t → bad (flB .add .f32 x y) := fun t ht => by
    have h2 : FloatKind.f32.format.read y = .infinity t := ht
    have hb : floatBits .add .f32 x y = some (FloatKind.f32.format.write (.infinity t)) := by simp [floatBits, Ieee.Format.add, h', h2, Ieee.Datum.sum]
    rw [flB_some hb]; exact bad_inf t
  rcases hy with rfl | rfl | rfl
  · rw [nan_r]; exact .inl rfl
  · exact key _ d_inf
  · exact key _ d_ninf
theorem mul_bad {x y : Nat} (hx : fin x = true) (hy : bad y) : bad (flB .mul .f32 x y) := by
  obtain ⟨s, m, e, hd⟩ := num_of hx
  have h' : FloatKind.f32.format.read x = .number s m e := hd
  have key : ∀ t, dc y = .infinity t → bad (flB .mul .f32 x y) := fun t ht => by
    have h2 : FloatKind.f32.format.read y = .infinity t := ht
    by_cases hm : m = 0
    · have hb : floatBits .mul .f32 x y = none := by simp [floatBits, Ieee.Format.mul, h', h2, Ieee.Datum.product, hm]
      rw [flB_none hb]; exact .inl rfl
    · have hb : floatBits .mul .f32 x y = some (FloatKind.f32.format.write (.infinity (t ^^ s))) := by simp [floatBits, Ieee.Format.mul, h', h2, Ieee.Datum.product, hm]
      rw [flB_some hb]; exact bad_inf _
  rcases hy with rfl | rfl | rfl
  · rw [nan_r]; exact .inl rfl
  · exact key _ d_inf
  · exact key _ d_ninf
theorem sub_bad {x y : Nat} (hx : fin x = true) (hy : bad y) : bad (flB .sub .f32 y x) := by
  obtain ⟨s, m, e, hd⟩ := num_of hx
  have h' : FloatKind.f32.format.read x = .number s m e := hd
  have key : ∀ t, dc y = .infinity t → bad (flB .sub .f32 y x) := fun t ht => by
    have h2 : FloatKind.f32.format.read y = .infinity t := ht
    have hb : floatBits .sub .f32 y x = some (FloatKind.f32.format.write (.infinity t)) := by simp [floatBits, Ieee.Format.sub, h', h2, Ieee.Datum.sum, Ieee.Datum.opposite]
    rw [flB_some hb]; exact bad_inf t
  rcases hy with rfl | rfl | rfl
  · rw [nan_l]; exact .inl rfl
  · exact key _ d_inf
  · exact key _ d_ninf
/-- Naughts, and no number. -/
def nau (x : Nat) : Prop := x = 0 ∨ x = 2147483648 ∨ x = flN .f32
theorem quo_nau {m : Nat} (hm : dc m = .infinity false) (u : Nat) : nau (flB .quo .f32 u m) := by
  have h2 : FloatKind.f32.format.read m = .infinity false := hm
  cases hd : FloatKind.f32.format.read u with
  | nan s t =>
    have hb : floatBits .quo .f32 u m = none := by simp [floatBits, Ieee.Format.div, hd, Ieee.Datum.quotient]
    rw [flB_none hb]; exact .inr (.inr rfl)
  | infinity s =>
    have hb : floatBits .quo .f32 u m = none := by simp [floatBits, Ieee.Format.div, hd, h2, Ieee.Datum.quotient]
    rw [flB_none hb]; exact .inr (.inr rfl)
  | number s n e =>
    have hb : floatBits .quo .f32 u m = some (FloatKind.f32.format.write (.number s 0 0)) := by simp [floatBits, Ieee.Format.div, hd, h2, Ieee.Datum.quotient]
    rw [flB_some hb]
    cases s
    · left; rfl
    · right; left; rfl
theorem fi_zero : fi 0 = 0 := by kernel_rfl
theorem xx_nau {u v : Nat} (hu : nau u) (hv : nau v) : xx u v 0 = 1065353216 ∨ xx u v 0 = flN .f32 := by
  rcases hu with rfl | rfl | rfl <;> rcases hv with rfl | rfl | rfl
  · left; kernel_rfl
  · left; kernel_rfl
  · right; kernel_rfl
  · left; kernel_rfl
  · left; kernel_rfl
  · right; kernel_rfl
  · right; kernel_rfl
  · right; kernel_rfl
  · right; kernel_rfl
theorem wt_inf {m : Nat} (hm : dc m = .infinity false) : flB .mul .f32 (wt 0) m = INF := by
  have h2 : FloatKind.f32.format.read m = .infinity false := hm
  have hw : wt 0 = 1055100473 := by kernel_rfl
  have h' : FloatKind.f32.format.read 1055100473 = .number false 14913081 (-25) := by kernel_rfl
  have hb : floatBits .mul .f32 1055100473 m = some (FloatKind.f32.format.write (.infinity false)) := by simp [floatBits, Ieee.Format.mul, h', h2, Ieee.Datum.product]
  rw [hw, flB_some hb, w_inf]; exact c_inf
theorem clm_bad {m u v : Nat} (hm : dc m = .infinity false) (hu : nau u) (hv : nau v) : bad (clm m u v 0) := by
  unfold clm
  rw [wt_inf hm]
  rcases xx_nau hu hv with h | h <;> rw [h]
  · right; left; kernel_rfl
  · rw [nan_r]; left; rfl
theorem rel1_bad {s : Nat} {c : List Nat} (hs : fin s = true) (hc : fin (c.getD 0 0) = true) (hm : dc (mas c) = .infinity false) : fin (rel1 s c 0) = false :=
  bad_fin (add_bad hc (mul_bad hs (sub_bad hc (clm_bad hm (quo_nau hm _) (quo_nau hm _)))))
theorem two_fin {s : Nat} (h : two s = true) : fin s = true := by
  cases hd : dc s with
  | number t m e => exact fin_of hd
  | infinity t =>
    have h' : FloatKind.f32.format.read s = .infinity t := hd
    have h0 : FloatKind.f32.format.read 0 = .number false 0 FloatKind.f32.format.leastPlace := by rfl
    have h2 : FloatKind.f32.format.read 1073741824 = .number false 8388608 (-22) := by kernel_rfl
    have c2 : canon .f32 1073741824 = 1073741824 := by rfl
    unfold two at h
    rw [c_zero, c2, flO_eq, flO_eq] at h
    cases t <;> simp [Ieee.Format.order, h', h0, h2, Ieee.Datum.order] at h
  | nan t u =>
    have hn : (FloatKind.f32.decode s).isNaN = true := by rw [show FloatKind.f32.decode s = _ from hd]; rfl
    unfold two at h
    rw [flO_eq, or_nan_l hn] at h
    simp at h
theorem relax_same (r c : Int) (s : Nat) (p : List Nat) (b : List Bool) (hs : two s = true) (hp : p.length = 9 * b.length) (hf : p.all fin = true) : relaxS r c s p b = relaxF r c s p b := by
  unfold relaxS relaxF
  by_cases h : okTo p b b.length ∧ vf r c (rTo s p b (9 * b.length)) b = true
  · rw [if_pos h, if_pos]
    refine ⟨fun j hj => ?_, h.2⟩
    rcases h.1 j hj with hw | hg
    · exact .inl hw
    · cases hfm : fin (mas (cel p j)) with
      | true => right; rw [hg]; rfl
      | false =>
        cases hw : b.getD j false with
        | true => exact .inl rfl
        | false =>
          exfalso
          have hin := inf_of hfm hg
          have hall : (rTo s p b (9 * b.length)).all fin = true := by
            have := h.2
            unfold vf at this
            simp only [Bool.and_eq_true] at this
            exact this.2
          have hmem : rel1 s (cel p j) 0 ∈ rTo s p b (9 * b.length) := by
            unfold rTo
            refine List.mem_map.2 ⟨9 * j, List.mem_range.2 (by omega), ?_⟩
            unfold rPart
            rw [show 9 * j / 9 = j by omega, show 9 * j % 9 = 0 by omega, hw]
            rfl
          have h1 := List.all_eq_true.1 hall _ hmem
          have hc : fin ((cel p j).getD 0 0) = true := by
            have hlen := cel_len (p := p) (k := j) (by omega)
            have : (cel p j).getD 0 0 ∈ p := by
              have h3 : (cel p j).getD 0 0 = (cel p j)[0] := by simp [List.getD, hlen]
              rw [h3]
              have := List.getElem_mem (l := cel p j) (n := 0) (by omega)
              unfold cel at this
              exact List.mem_of_mem_take (List.mem_of_mem_drop this)
            exact List.all_eq_true.1 hf _ this
          rw [rel1_bad (two_fin hs) hc hin] at h1
          cases h1
  · rw [if_neg h, if_neg]
    intro h2
    apply h
    refine ⟨fun j hj => ?_, h2.2⟩
    rcases h2.1 j hj with hw | hg
    · exact .inl hw
    · exact .inr (by simp only [Bool.and_eq_true] at hg; exact hg.2)
end Go.Proofs.Avx

set_option linter.unusedVariables false
set_option linter.unusedSimpArgs false
namespace Go.Proofs.Avx
attribute [local irreducible] canon flB flO flW floatOfInt
/-! ### Marks -/
def mkF (k0 n : Nat) : List Nat := (List.range n).map fun j : Nat => fi ((k0 : Int) + (j : Int))
def mkB (k0 n : Nat) : List Bool := (List.range n).map fun j : Nat => ((k0 : Int) + (j : Int)).tmod 3 == 0
theorem mkF_len (k0 n : Nat) : (mkF k0 n).length = n := by simp [mkF]
theorem mkB_len (k0 n : Nat) : (mkB k0 n).length = n := by simp [mkB]
theorem mkF_at {k0 n i : Nat} (h : i < n) : (mkF k0 n).getD i 0 = fi ((k0 : Int) + (i : Int)) := by simp [mkF, List.getD, h]
theorem mkB_at {k0 n i : Nat} (h : i < n) : (mkB k0 n).getD i false = (((k0 : Int) + (i : Int)).tmod 3 == 0) := by simp [mkB, List.getD, h]
def mdF (l : List Nat) (k0 i : Nat) : List Nat := mkF k0 i ++ l.drop i
def mdB (l : List Bool) (k0 i : Nat) : List Bool := mkB k0 i ++ l.drop i
theorem mdF_len {l : List Nat} {k0 i : Nat} (h : i ≤ l.length) : (mdF l k0 i).length = l.length := by simp [mdF, mkF_len]; omega
theorem mdB_len {l : List Bool} {k0 i : Nat} (h : i ≤ l.length) : (mdB l k0 i).length = l.length := by simp [mdB, mkB_len]; omega
theorem mdF_set {l : List Nat} {k0 i : Nat} (h : i < l.length) : (mdF l k0 i).set i (fi ((k0 : Int) + (i : Int))) = mdF l k0 (i + 1) := by
  unfold mdF
  rw [List.set_append, if_neg (by rw [mkF_len]; omega), mkF_len, Nat.sub_self, List.drop_eq_getElem_cons h, List.set_cons_zero]
  simp [mkF, List.range_succ]
theorem mdB_set {l : List Bool} {k0 i : Nat} (h : i < l.length) : (mdB l k0 i).set i (((k0 : Int) + (i : Int)).tmod 3 == 0) = mdB l k0 (i + 1) := by
  unfold mdB
  rw [List.set_append, if_neg (by rw [mkB_len]; omega), mkB_len, Nat.sub_self, List.drop_eq_getElem_cons h, List.set_cons_zero]
  simp [mkB, List.range_succ]
theorem markF_spec (l : List Nat) (k0 : Nat) (hk0 : k0 ≤ 1000000000) (hl : l.length ≤ 1000000000) : AF Try.prog 96 [Ff 98 l, I k0] [98] [] (I ((k0 + l.length : Nat) : Int)) [] [Ff 98 (mkF k0 l.length)] := by
  refine AF_body okG0 Try.func96 rfl rfl (by simp [Try.ntmps96]) (by simp) ?_; simp only [Try.ntmps96]
  refine aw_seq_k fun K1 hK1 => aw_region okG0 ?_; simp only [push_cast, Nat.reduceLT, Nat.reduceLeDiff, Nat.reduceEqDiff, reduceIte, reduceCtorEq, Nat.reduceAdd, Nat.reduceMul, Nat.reduceMod, Nat.reduceBEq, Nat.reduceBNe, List.reduceReplicate, Int.reduceLE, Int.reduceLT, Int.reduceNe]
  apply hK1; clear hK1
  refine aw_seq_k fun K2 hK2 => ?_
  refine aw_seq_k fun K3 hK3 => aw_region okG0 ?_; simp only [push_cast, Nat.reduceLT, Nat.reduceLeDiff, Nat.reduceEqDiff, reduceIte, reduceCtorEq, Nat.reduceAdd, Nat.reduceMul, Nat.reduceMod, Nat.reduceBEq, Nat.reduceBNe, List.reduceReplicate, Int.reduceLE, Int.reduceLT, Int.reduceNe]
  apply hK3; clear hK3
  refine aw_block ?_
  refine aw_loop (fun k : {k : Nat // k ≤ l.length} => ⟨[(0, Ff 98 (mdF l k0 k.1)), (1, I ((k0 + k.1 : Nat) : Int)), (5, I k.1)], [], [98]⟩) (fun k => l.length - k.1) ⟨0, Nat.zero_le _⟩ (sub_to (by simp [allE, getE] <;> (repeat' apply And.intro) <;> rfl) (by simp [allB, getB] <;> rfl) rfl rfl rfl) ?_
  rintro ⟨k, hk⟩
  have hlen := mdF_len (k0 := k0) hk
  refine aw_seq_k fun K4 hK4 => ?_
  refine aw_seq_k fun K5 hK5 => aw_region okG0 ?_; simp only [push_cast, Nat.reduceLT, Nat.reduceLeDiff, Nat.reduceEqDiff, reduceIte, reduceCtorEq, Nat.reduceAdd, Nat.reduceMul, Nat.reduceMod, Nat.reduceBEq, Nat.reduceBNe, List.reduceReplicate, Int.reduceLE, Int.reduceLT, Int.reduceNe]
  apply hK5; clear hK5
  refine aw_cond rfl (fun hc => ?_) (fun hc => ?_)
  · have hlt : k < l.length := by rw [hlen] at hc; simpa using hc
    refine aw_skip ?_
    simp only [push_cast, Nat.reduceLT, Nat.reduceLeDiff, Nat.reduceEqDiff, reduceIte, reduceCtorEq, Nat.reduceAdd, Nat.reduceMul, Nat.reduceMod, Nat.reduceBEq, Nat.reduceBNe, List.reduceReplicate, Int.reduceLE, Int.reduceLT, Int.reduceNe]
    apply hK4; clear hK4
    refine aw_seq_k fun K6 hK6 => ?_
    refine aw_block ?_
    refine aw_seq_k fun K7 hK7 => aw_region okG0 ?_; simp only [push_cast, Nat.reduceLT, Nat.reduceLeDiff, Nat.reduceEqDiff, reduceIte, reduceCtorEq, Nat.reduceAdd, Nat.reduceMul, Nat.reduceMod, Nat.reduceBEq, Nat.reduceBNe, List.reduceReplicate, Int.reduceLE, Int.reduceLT, Int.reduceNe]
    refine ⟨⟨by omega, by omega⟩, by omega, ?_⟩
    rw [show canon .f32 (floatOfInt .f32 ((k0 : Int) + (k : Int))) = fi ((k0 : Int) + (k : Int)) from rfl, mdF_set hlt]
    apply hK7; clear hK7
    refine aw_region okG0 ?_
    simp only [push_cast, Nat.reduceLT, Nat.reduceLeDiff, Nat.reduceEqDiff, reduceIte, reduceCtorEq, Nat.reduceAdd, Nat.reduceMul, Nat.reduceMod, Nat.reduceBEq, Nat.reduceBNe, List.reduceReplicate, Int.reduceLE, Int.reduceLT, Int.reduceNe]
    apply hK6; clear hK6
    refine aw_region okG0 ?_
    simp only [push_cast, Nat.reduceLT, Nat.reduceLeDiff, Nat.reduceEqDiff, reduceIte, reduceCtorEq, Nat.reduceAdd, Nat.reduceMul, Nat.reduceMod, Nat.reduceBEq, Nat.reduceBNe, List.reduceReplicate, Int.reduceLE, Int.reduceLT, Int.reduceNe]
    refine ⟨⟨k + 1, by omega⟩, ?_, by show l.length - (k + 1) < l.length - k; omega⟩
    rw [w64 (n := (k : Int) + 1) (by omega) (by omega), w64 (n := (k0 : Int) + k + 1) (by omega) (by omega), show (k0 : Int) + k + 1 = ((k0 + (k + 1) : Nat) : Int) by omega]
    exact sub_to (by simp [allE, getE] <;> (repeat' apply And.intro) <;> rfl) (by simp [allB, getB] <;> rfl) rfl rfl rfl
  · have hlt : k = l.length := by rw [hlen] at hc
                                  have : ¬ (k : Int) < l.length := by simpa using hc
                                  omega
    subst hlt
    refine aw_exit ?_
    simp only [push_cast, Nat.reduceLT, Nat.reduceLeDiff, Nat.reduceEqDiff, reduceIte, reduceCtorEq, Nat.reduceAdd, Nat.reduceMul, Nat.reduceMod, Nat.reduceBEq, Nat.reduceBNe, List.reduceReplicate, Int.reduceLE, Int.reduceLT, Int.reduceNe]
    apply hK2; clear hK2
    refine aw_seq_k fun K8 hK8 => aw_region okG0 ?_; simp only [push_cast, Nat.reduceLT, Nat.reduceLeDiff, Nat.reduceEqDiff, reduceIte, reduceCtorEq, Nat.reduceAdd, Nat.reduceMul, Nat.reduceMod, Nat.reduceBEq, Nat.reduceBNe, List.reduceReplicate, Int.reduceLE, Int.reduceLT, Int.reduceNe]
    apply hK8; clear hK8
    rw [show mdF l k0 l.length = mkF k0 l.length by simp [mdF]]
    refine aw_ret ?_
    refine ret_io [] [(0, Ff 98 (mkF k0 l.length))] rfl ?_ (by simp [renN]) rfl ?_ (by simp [rsEnd, getE, renV, renN]) rfl (by simp [renN]) <;> (try simp only [push_cast, reduceIte, Nat.reduceEqDiff])
theorem markNilF_spec (k0 : Nat) : AFp Try.prog 96 [Fs [], I k0] (I k0) := by
  refine AF_body okG0 Try.func96 rfl rfl (by simp [Try.ntmps96]) (by simp) ?_; simp only [Try.ntmps96]
  refine aw_seq_k fun K1 hK1 => aw_region okG0 ?_; simp only [push_cast, Nat.reduceLT, Nat.reduceLeDiff, Nat.reduceEqDiff, reduceIte, reduceCtorEq, Nat.reduceAdd, Nat.reduceMul, Nat.reduceMod, Nat.reduceBEq, Nat.reduceBNe, List.reduceReplicate, Int.reduceLE, Int.reduceLT, Int.reduceNe]
  apply hK1; clear hK1
  refine aw_seq_k fun K2 hK2 => ?_
  refine aw_seq_k fun K3 hK3 => aw_region okG0 ?_; simp only [push_cast, Nat.reduceLT, Nat.reduceLeDiff, Nat.reduceEqDiff, reduceIte, reduceCtorEq, Nat.reduceAdd, Nat.reduceMul, Nat.reduceMod, Nat.reduceBEq, Nat.reduceBNe, List.reduceReplicate, Int.reduceLE, Int.reduceLT, Int.reduceNe]
  apply hK3; clear hK3
  refine aw_block ?_
  refine aw_loop (fun _ : Unit => ⟨[(0, Fs []), (1, I k0), (5, I 0)], [], []⟩) (fun _ => 0) () (sub_to (by simp [allE, getE] <;> (repeat' apply And.intro) <;> rfl) (by simp [allB, getB] <;> rfl) rfl rfl rfl) ?_
  rintro ⟨⟩
  refine aw_seq_k fun K4 hK4 => ?_
  refine aw_seq_k fun K5 hK5 => aw_region okG0 ?_; simp only [push_cast, Nat.reduceLT, Nat.reduceLeDiff, Nat.reduceEqDiff, reduceIte, reduceCtorEq, Nat.reduceAdd, Nat.reduceMul, Nat.reduceMod, Nat.reduceBEq, Nat.reduceBNe, List.reduceReplicate, Int.reduceLE, Int.reduceLT, Int.reduceNe]
  apply hK5; clear hK5
  refine aw_cond rfl (fun hc => ?_) (fun hc => ?_)
  · simp at hc
  · refine aw_exit ?_
    simp only [push_cast, Nat.reduceLT, Nat.reduceLeDiff, Nat.reduceEqDiff, reduceIte, reduceCtorEq, Nat.reduceAdd, Nat.reduceMul, Nat.reduceMod, Nat.reduceBEq, Nat.reduceBNe, List.reduceReplicate, Int.reduceLE, Int.reduceLT, Int.reduceNe]
    apply hK2; clear hK2
    refine aw_seq_k fun K8 hK8 => aw_region okG0 ?_; simp only [push_cast, Nat.reduceLT, Nat.reduceLeDiff, Nat.reduceEqDiff, reduceIte, reduceCtorEq, Nat.reduceAdd, Nat.reduceMul, Nat.reduceMod, Nat.reduceBEq, Nat.reduceBNe, List.reduceReplicate, Int.reduceLE, Int.reduceLT, Int.reduceNe]
    apply hK8; clear hK8
    exact aw_ret (ret_p rfl rfl rfl (by simp))
theorem heldF_spec (n k0 : Nat) (hk0 : k0 ≤ 1000000000) (hn : n ≤ 1000000000) : AFp Try.prog 97 [Fs (mkF k0 n), I k0] (I ((k0 + n : Nat) : Int)) := by
  have hlen := mkF_len k0 n
  refine AF_body okG0 Try.func97 rfl rfl (by simp [Try.ntmps97]) (by simp) ?_; simp only [Try.ntmps97]
  refine aw_seq_k fun K1 hK1 => aw_region okG0 ?_; simp only [push_cast, Nat.reduceLT, Nat.reduceLeDiff, Nat.reduceEqDiff, reduceIte, reduceCtorEq, Nat.reduceAdd, Nat.reduceMul, Nat.reduceMod, Nat.reduceBEq, Nat.reduceBNe, List.reduceReplicate, Int.reduceLE, Int.reduceLT, Int.reduceNe]
  apply hK1; clear hK1
  refine aw_seq_k fun K2 hK2 => ?_
  refine aw_seq_k fun K3 hK3 => aw_region okG0 ?_; simp only [push_cast, Nat.reduceLT, Nat.reduceLeDiff, Nat.reduceEqDiff, reduceIte, reduceCtorEq, Nat.reduceAdd, Nat.reduceMul, Nat.reduceMod, Nat.reduceBEq, Nat.reduceBNe, List.reduceReplicate, Int.reduceLE, Int.reduceLT, Int.reduceNe]
  apply hK3; clear hK3
  refine aw_block ?_
  refine aw_loop (fun k : {k : Nat // k ≤ n} => ⟨[(0, Fs (mkF k0 n)), (1, I ((k0 + k.1 : Nat) : Int)), (5, I k.1)], [], []⟩) (fun k => n - k.1) ⟨0, Nat.zero_le _⟩ (sub_to (by simp [allE, getE] <;> (repeat' apply And.intro) <;> rfl) (by simp [allB, getB] <;> rfl) rfl rfl rfl) ?_
  rintro ⟨k, hk⟩
  refine aw_seq_k fun K4 hK4 => ?_
  refine aw_seq_k fun K5 hK5 => aw_region okG0 ?_; simp only [push_cast, Nat.reduceLT, Nat.reduceLeDiff, Nat.reduceEqDiff, reduceIte, reduceCtorEq, Nat.reduceAdd, Nat.reduceMul, Nat.reduceMod, Nat.reduceBEq, Nat.reduceBNe, List.reduceReplicate, Int.reduceLE, Int.reduceLT, Int.reduceNe]
  apply hK5; clear hK5
  refine aw_cond rfl (fun hc => ?_) (fun hc => ?_)
  · have hlt : k < n := by rw [hlen] at hc; simpa using hc
    refine aw_skip ?_
    simp only [push_cast, Nat.reduceLT, Nat.reduceLeDiff, Nat.reduceEqDiff, reduceIte, reduceCtorEq, Nat.reduceAdd, Nat.reduceMul, Nat.reduceMod, Nat.reduceBEq, Nat.reduceBNe, List.reduceReplicate, Int.reduceLE, Int.reduceLT, Int.reduceNe]
    apply hK4; clear hK4
    refine aw_seq_k fun K6 hK6 => ?_
    refine aw_block ?_
    refine aw_seq_k fun K7 hK7 => ?_
    refine aw_seq_k fun K8 hK8 => aw_region okG0 ?_; simp only [push_cast, Nat.reduceLT, Nat.reduceLeDiff, Nat.reduceEqDiff, reduceIte, reduceCtorEq, Nat.reduceAdd, Nat.reduceMul, Nat.reduceMod, Nat.reduceBEq, Nat.reduceBNe, List.reduceReplicate, Int.reduceLE, Int.reduceLT, Int.reduceNe]
    refine ⟨⟨by omega, by omega⟩, ?_⟩
    rw [mkF_at hlt]
    apply hK8; clear hK8
    refine aw_cond rfl (fun hc => ?_) (fun hc => ?_)
    · have hs := fi_self ((k0 : Int) + (k : Int))
      simp [fi, hs] at hc
    · refine aw_skip ?_
      simp only [push_cast, Nat.reduceLT, Nat.reduceLeDiff, Nat.reduceEqDiff, reduceIte, reduceCtorEq, Nat.reduceAdd, Nat.reduceMul, Nat.reduceMod, Nat.reduceBEq, Nat.reduceBNe, List.reduceReplicate, Int.reduceLE, Int.reduceLT, Int.reduceNe]
      apply hK7; clear hK7
      refine aw_region okG0 ?_
      simp only [push_cast, Nat.reduceLT, Nat.reduceLeDiff, Nat.reduceEqDiff, reduceIte, reduceCtorEq, Nat.reduceAdd, Nat.reduceMul, Nat.reduceMod, Nat.reduceBEq, Nat.reduceBNe, List.reduceReplicate, Int.reduceLE, Int.reduceLT, Int.reduceNe]
      apply hK6; clear hK6
      refine aw_region okG0 ?_
      simp only [push_cast, Nat.reduceLT, Nat.reduceLeDiff, Nat.reduceEqDiff, reduceIte, reduceCtorEq, Nat.reduceAdd, Nat.reduceMul, Nat.reduceMod, Nat.reduceBEq, Nat.reduceBNe, List.reduceReplicate, Int.reduceLE, Int.reduceLT, Int.reduceNe]
      refine ⟨⟨k + 1, by omega⟩, ?_, by show n - (k + 1) < n - k; omega⟩
      rw [w64 (n := (k : Int) + 1) (by omega) (by omega), w64 (n := (k0 : Int) + k + 1) (by omega) (by omega), show (k0 : Int) + k + 1 = ((k0 + (k + 1) : Nat) : Int) by omega]
      exact sub_to (by simp [allE, getE] <;> (repeat' apply And.intro) <;> rfl) (by simp [allB, getB] <;> rfl) rfl rfl rfl
  · have hlt : k = n := by rw [hlen] at hc
                           have : ¬ (k : Int) < n := by simpa using hc
                           omega
    subst hlt
    refine aw_exit ?_
    simp only [push_cast, Nat.reduceLT, Nat.reduceLeDiff, Nat.reduceEqDiff, reduceIte, reduceCtorEq, Nat.reduceAdd, Nat.reduceMul, Nat.reduceMod, Nat.reduceBEq, Nat.reduceBNe, List.reduceReplicate, Int.reduceLE, Int.reduceLT, Int.reduceNe]
    apply hK2; clear hK2
    refine aw_seq_k fun K10 hK10 => aw_region okG0 ?_; simp only [push_cast, Nat.reduceLT, Nat.reduceLeDiff, Nat.reduceEqDiff, reduceIte, reduceCtorEq, Nat.reduceAdd, Nat.reduceMul, Nat.reduceMod, Nat.reduceBEq, Nat.reduceBNe, List.reduceReplicate, Int.reduceLE, Int.reduceLT, Int.reduceNe]
    apply hK10; clear hK10
    exact aw_ret (ret_p rfl rfl rfl (by simp))
theorem markB_spec (l : List Bool) (k0 : Nat) (hk0 : k0 ≤ 1000000000) (hl : l.length ≤ 1000000000) : AF Try.prog 160 [Bf 98 l, I k0] [98] [] (I ((k0 + l.length : Nat) : Int)) [] [Bf 98 (mkB k0 l.length)] := by
  refine AF_body okG0 Try.func160 rfl rfl (by simp [Try.ntmps160]) (by simp) ?_; simp only [Try.ntmps160]
  refine aw_seq_k fun K1 hK1 => aw_region okG0 ?_; simp only [push_cast, Nat.reduceLT, Nat.reduceLeDiff, Nat.reduceEqDiff, reduceIte, reduceCtorEq, Nat.reduceAdd, Nat.reduceMul, Nat.reduceMod, Nat.reduceBEq, Nat.reduceBNe, List.reduceReplicate, Int.reduceLE, Int.reduceLT, Int.reduceNe]
  apply hK1; clear hK1
  refine aw_seq_k fun K2 hK2 => ?_
  refine aw_seq_k fun K3 hK3 => aw_region okG0 ?_; simp only [push_cast, Nat.reduceLT, Nat.reduceLeDiff, Nat.reduceEqDiff, reduceIte, reduceCtorEq, Nat.reduceAdd, Nat.reduceMul, Nat.reduceMod, Nat.reduceBEq, Nat.reduceBNe, List.reduceReplicate, Int.reduceLE, Int.reduceLT, Int.reduceNe]
  apply hK3; clear hK3
  refine aw_block ?_
  refine aw_loop (fun k : {k : Nat // k ≤ l.length} => ⟨[(0, Bf 98 (mdB l k0 k.1)), (1, I ((k0 + k.1 : Nat) : Int)), (5, I k.1)], [], [98]⟩) (fun k => l.length - k.1) ⟨0, Nat.zero_le _⟩ (sub_to (by simp [allE, getE] <;> (repeat' apply And.intro) <;> rfl) (by simp [allB, getB] <;> rfl) rfl rfl rfl) ?_
  rintro ⟨k, hk⟩
  have hlen := mdB_len (k0 := k0) hk
  refine aw_seq_k fun K4 hK4 => ?_
  refine aw_seq_k fun K5 hK5 => aw_region okG0 ?_; simp only [push_cast, Nat.reduceLT, Nat.reduceLeDiff, Nat.reduceEqDiff, reduceIte, reduceCtorEq, Nat.reduceAdd, Nat.reduceMul, Nat.reduceMod, Nat.reduceBEq, Nat.reduceBNe, List.reduceReplicate, Int.reduceLE, Int.reduceLT, Int.reduceNe]
  apply hK5; clear hK5
  refine aw_cond rfl (fun hc => ?_) (fun hc => ?_)
  · have hlt : k < l.length := by rw [hlen] at hc; simpa using hc
    refine aw_skip ?_
    simp only [push_cast, Nat.reduceLT, Nat.reduceLeDiff, Nat.reduceEqDiff, reduceIte, reduceCtorEq, Nat.reduceAdd, Nat.reduceMul, Nat.reduceMod, Nat.reduceBEq, Nat.reduceBNe, List.reduceReplicate, Int.reduceLE, Int.reduceLT, Int.reduceNe]
    apply hK4; clear hK4
    refine aw_seq_k fun K6 hK6 => ?_
    refine aw_block ?_
    refine aw_seq_k fun K7 hK7 => aw_region okG0 ?_; simp only [push_cast, Nat.reduceLT, Nat.reduceLeDiff, Nat.reduceEqDiff, reduceIte, reduceCtorEq, Nat.reduceAdd, Nat.reduceMul, Nat.reduceMod, Nat.reduceBEq, Nat.reduceBNe, List.reduceReplicate, Int.reduceLE, Int.reduceLT, Int.reduceNe]
    refine ⟨by decide, ⟨by omega, by omega⟩, by omega, ?_⟩
    rw [mdB_set hlt]
    apply hK7; clear hK7
    refine aw_region okG0 ?_
    simp only [push_cast, Nat.reduceLT, Nat.reduceLeDiff, Nat.reduceEqDiff, reduceIte, reduceCtorEq, Nat.reduceAdd, Nat.reduceMul, Nat.reduceMod, Nat.reduceBEq, Nat.reduceBNe, List.reduceReplicate, Int.reduceLE, Int.reduceLT, Int.reduceNe]
    apply hK6; clear hK6
    refine aw_region okG0 ?_
    simp only [push_cast, Nat.reduceLT, Nat.reduceLeDiff, Nat.reduceEqDiff, reduceIte, reduceCtorEq, Nat.reduceAdd, Nat.reduceMul, Nat.reduceMod, Nat.reduceBEq, Nat.reduceBNe, List.reduceReplicate, Int.reduceLE, Int.reduceLT, Int.reduceNe]
    refine ⟨⟨k + 1, by omega⟩, ?_, by show l.length - (k + 1) < l.length - k; omega⟩
    rw [w64 (n := (k : Int) + 1) (by omega) (by omega), w64 (n := (k0 : Int) + k + 1) (by omega) (by omega), show (k0 : Int) + k + 1 = ((k0 + (k + 1) : Nat) : Int) by omega]
    exact sub_to (by simp [allE, getE] <;> (repeat' apply And.intro) <;> rfl) (by simp [allB, getB] <;> rfl) rfl rfl rfl
  · have hlt : k = l.length := by rw [hlen] at hc
                                  have : ¬ (k : Int) < l.length := by simpa using hc
                                  omega
    subst hlt
    refine aw_exit ?_
    simp only [push_cast, Nat.reduceLT, Nat.reduceLeDiff, Nat.reduceEqDiff, reduceIte, reduceCtorEq, Nat.reduceAdd, Nat.reduceMul, Nat.reduceMod, Nat.reduceBEq, Nat.reduceBNe, List.reduceReplicate, Int.reduceLE, Int.reduceLT, Int.reduceNe]
    apply hK2; clear hK2
    refine aw_seq_k fun K8 hK8 => aw_region okG0 ?_; simp only [push_cast, Nat.reduceLT, Nat.reduceLeDiff, Nat.reduceEqDiff, reduceIte, reduceCtorEq, Nat.reduceAdd, Nat.reduceMul, Nat.reduceMod, Nat.reduceBEq, Nat.reduceBNe, List.reduceReplicate, Int.reduceLE, Int.reduceLT, Int.reduceNe]
    apply hK8; clear hK8
    rw [show mdB l k0 l.length = mkB k0 l.length by simp [mdB]]
    refine aw_ret ?_
    refine ret_io [] [(0, Bf 98 (mkB k0 l.length))] rfl ?_ (by simp [renN]) rfl ?_ (by simp [rsEnd, getE, renV, renN]) rfl (by simp [renN]) <;> (try simp only [push_cast, reduceIte, Nat.reduceEqDiff])
theorem markNilB_spec (k0 : Nat) : AFp Try.prog 160 [Bs [], I k0] (I k0) := by
  refine AF_body okG0 Try.func160 rfl rfl (by simp [Try.ntmps160]) (by simp) ?_; simp only [Try.ntmps160]
  refine aw_seq_k fun K1 hK1 => aw_region okG0 ?_; simp only [push_cast, Nat.reduceLT, Nat.reduceLeDiff, Nat.reduceEqDiff, reduceIte, reduceCtorEq, Nat.reduceAdd, Nat.reduceMul, Nat.reduceMod, Nat.reduceBEq, Nat.reduceBNe, List.reduceReplicate, Int.reduceLE, Int.reduceLT, Int.reduceNe]
  apply hK1; clear hK1
  refine aw_seq_k fun K2 hK2 => ?_
  refine aw_seq_k fun K3 hK3 => aw_region okG0 ?_; simp only [push_cast, Nat.reduceLT, Nat.reduceLeDiff, Nat.reduceEqDiff, reduceIte, reduceCtorEq, Nat.reduceAdd, Nat.reduceMul, Nat.reduceMod, Nat.reduceBEq, Nat.reduceBNe, List.reduceReplicate, Int.reduceLE, Int.reduceLT, Int.reduceNe]
  apply hK3; clear hK3
  refine aw_block ?_
  refine aw_loop (fun _ : Unit => ⟨[(0, Bs []), (1, I k0), (5, I 0)], [], []⟩) (fun _ => 0) () (sub_to (by simp [allE, getE] <;> (repeat' apply And.intro) <;> rfl) (by simp [allB, getB] <;> rfl) rfl rfl rfl) ?_
  rintro ⟨⟩
  refine aw_seq_k fun K4 hK4 => ?_
  refine aw_seq_k fun K5 hK5 => aw_region okG0 ?_; simp only [push_cast, Nat.reduceLT, Nat.reduceLeDiff, Nat.reduceEqDiff, reduceIte, reduceCtorEq, Nat.reduceAdd, Nat.reduceMul, Nat.reduceMod, Nat.reduceBEq, Nat.reduceBNe, List.reduceReplicate, Int.reduceLE, Int.reduceLT, Int.reduceNe]
  apply hK5; clear hK5
  refine aw_cond rfl (fun hc => ?_) (fun hc => ?_)
  · simp at hc
  · refine aw_exit ?_
    simp only [push_cast, Nat.reduceLT, Nat.reduceLeDiff, Nat.reduceEqDiff, reduceIte, reduceCtorEq, Nat.reduceAdd, Nat.reduceMul, Nat.reduceMod, Nat.reduceBEq, Nat.reduceBNe, List.reduceReplicate, Int.reduceLE, Int.reduceLT, Int.reduceNe]
    apply hK2; clear hK2
    refine aw_seq_k fun K8 hK8 => aw_region okG0 ?_; simp only [push_cast, Nat.reduceLT, Nat.reduceLeDiff, Nat.reduceEqDiff, reduceIte, reduceCtorEq, Nat.reduceAdd, Nat.reduceMul, Nat.reduceMod, Nat.reduceBEq, Nat.reduceBNe, List.reduceReplicate, Int.reduceLE, Int.reduceLT, Int.reduceNe]
    apply hK8; clear hK8
    exact aw_ret (ret_p rfl rfl rfl (by simp))
theorem heldB_spec (n k0 : Nat) (hk0 : k0 ≤ 1000000000) (hn : n ≤ 1000000000) : AFp Try.prog 161 [Bs (mkB k0 n), I k0] (I ((k0 + n : Nat) : Int)) := by
  have hlen := mkB_len k0 n
  refine AF_body okG0 Try.func161 rfl rfl (by simp [Try.ntmps161]) (by simp) ?_; simp only [Try.ntmps161]
  refine aw_seq_k fun K1 hK1 => aw_region okG0 ?_; simp only [push_cast, Nat.reduceLT, Nat.reduceLeDiff, Nat.reduceEqDiff, reduceIte, reduceCtorEq, Nat.reduceAdd, Nat.reduceMul, Nat.reduceMod, Nat.reduceBEq, Nat.reduceBNe, List.reduceReplicate, Int.reduceLE, Int.reduceLT, Int.reduceNe]
  apply hK1; clear hK1
  refine aw_seq_k fun K2 hK2 => ?_
  refine aw_seq_k fun K3 hK3 => aw_region okG0 ?_; simp only [push_cast, Nat.reduceLT, Nat.reduceLeDiff, Nat.reduceEqDiff, reduceIte, reduceCtorEq, Nat.reduceAdd, Nat.reduceMul, Nat.reduceMod, Nat.reduceBEq, Nat.reduceBNe, List.reduceReplicate, Int.reduceLE, Int.reduceLT, Int.reduceNe]
  apply hK3; clear hK3
  refine aw_block ?_
  refine aw_loop (fun k : {k : Nat // k ≤ n} => ⟨[(0, Bs (mkB k0 n)), (1, I ((k0 + k.1 : Nat) : Int)), (5, I k.1)], [], []⟩) (fun k => n - k.1) ⟨0, Nat.zero_le _⟩ (sub_to (by simp [allE, getE] <;> (repeat' apply And.intro) <;> rfl) (by simp [allB, getB] <;> rfl) rfl rfl rfl) ?_
  rintro ⟨k, hk⟩
  refine aw_seq_k fun K4 hK4 => ?_
  refine aw_seq_k fun K5 hK5 => aw_region okG0 ?_; simp only [push_cast, Nat.reduceLT, Nat.reduceLeDiff, Nat.reduceEqDiff, reduceIte, reduceCtorEq, Nat.reduceAdd, Nat.reduceMul, Nat.reduceMod, Nat.reduceBEq, Nat.reduceBNe, List.reduceReplicate, Int.reduceLE, Int.reduceLT, Int.reduceNe]
  apply hK5; clear hK5
  refine aw_cond rfl (fun hc => ?_) (fun hc => ?_)
  · have hlt : k < n := by rw [hlen] at hc; simpa using hc
    refine aw_skip ?_
    simp only [push_cast, Nat.reduceLT, Nat.reduceLeDiff, Nat.reduceEqDiff, reduceIte, reduceCtorEq, Nat.reduceAdd, Nat.reduceMul, Nat.reduceMod, Nat.reduceBEq, Nat.reduceBNe, List.reduceReplicate, Int.reduceLE, Int.reduceLT, Int.reduceNe]
    apply hK4; clear hK4
    refine aw_seq_k fun K6 hK6 => ?_
    refine aw_block ?_
    refine aw_seq_k fun K7 hK7 => ?_
    refine aw_seq_k fun K8 hK8 => aw_region okG0 ?_; simp only [push_cast, Nat.reduceLT, Nat.reduceLeDiff, Nat.reduceEqDiff, reduceIte, reduceCtorEq, Nat.reduceAdd, Nat.reduceMul, Nat.reduceMod, Nat.reduceBEq, Nat.reduceBNe, List.reduceReplicate, Int.reduceLE, Int.reduceLT, Int.reduceNe]
    refine ⟨⟨by omega, by omega⟩, by decide, ?_⟩
    rw [mkB_at hlt]
    apply hK8; clear hK8
    refine aw_cond rfl (fun hc => ?_) (fun hc => ?_)
    · simp at hc
    · refine aw_skip ?_
      simp only [push_cast, Nat.reduceLT, Nat.reduceLeDiff, Nat.reduceEqDiff, reduceIte, reduceCtorEq, Nat.reduceAdd, Nat.reduceMul, Nat.reduceMod, Nat.reduceBEq, Nat.reduceBNe, List.reduceReplicate, Int.reduceLE, Int.reduceLT, Int.reduceNe]
      apply hK7; clear hK7
      refine aw_region okG0 ?_
      simp only [push_cast, Nat.reduceLT, Nat.reduceLeDiff, Nat.reduceEqDiff, reduceIte, reduceCtorEq, Nat.reduceAdd, Nat.reduceMul, Nat.reduceMod, Nat.reduceBEq, Nat.reduceBNe, List.reduceReplicate, Int.reduceLE, Int.reduceLT, Int.reduceNe]
      apply hK6; clear hK6
      refine aw_region okG0 ?_
      simp only [push_cast, Nat.reduceLT, Nat.reduceLeDiff, Nat.reduceEqDiff, reduceIte, reduceCtorEq, Nat.reduceAdd, Nat.reduceMul, Nat.reduceMod, Nat.reduceBEq, Nat.reduceBNe, List.reduceReplicate, Int.reduceLE, Int.reduceLT, Int.reduceNe]
      refine ⟨⟨k + 1, by omega⟩, ?_, by show n - (k + 1) < n - k; omega⟩
      rw [w64 (n := (k : Int) + 1) (by omega) (by omega), w64 (n := (k0 : Int) + k + 1) (by omega) (by omega), show (k0 : Int) + k + 1 = ((k0 + (k + 1) : Nat) : Int) by omega]
      exact sub_to (by simp [allE, getE] <;> (repeat' apply And.intro) <;> rfl) (by simp [allB, getB] <;> rfl) rfl rfl rfl
  · have hlt : k = n := by rw [hlen] at hc
                           have : ¬ (k : Int) < n := by simpa using hc
                           omega
    subst hlt
    refine aw_exit ?_
    simp only [push_cast, Nat.reduceLT, Nat.reduceLeDiff, Nat.reduceEqDiff, reduceIte, reduceCtorEq, Nat.reduceAdd, Nat.reduceMul, Nat.reduceMod, Nat.reduceBEq, Nat.reduceBNe, List.reduceReplicate, Int.reduceLE, Int.reduceLT, Int.reduceNe]
    apply hK2; clear hK2
    refine aw_seq_k fun K10 hK10 => aw_region okG0 ?_; simp only [push_cast, Nat.reduceLT, Nat.reduceLeDiff, Nat.reduceEqDiff, reduceIte, reduceCtorEq, Nat.reduceAdd, Nat.reduceMul, Nat.reduceMod, Nat.reduceBEq, Nat.reduceBNe, List.reduceReplicate, Int.reduceLE, Int.reduceLT, Int.reduceNe]
    apply hK10; clear hK10
    exact aw_ret (ret_p rfl rfl rfl (by simp))
theorem markFlow_spec (r c : Int) (p : List Nat) (b : List Bool) (k0 : Nat) (hk0 : k0 ≤ 1000000) (hp : p.length ≤ 10000000) (hb : b.length ≤ 10000000) :
    AF Try.prog 51 [.agg [I r, I c, Ff 98 p, Bf 198 b], I k0] [98, 198] [] (I ((k0 + p.length + b.length : Nat) : Int)) [] [Ff 98 (mkF k0 p.length), Bf 198 (mkB (k0 + p.length) b.length)] := by
  refine AF_body okG0 Try.func51 rfl rfl (by simp [Try.ntmps51]) (by simp) ?_; simp only [Try.ntmps51]
  refine aw_seq_k fun K1 hK1 => aw_region okG0 ?_; simp only [push_cast, Nat.reduceLT, Nat.reduceLeDiff, Nat.reduceEqDiff, reduceIte, reduceCtorEq, Nat.reduceAdd, Nat.reduceMul, Nat.reduceMod, Nat.reduceBEq, Nat.reduceBNe, List.reduceReplicate, Int.reduceLE, Int.reduceLT, Int.reduceNe]
  apply hK1; clear hK1
  refine aw_seq_k fun K2 hK2 => aw_region okG0 ?_; simp only [push_cast, Nat.reduceLT, Nat.reduceLeDiff, Nat.reduceEqDiff, reduceIte, reduceCtorEq, Nat.reduceAdd, Nat.reduceMul, Nat.reduceMod, Nat.reduceBEq, Nat.reduceBNe, List.reduceReplicate, Int.reduceLE, Int.reduceLT, Int.reduceNe]
  refine call_io false [(98, 98)] (markF_spec p k0 (by omega) (by omega)) rfl (fits_of rfl) (by decide) (by decide) rfl (by simp [ioOK, getB, back, borVs, borV, kee, inSnd, fitsVs, fitsV]) rfl (by simp [newIds, idsV, idsVs, inSnd, dstN]) (by rfl) (by rfl) rfl (.inl rfl) ?_; simp only [push_cast, Nat.reduceLT, Nat.reduceLeDiff, Nat.reduceEqDiff, reduceIte, reduceCtorEq, Nat.reduceAdd, Nat.reduceMul, Nat.reduceMod, Nat.reduceBEq, Nat.reduceBNe, List.reduceReplicate, Int.reduceLE, Int.reduceLT, Int.reduceNe]
  simp only [mkF_len, if_true]
  apply hK2; clear hK2
  refine aw_seq_k fun K3 hK3 => aw_region okG0 ?_; simp only [push_cast, Nat.reduceLT, Nat.reduceLeDiff, Nat.reduceEqDiff, reduceIte, reduceCtorEq, Nat.reduceAdd, Nat.reduceMul, Nat.reduceMod, Nat.reduceBEq, Nat.reduceBNe, List.reduceReplicate, Int.reduceLE, Int.reduceLT, Int.reduceNe]
  refine call_io false [(198, 98)] (markB_spec b (k0 + p.length) (by omega) (by omega)) rfl (fits_of rfl) (by decide) (by decide) rfl (by simp [ioOK, getB, back, borVs, borV, kee, inSnd, fitsVs, fitsV]) rfl (by simp [newIds, idsV, idsVs, inSnd, dstN]) (by rfl) (by rfl) rfl (.inl rfl) ?_; simp only [push_cast, Nat.reduceLT, Nat.reduceLeDiff, Nat.reduceEqDiff, reduceIte, reduceCtorEq, Nat.reduceAdd, Nat.reduceMul, Nat.reduceMod, Nat.reduceBEq, Nat.reduceBNe, List.reduceReplicate, Int.reduceLE, Int.reduceLT, Int.reduceNe]
  simp only [mkB_len, if_true]
  apply hK3; clear hK3
  refine aw_seq_k fun K4 hK4 => aw_region okG0 ?_; simp only [push_cast, Nat.reduceLT, Nat.reduceLeDiff, Nat.reduceEqDiff, reduceIte, reduceCtorEq, Nat.reduceAdd, Nat.reduceMul, Nat.reduceMod, Nat.reduceBEq, Nat.reduceBNe, List.reduceReplicate, Int.reduceLE, Int.reduceLT, Int.reduceNe]
  apply hK4; clear hK4
  refine aw_ret ?_
  refine ret_io [] [(6, Ff 98 (mkF k0 p.length)), (10, Bf 198 (mkB (k0 + p.length) b.length))] rfl ?_ (by simp [renN]) rfl ?_ (by simp [rsEnd, getE, renV, renN]) rfl (by simp [renN]) <;> (try simp only [push_cast, reduceIte, Nat.reduceEqDiff])
theorem AFp_fits {P : Program} {f : FuncId} {a b : List AV} {res : AV} (h : fitsVs a b) (H : AFp P f b res) : AFp P f a res := fun β Y w vs hE hr hb => H β Y w vs hE (relVs_fits _ _ _ h hr) hb
theorem markNoFlow_spec (k0 : Nat) : AFp Try.prog 51 [noFlow, I k0] (I k0) := by
  refine AFp_fits (b := [.agg [I 0, I 0, Fs [], Bs []], I k0]) (by simp [fitsVs, fitsV, isNilA]) ?_
  refine AF_body okG0 Try.func51 rfl rfl (by simp [Try.ntmps51]) (by simp) ?_; simp only [Try.ntmps51]
  refine aw_seq_k fun K1 hK1 => aw_region okG0 ?_; simp only [push_cast, Nat.reduceLT, Nat.reduceLeDiff, Nat.reduceEqDiff, reduceIte, reduceCtorEq, Nat.reduceAdd, Nat.reduceMul, Nat.reduceMod, Nat.reduceBEq, Nat.reduceBNe, List.reduceReplicate, Int.reduceLE, Int.reduceLT, Int.reduceNe]
  apply hK1; clear hK1
  refine aw_seq_k fun K2 hK2 => aw_region okG0 ?_; simp only [push_cast, Nat.reduceLT, Nat.reduceLeDiff, Nat.reduceEqDiff, reduceIte, reduceCtorEq, Nat.reduceAdd, Nat.reduceMul, Nat.reduceMod, Nat.reduceBEq, Nat.reduceBNe, List.reduceReplicate, Int.reduceLE, Int.reduceLT, Int.reduceNe]
  refine call_pure (markNilF_spec k0) (fits_of rfl) (by decide) rfl (by simp [idsV, idsVs]) ?_; simp only [push_cast, Nat.reduceLT, Nat.reduceLeDiff, Nat.reduceEqDiff, reduceIte, reduceCtorEq, Nat.reduceAdd, Nat.reduceMul, Nat.reduceMod, Nat.reduceBEq, Nat.reduceBNe, List.reduceReplicate, Int.reduceLE, Int.reduceLT, Int.reduceNe]
  apply hK2; clear hK2
  refine aw_seq_k fun K3 hK3 => aw_region okG0 ?_; simp only [push_cast, Nat.reduceLT, Nat.reduceLeDiff, Nat.reduceEqDiff, reduceIte, reduceCtorEq, Nat.reduceAdd, Nat.reduceMul, Nat.reduceMod, Nat.reduceBEq, Nat.reduceBNe, List.reduceReplicate, Int.reduceLE, Int.reduceLT, Int.reduceNe]
  refine call_pure (markNilB_spec k0) (fits_of rfl) (by decide) rfl (by simp [idsV, idsVs]) ?_; simp only [push_cast, Nat.reduceLT, Nat.reduceLeDiff, Nat.reduceEqDiff, reduceIte, reduceCtorEq, Nat.reduceAdd, Nat.reduceMul, Nat.reduceMod, Nat.reduceBEq, Nat.reduceBNe, List.reduceReplicate, Int.reduceLE, Int.reduceLT, Int.reduceNe]
  apply hK3; clear hK3
  refine aw_seq_k fun K4 hK4 => aw_region okG0 ?_; simp only [push_cast, Nat.reduceLT, Nat.reduceLeDiff, Nat.reduceEqDiff, reduceIte, reduceCtorEq, Nat.reduceAdd, Nat.reduceMul, Nat.reduceMod, Nat.reduceBEq, Nat.reduceBNe, List.reduceReplicate, Int.reduceLE, Int.reduceLT, Int.reduceNe]
  apply hK4; clear hK4
  exact aw_ret (ret_p rfl rfl rfl (by simp))
theorem heldFlow_spec (r c : Int) (n m k0 : Nat) (hk0 : k0 ≤ 1000000) (hn : n ≤ 10000000) (hm : m ≤ 10000000) : AFp Try.prog 52 [.agg [I r, I c, Fs (mkF k0 n), Bs (mkB (k0 + n) m)], I k0] (I ((k0 + n + m : Nat) : Int)) := by
  refine AF_body okG0 Try.func52 rfl rfl (by simp [Try.ntmps52]) (by simp) ?_; simp only [Try.ntmps52]
  refine aw_seq_k fun K1 hK1 => aw_region okG0 ?_; simp only [push_cast, Nat.reduceLT, Nat.reduceLeDiff, Nat.reduceEqDiff, reduceIte, reduceCtorEq, Nat.reduceAdd, Nat.reduceMul, Nat.reduceMod, Nat.reduceBEq, Nat.reduceBNe, List.reduceReplicate, Int.reduceLE, Int.reduceLT, Int.reduceNe]
  apply hK1; clear hK1
  refine aw_seq_k fun K2 hK2 => aw_region okG0 ?_; simp only [push_cast, Nat.reduceLT, Nat.reduceLeDiff, Nat.reduceEqDiff, reduceIte, reduceCtorEq, Nat.reduceAdd, Nat.reduceMul, Nat.reduceMod, Nat.reduceBEq, Nat.reduceBNe, List.reduceReplicate, Int.reduceLE, Int.reduceLT, Int.reduceNe]
  refine call_pure (heldF_spec n k0 (by omega) (by omega)) (fits_of rfl) (by decide) rfl (by simp [idsV, idsVs]) ?_; simp only [push_cast, Nat.reduceLT, Nat.reduceLeDiff, Nat.reduceEqDiff, reduceIte, reduceCtorEq, Nat.reduceAdd, Nat.reduceMul, Nat.reduceMod, Nat.reduceBEq, Nat.reduceBNe, List.reduceReplicate, Int.reduceLE, Int.reduceLT, Int.reduceNe]
  apply hK2; clear hK2
  refine aw_seq_k fun K3 hK3 => ?_
  refine aw_seq_k fun K4 hK4 => aw_region okG0 ?_; simp only [push_cast, Nat.reduceLT, Nat.reduceLeDiff, Nat.reduceEqDiff, reduceIte, reduceCtorEq, Nat.reduceAdd, Nat.reduceMul, Nat.reduceMod, Nat.reduceBEq, Nat.reduceBNe, List.reduceReplicate, Int.reduceLE, Int.reduceLT, Int.reduceNe]
  apply hK4; clear hK4
  refine aw_cond rfl (fun hc => ?_) (fun hc => ?_)
  · simp at hc; omega
  · refine aw_skip ?_
    simp only [push_cast, Nat.reduceLT, Nat.reduceLeDiff, Nat.reduceEqDiff, reduceIte, reduceCtorEq, Nat.reduceAdd, Nat.reduceMul, Nat.reduceMod, Nat.reduceBEq, Nat.reduceBNe, List.reduceReplicate, Int.reduceLE, Int.reduceLT, Int.reduceNe]
    apply hK3; clear hK3
    refine aw_seq_k fun K6 hK6 => aw_region okG0 ?_; simp only [push_cast, Nat.reduceLT, Nat.reduceLeDiff, Nat.reduceEqDiff, reduceIte, reduceCtorEq, Nat.reduceAdd, Nat.reduceMul, Nat.reduceMod, Nat.reduceBEq, Nat.reduceBNe, List.reduceReplicate, Int.reduceLE, Int.reduceLT, Int.reduceNe]
    refine call_pure (heldB_spec m (k0 + n) (by omega) (by omega)) (fits_of rfl) (by decide) rfl (by simp [idsV, idsVs]) ?_; simp only [push_cast, Nat.reduceLT, Nat.reduceLeDiff, Nat.reduceEqDiff, reduceIte, reduceCtorEq, Nat.reduceAdd, Nat.reduceMul, Nat.reduceMod, Nat.reduceBEq, Nat.reduceBNe, List.reduceReplicate, Int.reduceLE, Int.reduceLT, Int.reduceNe]
    apply hK6; clear hK6
    refine aw_seq_k fun K7 hK7 => ?_
    refine aw_seq_k fun K8 hK8 => aw_region okG0 ?_; simp only [push_cast, Nat.reduceLT, Nat.reduceLeDiff, Nat.reduceEqDiff, reduceIte, reduceCtorEq, Nat.reduceAdd, Nat.reduceMul, Nat.reduceMod, Nat.reduceBEq, Nat.reduceBNe, List.reduceReplicate, Int.reduceLE, Int.reduceLT, Int.reduceNe]
    apply hK8; clear hK8
    refine aw_cond rfl (fun hc => ?_) (fun hc => ?_)
    · simp at hc; omega
    · refine aw_skip ?_
      simp only [push_cast, Nat.reduceLT, Nat.reduceLeDiff, Nat.reduceEqDiff, reduceIte, reduceCtorEq, Nat.reduceAdd, Nat.reduceMul, Nat.reduceMod, Nat.reduceBEq, Nat.reduceBNe, List.reduceReplicate, Int.reduceLE, Int.reduceLT, Int.reduceNe]
      apply hK7; clear hK7
      refine aw_seq_k fun K10 hK10 => aw_region okG0 ?_; simp only [push_cast, Nat.reduceLT, Nat.reduceLeDiff, Nat.reduceEqDiff, reduceIte, reduceCtorEq, Nat.reduceAdd, Nat.reduceMul, Nat.reduceMod, Nat.reduceBEq, Nat.reduceBNe, List.reduceReplicate, Int.reduceLE, Int.reduceLT, Int.reduceNe]
      apply hK10; clear hK10
      exact aw_ret (ret_p rfl rfl rfl (by simp))
theorem heldNoFlow_spec (k0 : Nat) (hk0 : k0 ≤ 1000000) : AFp Try.prog 52 [noFlow, I k0] (I k0) :=
  AFp_fits (b := [.agg [I 0, I 0, Fs (mkF k0 0), Bs (mkB (k0 + 0) 0)], I k0]) (by simp [fitsVs, fitsV, isNilA, mkF, mkB]) (heldFlow_spec 0 0 0 0 k0 hk0 (by omega) (by omega))
end Go.Proofs.Avx

set_option linter.unusedVariables false
set_option linter.unusedSimpArgs false
namespace Go.Proofs.Avx
attribute [local irreducible] canon flB flO flW floatOfInt
/-! ### RelaxFlow, and its law -/
def outF (r c : Int) (s : Nat) (p : List Nat) (b : List Bool) : Option (List Nat) := if vf r c p b = true ∧ two s = true then relaxF r c s p b else none
theorem vf_of {r c : Int} {p : List Nat} {b : List Bool} (h : vf r c p b = true) : sides r c = true ∧ p.length = 9 * b.length ∧ (b.length : Int) = r * c ∧ p.all fin = true ∧ b.length ≤ 256 := by
  unfold vf at h
  simp only [Bool.and_eq_true, decide_eq_true_eq] at h
  obtain ⟨⟨⟨h1, h2⟩, h3⟩, h4⟩ := h
  obtain ⟨_, _, _, _, _, h6⟩ := sides_of h1
  exact ⟨h1, by omega, h3, h4, by omega⟩
theorem rf47_spec (r c : Int) (s : Nat) (p : List Nat) (b : List Bool) (hp : p.length ≤ 4611686018427387904) : AFp Try.prog 47 [.agg [I r, I c, Fs p, Bs b], F s] (resF r c b (outF r c s p b)) := by
  by_cases hv : vf r c p b = true ∧ two s = true
  · obtain ⟨h1, h2, h3, h4, h5⟩ := vf_of hv.1
    have ho : outF r c s p b = relaxF r c s p b := by unfold outF; rw [if_pos hv]
    have hr := l06Relaxed_spec r c s p b h1 h2 h3
    rw [relax_same r c s p b hv.2 h2 h4] at hr
    rw [ho]
    cases hR : relaxF r c s p b with
    | none =>
      rw [hR] at hr; simp only [resF] at hr
      refine AF_body okG0 Try.func47 rfl rfl (by simp [Try.ntmps47]) (by simp) ?_; simp only [Try.ntmps47]
      refine aw_seq_k fun K1 hK1 => aw_region okG0 ?_; simp only [push_cast, Nat.reduceLT, Nat.reduceLeDiff, Nat.reduceEqDiff, reduceIte, reduceCtorEq, Nat.reduceAdd, Nat.reduceMul, Nat.reduceMod, Nat.reduceBEq, Nat.reduceBNe, List.reduceReplicate, Int.reduceLE, Int.reduceLT, Int.reduceNe]
      apply hK1; clear hK1
      refine aw_seq_k fun K2 hK2 => ?_
      refine aw_seq_k fun K3 hK3 => aw_region okG0 ?_; simp only [push_cast, Nat.reduceLT, Nat.reduceLeDiff, Nat.reduceEqDiff, reduceIte, reduceCtorEq, Nat.reduceAdd, Nat.reduceMul, Nat.reduceMod, Nat.reduceBEq, Nat.reduceBNe, List.reduceReplicate, Int.reduceLE, Int.reduceLT, Int.reduceNe]
      refine call_pure (l06Flow_spec r c p b hp) (fits_of rfl) (by decide) rfl (by simp [idsV, idsVs]) ?_; simp only [push_cast, Nat.reduceLT, Nat.reduceLeDiff, Nat.reduceEqDiff, reduceIte, reduceCtorEq, Nat.reduceAdd, Nat.reduceMul, Nat.reduceMod, Nat.reduceBEq, Nat.reduceBNe, List.reduceReplicate, Int.reduceLE, Int.reduceLT, Int.reduceNe]
      refine gcall_pure (fun _ => l06Two_spec s) (fun _ => fits_of rfl) (by decide) rfl rfl ?_; simp only [push_cast, Nat.reduceLT, Nat.reduceLeDiff, Nat.reduceEqDiff, reduceIte, reduceCtorEq, Nat.reduceAdd, Nat.reduceMul, Nat.reduceMod, Nat.reduceBEq, Nat.reduceBNe, List.reduceReplicate, Int.reduceLE, Int.reduceLT, Int.reduceNe]
      apply hK3; clear hK3
      refine aw_cond rfl (fun hc => ?_) (fun hc => ?_)
      · rw [hv.1, hv.2] at hc; exact absurd hc (by simp)
      · refine aw_skip ?_
        simp only [push_cast, Nat.reduceLT, Nat.reduceLeDiff, Nat.reduceEqDiff, reduceIte, reduceCtorEq, Nat.reduceAdd, Nat.reduceMul, Nat.reduceMod, Nat.reduceBEq, Nat.reduceBNe, List.reduceReplicate, Int.reduceLE, Int.reduceLT, Int.reduceNe]
        apply hK2; clear hK2
        refine aw_seq_k fun K5 hK5 => aw_region okG0 ?_; simp only [push_cast, Nat.reduceLT, Nat.reduceLeDiff, Nat.reduceEqDiff, reduceIte, reduceCtorEq, Nat.reduceAdd, Nat.reduceMul, Nat.reduceMod, Nat.reduceBEq, Nat.reduceBNe, List.reduceReplicate, Int.reduceLE, Int.reduceLT, Int.reduceNe]
        refine call_pure (hr) (fits_of rfl) (by decide) rfl (by simp [idsV, idsVs]) ?_; simp only [push_cast, Nat.reduceLT, Nat.reduceLeDiff, Nat.reduceEqDiff, reduceIte, reduceCtorEq, Nat.reduceAdd, Nat.reduceMul, Nat.reduceMod, Nat.reduceBEq, Nat.reduceBNe, List.reduceReplicate, Int.reduceLE, Int.reduceLT, Int.reduceNe]
        apply hK5; clear hK5
        exact aw_ret (ret_p rfl rfl rfl (by simp))
    | some R =>
      rw [hR] at hr; simp only [resF] at hr
      refine AF_body okG0 Try.func47 rfl rfl (by simp [Try.ntmps47]) (by simp) ?_; simp only [Try.ntmps47]
      refine aw_seq_k fun K1 hK1 => aw_region okG0 ?_; simp only [push_cast, Nat.reduceLT, Nat.reduceLeDiff, Nat.reduceEqDiff, reduceIte, reduceCtorEq, Nat.reduceAdd, Nat.reduceMul, Nat.reduceMod, Nat.reduceBEq, Nat.reduceBNe, List.reduceReplicate, Int.reduceLE, Int.reduceLT, Int.reduceNe]
      apply hK1; clear hK1
      refine aw_seq_k fun K2 hK2 => ?_
      refine aw_seq_k fun K3 hK3 => aw_region okG0 ?_; simp only [push_cast, Nat.reduceLT, Nat.reduceLeDiff, Nat.reduceEqDiff, reduceIte, reduceCtorEq, Nat.reduceAdd, Nat.reduceMul, Nat.reduceMod, Nat.reduceBEq, Nat.reduceBNe, List.reduceReplicate, Int.reduceLE, Int.reduceLT, Int.reduceNe]
      refine call_pure (l06Flow_spec r c p b hp) (fits_of rfl) (by decide) rfl (by simp [idsV, idsVs]) ?_; simp only [push_cast, Nat.reduceLT, Nat.reduceLeDiff, Nat.reduceEqDiff, reduceIte, reduceCtorEq, Nat.reduceAdd, Nat.reduceMul, Nat.reduceMod, Nat.reduceBEq, Nat.reduceBNe, List.reduceReplicate, Int.reduceLE, Int.reduceLT, Int.reduceNe]
      refine gcall_pure (fun _ => l06Two_spec s) (fun _ => fits_of rfl) (by decide) rfl rfl ?_; simp only [push_cast, Nat.reduceLT, Nat.reduceLeDiff, Nat.reduceEqDiff, reduceIte, reduceCtorEq, Nat.reduceAdd, Nat.reduceMul, Nat.reduceMod, Nat.reduceBEq, Nat.reduceBNe, List.reduceReplicate, Int.reduceLE, Int.reduceLT, Int.reduceNe]
      apply hK3; clear hK3
      refine aw_cond rfl (fun hc => ?_) (fun hc => ?_)
      · rw [hv.1, hv.2] at hc; exact absurd hc (by simp)
      · refine aw_skip ?_
        simp only [push_cast, Nat.reduceLT, Nat.reduceLeDiff, Nat.reduceEqDiff, reduceIte, reduceCtorEq, Nat.reduceAdd, Nat.reduceMul, Nat.reduceMod, Nat.reduceBEq, Nat.reduceBNe, List.reduceReplicate, Int.reduceLE, Int.reduceLT, Int.reduceNe]
        apply hK2; clear hK2
        refine aw_seq_k fun K5 hK5 => aw_region okG0 ?_; simp only [push_cast, Nat.reduceLT, Nat.reduceLeDiff, Nat.reduceEqDiff, reduceIte, reduceCtorEq, Nat.reduceAdd, Nat.reduceMul, Nat.reduceMod, Nat.reduceBEq, Nat.reduceBNe, List.reduceReplicate, Int.reduceLE, Int.reduceLT, Int.reduceNe]
        refine call_pure (hr) (fits_of rfl) (by decide) rfl (by simp [idsV, idsVs]) ?_; simp only [push_cast, Nat.reduceLT, Nat.reduceLeDiff, Nat.reduceEqDiff, reduceIte, reduceCtorEq, Nat.reduceAdd, Nat.reduceMul, Nat.reduceMod, Nat.reduceBEq, Nat.reduceBNe, List.reduceReplicate, Int.reduceLE, Int.reduceLT, Int.reduceNe]
        apply hK5; clear hK5
        exact aw_ret (ret_o [(1500, 0), (1501, 1)] rfl rfl (by simp [renN]) rfl)
  · have ho : outF r c s p b = none := by unfold outF; rw [if_neg hv]
    rw [ho]
    have hno : (vf r c p b && two s) = false := by
      cases h : (vf r c p b && two s)
      · rfl
      · simp only [Bool.and_eq_true] at h; exact absurd h hv
    refine AF_body okG0 Try.func47 rfl rfl (by simp [Try.ntmps47]) (by simp) ?_; simp only [Try.ntmps47]
    refine aw_seq_k fun K1 hK1 => aw_region okG0 ?_; simp only [push_cast, Nat.reduceLT, Nat.reduceLeDiff, Nat.reduceEqDiff, reduceIte, reduceCtorEq, Nat.reduceAdd, Nat.reduceMul, Nat.reduceMod, Nat.reduceBEq, Nat.reduceBNe, List.reduceReplicate, Int.reduceLE, Int.reduceLT, Int.reduceNe]
    apply hK1; clear hK1
    refine aw_seq_k fun K2 hK2 => ?_
    refine aw_seq_k fun K3 hK3 => aw_region okG0 ?_; simp only [push_cast, Nat.reduceLT, Nat.reduceLeDiff, Nat.reduceEqDiff, reduceIte, reduceCtorEq, Nat.reduceAdd, Nat.reduceMul, Nat.reduceMod, Nat.reduceBEq, Nat.reduceBNe, List.reduceReplicate, Int.reduceLE, Int.reduceLT, Int.reduceNe]
    refine call_pure (l06Flow_spec r c p b hp) (fits_of rfl) (by decide) rfl (by simp [idsV, idsVs]) ?_; simp only [push_cast, Nat.reduceLT, Nat.reduceLeDiff, Nat.reduceEqDiff, reduceIte, reduceCtorEq, Nat.reduceAdd, Nat.reduceMul, Nat.reduceMod, Nat.reduceBEq, Nat.reduceBNe, List.reduceReplicate, Int.reduceLE, Int.reduceLT, Int.reduceNe]
    refine gcall_pure (fun _ => l06Two_spec s) (fun _ => fits_of rfl) (by decide) rfl rfl ?_; simp only [push_cast, Nat.reduceLT, Nat.reduceLeDiff, Nat.reduceEqDiff, reduceIte, reduceCtorEq, Nat.reduceAdd, Nat.reduceMul, Nat.reduceMod, Nat.reduceBEq, Nat.reduceBNe, List.reduceReplicate, Int.reduceLE, Int.reduceLT, Int.reduceNe]
    apply hK3; clear hK3
    refine aw_cond rfl (fun hc => ?_) (fun hc => ?_)
    · refine aw_seq_k fun K4 hK4 => aw_region okG0 ?_; simp only [push_cast, Nat.reduceLT, Nat.reduceLeDiff, Nat.reduceEqDiff, reduceIte, reduceCtorEq, Nat.reduceAdd, Nat.reduceMul, Nat.reduceMod, Nat.reduceBEq, Nat.reduceBNe, List.reduceReplicate, Int.reduceLE, Int.reduceLT, Int.reduceNe]
      apply hK4; clear hK4
      exact aw_ret (ret_p rfl rfl rfl (by simp))
    · exact absurd hc (by
        cases h1 : vf r c p b
        · simp
        · rw [h1] at hno
          simp only [Bool.true_and] at hno
          simp [hno])
theorem rf49_spec (r c : Int) (s : Nat) (p : List Nat) (b : List Bool) (hp : p.length ≤ 4611686018427387904) : AFp Try.prog 49 [.agg [I r, I c, Fs p, Bs b], F s] (resF r c b (outF r c s p b)) := by
  by_cases hv : vf r c p b = true ∧ two s = true
  · obtain ⟨h1, h2, h3, h4, h5⟩ := vf_of hv.1
    have ho : outF r c s p b = relaxF r c s p b := by unfold outF; rw [if_pos hv]
    have hr := relax_spec r c s p b h1 h2 h3
    skip
    rw [ho]
    cases hR : relaxF r c s p b with
    | none =>
      rw [hR] at hr; simp only [resF] at hr
      refine AF_body okG0 Try.func49 rfl rfl (by simp [Try.ntmps49]) (by simp) ?_; simp only [Try.ntmps49]
      refine aw_seq_k fun K1 hK1 => aw_region okG0 ?_; simp only [push_cast, Nat.reduceLT, Nat.reduceLeDiff, Nat.reduceEqDiff, reduceIte, reduceCtorEq, Nat.reduceAdd, Nat.reduceMul, Nat.reduceMod, Nat.reduceBEq, Nat.reduceBNe, List.reduceReplicate, Int.reduceLE, Int.reduceLT, Int.reduceNe]
      apply hK1; clear hK1
      refine aw_seq_k fun K2 hK2 => ?_
      refine aw_seq_k fun K3 hK3 => aw_region okG0 ?_; simp only [push_cast, Nat.reduceLT, Nat.reduceLeDiff, Nat.reduceEqDiff, reduceIte, reduceCtorEq, Nat.reduceAdd, Nat.reduceMul, Nat.reduceMod, Nat.reduceBEq, Nat.reduceBNe, List.reduceReplicate, Int.reduceLE, Int.reduceLT, Int.reduceNe]
      refine call_pure (ValidFlow_spec r c p b hp) (fits_of rfl) (by decide) rfl (by simp [idsV, idsVs]) ?_; simp only [push_cast, Nat.reduceLT, Nat.reduceLeDiff, Nat.reduceEqDiff, reduceIte, reduceCtorEq, Nat.reduceAdd, Nat.reduceMul, Nat.reduceMod, Nat.reduceBEq, Nat.reduceBNe, List.reduceReplicate, Int.reduceLE, Int.reduceLT, Int.reduceNe]
      refine gcall_pure (fun _ => isCalming_spec s) (fun _ => fits_of rfl) (by decide) rfl rfl ?_; simp only [push_cast, Nat.reduceLT, Nat.reduceLeDiff, Nat.reduceEqDiff, reduceIte, reduceCtorEq, Nat.reduceAdd, Nat.reduceMul, Nat.reduceMod, Nat.reduceBEq, Nat.reduceBNe, List.reduceReplicate, Int.reduceLE, Int.reduceLT, Int.reduceNe]
      apply hK3; clear hK3
      refine aw_cond rfl (fun hc => ?_) (fun hc => ?_)
      · rw [hv.1, hv.2] at hc; exact absurd hc (by simp)
      · refine aw_skip ?_
        simp only [push_cast, Nat.reduceLT, Nat.reduceLeDiff, Nat.reduceEqDiff, reduceIte, reduceCtorEq, Nat.reduceAdd, Nat.reduceMul, Nat.reduceMod, Nat.reduceBEq, Nat.reduceBNe, List.reduceReplicate, Int.reduceLE, Int.reduceLT, Int.reduceNe]
        apply hK2; clear hK2
        refine aw_seq_k fun K5 hK5 => aw_region okG0 ?_; simp only [push_cast, Nat.reduceLT, Nat.reduceLeDiff, Nat.reduceEqDiff, reduceIte, reduceCtorEq, Nat.reduceAdd, Nat.reduceMul, Nat.reduceMod, Nat.reduceBEq, Nat.reduceBNe, List.reduceReplicate, Int.reduceLE, Int.reduceLT, Int.reduceNe]
        refine call_pure (hr) (fits_of rfl) (by decide) rfl (by simp [idsV, idsVs]) ?_; simp only [push_cast, Nat.reduceLT, Nat.reduceLeDiff, Nat.reduceEqDiff, reduceIte, reduceCtorEq, Nat.reduceAdd, Nat.reduceMul, Nat.reduceMod, Nat.reduceBEq, Nat.reduceBNe, List.reduceReplicate, Int.reduceLE, Int.reduceLT, Int.reduceNe]
        apply hK5; clear hK5
        exact aw_ret (ret_p rfl rfl rfl (by simp))
    | some R =>
      rw [hR] at hr; simp only [resF] at hr
      refine AF_body okG0 Try.func49 rfl rfl (by simp [Try.ntmps49]) (by simp) ?_; simp only [Try.ntmps49]
      refine aw_seq_k fun K1 hK1 => aw_region okG0 ?_; simp only [push_cast, Nat.reduceLT, Nat.reduceLeDiff, Nat.reduceEqDiff, reduceIte, reduceCtorEq, Nat.reduceAdd, Nat.reduceMul, Nat.reduceMod, Nat.reduceBEq, Nat.reduceBNe, List.reduceReplicate, Int.reduceLE, Int.reduceLT, Int.reduceNe]
      apply hK1; clear hK1
      refine aw_seq_k fun K2 hK2 => ?_
      refine aw_seq_k fun K3 hK3 => aw_region okG0 ?_; simp only [push_cast, Nat.reduceLT, Nat.reduceLeDiff, Nat.reduceEqDiff, reduceIte, reduceCtorEq, Nat.reduceAdd, Nat.reduceMul, Nat.reduceMod, Nat.reduceBEq, Nat.reduceBNe, List.reduceReplicate, Int.reduceLE, Int.reduceLT, Int.reduceNe]
      refine call_pure (ValidFlow_spec r c p b hp) (fits_of rfl) (by decide) rfl (by simp [idsV, idsVs]) ?_; simp only [push_cast, Nat.reduceLT, Nat.reduceLeDiff, Nat.reduceEqDiff, reduceIte, reduceCtorEq, Nat.reduceAdd, Nat.reduceMul, Nat.reduceMod, Nat.reduceBEq, Nat.reduceBNe, List.reduceReplicate, Int.reduceLE, Int.reduceLT, Int.reduceNe]
      refine gcall_pure (fun _ => isCalming_spec s) (fun _ => fits_of rfl) (by decide) rfl rfl ?_; simp only [push_cast, Nat.reduceLT, Nat.reduceLeDiff, Nat.reduceEqDiff, reduceIte, reduceCtorEq, Nat.reduceAdd, Nat.reduceMul, Nat.reduceMod, Nat.reduceBEq, Nat.reduceBNe, List.reduceReplicate, Int.reduceLE, Int.reduceLT, Int.reduceNe]
      apply hK3; clear hK3
      refine aw_cond rfl (fun hc => ?_) (fun hc => ?_)
      · rw [hv.1, hv.2] at hc; exact absurd hc (by simp)
      · refine aw_skip ?_
        simp only [push_cast, Nat.reduceLT, Nat.reduceLeDiff, Nat.reduceEqDiff, reduceIte, reduceCtorEq, Nat.reduceAdd, Nat.reduceMul, Nat.reduceMod, Nat.reduceBEq, Nat.reduceBNe, List.reduceReplicate, Int.reduceLE, Int.reduceLT, Int.reduceNe]
        apply hK2; clear hK2
        refine aw_seq_k fun K5 hK5 => aw_region okG0 ?_; simp only [push_cast, Nat.reduceLT, Nat.reduceLeDiff, Nat.reduceEqDiff, reduceIte, reduceCtorEq, Nat.reduceAdd, Nat.reduceMul, Nat.reduceMod, Nat.reduceBEq, Nat.reduceBNe, List.reduceReplicate, Int.reduceLE, Int.reduceLT, Int.reduceNe]
        refine call_pure (hr) (fits_of rfl) (by decide) rfl (by simp [idsV, idsVs]) ?_; simp only [push_cast, Nat.reduceLT, Nat.reduceLeDiff, Nat.reduceEqDiff, reduceIte, reduceCtorEq, Nat.reduceAdd, Nat.reduceMul, Nat.reduceMod, Nat.reduceBEq, Nat.reduceBNe, List.reduceReplicate, Int.reduceLE, Int.reduceLT, Int.reduceNe]
        apply hK5; clear hK5
        exact aw_ret (ret_o [(1700, 0), (1701, 1)] rfl rfl (by simp [renN]) rfl)
  · have ho : outF r c s p b = none := by unfold outF; rw [if_neg hv]
    rw [ho]
    have hno : (vf r c p b && two s) = false := by
      cases h : (vf r c p b && two s)
      · rfl
      · simp only [Bool.and_eq_true] at h; exact absurd h hv
    refine AF_body okG0 Try.func49 rfl rfl (by simp [Try.ntmps49]) (by simp) ?_; simp only [Try.ntmps49]
    refine aw_seq_k fun K1 hK1 => aw_region okG0 ?_; simp only [push_cast, Nat.reduceLT, Nat.reduceLeDiff, Nat.reduceEqDiff, reduceIte, reduceCtorEq, Nat.reduceAdd, Nat.reduceMul, Nat.reduceMod, Nat.reduceBEq, Nat.reduceBNe, List.reduceReplicate, Int.reduceLE, Int.reduceLT, Int.reduceNe]
    apply hK1; clear hK1
    refine aw_seq_k fun K2 hK2 => ?_
    refine aw_seq_k fun K3 hK3 => aw_region okG0 ?_; simp only [push_cast, Nat.reduceLT, Nat.reduceLeDiff, Nat.reduceEqDiff, reduceIte, reduceCtorEq, Nat.reduceAdd, Nat.reduceMul, Nat.reduceMod, Nat.reduceBEq, Nat.reduceBNe, List.reduceReplicate, Int.reduceLE, Int.reduceLT, Int.reduceNe]
    refine call_pure (ValidFlow_spec r c p b hp) (fits_of rfl) (by decide) rfl (by simp [idsV, idsVs]) ?_; simp only [push_cast, Nat.reduceLT, Nat.reduceLeDiff, Nat.reduceEqDiff, reduceIte, reduceCtorEq, Nat.reduceAdd, Nat.reduceMul, Nat.reduceMod, Nat.reduceBEq, Nat.reduceBNe, List.reduceReplicate, Int.reduceLE, Int.reduceLT, Int.reduceNe]
    refine gcall_pure (fun _ => isCalming_spec s) (fun _ => fits_of rfl) (by decide) rfl rfl ?_; simp only [push_cast, Nat.reduceLT, Nat.reduceLeDiff, Nat.reduceEqDiff, reduceIte, reduceCtorEq, Nat.reduceAdd, Nat.reduceMul, Nat.reduceMod, Nat.reduceBEq, Nat.reduceBNe, List.reduceReplicate, Int.reduceLE, Int.reduceLT, Int.reduceNe]
    apply hK3; clear hK3
    refine aw_cond rfl (fun hc => ?_) (fun hc => ?_)
    · refine aw_seq_k fun K4 hK4 => aw_region okG0 ?_; simp only [push_cast, Nat.reduceLT, Nat.reduceLeDiff, Nat.reduceEqDiff, reduceIte, reduceCtorEq, Nat.reduceAdd, Nat.reduceMul, Nat.reduceMod, Nat.reduceBEq, Nat.reduceBNe, List.reduceReplicate, Int.reduceLE, Int.reduceLT, Int.reduceNe]
      apply hK4; clear hK4
      exact aw_ret (ret_p rfl rfl rfl (by simp))
    · exact absurd hc (by
        cases h1 : vf r c p b
        · simp
        · rw [h1] at hno
          simp only [Bool.true_and] at hno
          simp [hno])
theorem eqNo_spec : AFp Try.prog 50 [noFlow, noFlow] (Bo true) :=
  AFp_fits (b := [.agg [I 0, I 0, Fs [], Bs []], .agg [I 0, I 0, Fs [], Bs []]]) (by simp [fitsVs, fitsV, isNilA]) (eqFlow_spec 0 0 [] [] (by simp) (by simp))
theorem outF_len {r c : Int} {s : Nat} {p R : List Nat} {b : List Bool} (h : outF r c s p b = some R) : R.length = 9 * b.length ∧ b.length ≤ 256 := by
  unfold outF at h
  split at h
  · rename_i hv
    obtain ⟨_, _, _, _, h5⟩ := vf_of hv.1
    unfold relaxF at h
    split at h
    · simp only [Option.some.injEq] at h
      subst h
      exact ⟨rTo_len, h5⟩
    · cases h
  · cases h
set_option maxHeartbeats 4000000 in
theorem lawRelax_spec (r c : Int) (s : Nat) (p : List Nat) (b : List Bool) (hp : p.length ≤ 9223372036854775807) (hb : b.length ≤ 9223372036854775807) : AFp Try.prog 6 [.agg [I r, I c, Fs p, Bs b], F s] (Bo true) := by
  by_cases hlt : szL p b 1048576 < 0
  · refine AF_body okG0 Try.func6 rfl rfl (by simp [Try.ntmps6]) (by simp) ?_; simp only [Try.ntmps6]
    refine aw_seq_k fun K1 hK1 => aw_region okG0 ?_; simp only [push_cast, Nat.reduceLT, Nat.reduceLeDiff, Nat.reduceEqDiff, reduceIte, reduceCtorEq, Nat.reduceAdd, Nat.reduceMul, Nat.reduceMod, Nat.reduceBEq, Nat.reduceBNe, List.reduceReplicate, Int.reduceLE, Int.reduceLT, Int.reduceNe]
    apply hK1; clear hK1
    refine aw_seq_k fun K2 hK2 => aw_region okG0 ?_; simp only [push_cast, Nat.reduceLT, Nat.reduceLeDiff, Nat.reduceEqDiff, reduceIte, reduceCtorEq, Nat.reduceAdd, Nat.reduceMul, Nat.reduceMod, Nat.reduceBEq, Nat.reduceBNe, List.reduceReplicate, Int.reduceLE, Int.reduceLT, Int.reduceNe]
    apply hK2; clear hK2
    refine aw_seq_k fun K3 hK3 => aw_region okG0 ?_; simp only [push_cast, Nat.reduceLT, Nat.reduceLeDiff, Nat.reduceEqDiff, reduceIte, reduceCtorEq, Nat.reduceAdd, Nat.reduceMul, Nat.reduceMod, Nat.reduceBEq, Nat.reduceBNe, List.reduceReplicate, Int.reduceLE, Int.reduceLT, Int.reduceNe]
    refine call_pure (szFlow_spec r c p b 1048576 (by omega) (by omega) (by omega) (by omega)) (fits_of rfl) (by decide) rfl (by simp [idsV, idsVs]) ?_; simp only [push_cast, Nat.reduceLT, Nat.reduceLeDiff, Nat.reduceEqDiff, reduceIte, reduceCtorEq, Nat.reduceAdd, Nat.reduceMul, Nat.reduceMod, Nat.reduceBEq, Nat.reduceBNe, List.reduceReplicate, Int.reduceLE, Int.reduceLT, Int.reduceNe]
    apply hK3; clear hK3
    refine aw_seq_k fun K4 hK4 => ?_
    refine aw_seq_k fun K5 hK5 => aw_region okG0 ?_; simp only [push_cast, Nat.reduceLT, Nat.reduceLeDiff, Nat.reduceEqDiff, reduceIte, reduceCtorEq, Nat.reduceAdd, Nat.reduceMul, Nat.reduceMod, Nat.reduceBEq, Nat.reduceBNe, List.reduceReplicate, Int.reduceLE, Int.reduceLT, Int.reduceNe]
    apply hK5; clear hK5
    refine aw_cond rfl (fun hc => ?_) (fun hc => ?_)
    · refine aw_seq_k fun K6 hK6 => aw_region okG0 ?_; simp only [push_cast, Nat.reduceLT, Nat.reduceLeDiff, Nat.reduceEqDiff, reduceIte, reduceCtorEq, Nat.reduceAdd, Nat.reduceMul, Nat.reduceMod, Nat.reduceBEq, Nat.reduceBNe, List.reduceReplicate, Int.reduceLE, Int.reduceLT, Int.reduceNe]
      apply hK6; clear hK6
      exact aw_ret (ret_p rfl rfl rfl (by simp))
    · exact absurd hlt (by simpa using hc)
  · have hpb : p.length + b.length ≤ 1048576 := by
      unfold szL at hlt
      split at hlt
      · omega
      · split at hlt
        · omega
        · omega
    obtain ⟨z, hsz⟩ : ∃ z, szL p b 1048576 = z := ⟨_, rfl⟩
    rw [hsz] at hlt
    have h47 := rf47_spec r c s p b (by omega)
    have h49 := rf49_spec r c s p b (by omega)
    cases hR : outF r c s p b with
    | none =>
      rw [hR] at h47 h49; simp only [resF] at h47 h49
      refine AF_body okG0 Try.func6 rfl rfl (by simp [Try.ntmps6]) (by simp) ?_; simp only [Try.ntmps6]
      refine aw_seq_k fun K1 hK1 => aw_region okG0 ?_; simp only [push_cast, Nat.reduceLT, Nat.reduceLeDiff, Nat.reduceEqDiff, reduceIte, reduceCtorEq, Nat.reduceAdd, Nat.reduceMul, Nat.reduceMod, Nat.reduceBEq, Nat.reduceBNe, List.reduceReplicate, Int.reduceLE, Int.reduceLT, Int.reduceNe]
      apply hK1; clear hK1
      refine aw_seq_k fun K2 hK2 => aw_region okG0 ?_; simp only [push_cast, Nat.reduceLT, Nat.reduceLeDiff, Nat.reduceEqDiff, reduceIte, reduceCtorEq, Nat.reduceAdd, Nat.reduceMul, Nat.reduceMod, Nat.reduceBEq, Nat.reduceBNe, List.reduceReplicate, Int.reduceLE, Int.reduceLT, Int.reduceNe]
      apply hK2; clear hK2
      refine aw_seq_k fun K3 hK3 => aw_region okG0 ?_; simp only [push_cast, Nat.reduceLT, Nat.reduceLeDiff, Nat.reduceEqDiff, reduceIte, reduceCtorEq, Nat.reduceAdd, Nat.reduceMul, Nat.reduceMod, Nat.reduceBEq, Nat.reduceBNe, List.reduceReplicate, Int.reduceLE, Int.reduceLT, Int.reduceNe]
      refine call_pure (szFlow_spec r c p b 1048576 (by omega) (by omega) (by omega) (by omega)) (fits_of rfl) (by decide) rfl (by simp [idsV, idsVs]) ?_; simp only [push_cast, Nat.reduceLT, Nat.reduceLeDiff, Nat.reduceEqDiff, reduceIte, reduceCtorEq, Nat.reduceAdd, Nat.reduceMul, Nat.reduceMod, Nat.reduceBEq, Nat.reduceBNe, List.reduceReplicate, Int.reduceLE, Int.reduceLT, Int.reduceNe]
      apply hK3; clear hK3
      refine aw_seq_k fun K4 hK4 => ?_
      refine aw_seq_k fun K5 hK5 => aw_region okG0 ?_; simp only [push_cast, Nat.reduceLT, Nat.reduceLeDiff, Nat.reduceEqDiff, reduceIte, reduceCtorEq, Nat.reduceAdd, Nat.reduceMul, Nat.reduceMod, Nat.reduceBEq, Nat.reduceBNe, List.reduceReplicate, Int.reduceLE, Int.reduceLT, Int.reduceNe]
      apply hK5; clear hK5
      rw [hsz]
      refine aw_cond rfl (fun hc => ?_) (fun hc => ?_)
      · exact absurd (by simpa using hc) hlt
      · refine aw_skip ?_
        simp only [push_cast, Nat.reduceLT, Nat.reduceLeDiff, Nat.reduceEqDiff, reduceIte, reduceCtorEq, Nat.reduceAdd, Nat.reduceMul, Nat.reduceMod, Nat.reduceBEq, Nat.reduceBNe, List.reduceReplicate, Int.reduceLE, Int.reduceLT, Int.reduceNe]
        apply hK4; clear hK4
        refine aw_seq_k fun K7 hK7 => aw_region okG0 ?_; simp only [push_cast, Nat.reduceLT, Nat.reduceLeDiff, Nat.reduceEqDiff, reduceIte, reduceCtorEq, Nat.reduceAdd, Nat.reduceMul, Nat.reduceMod, Nat.reduceBEq, Nat.reduceBNe, List.reduceReplicate, Int.reduceLE, Int.reduceLT, Int.reduceNe]
        refine call_pure (toFlow_spec r c p b (by omega) (by omega)) (fits_of rfl) (by decide) rfl (by simp [idsV, idsVs]) ?_; simp only [push_cast, Nat.reduceLT, Nat.reduceLeDiff, Nat.reduceEqDiff, reduceIte, reduceCtorEq, Nat.reduceAdd, Nat.reduceMul, Nat.reduceMod, Nat.reduceBEq, Nat.reduceBNe, List.reduceReplicate, Int.reduceLE, Int.reduceLT, Int.reduceNe]
        refine call_pure (h47) (fits_of rfl) (by decide) rfl (by simp [idsV, idsVs]) ?_; simp only [push_cast, Nat.reduceLT, Nat.reduceLeDiff, Nat.reduceEqDiff, reduceIte, reduceCtorEq, Nat.reduceAdd, Nat.reduceMul, Nat.reduceMod, Nat.reduceBEq, Nat.reduceBNe, List.reduceReplicate, Int.reduceLE, Int.reduceLT, Int.reduceNe]
        apply hK7; clear hK7
        refine aw_seq_k fun K8 hK8 => aw_region okG0 ?_; simp only [push_cast, Nat.reduceLT, Nat.reduceLeDiff, Nat.reduceEqDiff, reduceIte, reduceCtorEq, Nat.reduceAdd, Nat.reduceMul, Nat.reduceMod, Nat.reduceBEq, Nat.reduceBNe, List.reduceReplicate, Int.reduceLE, Int.reduceLT, Int.reduceNe]
        refine call_pure (toFlow_spec r c p b (by omega) (by omega)) (fits_of rfl) (by decide) rfl (by simp [idsV, idsVs]) ?_; simp only [push_cast, Nat.reduceLT, Nat.reduceLeDiff, Nat.reduceEqDiff, reduceIte, reduceCtorEq, Nat.reduceAdd, Nat.reduceMul, Nat.reduceMod, Nat.reduceBEq, Nat.reduceBNe, List.reduceReplicate, Int.reduceLE, Int.reduceLT, Int.reduceNe]
        apply hK8; clear hK8
        refine aw_seq_k fun K9 hK9 => aw_region okG0 ?_; simp only [push_cast, Nat.reduceLT, Nat.reduceLeDiff, Nat.reduceEqDiff, reduceIte, reduceCtorEq, Nat.reduceAdd, Nat.reduceMul, Nat.reduceMod, Nat.reduceBEq, Nat.reduceBNe, List.reduceReplicate, Int.reduceLE, Int.reduceLT, Int.reduceNe]
        refine call_pure (h49) (fits_of rfl) (by decide) rfl (by simp [idsV, idsVs]) ?_; simp only [push_cast, Nat.reduceLT, Nat.reduceLeDiff, Nat.reduceEqDiff, reduceIte, reduceCtorEq, Nat.reduceAdd, Nat.reduceMul, Nat.reduceMod, Nat.reduceBEq, Nat.reduceBNe, List.reduceReplicate, Int.reduceLE, Int.reduceLT, Int.reduceNe]
        apply hK9; clear hK9
        refine aw_seq_k fun K10 hK10 => ?_
        refine aw_seq_k fun K11 hK11 => aw_region okG0 ?_; simp only [push_cast, Nat.reduceLT, Nat.reduceLeDiff, Nat.reduceEqDiff, reduceIte, reduceCtorEq, Nat.reduceAdd, Nat.reduceMul, Nat.reduceMod, Nat.reduceBEq, Nat.reduceBNe, List.reduceReplicate, Int.reduceLE, Int.reduceLT, Int.reduceNe]
        refine call_pure (eqNo_spec) (fits_of rfl) (by decide) rfl (by simp [idsV, idsVs]) ?_; simp only [push_cast, Nat.reduceLT, Nat.reduceLeDiff, Nat.reduceEqDiff, reduceIte, reduceCtorEq, Nat.reduceAdd, Nat.reduceMul, Nat.reduceMod, Nat.reduceBEq, Nat.reduceBNe, List.reduceReplicate, Int.reduceLE, Int.reduceLT, Int.reduceNe]
        apply hK11; clear hK11
        refine aw_cond rfl (fun hc => ?_) (fun hc => ?_)
        · simp at hc
        · refine aw_skip ?_
          simp only [push_cast, Nat.reduceLT, Nat.reduceLeDiff, Nat.reduceEqDiff, reduceIte, reduceCtorEq, Nat.reduceAdd, Nat.reduceMul, Nat.reduceMod, Nat.reduceBEq, Nat.reduceBNe, List.reduceReplicate, Int.reduceLE, Int.reduceLT, Int.reduceNe]
          apply hK10; clear hK10
          refine aw_seq_k fun K13 hK13 => ?_
          refine aw_seq_k fun K14 hK14 => aw_draw fol okG0 3 (by kernel_rfl) ?_; simp only [push_cast, Nat.reduceLT, Nat.reduceLeDiff, Nat.reduceEqDiff, reduceIte, reduceCtorEq, Nat.reduceAdd, Nat.reduceMul, Nat.reduceMod, Nat.reduceBEq, Nat.reduceBNe, List.reduceReplicate, Int.reduceLE, Int.reduceLT, Int.reduceNe]
          refine ⟨_, _, toFlow_spec r c p b (by omega) (by omega), .inl ⟨fits_of rfl, rfl⟩, ?_⟩; simp only [push_cast, Nat.reduceLT, Nat.reduceLeDiff, Nat.reduceEqDiff, reduceIte, reduceCtorEq, Nat.reduceAdd, Nat.reduceMul, Nat.reduceMod, Nat.reduceBEq, Nat.reduceBNe, List.reduceReplicate, Int.reduceLE, Int.reduceLT, Int.reduceNe]
          refine call_pure (eqFlow_spec r c p b (by omega) (by omega)) (fits_of rfl) (by decide) rfl (by simp [idsV, idsVs]) ?_; simp only [push_cast, Nat.reduceLT, Nat.reduceLeDiff, Nat.reduceEqDiff, reduceIte, reduceCtorEq, Nat.reduceAdd, Nat.reduceMul, Nat.reduceMod, Nat.reduceBEq, Nat.reduceBNe, List.reduceReplicate, Int.reduceLE, Int.reduceLT, Int.reduceNe]
          apply hK14; clear hK14
          refine aw_cond rfl (fun hc => ?_) (fun hc => ?_)
          · simp at hc
          · refine aw_skip ?_
            simp only [push_cast, Nat.reduceLT, Nat.reduceLeDiff, Nat.reduceEqDiff, reduceIte, reduceCtorEq, Nat.reduceAdd, Nat.reduceMul, Nat.reduceMod, Nat.reduceBEq, Nat.reduceBNe, List.reduceReplicate, Int.reduceLE, Int.reduceLT, Int.reduceNe]
            apply hK13; clear hK13
            refine aw_seq_k fun K16 hK16 => aw_region okG0 ?_; simp only [push_cast, Nat.reduceLT, Nat.reduceLeDiff, Nat.reduceEqDiff, reduceIte, reduceCtorEq, Nat.reduceAdd, Nat.reduceMul, Nat.reduceMod, Nat.reduceBEq, Nat.reduceBNe, List.reduceReplicate, Int.reduceLE, Int.reduceLT, Int.reduceNe]
            apply hK16; clear hK16
            refine aw_seq_k fun K17 hK17 => aw_region okG0 ?_; simp only [push_cast, Nat.reduceLT, Nat.reduceLeDiff, Nat.reduceEqDiff, reduceIte, reduceCtorEq, Nat.reduceAdd, Nat.reduceMul, Nat.reduceMod, Nat.reduceBEq, Nat.reduceBNe, List.reduceReplicate, Int.reduceLE, Int.reduceLT, Int.reduceNe]
            refine call_io false [(2900, 98), (2901, 198)] (markFlow_spec r c p b 1 (by omega) (by omega) (by omega)) rfl (fits_of rfl) (by decide) (by decide) rfl (by simp [ioOK, getB, back, borVs, borV, kee, inSnd, fitsVs, fitsV]) rfl (by simp [newIds, idsV, idsVs, inSnd, dstN]) (by rfl) (by rfl) rfl (.inl rfl) ?_; simp only [push_cast, Nat.reduceLT, Nat.reduceLeDiff, Nat.reduceEqDiff, reduceIte, reduceCtorEq, Nat.reduceAdd, Nat.reduceMul, Nat.reduceMod, Nat.reduceBEq, Nat.reduceBNe, List.reduceReplicate, Int.reduceLE, Int.reduceLT, Int.reduceNe]
            simp only [mkF_len, mkB_len, if_true]
            apply hK17; clear hK17
            refine aw_seq_k fun K18 hK18 => ?_
            refine aw_seq_k fun K19 hK19 => aw_region okG0 ?_; simp only [push_cast, Nat.reduceLT, Nat.reduceLeDiff, Nat.reduceEqDiff, reduceIte, reduceCtorEq, Nat.reduceAdd, Nat.reduceMul, Nat.reduceMod, Nat.reduceBEq, Nat.reduceBNe, List.reduceReplicate, Int.reduceLE, Int.reduceLT, Int.reduceNe]
            refine gcall_pure (fun _ => eqNo_spec) (fun _ => fits_of rfl) (by decide) rfl rfl ?_; simp only [push_cast, Nat.reduceLT, Nat.reduceLeDiff, Nat.reduceEqDiff, reduceIte, reduceCtorEq, Nat.reduceAdd, Nat.reduceMul, Nat.reduceMod, Nat.reduceBEq, Nat.reduceBNe, List.reduceReplicate, Int.reduceLE, Int.reduceLT, Int.reduceNe]
            apply hK19; clear hK19
            refine aw_cond rfl (fun hc => ?_) (fun hc => ?_)
            · simp at hc <;> omega
            · refine aw_skip ?_
              simp only [push_cast, Nat.reduceLT, Nat.reduceLeDiff, Nat.reduceEqDiff, reduceIte, reduceCtorEq, Nat.reduceAdd, Nat.reduceMul, Nat.reduceMod, Nat.reduceBEq, Nat.reduceBNe, List.reduceReplicate, Int.reduceLE, Int.reduceLT, Int.reduceNe]
              apply hK18; clear hK18
              refine aw_seq_k fun K21 hK21 => aw_region okG0 ?_; simp only [push_cast, Nat.reduceLT, Nat.reduceLeDiff, Nat.reduceEqDiff, reduceIte, reduceCtorEq, Nat.reduceAdd, Nat.reduceMul, Nat.reduceMod, Nat.reduceBEq, Nat.reduceBNe, List.reduceReplicate, Int.reduceLE, Int.reduceLT, Int.reduceNe]
              apply hK21; clear hK21
              refine aw_seq_k fun K22 hK22 => aw_region okG0 ?_; simp only [push_cast, Nat.reduceLT, Nat.reduceLeDiff, Nat.reduceEqDiff, reduceIte, reduceCtorEq, Nat.reduceAdd, Nat.reduceMul, Nat.reduceMod, Nat.reduceBEq, Nat.reduceBNe, List.reduceReplicate, Int.reduceLE, Int.reduceLT, Int.reduceNe]
              refine call_pure (markNoFlow_spec 1) (fits_of rfl) (by decide) rfl (by simp [idsV, idsVs]) ?_; simp only [push_cast, Nat.reduceLT, Nat.reduceLeDiff, Nat.reduceEqDiff, reduceIte, reduceCtorEq, Nat.reduceAdd, Nat.reduceMul, Nat.reduceMod, Nat.reduceBEq, Nat.reduceBNe, List.reduceReplicate, Int.reduceLE, Int.reduceLT, Int.reduceNe]
              apply hK22; clear hK22
              refine aw_seq_k fun K23 hK23 => aw_region okG0 ?_; simp only [push_cast, Nat.reduceLT, Nat.reduceLeDiff, Nat.reduceEqDiff, reduceIte, reduceCtorEq, Nat.reduceAdd, Nat.reduceMul, Nat.reduceMod, Nat.reduceBEq, Nat.reduceBNe, List.reduceReplicate, Int.reduceLE, Int.reduceLT, Int.reduceNe]
              apply hK23; clear hK23
              refine aw_seq_k fun K24 hK24 => aw_region okG0 ?_; simp only [push_cast, Nat.reduceLT, Nat.reduceLeDiff, Nat.reduceEqDiff, reduceIte, reduceCtorEq, Nat.reduceAdd, Nat.reduceMul, Nat.reduceMod, Nat.reduceBEq, Nat.reduceBNe, List.reduceReplicate, Int.reduceLE, Int.reduceLT, Int.reduceNe]
              refine call_pure (heldNoFlow_spec 1 (by omega)) (fits_of rfl) (by decide) rfl (by simp [idsV, idsVs]) ?_; simp only [push_cast, Nat.reduceLT, Nat.reduceLeDiff, Nat.reduceEqDiff, reduceIte, reduceCtorEq, Nat.reduceAdd, Nat.reduceMul, Nat.reduceMod, Nat.reduceBEq, Nat.reduceBNe, List.reduceReplicate, Int.reduceLE, Int.reduceLT, Int.reduceNe]
              apply hK24; clear hK24
              refine aw_seq_k fun K25 hK25 => ?_
              refine aw_seq_k fun K26 hK26 => aw_region okG0 ?_; simp only [push_cast, Nat.reduceLT, Nat.reduceLeDiff, Nat.reduceEqDiff, reduceIte, reduceCtorEq, Nat.reduceAdd, Nat.reduceMul, Nat.reduceMod, Nat.reduceBEq, Nat.reduceBNe, List.reduceReplicate, Int.reduceLE, Int.reduceLT, Int.reduceNe]
              apply hK26; clear hK26
              refine aw_cond rfl (fun hc => ?_) (fun hc => ?_)
              · simp at hc <;> omega
              · refine aw_skip ?_
                simp only [push_cast, Nat.reduceLT, Nat.reduceLeDiff, Nat.reduceEqDiff, reduceIte, reduceCtorEq, Nat.reduceAdd, Nat.reduceMul, Nat.reduceMod, Nat.reduceBEq, Nat.reduceBNe, List.reduceReplicate, Int.reduceLE, Int.reduceLT, Int.reduceNe]
                apply hK25; clear hK25
                refine aw_seq_k fun K28 hK28 => ?_
                refine aw_seq_k fun K29 hK29 => aw_region okG0 ?_; simp only [push_cast, Nat.reduceLT, Nat.reduceLeDiff, Nat.reduceEqDiff, reduceIte, reduceCtorEq, Nat.reduceAdd, Nat.reduceMul, Nat.reduceMod, Nat.reduceBEq, Nat.reduceBNe, List.reduceReplicate, Int.reduceLE, Int.reduceLT, Int.reduceNe]
                apply hK29; clear hK29
                refine aw_cond rfl (fun hc => ?_) (fun hc => ?_)
                · simp at hc
                · refine aw_skip ?_
                  simp only [push_cast, Nat.reduceLT, Nat.reduceLeDiff, Nat.reduceEqDiff, reduceIte, reduceCtorEq, Nat.reduceAdd, Nat.reduceMul, Nat.reduceMod, Nat.reduceBEq, Nat.reduceBNe, List.reduceReplicate, Int.reduceLE, Int.reduceLT, Int.reduceNe]
                  apply hK28; clear hK28
                  refine aw_seq_k fun K31 hK31 => aw_region okG0 ?_; simp only [push_cast, Nat.reduceLT, Nat.reduceLeDiff, Nat.reduceEqDiff, reduceIte, reduceCtorEq, Nat.reduceAdd, Nat.reduceMul, Nat.reduceMod, Nat.reduceBEq, Nat.reduceBNe, List.reduceReplicate, Int.reduceLE, Int.reduceLT, Int.reduceNe]
                  refine call_pure (toFlow_spec r c p b (by omega) (by omega)) (fits_of rfl) (by decide) rfl (by simp [idsV, idsVs]) ?_; simp only [push_cast, Nat.reduceLT, Nat.reduceLeDiff, Nat.reduceEqDiff, reduceIte, reduceCtorEq, Nat.reduceAdd, Nat.reduceMul, Nat.reduceMod, Nat.reduceBEq, Nat.reduceBNe, List.reduceReplicate, Int.reduceLE, Int.reduceLT, Int.reduceNe]
                  refine call_pure (h49) (fits_of rfl) (by decide) rfl (by simp [idsV, idsVs]) ?_; simp only [push_cast, Nat.reduceLT, Nat.reduceLeDiff, Nat.reduceEqDiff, reduceIte, reduceCtorEq, Nat.reduceAdd, Nat.reduceMul, Nat.reduceMod, Nat.reduceBEq, Nat.reduceBNe, List.reduceReplicate, Int.reduceLE, Int.reduceLT, Int.reduceNe]
                  apply hK31; clear hK31
                  refine aw_seq_k fun K32 hK32 => ?_
                  refine aw_seq_k fun K33 hK33 => aw_region okG0 ?_; simp only [push_cast, Nat.reduceLT, Nat.reduceLeDiff, Nat.reduceEqDiff, reduceIte, reduceCtorEq, Nat.reduceAdd, Nat.reduceMul, Nat.reduceMod, Nat.reduceBEq, Nat.reduceBNe, List.reduceReplicate, Int.reduceLE, Int.reduceLT, Int.reduceNe]
                  refine call_pure (eqNo_spec) (fits_of rfl) (by decide) rfl (by simp [idsV, idsVs]) ?_; simp only [push_cast, Nat.reduceLT, Nat.reduceLeDiff, Nat.reduceEqDiff, reduceIte, reduceCtorEq, Nat.reduceAdd, Nat.reduceMul, Nat.reduceMod, Nat.reduceBEq, Nat.reduceBNe, List.reduceReplicate, Int.reduceLE, Int.reduceLT, Int.reduceNe]
                  apply hK33; clear hK33
                  refine aw_cond rfl (fun hc => ?_) (fun hc => ?_)
                  · simp at hc
                  · refine aw_skip ?_
                    simp only [push_cast, Nat.reduceLT, Nat.reduceLeDiff, Nat.reduceEqDiff, reduceIte, reduceCtorEq, Nat.reduceAdd, Nat.reduceMul, Nat.reduceMod, Nat.reduceBEq, Nat.reduceBNe, List.reduceReplicate, Int.reduceLE, Int.reduceLT, Int.reduceNe]
                    apply hK32; clear hK32
                    refine aw_seq_k fun K35 hK35 => aw_region okG0 ?_; simp only [push_cast, Nat.reduceLT, Nat.reduceLeDiff, Nat.reduceEqDiff, reduceIte, reduceCtorEq, Nat.reduceAdd, Nat.reduceMul, Nat.reduceMod, Nat.reduceBEq, Nat.reduceBNe, List.reduceReplicate, Int.reduceLE, Int.reduceLT, Int.reduceNe]
                    apply hK35; clear hK35
                    refine aw_seq_k fun K36 hK36 => aw_region okG0 ?_; simp only [push_cast, Nat.reduceLT, Nat.reduceLeDiff, Nat.reduceEqDiff, reduceIte, reduceCtorEq, Nat.reduceAdd, Nat.reduceMul, Nat.reduceMod, Nat.reduceBEq, Nat.reduceBNe, List.reduceReplicate, Int.reduceLE, Int.reduceLT, Int.reduceNe]
                    refine call_pure (heldNoFlow_spec 1 (by omega)) (fits_of rfl) (by decide) rfl (by simp [idsV, idsVs]) ?_; simp only [push_cast, Nat.reduceLT, Nat.reduceLeDiff, Nat.reduceEqDiff, reduceIte, reduceCtorEq, Nat.reduceAdd, Nat.reduceMul, Nat.reduceMod, Nat.reduceBEq, Nat.reduceBNe, List.reduceReplicate, Int.reduceLE, Int.reduceLT, Int.reduceNe]
                    apply hK36; clear hK36
                    refine aw_seq_k fun K37 hK37 => ?_
                    refine aw_seq_k fun K38 hK38 => aw_region okG0 ?_; simp only [push_cast, Nat.reduceLT, Nat.reduceLeDiff, Nat.reduceEqDiff, reduceIte, reduceCtorEq, Nat.reduceAdd, Nat.reduceMul, Nat.reduceMod, Nat.reduceBEq, Nat.reduceBNe, List.reduceReplicate, Int.reduceLE, Int.reduceLT, Int.reduceNe]
                    apply hK38; clear hK38
                    refine aw_cond rfl (fun hc => ?_) (fun hc => ?_)
                    · simp at hc <;> omega
                    · refine aw_skip ?_
                      simp only [push_cast, Nat.reduceLT, Nat.reduceLeDiff, Nat.reduceEqDiff, reduceIte, reduceCtorEq, Nat.reduceAdd, Nat.reduceMul, Nat.reduceMod, Nat.reduceBEq, Nat.reduceBNe, List.reduceReplicate, Int.reduceLE, Int.reduceLT, Int.reduceNe]
                      apply hK37; clear hK37
                      refine aw_seq_k fun K40 hK40 => ?_
                      refine aw_seq_k fun K41 hK41 => aw_region okG0 ?_; simp only [push_cast, Nat.reduceLT, Nat.reduceLeDiff, Nat.reduceEqDiff, reduceIte, reduceCtorEq, Nat.reduceAdd, Nat.reduceMul, Nat.reduceMod, Nat.reduceBEq, Nat.reduceBNe, List.reduceReplicate, Int.reduceLE, Int.reduceLT, Int.reduceNe]
                      apply hK41; clear hK41
                      refine aw_cond rfl (fun hc => ?_) (fun hc => ?_)
                      · simp at hc
                      · refine aw_skip ?_
                        simp only [push_cast, Nat.reduceLT, Nat.reduceLeDiff, Nat.reduceEqDiff, reduceIte, reduceCtorEq, Nat.reduceAdd, Nat.reduceMul, Nat.reduceMod, Nat.reduceBEq, Nat.reduceBNe, List.reduceReplicate, Int.reduceLE, Int.reduceLT, Int.reduceNe]
                        apply hK40; clear hK40
                        refine aw_seq_k fun K43 hK43 => aw_region okG0 ?_; simp only [push_cast, Nat.reduceLT, Nat.reduceLeDiff, Nat.reduceEqDiff, reduceIte, reduceCtorEq, Nat.reduceAdd, Nat.reduceMul, Nat.reduceMod, Nat.reduceBEq, Nat.reduceBNe, List.reduceReplicate, Int.reduceLE, Int.reduceLT, Int.reduceNe]
                        apply hK43; clear hK43
                        exact aw_ret (ret_p rfl rfl rfl (by simp))
    | some R =>
      rw [hR] at h47 h49; simp only [resF] at h47 h49
      obtain ⟨hR1, hR2⟩ := outF_len hR
      refine AF_body okG0 Try.func6 rfl rfl (by simp [Try.ntmps6]) (by simp) ?_; simp only [Try.ntmps6]
      refine aw_seq_k fun K1 hK1 => aw_region okG0 ?_; simp only [push_cast, Nat.reduceLT, Nat.reduceLeDiff, Nat.reduceEqDiff, reduceIte, reduceCtorEq, Nat.reduceAdd, Nat.reduceMul, Nat.reduceMod, Nat.reduceBEq, Nat.reduceBNe, List.reduceReplicate, Int.reduceLE, Int.reduceLT, Int.reduceNe]
      apply hK1; clear hK1
      refine aw_seq_k fun K2 hK2 => aw_region okG0 ?_; simp only [push_cast, Nat.reduceLT, Nat.reduceLeDiff, Nat.reduceEqDiff, reduceIte, reduceCtorEq, Nat.reduceAdd, Nat.reduceMul, Nat.reduceMod, Nat.reduceBEq, Nat.reduceBNe, List.reduceReplicate, Int.reduceLE, Int.reduceLT, Int.reduceNe]
      apply hK2; clear hK2
      refine aw_seq_k fun K3 hK3 => aw_region okG0 ?_; simp only [push_cast, Nat.reduceLT, Nat.reduceLeDiff, Nat.reduceEqDiff, reduceIte, reduceCtorEq, Nat.reduceAdd, Nat.reduceMul, Nat.reduceMod, Nat.reduceBEq, Nat.reduceBNe, List.reduceReplicate, Int.reduceLE, Int.reduceLT, Int.reduceNe]
      refine call_pure (szFlow_spec r c p b 1048576 (by omega) (by omega) (by omega) (by omega)) (fits_of rfl) (by decide) rfl (by simp [idsV, idsVs]) ?_; simp only [push_cast, Nat.reduceLT, Nat.reduceLeDiff, Nat.reduceEqDiff, reduceIte, reduceCtorEq, Nat.reduceAdd, Nat.reduceMul, Nat.reduceMod, Nat.reduceBEq, Nat.reduceBNe, List.reduceReplicate, Int.reduceLE, Int.reduceLT, Int.reduceNe]
      apply hK3; clear hK3
      refine aw_seq_k fun K4 hK4 => ?_
      refine aw_seq_k fun K5 hK5 => aw_region okG0 ?_; simp only [push_cast, Nat.reduceLT, Nat.reduceLeDiff, Nat.reduceEqDiff, reduceIte, reduceCtorEq, Nat.reduceAdd, Nat.reduceMul, Nat.reduceMod, Nat.reduceBEq, Nat.reduceBNe, List.reduceReplicate, Int.reduceLE, Int.reduceLT, Int.reduceNe]
      apply hK5; clear hK5
      rw [hsz]
      refine aw_cond rfl (fun hc => ?_) (fun hc => ?_)
      · exact absurd (by simpa using hc) hlt
      · refine aw_skip ?_
        simp only [push_cast, Nat.reduceLT, Nat.reduceLeDiff, Nat.reduceEqDiff, reduceIte, reduceCtorEq, Nat.reduceAdd, Nat.reduceMul, Nat.reduceMod, Nat.reduceBEq, Nat.reduceBNe, List.reduceReplicate, Int.reduceLE, Int.reduceLT, Int.reduceNe]
        apply hK4; clear hK4
        refine aw_seq_k fun K7 hK7 => aw_region okG0 ?_; simp only [push_cast, Nat.reduceLT, Nat.reduceLeDiff, Nat.reduceEqDiff, reduceIte, reduceCtorEq, Nat.reduceAdd, Nat.reduceMul, Nat.reduceMod, Nat.reduceBEq, Nat.reduceBNe, List.reduceReplicate, Int.reduceLE, Int.reduceLT, Int.reduceNe]
        refine call_pure (toFlow_spec r c p b (by omega) (by omega)) (fits_of rfl) (by decide) rfl (by simp [idsV, idsVs]) ?_; simp only [push_cast, Nat.reduceLT, Nat.reduceLeDiff, Nat.reduceEqDiff, reduceIte, reduceCtorEq, Nat.reduceAdd, Nat.reduceMul, Nat.reduceMod, Nat.reduceBEq, Nat.reduceBNe, List.reduceReplicate, Int.reduceLE, Int.reduceLT, Int.reduceNe]
        refine call_pure (h47) (fits_of rfl) (by decide) rfl (by simp [idsV, idsVs]) ?_; simp only [push_cast, Nat.reduceLT, Nat.reduceLeDiff, Nat.reduceEqDiff, reduceIte, reduceCtorEq, Nat.reduceAdd, Nat.reduceMul, Nat.reduceMod, Nat.reduceBEq, Nat.reduceBNe, List.reduceReplicate, Int.reduceLE, Int.reduceLT, Int.reduceNe]
        apply hK7; clear hK7
        refine aw_seq_k fun K8 hK8 => aw_region okG0 ?_; simp only [push_cast, Nat.reduceLT, Nat.reduceLeDiff, Nat.reduceEqDiff, reduceIte, reduceCtorEq, Nat.reduceAdd, Nat.reduceMul, Nat.reduceMod, Nat.reduceBEq, Nat.reduceBNe, List.reduceReplicate, Int.reduceLE, Int.reduceLT, Int.reduceNe]
        refine call_pure (toFlow_spec r c p b (by omega) (by omega)) (fits_of rfl) (by decide) rfl (by simp [idsV, idsVs]) ?_; simp only [push_cast, Nat.reduceLT, Nat.reduceLeDiff, Nat.reduceEqDiff, reduceIte, reduceCtorEq, Nat.reduceAdd, Nat.reduceMul, Nat.reduceMod, Nat.reduceBEq, Nat.reduceBNe, List.reduceReplicate, Int.reduceLE, Int.reduceLT, Int.reduceNe]
        apply hK8; clear hK8
        refine aw_seq_k fun K9 hK9 => aw_region okG0 ?_; simp only [push_cast, Nat.reduceLT, Nat.reduceLeDiff, Nat.reduceEqDiff, reduceIte, reduceCtorEq, Nat.reduceAdd, Nat.reduceMul, Nat.reduceMod, Nat.reduceBEq, Nat.reduceBNe, List.reduceReplicate, Int.reduceLE, Int.reduceLT, Int.reduceNe]
        refine call_pure (h49) (fits_of rfl) (by decide) rfl (by simp [idsV, idsVs]) ?_; simp only [push_cast, Nat.reduceLT, Nat.reduceLeDiff, Nat.reduceEqDiff, reduceIte, reduceCtorEq, Nat.reduceAdd, Nat.reduceMul, Nat.reduceMod, Nat.reduceBEq, Nat.reduceBNe, List.reduceReplicate, Int.reduceLE, Int.reduceLT, Int.reduceNe]
        apply hK9; clear hK9
        refine aw_seq_k fun K10 hK10 => ?_
        refine aw_seq_k fun K11 hK11 => aw_region okG0 ?_; simp only [push_cast, Nat.reduceLT, Nat.reduceLeDiff, Nat.reduceEqDiff, reduceIte, reduceCtorEq, Nat.reduceAdd, Nat.reduceMul, Nat.reduceMod, Nat.reduceBEq, Nat.reduceBNe, List.reduceReplicate, Int.reduceLE, Int.reduceLT, Int.reduceNe]
        refine call_pure (eqFlow_spec r c R b (by omega) (by omega)) (fits_of rfl) (by decide) rfl (by simp [idsV, idsVs]) ?_; simp only [push_cast, Nat.reduceLT, Nat.reduceLeDiff, Nat.reduceEqDiff, reduceIte, reduceCtorEq, Nat.reduceAdd, Nat.reduceMul, Nat.reduceMod, Nat.reduceBEq, Nat.reduceBNe, List.reduceReplicate, Int.reduceLE, Int.reduceLT, Int.reduceNe]
        apply hK11; clear hK11
        refine aw_cond rfl (fun hc => ?_) (fun hc => ?_)
        · simp at hc
        · refine aw_skip ?_
          simp only [push_cast, Nat.reduceLT, Nat.reduceLeDiff, Nat.reduceEqDiff, reduceIte, reduceCtorEq, Nat.reduceAdd, Nat.reduceMul, Nat.reduceMod, Nat.reduceBEq, Nat.reduceBNe, List.reduceReplicate, Int.reduceLE, Int.reduceLT, Int.reduceNe]
          apply hK10; clear hK10
          refine aw_seq_k fun K13 hK13 => ?_
          refine aw_seq_k fun K14 hK14 => aw_draw fol okG0 3 (by kernel_rfl) ?_; simp only [push_cast, Nat.reduceLT, Nat.reduceLeDiff, Nat.reduceEqDiff, reduceIte, reduceCtorEq, Nat.reduceAdd, Nat.reduceMul, Nat.reduceMod, Nat.reduceBEq, Nat.reduceBNe, List.reduceReplicate, Int.reduceLE, Int.reduceLT, Int.reduceNe]
          refine ⟨_, _, toFlow_spec r c p b (by omega) (by omega), .inl ⟨fits_of rfl, rfl⟩, ?_⟩; simp only [push_cast, Nat.reduceLT, Nat.reduceLeDiff, Nat.reduceEqDiff, reduceIte, reduceCtorEq, Nat.reduceAdd, Nat.reduceMul, Nat.reduceMod, Nat.reduceBEq, Nat.reduceBNe, List.reduceReplicate, Int.reduceLE, Int.reduceLT, Int.reduceNe]
          refine call_pure (eqFlow_spec r c p b (by omega) (by omega)) (fits_of rfl) (by decide) rfl (by simp [idsV, idsVs]) ?_; simp only [push_cast, Nat.reduceLT, Nat.reduceLeDiff, Nat.reduceEqDiff, reduceIte, reduceCtorEq, Nat.reduceAdd, Nat.reduceMul, Nat.reduceMod, Nat.reduceBEq, Nat.reduceBNe, List.reduceReplicate, Int.reduceLE, Int.reduceLT, Int.reduceNe]
          apply hK14; clear hK14
          refine aw_cond rfl (fun hc => ?_) (fun hc => ?_)
          · simp at hc
          · refine aw_skip ?_
            simp only [push_cast, Nat.reduceLT, Nat.reduceLeDiff, Nat.reduceEqDiff, reduceIte, reduceCtorEq, Nat.reduceAdd, Nat.reduceMul, Nat.reduceMod, Nat.reduceBEq, Nat.reduceBNe, List.reduceReplicate, Int.reduceLE, Int.reduceLT, Int.reduceNe]
            apply hK13; clear hK13
            refine aw_seq_k fun K16 hK16 => aw_region okG0 ?_; simp only [push_cast, Nat.reduceLT, Nat.reduceLeDiff, Nat.reduceEqDiff, reduceIte, reduceCtorEq, Nat.reduceAdd, Nat.reduceMul, Nat.reduceMod, Nat.reduceBEq, Nat.reduceBNe, List.reduceReplicate, Int.reduceLE, Int.reduceLT, Int.reduceNe]
            apply hK16; clear hK16
            refine aw_seq_k fun K17 hK17 => aw_region okG0 ?_; simp only [push_cast, Nat.reduceLT, Nat.reduceLeDiff, Nat.reduceEqDiff, reduceIte, reduceCtorEq, Nat.reduceAdd, Nat.reduceMul, Nat.reduceMod, Nat.reduceBEq, Nat.reduceBNe, List.reduceReplicate, Int.reduceLE, Int.reduceLT, Int.reduceNe]
            refine call_io false [(2900, 98), (2901, 198)] (markFlow_spec r c p b 1 (by omega) (by omega) (by omega)) rfl (fits_of rfl) (by decide) (by decide) rfl (by simp [ioOK, getB, back, borVs, borV, kee, inSnd, fitsVs, fitsV]) rfl (by simp [newIds, idsV, idsVs, inSnd, dstN]) (by rfl) (by rfl) rfl (.inl rfl) ?_; simp only [push_cast, Nat.reduceLT, Nat.reduceLeDiff, Nat.reduceEqDiff, reduceIte, reduceCtorEq, Nat.reduceAdd, Nat.reduceMul, Nat.reduceMod, Nat.reduceBEq, Nat.reduceBNe, List.reduceReplicate, Int.reduceLE, Int.reduceLT, Int.reduceNe]
            simp only [mkF_len, mkB_len, if_true]
            apply hK17; clear hK17
            refine aw_seq_k fun K18 hK18 => ?_
            refine aw_seq_k fun K19 hK19 => aw_region okG0 ?_; simp only [push_cast, Nat.reduceLT, Nat.reduceLeDiff, Nat.reduceEqDiff, reduceIte, reduceCtorEq, Nat.reduceAdd, Nat.reduceMul, Nat.reduceMod, Nat.reduceBEq, Nat.reduceBNe, List.reduceReplicate, Int.reduceLE, Int.reduceLT, Int.reduceNe]
            refine gcall_pure (fun _ => eqFlow_spec r c R b (by omega) (by omega)) (fun _ => fits_of rfl) (by decide) rfl rfl ?_; simp only [push_cast, Nat.reduceLT, Nat.reduceLeDiff, Nat.reduceEqDiff, reduceIte, reduceCtorEq, Nat.reduceAdd, Nat.reduceMul, Nat.reduceMod, Nat.reduceBEq, Nat.reduceBNe, List.reduceReplicate, Int.reduceLE, Int.reduceLT, Int.reduceNe]
            apply hK19; clear hK19
            refine aw_cond rfl (fun hc => ?_) (fun hc => ?_)
            · simp at hc <;> omega
            · refine aw_skip ?_
              simp only [push_cast, Nat.reduceLT, Nat.reduceLeDiff, Nat.reduceEqDiff, reduceIte, reduceCtorEq, Nat.reduceAdd, Nat.reduceMul, Nat.reduceMod, Nat.reduceBEq, Nat.reduceBNe, List.reduceReplicate, Int.reduceLE, Int.reduceLT, Int.reduceNe]
              apply hK18; clear hK18
              refine aw_seq_k fun K21 hK21 => aw_region okG0 ?_; simp only [push_cast, Nat.reduceLT, Nat.reduceLeDiff, Nat.reduceEqDiff, reduceIte, reduceCtorEq, Nat.reduceAdd, Nat.reduceMul, Nat.reduceMod, Nat.reduceBEq, Nat.reduceBNe, List.reduceReplicate, Int.reduceLE, Int.reduceLT, Int.reduceNe]
              apply hK21; clear hK21
              refine aw_seq_k fun K22 hK22 => aw_region okG0 ?_; simp only [push_cast, Nat.reduceLT, Nat.reduceLeDiff, Nat.reduceEqDiff, reduceIte, reduceCtorEq, Nat.reduceAdd, Nat.reduceMul, Nat.reduceMod, Nat.reduceBEq, Nat.reduceBNe, List.reduceReplicate, Int.reduceLE, Int.reduceLT, Int.reduceNe]
              refine call_io false [(3300, 98), (3301, 198)] (markFlow_spec r c R b 1 (by omega) (by omega) (by omega)) rfl (fits_of rfl) (by decide) (by decide) rfl (by simp [ioOK, getB, back, borVs, borV, kee, inSnd, fitsVs, fitsV]) rfl (by simp [newIds, idsV, idsVs, inSnd, dstN]) (by rfl) (by rfl) rfl (.inl rfl) ?_; simp only [push_cast, Nat.reduceLT, Nat.reduceLeDiff, Nat.reduceEqDiff, reduceIte, reduceCtorEq, Nat.reduceAdd, Nat.reduceMul, Nat.reduceMod, Nat.reduceBEq, Nat.reduceBNe, List.reduceReplicate, Int.reduceLE, Int.reduceLT, Int.reduceNe]
              simp only [mkF_len, mkB_len, if_true]
              apply hK22; clear hK22
              refine aw_seq_k fun K23 hK23 => aw_region okG0 ?_; simp only [push_cast, Nat.reduceLT, Nat.reduceLeDiff, Nat.reduceEqDiff, reduceIte, reduceCtorEq, Nat.reduceAdd, Nat.reduceMul, Nat.reduceMod, Nat.reduceBEq, Nat.reduceBNe, List.reduceReplicate, Int.reduceLE, Int.reduceLT, Int.reduceNe]
              apply hK23; clear hK23
              refine aw_seq_k fun K24 hK24 => aw_region okG0 ?_; simp only [push_cast, Nat.reduceLT, Nat.reduceLeDiff, Nat.reduceEqDiff, reduceIte, reduceCtorEq, Nat.reduceAdd, Nat.reduceMul, Nat.reduceMod, Nat.reduceBEq, Nat.reduceBNe, List.reduceReplicate, Int.reduceLE, Int.reduceLT, Int.reduceNe]
              refine call_pure (heldFlow_spec r c R.length b.length 1 (by omega) (by omega) (by omega)) (fits_of rfl) (by decide) rfl (by simp [idsV, idsVs]) ?_; simp only [push_cast, Nat.reduceLT, Nat.reduceLeDiff, Nat.reduceEqDiff, reduceIte, reduceCtorEq, Nat.reduceAdd, Nat.reduceMul, Nat.reduceMod, Nat.reduceBEq, Nat.reduceBNe, List.reduceReplicate, Int.reduceLE, Int.reduceLT, Int.reduceNe]
              apply hK24; clear hK24
              refine aw_seq_k fun K25 hK25 => ?_
              refine aw_seq_k fun K26 hK26 => aw_region okG0 ?_; simp only [push_cast, Nat.reduceLT, Nat.reduceLeDiff, Nat.reduceEqDiff, reduceIte, reduceCtorEq, Nat.reduceAdd, Nat.reduceMul, Nat.reduceMod, Nat.reduceBEq, Nat.reduceBNe, List.reduceReplicate, Int.reduceLE, Int.reduceLT, Int.reduceNe]
              apply hK26; clear hK26
              refine aw_cond rfl (fun hc => ?_) (fun hc => ?_)
              · simp at hc <;> omega
              · refine aw_skip ?_
                simp only [push_cast, Nat.reduceLT, Nat.reduceLeDiff, Nat.reduceEqDiff, reduceIte, reduceCtorEq, Nat.reduceAdd, Nat.reduceMul, Nat.reduceMod, Nat.reduceBEq, Nat.reduceBNe, List.reduceReplicate, Int.reduceLE, Int.reduceLT, Int.reduceNe]
                apply hK25; clear hK25
                refine aw_seq_k fun K28 hK28 => ?_
                refine aw_seq_k fun K29 hK29 => aw_region okG0 ?_; simp only [push_cast, Nat.reduceLT, Nat.reduceLeDiff, Nat.reduceEqDiff, reduceIte, reduceCtorEq, Nat.reduceAdd, Nat.reduceMul, Nat.reduceMod, Nat.reduceBEq, Nat.reduceBNe, List.reduceReplicate, Int.reduceLE, Int.reduceLT, Int.reduceNe]
                apply hK29; clear hK29
                refine aw_cond rfl (fun hc => ?_) (fun hc => ?_)
                · simp at hc
                · refine aw_skip ?_
                  simp only [push_cast, Nat.reduceLT, Nat.reduceLeDiff, Nat.reduceEqDiff, reduceIte, reduceCtorEq, Nat.reduceAdd, Nat.reduceMul, Nat.reduceMod, Nat.reduceBEq, Nat.reduceBNe, List.reduceReplicate, Int.reduceLE, Int.reduceLT, Int.reduceNe]
                  apply hK28; clear hK28
                  refine aw_seq_k fun K31 hK31 => aw_region okG0 ?_; simp only [push_cast, Nat.reduceLT, Nat.reduceLeDiff, Nat.reduceEqDiff, reduceIte, reduceCtorEq, Nat.reduceAdd, Nat.reduceMul, Nat.reduceMod, Nat.reduceBEq, Nat.reduceBNe, List.reduceReplicate, Int.reduceLE, Int.reduceLT, Int.reduceNe]
                  refine call_pure (toFlow_spec r c p b (by omega) (by omega)) (fits_of rfl) (by decide) rfl (by simp [idsV, idsVs]) ?_; simp only [push_cast, Nat.reduceLT, Nat.reduceLeDiff, Nat.reduceEqDiff, reduceIte, reduceCtorEq, Nat.reduceAdd, Nat.reduceMul, Nat.reduceMod, Nat.reduceBEq, Nat.reduceBNe, List.reduceReplicate, Int.reduceLE, Int.reduceLT, Int.reduceNe]
                  refine call_pure (h49) (fits_of rfl) (by decide) rfl (by simp [idsV, idsVs]) ?_; simp only [push_cast, Nat.reduceLT, Nat.reduceLeDiff, Nat.reduceEqDiff, reduceIte, reduceCtorEq, Nat.reduceAdd, Nat.reduceMul, Nat.reduceMod, Nat.reduceBEq, Nat.reduceBNe, List.reduceReplicate, Int.reduceLE, Int.reduceLT, Int.reduceNe]
                  apply hK31; clear hK31
                  refine aw_seq_k fun K32 hK32 => ?_
                  refine aw_seq_k fun K33 hK33 => aw_region okG0 ?_; simp only [push_cast, Nat.reduceLT, Nat.reduceLeDiff, Nat.reduceEqDiff, reduceIte, reduceCtorEq, Nat.reduceAdd, Nat.reduceMul, Nat.reduceMod, Nat.reduceBEq, Nat.reduceBNe, List.reduceReplicate, Int.reduceLE, Int.reduceLT, Int.reduceNe]
                  refine call_pure (eqFlow_spec r c R b (by omega) (by omega)) (fits_of rfl) (by decide) rfl (by simp [idsV, idsVs]) ?_; simp only [push_cast, Nat.reduceLT, Nat.reduceLeDiff, Nat.reduceEqDiff, reduceIte, reduceCtorEq, Nat.reduceAdd, Nat.reduceMul, Nat.reduceMod, Nat.reduceBEq, Nat.reduceBNe, List.reduceReplicate, Int.reduceLE, Int.reduceLT, Int.reduceNe]
                  apply hK33; clear hK33
                  refine aw_cond rfl (fun hc => ?_) (fun hc => ?_)
                  · simp at hc
                  · refine aw_skip ?_
                    simp only [push_cast, Nat.reduceLT, Nat.reduceLeDiff, Nat.reduceEqDiff, reduceIte, reduceCtorEq, Nat.reduceAdd, Nat.reduceMul, Nat.reduceMod, Nat.reduceBEq, Nat.reduceBNe, List.reduceReplicate, Int.reduceLE, Int.reduceLT, Int.reduceNe]
                    apply hK32; clear hK32
                    refine aw_seq_k fun K35 hK35 => aw_region okG0 ?_; simp only [push_cast, Nat.reduceLT, Nat.reduceLeDiff, Nat.reduceEqDiff, reduceIte, reduceCtorEq, Nat.reduceAdd, Nat.reduceMul, Nat.reduceMod, Nat.reduceBEq, Nat.reduceBNe, List.reduceReplicate, Int.reduceLE, Int.reduceLT, Int.reduceNe]
                    apply hK35; clear hK35
                    refine aw_seq_k fun K36 hK36 => aw_region okG0 ?_; simp only [push_cast, Nat.reduceLT, Nat.reduceLeDiff, Nat.reduceEqDiff, reduceIte, reduceCtorEq, Nat.reduceAdd, Nat.reduceMul, Nat.reduceMod, Nat.reduceBEq, Nat.reduceBNe, List.reduceReplicate, Int.reduceLE, Int.reduceLT, Int.reduceNe]
                    refine call_pure (heldFlow_spec r c R.length b.length 1 (by omega) (by omega) (by omega)) (fits_of rfl) (by decide) rfl (by simp [idsV, idsVs]) ?_; simp only [push_cast, Nat.reduceLT, Nat.reduceLeDiff, Nat.reduceEqDiff, reduceIte, reduceCtorEq, Nat.reduceAdd, Nat.reduceMul, Nat.reduceMod, Nat.reduceBEq, Nat.reduceBNe, List.reduceReplicate, Int.reduceLE, Int.reduceLT, Int.reduceNe]
                    apply hK36; clear hK36
                    refine aw_seq_k fun K37 hK37 => ?_
                    refine aw_seq_k fun K38 hK38 => aw_region okG0 ?_; simp only [push_cast, Nat.reduceLT, Nat.reduceLeDiff, Nat.reduceEqDiff, reduceIte, reduceCtorEq, Nat.reduceAdd, Nat.reduceMul, Nat.reduceMod, Nat.reduceBEq, Nat.reduceBNe, List.reduceReplicate, Int.reduceLE, Int.reduceLT, Int.reduceNe]
                    apply hK38; clear hK38
                    refine aw_cond rfl (fun hc => ?_) (fun hc => ?_)
                    · simp at hc <;> omega
                    · refine aw_skip ?_
                      simp only [push_cast, Nat.reduceLT, Nat.reduceLeDiff, Nat.reduceEqDiff, reduceIte, reduceCtorEq, Nat.reduceAdd, Nat.reduceMul, Nat.reduceMod, Nat.reduceBEq, Nat.reduceBNe, List.reduceReplicate, Int.reduceLE, Int.reduceLT, Int.reduceNe]
                      apply hK37; clear hK37
                      refine aw_seq_k fun K40 hK40 => ?_
                      refine aw_seq_k fun K41 hK41 => aw_region okG0 ?_; simp only [push_cast, Nat.reduceLT, Nat.reduceLeDiff, Nat.reduceEqDiff, reduceIte, reduceCtorEq, Nat.reduceAdd, Nat.reduceMul, Nat.reduceMod, Nat.reduceBEq, Nat.reduceBNe, List.reduceReplicate, Int.reduceLE, Int.reduceLT, Int.reduceNe]
                      apply hK41; clear hK41
                      refine aw_cond rfl (fun hc => ?_) (fun hc => ?_)
                      · simp at hc
                      · refine aw_skip ?_
                        simp only [push_cast, Nat.reduceLT, Nat.reduceLeDiff, Nat.reduceEqDiff, reduceIte, reduceCtorEq, Nat.reduceAdd, Nat.reduceMul, Nat.reduceMod, Nat.reduceBEq, Nat.reduceBNe, List.reduceReplicate, Int.reduceLE, Int.reduceLT, Int.reduceNe]
                        apply hK40; clear hK40
                        refine aw_seq_k fun K43 hK43 => aw_region okG0 ?_; simp only [push_cast, Nat.reduceLT, Nat.reduceLeDiff, Nat.reduceEqDiff, reduceIte, reduceCtorEq, Nat.reduceAdd, Nat.reduceMul, Nat.reduceMod, Nat.reduceBEq, Nat.reduceBNe, List.reduceReplicate, Int.reduceLE, Int.reduceLT, Int.reduceNe]
                        apply hK43; clear hK43
                        exact aw_ret (ret_p rfl rfl rfl (by simp))
end Go.Proofs.Avx
