/- What the learners compute, and that the law of learned tables answers true, given the contract of slices.Repeat. -/
import Derived.Test.YtgbkecenhbcihaaLnA
set_option linter.unusedVariables false
set_option linter.unusedSimpArgs false
namespace Go.Proofs.Avx
def pairsOK (bs ys : List (List Int)) : Prop := bs.length = ys.length ∧ 1 ≤ bs.length ∧ bs.length ≤ 32 ∧ ∀ k, k < bs.length → ring01 (bs.getD k []) ∧ ring01 (ys.getD k []) ∧ (ys.getD k []).length = (bs.getD k []).length
def upd (t : List Int) (h to : Int) : Option (List Int) := if 0 ≤ t.getD h.toNat 0 ∧ t.getD h.toNat 0 ≠ to then none else some (t.set h.toNat to)
def lrow (r : Nat) (x y t : List Int) : Nat → Option (List Int)
  | 0 => some t
  | m + 1 => (lrow r x y t m).bind fun t => upd t (hood x m r) (y.getD m 0)
def lall (r : Nat) (bs ys : List (List Int)) (t : List Int) : Nat → Option (List Int)
  | 0 => some t
  | k + 1 => (lall r bs ys t k).bind fun t => lrow r (bs.getD k []) (ys.getD k []) t (bs.getD k []).length
def learnF (r : Nat) (bs ys : List (List Int)) : Option (List Int) := lall r bs ys (List.replicate (N2 r) (-1)) bs.length
theorem upd_len {t t' : List Int} {h to : Int} (e : upd t h to = some t') : t'.length = t.length := by
  unfold upd at e
  split at e
  · simp at e
  · cases e; simp
theorem lrow_len {r : Nat} {x y t : List Int} : ∀ {m : Nat} {t' : List Int}, lrow r x y t m = some t' → t'.length = t.length
  | 0, t', e => by simp only [lrow, Option.some.injEq] at e; rw [e]
  | m + 1, t', e => by
    simp only [lrow, Option.bind_eq_some_iff] at e
    obtain ⟨t1, h1, h2⟩ := e
    rw [upd_len h2, lrow_len h1]
theorem lall_len {r : Nat} {bs ys : List (List Int)} {t : List Int} : ∀ {k : Nat} {t' : List Int}, lall r bs ys t k = some t' → t'.length = t.length
  | 0, t', e => by simp only [lall, Option.some.injEq] at e; rw [e]
  | k + 1, t', e => by
    simp only [lall, Option.bind_eq_some_iff] at e
    obtain ⟨t1, h1, h2⟩ := e
    rw [lrow_len h2, lall_len h1]
theorem lrow_none {r : Nat} {x y t : List Int} {m : Nat} (h : lrow r x y t m = none) : ∀ d, lrow r x y t (m + d) = none
  | 0 => h
  | d + 1 => by
    have := lrow_none h d
    rw [← Nat.add_assoc]
    simp [lrow, this]
theorem lall_none {r : Nat} {bs ys : List (List Int)} {t : List Int} {k : Nat} (h : lall r bs ys t k = none) : ∀ d, lall r bs ys t (k + d) = none
  | 0 => h
  | d + 1 => by
    have := lall_none h d
    rw [← Nat.add_assoc]
    simp [lall, this]
/-- What the two learners hand back. -/
def learnRes : Option (List Int) → AV
  | some t => .tup [.own 0 2 (.int .i64) t, Bo true]
  | none => .tup [.nilsl, Bo false]
theorem l03Hood_spec (r : Nat) (x : List Int) (i : Nat) (hr : r ≤ 2) (hx : ring01 x) (hi : i < x.length) : AFp Try.prog 255 [.rptr [I 2, I r, .nilsl], Is x, I i] (I (hood x i r)) := by
  obtain ⟨h5, h12, h01⟩ := hx
  refine AF_body okG0 Try.func255 rfl rfl (by simp [Try.ntmps255]) (by simp) ?_; simp only [Try.ntmps255]
  refine aw_seq_k fun K1 hK1 => aw_region okG0 ?_; simp only [push_cast, Nat.reduceLT, Nat.reduceLeDiff, Nat.reduceEqDiff, reduceIte, reduceCtorEq, Nat.reduceAdd, Nat.reduceMul, Nat.reduceMod, Nat.reduceBEq, Nat.reduceBNe, List.reduceReplicate, Int.reduceLE, Int.reduceLT, Int.reduceNe]
  apply hK1; clear hK1
  refine aw_seq_k fun K2 hK2 => aw_region okG0 ?_; simp only [push_cast, Nat.reduceLT, Nat.reduceLeDiff, Nat.reduceEqDiff, reduceIte, reduceCtorEq, Nat.reduceAdd, Nat.reduceMul, Nat.reduceMod, Nat.reduceBEq, Nat.reduceBNe, List.reduceReplicate, Int.reduceLE, Int.reduceLT, Int.reduceNe]
  apply hK2; clear hK2
  refine aw_seq_k fun K4 hK4 => aw_region okG0 ?_; simp only [push_cast, Nat.reduceLT, Nat.reduceLeDiff, Nat.reduceEqDiff, reduceIte, reduceCtorEq, Nat.reduceAdd, Nat.reduceMul, Nat.reduceMod, Nat.reduceBEq, Nat.reduceBNe, List.reduceReplicate, Int.reduceLE, Int.reduceLT, Int.reduceNe]
  apply hK4; clear hK4
  refine aw_seq_k fun K3 hK3 => ?_
  refine aw_seq_k fun K5 hK5 => aw_region okG0 ?_; simp only [push_cast, Nat.reduceLT, Nat.reduceLeDiff, Nat.reduceEqDiff, reduceIte, reduceCtorEq, Nat.reduceAdd, Nat.reduceMul, Nat.reduceMod, Nat.reduceBEq, Nat.reduceBNe, List.reduceReplicate, Int.reduceLE, Int.reduceLT, Int.reduceNe]
  rw [w64 (by omega) (by omega)]
  apply hK5; clear hK5
  refine aw_block ?_
  refine aw_loop (fun m : {m : Nat // m ≤ 2 * r + 1} => ⟨[(0, .rptr [I 2, I r, .nilsl]), (1, Is x), (2, I i), (7, I x.length), (8, I (hoodN x i r m.1)), (9, I (0 - (r : Int) + m.1))], [], []⟩) (fun m => 2 * r + 1 - m.1) ⟨0, Nat.zero_le _⟩ ?_ ?_
  · show Sub _ ⟨[(0, .rptr [I 2, I r, .nilsl]), (1, Is x), (2, I i), (7, I x.length), (8, I 0), (9, I (0 - (r : Int) + (0 : Nat)))], [], []⟩
    exact sub_to (by simp [allE, getE] <;> rfl) (by simp [allB, getB] <;> rfl) rfl rfl rfl
  rintro ⟨m, hm⟩
  refine aw_seq_k fun K6 hK6 => ?_
  refine aw_seq_k fun K7 hK7 => aw_region okG0 ?_; simp only [push_cast, Nat.reduceLT, Nat.reduceLeDiff, Nat.reduceEqDiff, reduceIte, reduceCtorEq, Nat.reduceAdd, Nat.reduceMul, Nat.reduceMod, Nat.reduceBEq, Nat.reduceBNe, List.reduceReplicate, Int.reduceLE, Int.reduceLT, Int.reduceNe]
  apply hK7; clear hK7
  refine aw_cond rfl (fun hc => ?_) (fun hc => ?_)
  · have hlt : m < 2 * r + 1 := by have : 0 - (r : Int) + m ≤ r := (by simpa using hc); omega
    have hh := hoodN_range h01 i r m
    have hp := p2N r m hr (by omega)
    refine aw_skip ?_
    simp only [push_cast, Nat.reduceLT, Nat.reduceLeDiff, Nat.reduceEqDiff, reduceIte, reduceCtorEq, Nat.reduceAdd, Nat.reduceMul, Nat.reduceMod, Nat.reduceBEq, Nat.reduceBNe, List.reduceReplicate, Int.reduceLE, Int.reduceLT, Int.reduceNe]
    apply hK6; clear hK6
    refine aw_seq_k fun K8 hK8 => ?_
    refine aw_block ?_
    refine aw_draw fol okG0 16 (by kernel_rfl) ?_
    simp only [push_cast, Nat.reduceLT, Nat.reduceLeDiff, Nat.reduceEqDiff, reduceIte, reduceCtorEq, Nat.reduceAdd, Nat.reduceMul, Nat.reduceMod, Nat.reduceBEq, Nat.reduceBNe, List.reduceReplicate, Int.reduceLE, Int.reduceLT, Int.reduceNe]
    have hm0 := Int.emod_nonneg ((i : Int) - r + m) (show (x.length : Int) ≠ 0 by omega)
    have hm1 := Int.emod_lt_of_pos ((i : Int) - r + m) (show (0 : Int) < (x.length : Int) by omega)
    have hx01 := getD01 h01 (((i : Int) - r + m) % (x.length : Int)).toNat
    rw [w64 (n := (i : Int) + (0 - (r : Int) + m)) (by omega) (by omega), w64 (n := (i : Int) + (0 - (r : Int) + m) + x.length) (by omega) (by omega)]
    rw [Int.tmod_eq_emod_of_nonneg (show 0 ≤ (i : Int) + (0 - (r : Int) + m) + x.length by omega), Int.add_emod_right, show (i : Int) + (0 - (r : Int) + m) = (i : Int) - r + m by omega]
    refine ⟨by omega, ⟨hm0, hm1⟩, ?_⟩
    rw [w64 (n := hoodN x i r m * 2) (by omega) (by omega), w64 (n := hoodN x i r m * 2 + _) (by omega) (by omega)]
    rw [show hoodN x i r m * 2 + x.getD (((i : Int) - r + m) % (x.length : Int)).toNat 0 = hoodN x i r (m + 1) from rfl]
    apply hK8; clear hK8
    refine aw_region okG0 ?_
    simp only [push_cast, Nat.reduceLT, Nat.reduceLeDiff, Nat.reduceEqDiff, reduceIte, reduceCtorEq, Nat.reduceAdd, Nat.reduceMul, Nat.reduceMod, Nat.reduceBEq, Nat.reduceBNe, List.reduceReplicate, Int.reduceLE, Int.reduceLT, Int.reduceNe]
    refine ⟨⟨m + 1, by omega⟩, ?_, by show 2 * r + 1 - (m + 1) < 2 * r + 1 - m; omega⟩
    rw [w64 (n := 0 - (r : Int) + m + 1) (by omega) (by omega), show 0 - (r : Int) + m + 1 = 0 - (r : Int) + ((m + 1 : Nat) : Int) by omega]
    exact sub_to (by simp [allE, getE] <;> rfl) (by simp [allB, getB] <;> rfl) rfl rfl rfl
  · have hlt : m = 2 * r + 1 := by have : ¬ 0 - (r : Int) + m ≤ r := (by simpa using hc); omega
    subst hlt
    refine aw_exit ?_
    simp only [push_cast, Nat.reduceLT, Nat.reduceLeDiff, Nat.reduceEqDiff, reduceIte, reduceCtorEq, Nat.reduceAdd, Nat.reduceMul, Nat.reduceMod, Nat.reduceBEq, Nat.reduceBNe, List.reduceReplicate, Int.reduceLE, Int.reduceLT, Int.reduceNe]
    apply hK3; clear hK3
    refine aw_seq_k fun K9 hK9 => aw_region okG0 ?_; simp only [push_cast, Nat.reduceLT, Nat.reduceLeDiff, Nat.reduceEqDiff, reduceIte, reduceCtorEq, Nat.reduceAdd, Nat.reduceMul, Nat.reduceMod, Nat.reduceBEq, Nat.reduceBNe, List.reduceReplicate, Int.reduceLE, Int.reduceLT, Int.reduceNe]
    apply hK9; clear hK9
    exact aw_ret (ret_p rfl rfl rfl (by simp))
end Go.Proofs.Avx

set_option linter.unusedVariables false
set_option linter.unusedSimpArgs false
set_option maxRecDepth 20000
namespace Go.Proofs.Avx
theorem l07Rings_spec (r : Nat) (bs ys : List (List Int)) (hr : r ≤ 2) (h : pairsOK bs ys) : AFp Try.prog 133 [I 2, I r, Iss bs, Iss ys] (Bo true) := by
  obtain ⟨hl, h1, h32, hp⟩ := h
  have hr1 : inB (r : Int) 0 2 = true := by simp [inB]; omega
  refine AF_body okG0 Try.func133 rfl rfl (by simp [Try.ntmps133]) (by simp) ?_; simp only [Try.ntmps133]
  refine aw_seq_k fun K1 hK1 => aw_region okG0 ?_; simp only [push_cast, Nat.reduceLT, Nat.reduceLeDiff, Nat.reduceEqDiff, reduceIte, reduceCtorEq, Nat.reduceAdd, Nat.reduceMul, Nat.reduceMod, Nat.reduceBEq, Nat.reduceBNe, List.reduceReplicate, Int.reduceLE, Int.reduceLT, Int.reduceNe]
  apply hK1; clear hK1
  refine aw_seq_k fun K2 hK2 => aw_region okG0 ?_; simp only [push_cast, Nat.reduceLT, Nat.reduceLeDiff, Nat.reduceEqDiff, reduceIte, reduceCtorEq, Nat.reduceAdd, Nat.reduceMul, Nat.reduceMod, Nat.reduceBEq, Nat.reduceBNe, List.reduceReplicate, Int.reduceLE, Int.reduceLT, Int.reduceNe]
  apply hK2; clear hK2
  refine aw_seq_k fun K3 hK3 => ?_
  refine aw_seq_k fun K4 hK4 => aw_region okG0 ?_; simp only [push_cast, Nat.reduceLT, Nat.reduceLeDiff, Nat.reduceEqDiff, reduceIte, reduceCtorEq, Nat.reduceAdd, Nat.reduceMul, Nat.reduceMod, Nat.reduceBEq, Nat.reduceBNe, List.reduceReplicate, Int.reduceLE, Int.reduceLT, Int.reduceNe]
  refine call_pure (l00In_spec _ _ _) (fits_of rfl) (by decide) rfl (by simp [idsV, idsVs]) ?_; simp only [push_cast, Nat.reduceLT, Nat.reduceLeDiff, Nat.reduceEqDiff, reduceIte, reduceCtorEq, Nat.reduceAdd, Nat.reduceMul, Nat.reduceMod, Nat.reduceBEq, Nat.reduceBNe, List.reduceReplicate, Int.reduceLE, Int.reduceLT, Int.reduceNe]
  rw [show inB 2 2 3 = true from rfl]
  simp only [push_cast, Nat.reduceLT, Nat.reduceLeDiff, Nat.reduceEqDiff, reduceIte, reduceCtorEq, Nat.reduceAdd, Nat.reduceMul, Nat.reduceMod, Nat.reduceBEq, Nat.reduceBNe, List.reduceReplicate, Int.reduceLE, Int.reduceLT, Int.reduceNe]
  refine gcall_pure (fun _ => l00In_spec _ _ _) (fun _ => fits_of rfl) (by decide) rfl rfl ?_; simp only [push_cast, Nat.reduceLT, Nat.reduceLeDiff, Nat.reduceEqDiff, reduceIte, reduceCtorEq, Nat.reduceAdd, Nat.reduceMul, Nat.reduceMod, Nat.reduceBEq, Nat.reduceBNe, List.reduceReplicate, Int.reduceLE, Int.reduceLT, Int.reduceNe]
  rw [hr1]
  simp only [push_cast, Nat.reduceLT, Nat.reduceLeDiff, Nat.reduceEqDiff, reduceIte, reduceCtorEq, Nat.reduceAdd, Nat.reduceMul, Nat.reduceMod, Nat.reduceBEq, Nat.reduceBNe, List.reduceReplicate, Int.reduceLE, Int.reduceLT, Int.reduceNe]
  apply hK4; clear hK4
  refine aw_cond rfl (fun hc => ?_) (fun hc => ?_)
  · simp at hc
    omega
  · refine aw_skip ?_
    simp only [push_cast, Nat.reduceLT, Nat.reduceLeDiff, Nat.reduceEqDiff, reduceIte, reduceCtorEq, Nat.reduceAdd, Nat.reduceMul, Nat.reduceMod, Nat.reduceBEq, Nat.reduceBNe, List.reduceReplicate, Int.reduceLE, Int.reduceLT, Int.reduceNe]
    apply hK3; clear hK3
    refine aw_seq_k fun K6 hK6 => ?_
    refine aw_seq_k fun K7 hK7 => aw_region okG0 ?_; simp only [push_cast, Nat.reduceLT, Nat.reduceLeDiff, Nat.reduceEqDiff, reduceIte, reduceCtorEq, Nat.reduceAdd, Nat.reduceMul, Nat.reduceMod, Nat.reduceBEq, Nat.reduceBNe, List.reduceReplicate, Int.reduceLE, Int.reduceLT, Int.reduceNe]
    apply hK7; clear hK7
    refine aw_block ?_
    refine aw_loop (fun k : {k : Nat // k ≤ bs.length} => ⟨[(0, I 2), (1, I r), (2, Iss bs), (3, Iss ys), (36, I bs.length), (37, I k.1)], [], []⟩) (fun k => bs.length - k.1) ⟨0, Nat.zero_le _⟩ (sub_to (by simp [allE, getE] <;> rfl) (by simp [allB, getB] <;> rfl) rfl rfl rfl) ?_
    rintro ⟨k, hk⟩
    refine aw_seq_k fun K8 hK8 => aw_region okG0 ?_; simp only [push_cast, Nat.reduceLT, Nat.reduceLeDiff, Nat.reduceEqDiff, reduceIte, reduceCtorEq, Nat.reduceAdd, Nat.reduceMul, Nat.reduceMod, Nat.reduceBEq, Nat.reduceBNe, List.reduceReplicate, Int.reduceLE, Int.reduceLT, Int.reduceNe]
    apply hK8; clear hK8
    refine aw_seq_k fun K9 hK9 => ?_
    refine aw_cond rfl (fun hc => ?_) (fun hc => ?_)
    · have hlt : k < bs.length := by simpa using hc
      obtain ⟨hb, hy, hby⟩ := hp k hlt
      have hb5 := hb.1
      refine aw_skip ?_
      simp only [push_cast, Nat.reduceLT, Nat.reduceLeDiff, Nat.reduceEqDiff, reduceIte, reduceCtorEq, Nat.reduceAdd, Nat.reduceMul, Nat.reduceMod, Nat.reduceBEq, Nat.reduceBNe, List.reduceReplicate, Int.reduceLE, Int.reduceLT, Int.reduceNe]
      apply hK9; clear hK9
      refine aw_seq_k fun K10 hK10 => ?_
      refine aw_block ?_
      refine aw_seq_k fun K11 hK11 => aw_region okG0 ?_; simp only [push_cast, Nat.reduceLT, Nat.reduceLeDiff, Nat.reduceEqDiff, reduceIte, reduceCtorEq, Nat.reduceAdd, Nat.reduceMul, Nat.reduceMod, Nat.reduceBEq, Nat.reduceBNe, List.reduceReplicate, Int.reduceLE, Int.reduceLT, Int.reduceNe]
      apply hK11; clear hK11
      refine aw_seq_k fun K12 hK12 => aw_draw fol okG0 38 (by kernel_rfl) ?_; simp only [push_cast, Nat.reduceLT, Nat.reduceLeDiff, Nat.reduceEqDiff, reduceIte, reduceCtorEq, Nat.reduceAdd, Nat.reduceMul, Nat.reduceMod, Nat.reduceBEq, Nat.reduceBNe, List.reduceReplicate, Int.reduceLE, Int.reduceLT, Int.reduceNe]
      refine ⟨⟨by omega, by omega⟩, ?_⟩
      refine ⟨_, _, l02Ring_spec _ hb, .inl ⟨fits_of rfl, rfl⟩, ?_⟩; simp only [push_cast, Nat.reduceLT, Nat.reduceLeDiff, Nat.reduceEqDiff, reduceIte, reduceCtorEq, Nat.reduceAdd, Nat.reduceMul, Nat.reduceMod, Nat.reduceBEq, Nat.reduceBNe, List.reduceReplicate, Int.reduceLE, Int.reduceLT, Int.reduceNe]
      refine ⟨⟨by omega, by omega⟩, ?_⟩
      refine ⟨_, _, fun _ => l02Ring_spec _ hy, fun _ => fits_of rfl, rfl, rfl, ?_⟩; simp only [push_cast, Nat.reduceLT, Nat.reduceLeDiff, Nat.reduceEqDiff, reduceIte, reduceCtorEq, Nat.reduceAdd, Nat.reduceMul, Nat.reduceMod, Nat.reduceBEq, Nat.reduceBNe, List.reduceReplicate, Int.reduceLE, Int.reduceLT, Int.reduceNe]
      refine ⟨⟨by omega, by omega⟩, ⟨by omega, by omega⟩, fun h => ⟨by rw [h]; rfl, ⟨by omega, by omega⟩⟩, ?_⟩
      apply hK12; clear hK12
      refine aw_cond rfl (fun hc => ?_) (fun hc => ?_)
      · rw [w64 (n := 2 * (r : Int)) (by omega) (by omega), w64 (n := 2 * (r : Int) + 1) (by omega) (by omega), hby] at hc
        simp only [bne_self_eq_false, Bool.false_or, decide_eq_true_eq] at hc
        omega
      · refine aw_skip ?_
        simp only [push_cast, Nat.reduceLT, Nat.reduceLeDiff, Nat.reduceEqDiff, reduceIte, reduceCtorEq, Nat.reduceAdd, Nat.reduceMul, Nat.reduceMod, Nat.reduceBEq, Nat.reduceBNe, List.reduceReplicate, Int.reduceLE, Int.reduceLT, Int.reduceNe]
        apply hK10; clear hK10
        refine aw_region okG0 ?_
        simp only [push_cast, Nat.reduceLT, Nat.reduceLeDiff, Nat.reduceEqDiff, reduceIte, reduceCtorEq, Nat.reduceAdd, Nat.reduceMul, Nat.reduceMod, Nat.reduceBEq, Nat.reduceBNe, List.reduceReplicate, Int.reduceLE, Int.reduceLT, Int.reduceNe]
        refine ⟨⟨k + 1, by omega⟩, ?_, by show bs.length - (k + 1) < bs.length - k; omega⟩
        rw [w64 (n := (k : Int) + 1) (by omega) (by omega)]
        exact sub_to (by simp [allE, getE] <;> rfl) (by simp [allB, getB] <;> rfl) rfl rfl rfl
    · refine aw_exit ?_
      simp only [push_cast, Nat.reduceLT, Nat.reduceLeDiff, Nat.reduceEqDiff, reduceIte, reduceCtorEq, Nat.reduceAdd, Nat.reduceMul, Nat.reduceMod, Nat.reduceBEq, Nat.reduceBNe, List.reduceReplicate, Int.reduceLE, Int.reduceLT, Int.reduceNe]
      apply hK6; clear hK6
      refine aw_seq_k fun K14 hK14 => aw_region okG0 ?_; simp only [push_cast, Nat.reduceLT, Nat.reduceLeDiff, Nat.reduceEqDiff, reduceIte, reduceCtorEq, Nat.reduceAdd, Nat.reduceMul, Nat.reduceMod, Nat.reduceBEq, Nat.reduceBNe, List.reduceReplicate, Int.reduceLE, Int.reduceLT, Int.reduceNe]
      apply hK14; clear hK14
      exact aw_ret (ret_p rfl rfl rfl (by simp))
theorem rep_succ (n : Nat) : List.replicate (n + 1) (-1 : Int) = List.replicate n (-1) ++ [-1] := by
  rw [List.replicate_succ']
theorem getI (l : List Int) (k : Nat) : I (l.getD k 0) = I (l.getD k 0) := rfl
theorem l07Learn_spec (r : Nat) (bs ys : List (List Int)) (hr : r ≤ 2) (h : pairsOK bs ys) : AFp Try.prog 134 [I 2, I r, Iss bs, Iss ys] (learnRes (learnF r bs ys)) := by
  obtain ⟨hl, h1, h32, hp⟩ := h
  have hN := N2_le r hr
  refine AF_body okG0 Try.func134 rfl rfl (by simp [Try.ntmps134]) (by simp) ?_; simp only [Try.ntmps134]
  refine aw_seq_k fun K1 hK1 => aw_region okG0 ?_; simp only [push_cast, Nat.reduceLT, Nat.reduceLeDiff, Nat.reduceEqDiff, reduceIte, reduceCtorEq, Nat.reduceAdd, Nat.reduceMul, Nat.reduceMod, Nat.reduceBEq, Nat.reduceBNe, List.reduceReplicate, Int.reduceLE, Int.reduceLT, Int.reduceNe]
  apply hK1; clear hK1
  refine aw_seq_k fun K2 hK2 => aw_region okG0 ?_; simp only [push_cast, Nat.reduceLT, Nat.reduceLeDiff, Nat.reduceEqDiff, reduceIte, reduceCtorEq, Nat.reduceAdd, Nat.reduceMul, Nat.reduceMod, Nat.reduceBEq, Nat.reduceBNe, List.reduceReplicate, Int.reduceLE, Int.reduceLT, Int.reduceNe]
  apply hK2; clear hK2
  refine aw_seq_k fun K3 hK3 => ?_
  refine aw_seq_k fun K4 hK4 => aw_region okG0 ?_; simp only [push_cast, Nat.reduceLT, Nat.reduceLeDiff, Nat.reduceEqDiff, reduceIte, reduceCtorEq, Nat.reduceAdd, Nat.reduceMul, Nat.reduceMod, Nat.reduceBEq, Nat.reduceBNe, List.reduceReplicate, Int.reduceLE, Int.reduceLT, Int.reduceNe]
  apply hK4; clear hK4
  refine aw_block ?_
  refine aw_loop (fun k : {k : Nat // k ≤ N2 r} => ⟨[(0, I 2), (1, I r), (2, Iss bs), (3, Iss ys), (10, .own 2800 2 (.int .i64) (List.replicate k.1 (-1))), (11, I k.1)], [], [2800]⟩) (fun k => N2 r - k.1) ⟨0, Nat.zero_le _⟩ ?_ ?_
  · show Sub _ ⟨[(0, I 2), (1, I r), (2, Iss bs), (3, Iss ys), (10, .own 2800 2 (.int .i64) []), (11, I 0)], [], [2800]⟩
    exact sub_ren_to [(1600, 2800)] (by simp [renN]) rfl (by simp [allE, getE, renE, renV, renVs, renN]) (by simp [allB, getB, renB, renVs, renV, renN]) rfl rfl rfl
  rintro ⟨k, hk⟩
  refine aw_seq_k fun K5 hK5 => ?_
  refine aw_seq_k fun K6 hK6 => aw_region okG0 ?_; simp only [push_cast, Nat.reduceLT, Nat.reduceLeDiff, Nat.reduceEqDiff, reduceIte, reduceCtorEq, Nat.reduceAdd, Nat.reduceMul, Nat.reduceMod, Nat.reduceBEq, Nat.reduceBNe, List.reduceReplicate, Int.reduceLE, Int.reduceLT, Int.reduceNe]
  rw [w64 (n := 2 * (r : Int)) (by omega) (by omega), w64 (n := 2 * (r : Int) + 1) (by omega) (by omega), show 2 * (r : Int) + 1 = ((2 * r + 1 : Nat) : Int) by omega]
  refine call_pure (l03Power_spec 2 (2 * r + 1) (by omega) (p2 r hr)) (fits_of rfl) (by decide) rfl (by simp [idsV, idsVs]) ?_; simp only [push_cast, Nat.reduceLT, Nat.reduceLeDiff, Nat.reduceEqDiff, reduceIte, reduceCtorEq, Nat.reduceAdd, Nat.reduceMul, Nat.reduceMod, Nat.reduceBEq, Nat.reduceBNe, List.reduceReplicate, Int.reduceLE, Int.reduceLT, Int.reduceNe]
  apply hK6; clear hK6
  refine aw_cond rfl (fun hc => ?_) (fun hc => ?_)
  · rw [N2_cast] at hc
    have hlt : k < N2 r := by simpa using hc
    refine aw_skip ?_
    simp only [push_cast, Nat.reduceLT, Nat.reduceLeDiff, Nat.reduceEqDiff, reduceIte, reduceCtorEq, Nat.reduceAdd, Nat.reduceMul, Nat.reduceMod, Nat.reduceBEq, Nat.reduceBNe, List.reduceReplicate, Int.reduceLE, Int.reduceLT, Int.reduceNe]
    apply hK5; clear hK5
    refine aw_seq_k fun K7 hK7 => ?_
    refine aw_block ?_
    refine aw_region okG0 ?_
    simp only [push_cast, Nat.reduceLT, Nat.reduceLeDiff, Nat.reduceEqDiff, reduceIte, reduceCtorEq, Nat.reduceAdd, Nat.reduceMul, Nat.reduceMod, Nat.reduceBEq, Nat.reduceBNe, List.reduceReplicate, Int.reduceLE, Int.reduceLT, Int.reduceNe]
    rw [List.length_replicate]
    refine ⟨by omega, by omega, ?_⟩
    apply hK7; clear hK7
    refine aw_region okG0 ?_
    simp only [push_cast, Nat.reduceLT, Nat.reduceLeDiff, Nat.reduceEqDiff, reduceIte, reduceCtorEq, Nat.reduceAdd, Nat.reduceMul, Nat.reduceMod, Nat.reduceBEq, Nat.reduceBNe, List.reduceReplicate, Int.reduceLE, Int.reduceLT, Int.reduceNe]
    refine ⟨⟨k + 1, by omega⟩, ?_, by show N2 r - (k + 1) < N2 r - k; omega⟩
    rw [w64 (n := (k : Int) + 1) (by omega) (by omega), ← rep_succ]
    exact sub_to (by simp [allE, getE] <;> rfl) (by simp [allB, getB] <;> rfl) rfl rfl rfl
  · rw [N2_cast] at hc
    have hlt : k = N2 r := by have : ¬ (k : Int) < N2 r := (by simpa using hc); omega
    subst hlt
    refine aw_exit ?_
    simp only [push_cast, Nat.reduceLT, Nat.reduceLeDiff, Nat.reduceEqDiff, reduceIte, reduceCtorEq, Nat.reduceAdd, Nat.reduceMul, Nat.reduceMod, Nat.reduceBEq, Nat.reduceBNe, List.reduceReplicate, Int.reduceLE, Int.reduceLT, Int.reduceNe]
    apply hK3; clear hK3
    refine aw_seq_k fun K8 hK8 => aw_region okG0 ?_; simp only [push_cast, Nat.reduceLT, Nat.reduceLeDiff, Nat.reduceEqDiff, reduceIte, reduceCtorEq, Nat.reduceAdd, Nat.reduceMul, Nat.reduceMod, Nat.reduceBEq, Nat.reduceBNe, List.reduceReplicate, Int.reduceLE, Int.reduceLT, Int.reduceNe]
    apply hK8; clear hK8
    refine aw_seq_k fun K9 hK9 => ?_
    refine aw_seq_k fun K10 hK10 => aw_region okG0 ?_; simp only [push_cast, Nat.reduceLT, Nat.reduceLeDiff, Nat.reduceEqDiff, reduceIte, reduceCtorEq, Nat.reduceAdd, Nat.reduceMul, Nat.reduceMod, Nat.reduceBEq, Nat.reduceBNe, List.reduceReplicate, Int.reduceLE, Int.reduceLT, Int.reduceNe]
    apply hK10; clear hK10
    refine aw_block ?_
    refine aw_loop (fun k : {k : Nat × List Int // k.1 ≤ bs.length ∧ lall r bs ys (List.replicate (N2 r) (-1)) k.1 = some k.2} => ⟨[(1, I r), (2, Iss bs), (3, Iss ys), (10, .own 2800 2 (.int .i64) k.1.2), (12, .ptr 1299 0), (33, I bs.length), (34, I k.1.1)], [(1299, [I 2, I r, .nilsl])], [1299, 2800]⟩) (fun k => bs.length - k.1.1) ⟨(0, List.replicate (N2 r) (-1)), Nat.zero_le _, rfl⟩ (sub_to (by simp [allE, getE] <;> rfl) (by simp [allB, getB] <;> rfl) rfl rfl rfl) ?_
    rintro ⟨⟨k, t⟩, hk, hall⟩
    simp only at hk hall
    have htl := lall_len hall
    rw [List.length_replicate] at htl
    refine aw_seq_k fun K11 hK11 => aw_region okG0 ?_; simp only [push_cast, Nat.reduceLT, Nat.reduceLeDiff, Nat.reduceEqDiff, reduceIte, reduceCtorEq, Nat.reduceAdd, Nat.reduceMul, Nat.reduceMod, Nat.reduceBEq, Nat.reduceBNe, List.reduceReplicate, Int.reduceLE, Int.reduceLT, Int.reduceNe]
    apply hK11; clear hK11
    refine aw_seq_k fun K12 hK12 => ?_
    refine aw_cond rfl (fun hc => ?_) (fun hc => ?_)
    · have hlt : k < bs.length := by simpa using hc
      obtain ⟨hb, hy, hby⟩ := hp k hlt
      have hb12 := hb.2.1
      refine aw_skip ?_
      simp only [push_cast, Nat.reduceLT, Nat.reduceLeDiff, Nat.reduceEqDiff, reduceIte, reduceCtorEq, Nat.reduceAdd, Nat.reduceMul, Nat.reduceMod, Nat.reduceBEq, Nat.reduceBNe, List.reduceReplicate, Int.reduceLE, Int.reduceLT, Int.reduceNe]
      apply hK12; clear hK12
      refine aw_seq_k fun K13 hK13 => ?_
      refine aw_block ?_
      refine aw_seq_k fun K14 hK14 => aw_region okG0 ?_; simp only [push_cast, Nat.reduceLT, Nat.reduceLeDiff, Nat.reduceEqDiff, reduceIte, reduceCtorEq, Nat.reduceAdd, Nat.reduceMul, Nat.reduceMod, Nat.reduceBEq, Nat.reduceBNe, List.reduceReplicate, Int.reduceLE, Int.reduceLT, Int.reduceNe]
      apply hK14; clear hK14
      refine aw_seq_k fun K15 hK15 => aw_region okG0 ?_; simp only [push_cast, Nat.reduceLT, Nat.reduceLeDiff, Nat.reduceEqDiff, reduceIte, reduceCtorEq, Nat.reduceAdd, Nat.reduceMul, Nat.reduceMod, Nat.reduceBEq, Nat.reduceBNe, List.reduceReplicate, Int.reduceLE, Int.reduceLT, Int.reduceNe]
      refine ⟨⟨by omega, by omega⟩, ?_⟩
      apply hK15; clear hK15
      refine aw_block ?_
      refine aw_loop (fun m : {m : Nat × List Int // m.1 ≤ (bs.getD k []).length ∧ lrow r (bs.getD k []) (ys.getD k []) t m.1 = some m.2} => ⟨[(1, I r), (2, Iss bs), (3, Iss ys), (10, .own 2800 2 (.int .i64) m.1.2), (12, .ptr 1299 0), (13, I k), (33, I bs.length), (34, I k), (41, I (bs.getD k []).length), (42, I m.1.1)], [(1299, [I 2, I r, .nilsl])], [1299, 2800]⟩) (fun m => (bs.getD k []).length - m.1.1) ⟨(0, t), Nat.zero_le _, rfl⟩ (sub_to (by simp [allE, getE] <;> rfl) (by simp [allB, getB] <;> rfl) rfl rfl rfl) ?_
      rintro ⟨⟨m, u⟩, hm, hrow⟩
      simp only at hm hrow
      have hul := lrow_len hrow
      rw [htl] at hul
      refine aw_seq_k fun K16 hK16 => aw_region okG0 ?_; simp only [push_cast, Nat.reduceLT, Nat.reduceLeDiff, Nat.reduceEqDiff, reduceIte, reduceCtorEq, Nat.reduceAdd, Nat.reduceMul, Nat.reduceMod, Nat.reduceBEq, Nat.reduceBNe, List.reduceReplicate, Int.reduceLE, Int.reduceLT, Int.reduceNe]
      apply hK16; clear hK16
      refine aw_seq_k fun K17 hK17 => ?_
      refine aw_cond rfl (fun hc => ?_) (fun hc => ?_)
      · have hml : m < (bs.getD k []).length := by simpa using hc
        have hh := hood_range hb.2.2 m r
        refine aw_skip ?_
        simp only [push_cast, Nat.reduceLT, Nat.reduceLeDiff, Nat.reduceEqDiff, reduceIte, reduceCtorEq, Nat.reduceAdd, Nat.reduceMul, Nat.reduceMod, Nat.reduceBEq, Nat.reduceBNe, List.reduceReplicate, Int.reduceLE, Int.reduceLT, Int.reduceNe]
        apply hK17; clear hK17
        refine aw_seq_k fun K18 hK18 => ?_
        refine aw_block ?_
        refine aw_seq_k fun K19 hK19 => aw_region okG0 ?_; simp only [push_cast, Nat.reduceLT, Nat.reduceLeDiff, Nat.reduceEqDiff, reduceIte, reduceCtorEq, Nat.reduceAdd, Nat.reduceMul, Nat.reduceMod, Nat.reduceBEq, Nat.reduceBNe, List.reduceReplicate, Int.reduceLE, Int.reduceLT, Int.reduceNe]
        apply hK19; clear hK19
        refine aw_seq_k fun K20 hK20 => aw_region okG0 ?_; simp only [push_cast, Nat.reduceLT, Nat.reduceLeDiff, Nat.reduceEqDiff, reduceIte, reduceCtorEq, Nat.reduceAdd, Nat.reduceMul, Nat.reduceMod, Nat.reduceBEq, Nat.reduceBNe, List.reduceReplicate, Int.reduceLE, Int.reduceLT, Int.reduceNe]
        refine ⟨⟨by omega, by omega⟩, ?_⟩
        refine call_pure (l03Hood_spec r (bs.getD k []) m hr hb hml) (fits_of rfl) (by decide) rfl (by simp [idsV, idsVs]) ?_; simp only [push_cast, Nat.reduceLT, Nat.reduceLeDiff, Nat.reduceEqDiff, reduceIte, reduceCtorEq, Nat.reduceAdd, Nat.reduceMul, Nat.reduceMod, Nat.reduceBEq, Nat.reduceBNe, List.reduceReplicate, Int.reduceLE, Int.reduceLT, Int.reduceNe]
        apply hK20; clear hK20
        refine aw_seq_k fun K21 hK21 => ?_
        refine aw_seq_k fun K22 hK22 => aw_draw fol okG0 19 (by kernel_rfl) ?_; simp only [push_cast, Nat.reduceLT, Nat.reduceLeDiff, Nat.reduceEqDiff, reduceIte, reduceCtorEq, Nat.reduceAdd, Nat.reduceMul, Nat.reduceMod, Nat.reduceBEq, Nat.reduceBNe, List.reduceReplicate, Int.reduceLE, Int.reduceLT, Int.reduceNe]
        have i1 : InR (hood (bs.getD k []) m r) u.length := ⟨hh.1, by rw [hul]; exact hh.2⟩
        have i2 : (hood (bs.getD k []) m r).toNat < u.length := by rw [hul]; omega
        have i3 : InR (k : Int) ys.length := ⟨by omega, by omega⟩
        have i4 : InR (m : Int) (List.length (ys.getD k [])) := ⟨by omega, by rw [hby]; omega⟩
        refine ⟨i1, i2, fun h => ⟨h, i1⟩, fun h => ⟨h, i2⟩, fun h => ⟨h, i3⟩, fun h => ⟨h, i4⟩, ?_⟩
        apply hK22; clear hK22
        refine aw_cond rfl (fun hc => ?_) (fun hc => ?_)
        · refine aw_seq_k fun K23 hK23 => aw_region okG0 ?_; simp only [push_cast, Nat.reduceLT, Nat.reduceLeDiff, Nat.reduceEqDiff, reduceIte, reduceCtorEq, Nat.reduceAdd, Nat.reduceMul, Nat.reduceMod, Nat.reduceBEq, Nat.reduceBNe, List.reduceReplicate, Int.reduceLE, Int.reduceLT, Int.reduceNe]
          apply hK23; clear hK23
          have hn : learnF r bs ys = none := by
            have h1 : lrow r (bs.getD k []) (ys.getD k []) t (m + 1) = none := by
              simp only [lrow, hrow, Option.bind_some, upd]
              simp only [Bool.and_eq_true, decide_eq_true_eq, bne_iff_ne] at hc
              rw [if_pos hc]
            have h2 := lrow_none h1 ((bs.getD k []).length - (m + 1))
            rw [show m + 1 + ((bs.getD k []).length - (m + 1)) = (bs.getD k []).length by omega] at h2
            have h3 : lall r bs ys (List.replicate (N2 r) (-1)) (k + 1) = none := by simp only [lall, hall, Option.bind_some]; exact h2
            have h4 := lall_none h3 (bs.length - (k + 1))
            rw [show k + 1 + (bs.length - (k + 1)) = bs.length by omega] at h4
            exact h4
          rw [hn]
          exact aw_ret (ret_p rfl rfl rfl (by simp))
        · have hs : upd u (hood (bs.getD k []) m r) ((ys.getD k []).getD m 0) = some (u.set (hood (bs.getD k []) m r).toNat ((ys.getD k []).getD m 0)) := by
            unfold upd
            rw [if_neg]
            intro hcc
            simp only [Bool.and_eq_false_iff, decide_eq_false_iff_not, bne_eq_false_iff_eq] at hc
            rcases hc with hc | hc
            · exact hc hcc.1
            · exact hcc.2 hc
          refine aw_skip ?_
          simp only [push_cast, Nat.reduceLT, Nat.reduceLeDiff, Nat.reduceEqDiff, reduceIte, reduceCtorEq, Nat.reduceAdd, Nat.reduceMul, Nat.reduceMod, Nat.reduceBEq, Nat.reduceBNe, List.reduceReplicate, Int.reduceLE, Int.reduceLT, Int.reduceNe]
          apply hK21; clear hK21
          refine aw_region okG0 ?_
          simp only [push_cast, Nat.reduceLT, Nat.reduceLeDiff, Nat.reduceEqDiff, reduceIte, reduceCtorEq, Nat.reduceAdd, Nat.reduceMul, Nat.reduceMod, Nat.reduceBEq, Nat.reduceBNe, List.reduceReplicate, Int.reduceLE, Int.reduceLT, Int.reduceNe]
          refine ⟨i3, i4, i1, i2, ?_⟩
          apply hK18; clear hK18
          refine aw_region okG0 ?_
          simp only [push_cast, Nat.reduceLT, Nat.reduceLeDiff, Nat.reduceEqDiff, reduceIte, reduceCtorEq, Nat.reduceAdd, Nat.reduceMul, Nat.reduceMod, Nat.reduceBEq, Nat.reduceBNe, List.reduceReplicate, Int.reduceLE, Int.reduceLT, Int.reduceNe]
          refine ⟨⟨(m + 1, u.set (hood (bs.getD k []) m r).toNat ((ys.getD k []).getD m 0)), by show m + 1 ≤ _; omega, ?_⟩, ?_, by show (bs.getD k []).length - (m + 1) < (bs.getD k []).length - m; omega⟩
          · show lrow r _ _ t (m + 1) = _
            simp only [lrow, hrow, Option.bind_some]
            exact hs
          · rw [w64 (n := (m : Int) + 1) (by omega) (by omega)]
            exact sub_to (by simp [allE, getE] <;> rfl) (by simp [allB, getB] <;> rfl) rfl rfl rfl
      · have hme : m = (bs.getD k []).length := by have : ¬ (m : Int) < (bs.getD k []).length := (by simpa using hc); omega
        refine aw_exit ?_
        simp only [push_cast, Nat.reduceLT, Nat.reduceLeDiff, Nat.reduceEqDiff, reduceIte, reduceCtorEq, Nat.reduceAdd, Nat.reduceMul, Nat.reduceMod, Nat.reduceBEq, Nat.reduceBNe, List.reduceReplicate, Int.reduceLE, Int.reduceLT, Int.reduceNe]
        apply hK13; clear hK13
        refine aw_region okG0 ?_
        simp only [push_cast, Nat.reduceLT, Nat.reduceLeDiff, Nat.reduceEqDiff, reduceIte, reduceCtorEq, Nat.reduceAdd, Nat.reduceMul, Nat.reduceMod, Nat.reduceBEq, Nat.reduceBNe, List.reduceReplicate, Int.reduceLE, Int.reduceLT, Int.reduceNe]
        refine ⟨⟨(k + 1, u), by show k + 1 ≤ _; omega, ?_⟩, ?_, by show bs.length - (k + 1) < bs.length - k; omega⟩
        · show lall r bs ys _ (k + 1) = some u
          simp only [lall, hall, Option.bind_some]
          rw [← hme]; exact hrow
        · rw [w64 (n := (k : Int) + 1) (by omega) (by omega)]
          exact sub_to (by simp [allE, getE] <;> rfl) (by simp [allB, getB] <;> rfl) rfl rfl rfl
    · have hke : k = bs.length := by have : ¬ (k : Int) < bs.length := (by simpa using hc); omega
      refine aw_exit ?_
      simp only [push_cast, Nat.reduceLT, Nat.reduceLeDiff, Nat.reduceEqDiff, reduceIte, reduceCtorEq, Nat.reduceAdd, Nat.reduceMul, Nat.reduceMod, Nat.reduceBEq, Nat.reduceBNe, List.reduceReplicate, Int.reduceLE, Int.reduceLT, Int.reduceNe]
      apply hK9; clear hK9
      refine aw_seq_k fun K24 hK24 => aw_region okG0 ?_; simp only [push_cast, Nat.reduceLT, Nat.reduceLeDiff, Nat.reduceEqDiff, reduceIte, reduceCtorEq, Nat.reduceAdd, Nat.reduceMul, Nat.reduceMod, Nat.reduceBEq, Nat.reduceBNe, List.reduceReplicate, Int.reduceLE, Int.reduceLT, Int.reduceNe]
      apply hK24; clear hK24
      have he : learnF r bs ys = some t := by unfold learnF; rw [← hke]; exact hall
      rw [he]
      exact aw_ret (ret_o [(2800, 0)] rfl rfl (by simp [renN]) rfl)
end Go.Proofs.Avx

set_option linter.unusedVariables false
set_option linter.unusedSimpArgs false
set_option maxRecDepth 20000
namespace Go.Proofs.Avx
attribute [push_cast] learnRes
theorem sLeastReach_spec (R : Nat) (bs ys : List (List Int)) (hR : R ≤ 2) (h : pairsOK bs ys) (T : List Int) (hT : learnF R bs ys = some T) (hless : ∀ r, r < R → learnF r bs ys = none) : AFp Try.prog 34 [I 2, Iss bs, Iss ys] (.tup [I R, Bo true]) := by
  refine AF_body okG0 Try.func34 rfl rfl (by simp [Try.ntmps34]) (by simp) ?_; simp only [Try.ntmps34]
  refine aw_seq_k fun K1 hK1 => aw_region okG0 ?_; simp only [push_cast, Nat.reduceLT, Nat.reduceLeDiff, Nat.reduceEqDiff, reduceIte, reduceCtorEq, Nat.reduceAdd, Nat.reduceMul, Nat.reduceMod, Nat.reduceBEq, Nat.reduceBNe, List.reduceReplicate, Int.reduceLE, Int.reduceLT, Int.reduceNe]
  apply hK1; clear hK1
  refine aw_seq_k fun K2 hK2 => ?_
  refine aw_seq_k fun K3 hK3 => aw_region okG0 ?_; simp only [push_cast, Nat.reduceLT, Nat.reduceLeDiff, Nat.reduceEqDiff, reduceIte, reduceCtorEq, Nat.reduceAdd, Nat.reduceMul, Nat.reduceMod, Nat.reduceBEq, Nat.reduceBNe, List.reduceReplicate, Int.reduceLE, Int.reduceLT, Int.reduceNe]
  apply hK3; clear hK3
  refine aw_block ?_
  refine aw_loop (fun k : {k : Nat // k ≤ R} => ⟨[(0, I 2), (1, Iss bs), (2, Iss ys), (8, I k.1)], [], []⟩) (fun k => R - k.1) ⟨0, Nat.zero_le _⟩ (sub_to (by simp [allE, getE] <;> rfl) (by simp [allB, getB] <;> rfl) rfl rfl rfl) ?_
  rintro ⟨k, hk⟩
  refine aw_seq_k fun K4 hK4 => ?_
  refine aw_seq_k fun K5 hK5 => aw_region okG0 ?_; simp only [push_cast, Nat.reduceLT, Nat.reduceLeDiff, Nat.reduceEqDiff, reduceIte, reduceCtorEq, Nat.reduceAdd, Nat.reduceMul, Nat.reduceMod, Nat.reduceBEq, Nat.reduceBNe, List.reduceReplicate, Int.reduceLE, Int.reduceLT, Int.reduceNe]
  apply hK5; clear hK5
  refine aw_cond rfl (fun hc => ?_) (fun hc => ?_)
  · refine aw_skip ?_
    simp only [push_cast, Nat.reduceLT, Nat.reduceLeDiff, Nat.reduceEqDiff, reduceIte, reduceCtorEq, Nat.reduceAdd, Nat.reduceMul, Nat.reduceMod, Nat.reduceBEq, Nat.reduceBNe, List.reduceReplicate, Int.reduceLE, Int.reduceLT, Int.reduceNe]
    apply hK4; clear hK4
    refine aw_seq_k fun K6 hK6 => ?_
    refine aw_block ?_
    refine aw_seq_k fun K7 hK7 => ?_
    refine aw_seq_k fun K8 hK8 => aw_region okG0 ?_; simp only [push_cast, Nat.reduceLT, Nat.reduceLeDiff, Nat.reduceEqDiff, reduceIte, reduceCtorEq, Nat.reduceAdd, Nat.reduceMul, Nat.reduceMod, Nat.reduceBEq, Nat.reduceBNe, List.reduceReplicate, Int.reduceLE, Int.reduceLT, Int.reduceNe]
    refine call_pure (l07Rings_spec k bs ys (by omega) h) (fits_of rfl) (by decide) rfl (by simp [idsV, idsVs]) ?_; simp only [push_cast, Nat.reduceLT, Nat.reduceLeDiff, Nat.reduceEqDiff, reduceIte, reduceCtorEq, Nat.reduceAdd, Nat.reduceMul, Nat.reduceMod, Nat.reduceBEq, Nat.reduceBNe, List.reduceReplicate, Int.reduceLE, Int.reduceLT, Int.reduceNe]
    apply hK8; clear hK8
    refine aw_cond rfl (fun hc => ?_) (fun hc => ?_)
    · simp at hc
    · refine aw_skip ?_
      simp only [push_cast, Nat.reduceLT, Nat.reduceLeDiff, Nat.reduceEqDiff, reduceIte, reduceCtorEq, Nat.reduceAdd, Nat.reduceMul, Nat.reduceMod, Nat.reduceBEq, Nat.reduceBNe, List.reduceReplicate, Int.reduceLE, Int.reduceLT, Int.reduceNe]
      apply hK7; clear hK7
      have hspec := l07Learn_spec k bs ys (by omega) h
      by_cases hkR : k = R
      · subst hkR
        rw [hT] at hspec
        refine aw_seq_k fun K10 hK10 => aw_region okG0 ?_; simp only [push_cast, Nat.reduceLT, Nat.reduceLeDiff, Nat.reduceEqDiff, reduceIte, reduceCtorEq, Nat.reduceAdd, Nat.reduceMul, Nat.reduceMod, Nat.reduceBEq, Nat.reduceBNe, List.reduceReplicate, Int.reduceLE, Int.reduceLT, Int.reduceNe]
        refine call_pure (hspec) (fits_of rfl) (by decide) rfl (by simp [idsV, idsVs]) ?_; simp only [push_cast, Nat.reduceLT, Nat.reduceLeDiff, Nat.reduceEqDiff, reduceIte, reduceCtorEq, Nat.reduceAdd, Nat.reduceMul, Nat.reduceMod, Nat.reduceBEq, Nat.reduceBNe, List.reduceReplicate, Int.reduceLE, Int.reduceLT, Int.reduceNe]
        apply hK10; clear hK10
        refine aw_seq_k fun K11 hK11 => aw_region okG0 ?_; simp only [push_cast, Nat.reduceLT, Nat.reduceLeDiff, Nat.reduceEqDiff, reduceIte, reduceCtorEq, Nat.reduceAdd, Nat.reduceMul, Nat.reduceMod, Nat.reduceBEq, Nat.reduceBNe, List.reduceReplicate, Int.reduceLE, Int.reduceLT, Int.reduceNe]
        apply hK11; clear hK11
        refine aw_cond rfl (fun hc => ?_) (fun hc => ?_)
        · refine aw_seq_k fun K12 hK12 => aw_region okG0 ?_; simp only [push_cast, Nat.reduceLT, Nat.reduceLeDiff, Nat.reduceEqDiff, reduceIte, reduceCtorEq, Nat.reduceAdd, Nat.reduceMul, Nat.reduceMod, Nat.reduceBEq, Nat.reduceBNe, List.reduceReplicate, Int.reduceLE, Int.reduceLT, Int.reduceNe]
          apply hK12; clear hK12
          exact aw_ret (ret_p rfl rfl rfl (by simp))
        · simp at hc
      · rw [hless k (by omega)] at hspec
        refine aw_seq_k fun K10 hK10 => aw_region okG0 ?_; simp only [push_cast, Nat.reduceLT, Nat.reduceLeDiff, Nat.reduceEqDiff, reduceIte, reduceCtorEq, Nat.reduceAdd, Nat.reduceMul, Nat.reduceMod, Nat.reduceBEq, Nat.reduceBNe, List.reduceReplicate, Int.reduceLE, Int.reduceLT, Int.reduceNe]
        refine call_pure (hspec) (fits_of rfl) (by decide) rfl (by simp [idsV, idsVs]) ?_; simp only [push_cast, Nat.reduceLT, Nat.reduceLeDiff, Nat.reduceEqDiff, reduceIte, reduceCtorEq, Nat.reduceAdd, Nat.reduceMul, Nat.reduceMod, Nat.reduceBEq, Nat.reduceBNe, List.reduceReplicate, Int.reduceLE, Int.reduceLT, Int.reduceNe]
        apply hK10; clear hK10
        refine aw_seq_k fun K11 hK11 => aw_region okG0 ?_; simp only [push_cast, Nat.reduceLT, Nat.reduceLeDiff, Nat.reduceEqDiff, reduceIte, reduceCtorEq, Nat.reduceAdd, Nat.reduceMul, Nat.reduceMod, Nat.reduceBEq, Nat.reduceBNe, List.reduceReplicate, Int.reduceLE, Int.reduceLT, Int.reduceNe]
        apply hK11; clear hK11
        refine aw_cond rfl (fun hc => ?_) (fun hc => ?_)
        · simp at hc
        · refine aw_skip ?_
          simp only [push_cast, Nat.reduceLT, Nat.reduceLeDiff, Nat.reduceEqDiff, reduceIte, reduceCtorEq, Nat.reduceAdd, Nat.reduceMul, Nat.reduceMod, Nat.reduceBEq, Nat.reduceBNe, List.reduceReplicate, Int.reduceLE, Int.reduceLT, Int.reduceNe]
          apply hK6; clear hK6
          refine aw_region okG0 ?_
          simp only [push_cast, Nat.reduceLT, Nat.reduceLeDiff, Nat.reduceEqDiff, reduceIte, reduceCtorEq, Nat.reduceAdd, Nat.reduceMul, Nat.reduceMod, Nat.reduceBEq, Nat.reduceBNe, List.reduceReplicate, Int.reduceLE, Int.reduceLT, Int.reduceNe]
          refine ⟨⟨k + 1, by omega⟩, ?_, by show R - (k + 1) < R - k; omega⟩
          rw [w64 (n := (k : Int) + 1) (by omega) (by omega)]
          exact sub_to (by simp [allE, getE] <;> rfl) (by simp [allB, getB] <;> rfl) rfl rfl rfl
  · have : ¬ (k : Int) ≤ 2 := by simpa using hc
    omega
theorem LeastReach_of (hlearn : ∀ (r : Nat) (bs ys : List (List Int)), r ≤ 2 → pairsOK bs ys → AFp Try.prog 132 [I 2, I r, Iss bs, Iss ys] (learnRes (learnF r bs ys)))
    (R : Nat) (bs ys : List (List Int)) (hR : R ≤ 2) (h : pairsOK bs ys) (T : List Int) (hT : learnF R bs ys = some T) (hless : ∀ r, r < R → learnF r bs ys = none) : AFp Try.prog 33 [I 2, Iss bs, Iss ys] (.tup [I R, Bo true]) := by
  refine AF_body okG0 Try.func33 rfl rfl (by simp [Try.ntmps33]) (by simp) ?_; simp only [Try.ntmps33]
  refine aw_seq_k fun K1 hK1 => aw_region okG0 ?_; simp only [push_cast, Nat.reduceLT, Nat.reduceLeDiff, Nat.reduceEqDiff, reduceIte, reduceCtorEq, Nat.reduceAdd, Nat.reduceMul, Nat.reduceMod, Nat.reduceBEq, Nat.reduceBNe, List.reduceReplicate, Int.reduceLE, Int.reduceLT, Int.reduceNe]
  apply hK1; clear hK1
  refine aw_seq_k fun K2 hK2 => ?_
  refine aw_seq_k fun K3 hK3 => aw_region okG0 ?_; simp only [push_cast, Nat.reduceLT, Nat.reduceLeDiff, Nat.reduceEqDiff, reduceIte, reduceCtorEq, Nat.reduceAdd, Nat.reduceMul, Nat.reduceMod, Nat.reduceBEq, Nat.reduceBNe, List.reduceReplicate, Int.reduceLE, Int.reduceLT, Int.reduceNe]
  apply hK3; clear hK3
  refine aw_block ?_
  refine aw_loop (fun k : {k : Nat // k ≤ R} => ⟨[(0, I 2), (1, Iss bs), (2, Iss ys), (11, I k.1)], [], []⟩) (fun k => R - k.1) ⟨0, Nat.zero_le _⟩ (sub_to (by simp [allE, getE] <;> rfl) (by simp [allB, getB] <;> rfl) rfl rfl rfl) ?_
  rintro ⟨k, hk⟩
  refine aw_seq_k fun K4 hK4 => aw_region okG0 ?_; simp only [push_cast, Nat.reduceLT, Nat.reduceLeDiff, Nat.reduceEqDiff, reduceIte, reduceCtorEq, Nat.reduceAdd, Nat.reduceMul, Nat.reduceMod, Nat.reduceBEq, Nat.reduceBNe, List.reduceReplicate, Int.reduceLE, Int.reduceLT, Int.reduceNe]
  apply hK4; clear hK4
  refine aw_seq_k fun K5 hK5 => ?_
  refine aw_cond rfl (fun hc => ?_) (fun hc => ?_)
  · refine aw_skip ?_
    simp only [push_cast, Nat.reduceLT, Nat.reduceLeDiff, Nat.reduceEqDiff, reduceIte, reduceCtorEq, Nat.reduceAdd, Nat.reduceMul, Nat.reduceMod, Nat.reduceBEq, Nat.reduceBNe, List.reduceReplicate, Int.reduceLE, Int.reduceLT, Int.reduceNe]
    apply hK5; clear hK5
    refine aw_seq_k fun K6 hK6 => ?_
    refine aw_block ?_
    refine aw_seq_k fun K7 hK7 => aw_region okG0 ?_; simp only [push_cast, Nat.reduceLT, Nat.reduceLeDiff, Nat.reduceEqDiff, reduceIte, reduceCtorEq, Nat.reduceAdd, Nat.reduceMul, Nat.reduceMod, Nat.reduceBEq, Nat.reduceBNe, List.reduceReplicate, Int.reduceLE, Int.reduceLT, Int.reduceNe]
    apply hK7; clear hK7
    have hspec := hlearn k bs ys (by omega) h
    by_cases hkR : k = R
    · subst hkR
      rw [hT] at hspec
      refine aw_seq_k fun K10 hK10 => aw_region okG0 ?_; simp only [push_cast, Nat.reduceLT, Nat.reduceLeDiff, Nat.reduceEqDiff, reduceIte, reduceCtorEq, Nat.reduceAdd, Nat.reduceMul, Nat.reduceMod, Nat.reduceBEq, Nat.reduceBNe, List.reduceReplicate, Int.reduceLE, Int.reduceLT, Int.reduceNe]
      refine call_pure (hspec) (fits_of rfl) (by decide) rfl (by simp [idsV, idsVs]) ?_; simp only [push_cast, Nat.reduceLT, Nat.reduceLeDiff, Nat.reduceEqDiff, reduceIte, reduceCtorEq, Nat.reduceAdd, Nat.reduceMul, Nat.reduceMod, Nat.reduceBEq, Nat.reduceBNe, List.reduceReplicate, Int.reduceLE, Int.reduceLT, Int.reduceNe]
      apply hK10; clear hK10
      refine aw_seq_k fun K11 hK11 => aw_region okG0 ?_; simp only [push_cast, Nat.reduceLT, Nat.reduceLeDiff, Nat.reduceEqDiff, reduceIte, reduceCtorEq, Nat.reduceAdd, Nat.reduceMul, Nat.reduceMod, Nat.reduceBEq, Nat.reduceBNe, List.reduceReplicate, Int.reduceLE, Int.reduceLT, Int.reduceNe]
      apply hK11; clear hK11
      refine aw_cond rfl (fun hc => ?_) (fun hc => ?_)
      · refine aw_seq_k fun K12 hK12 => aw_region okG0 ?_; simp only [push_cast, Nat.reduceLT, Nat.reduceLeDiff, Nat.reduceEqDiff, reduceIte, reduceCtorEq, Nat.reduceAdd, Nat.reduceMul, Nat.reduceMod, Nat.reduceBEq, Nat.reduceBNe, List.reduceReplicate, Int.reduceLE, Int.reduceLT, Int.reduceNe]
        apply hK12; clear hK12
        exact aw_ret (ret_p rfl rfl rfl (by simp))
      · simp at hc
    · rw [hless k (by omega)] at hspec
      refine aw_seq_k fun K10 hK10 => aw_region okG0 ?_; simp only [push_cast, Nat.reduceLT, Nat.reduceLeDiff, Nat.reduceEqDiff, reduceIte, reduceCtorEq, Nat.reduceAdd, Nat.reduceMul, Nat.reduceMod, Nat.reduceBEq, Nat.reduceBNe, List.reduceReplicate, Int.reduceLE, Int.reduceLT, Int.reduceNe]
      refine call_pure (hspec) (fits_of rfl) (by decide) rfl (by simp [idsV, idsVs]) ?_; simp only [push_cast, Nat.reduceLT, Nat.reduceLeDiff, Nat.reduceEqDiff, reduceIte, reduceCtorEq, Nat.reduceAdd, Nat.reduceMul, Nat.reduceMod, Nat.reduceBEq, Nat.reduceBNe, List.reduceReplicate, Int.reduceLE, Int.reduceLT, Int.reduceNe]
      apply hK10; clear hK10
      refine aw_seq_k fun K11 hK11 => aw_region okG0 ?_; simp only [push_cast, Nat.reduceLT, Nat.reduceLeDiff, Nat.reduceEqDiff, reduceIte, reduceCtorEq, Nat.reduceAdd, Nat.reduceMul, Nat.reduceMod, Nat.reduceBEq, Nat.reduceBNe, List.reduceReplicate, Int.reduceLE, Int.reduceLT, Int.reduceNe]
      apply hK11; clear hK11
      refine aw_cond rfl (fun hc => ?_) (fun hc => ?_)
      · simp at hc
      · refine aw_skip ?_
        simp only [push_cast, Nat.reduceLT, Nat.reduceLeDiff, Nat.reduceEqDiff, reduceIte, reduceCtorEq, Nat.reduceAdd, Nat.reduceMul, Nat.reduceMod, Nat.reduceBEq, Nat.reduceBNe, List.reduceReplicate, Int.reduceLE, Int.reduceLT, Int.reduceNe]
        apply hK6; clear hK6
        refine aw_region okG0 ?_
        simp only [push_cast, Nat.reduceLT, Nat.reduceLeDiff, Nat.reduceEqDiff, reduceIte, reduceCtorEq, Nat.reduceAdd, Nat.reduceMul, Nat.reduceMod, Nat.reduceBEq, Nat.reduceBNe, List.reduceReplicate, Int.reduceLE, Int.reduceLT, Int.reduceNe]
        refine ⟨⟨k + 1, by omega⟩, ?_, by show R - (k + 1) < R - k; omega⟩
        rw [w64 (n := (k : Int) + 1) (by omega) (by omega)]
        exact sub_to (by simp [allE, getE] <;> rfl) (by simp [allB, getB] <;> rfl) rfl rfl rfl
  · have : ¬ (k : Int) < 3 := by simpa using hc
    omega
theorem LearnTable_of (hlearn : ∀ (r : Nat) (bs ys : List (List Int)), r ≤ 2 → pairsOK bs ys → AFp Try.prog 132 [I 2, I r, Iss bs, Iss ys] (learnRes (learnF r bs ys)))
    (r : Nat) (bs ys : List (List Int)) (hr : r ≤ 2) (h : pairsOK bs ys) (T : List Int) (hT : learnF r bs ys = some T) : AFp Try.prog 32 [I 2, I r, Iss bs, Iss ys] (.tup [.own 0 2 (.int .i64) T, Bo true]) := by
  have hspec := hlearn r bs ys hr h
  rw [hT] at hspec
  refine AF_body okG0 Try.func32 rfl rfl (by simp [Try.ntmps32]) (by simp) ?_; simp only [Try.ntmps32]
  refine aw_seq_k fun K1 hK1 => aw_region okG0 ?_; simp only [push_cast, Nat.reduceLT, Nat.reduceLeDiff, Nat.reduceEqDiff, reduceIte, reduceCtorEq, Nat.reduceAdd, Nat.reduceMul, Nat.reduceMod, Nat.reduceBEq, Nat.reduceBNe, List.reduceReplicate, Int.reduceLE, Int.reduceLT, Int.reduceNe]
  apply hK1; clear hK1
  refine aw_seq_k fun K2 hK2 => aw_region okG0 ?_; simp only [push_cast, Nat.reduceLT, Nat.reduceLeDiff, Nat.reduceEqDiff, reduceIte, reduceCtorEq, Nat.reduceAdd, Nat.reduceMul, Nat.reduceMod, Nat.reduceBEq, Nat.reduceBNe, List.reduceReplicate, Int.reduceLE, Int.reduceLT, Int.reduceNe]
  refine call_pure (hspec) (fits_of rfl) (by decide) rfl (by simp [idsV, idsVs]) ?_; simp only [push_cast, Nat.reduceLT, Nat.reduceLeDiff, Nat.reduceEqDiff, reduceIte, reduceCtorEq, Nat.reduceAdd, Nat.reduceMul, Nat.reduceMod, Nat.reduceBEq, Nat.reduceBNe, List.reduceReplicate, Int.reduceLE, Int.reduceLT, Int.reduceNe]
  apply hK2; clear hK2
  exact aw_ret (ret_o [(1400, 0)] rfl rfl (by simp [renN]) rfl)
end Go.Proofs.Avx

set_option linter.unusedVariables false
set_option linter.unusedSimpArgs false
set_option maxRecDepth 20000
namespace Go.Proofs.Avx
def fill1 (st n : Int) : Int := if n = -1 then st else n
def fillT (st : Int) (T : List Int) : List Int := T.map (fill1 st)
def fillN (st : Int) (T : List Int) (n : Nat) : List Int := (T.take n).map (fill1 st)
theorem fillN_succ (st : Int) (T : List Int) (n : Nat) (h : n < T.length) : fillN st T (n + 1) = fillN st T n ++ [fill1 st (T.getD n 0)] := by
  unfold fillN
  rw [List.take_succ_eq_append_getElem h, List.map_append]
  simp [List.getD_eq_getElem?_getD, h]
theorem fillN_len (st : Int) (T : List Int) (n : Nat) (h : n ≤ T.length) : (fillN st T n).length = n := by simp [fillN]; omega
def ft0 (r : Nat) (st : Int) (T : List Int) : St := ⟨[(0, I 2), (1, I r), (3, I st), (8, .ptr 899 0), (10, .ptr 1099 0), (32, Is T), (33, I T.length), (34, I 0)], [(1099, [I 2, I r, .nilsl]), (899, [I 0, I 0, .nilsl])], [1099, 899]⟩
def ft1 (r : Nat) (st : Int) (T : List Int) (k : Nat) : St := ⟨[(0, I 2), (1, I r), (3, I st), (8, .ptr 899 0), (10, .ptr 1099 0), (32, Is T), (33, I T.length), (34, I ((k + 1 : Nat) : Int))], [(1099, [I 2, I r, .own 4500 2 (.int .i64) (fillN st T (k + 1))]), (899, [I 0, I 0, .nilsl])], [4500, 1099, 899]⟩
def ftS (r : Nat) (st : Int) (T : List Int) : Nat → St
  | 0 => ft0 r st T
  | k + 1 => ft1 r st T k
theorem FillTable_spec (r : Nat) (st : Int) (T : List Int) (hr : r ≤ 2) (hst : 0 ≤ st ∧ st ≤ 1) (hTl : T.length = N2 r) (hT : ∀ x ∈ T, -1 ≤ x ∧ x ≤ 1) : AFp Try.prog 35 [I 2, I r, Is T, I st] (.tup [.agg [I 2, I r, .own 0 2 (.int .i64) (fillT st T)], Bo true]) := by
  have hN := N2_le r hr
  have hok : tabOK r (fillT st T) := by
    refine ⟨hr, by simp [fillT, hTl], fun x hx => ?_⟩
    obtain ⟨y, hy, rfl⟩ := List.mem_map.1 hx
    have := hT y hy
    unfold fill1; split <;> omega
  have hr1 : inB (r : Int) 0 2 = true := by simp [inB]; omega
  have hst1 : inB st 0 1 = true := by simp [inB]; omega
  refine AF_body okG0 Try.func35 rfl rfl (by simp [Try.ntmps35]) (by simp) ?_; simp only [Try.ntmps35]
  refine aw_seq_k fun K1 hK1 => aw_region okG0 ?_; simp only [push_cast, Nat.reduceLT, Nat.reduceLeDiff, Nat.reduceEqDiff, reduceIte, reduceCtorEq, Nat.reduceAdd, Nat.reduceMul, Nat.reduceMod, Nat.reduceBEq, Nat.reduceBNe, List.reduceReplicate, Int.reduceLE, Int.reduceLT, Int.reduceNe]
  apply hK1; clear hK1
  refine aw_seq_k fun K2 hK2 => ?_
  refine aw_seq_k fun K3 hK3 => aw_region okG0 ?_; simp only [push_cast, Nat.reduceLT, Nat.reduceLeDiff, Nat.reduceEqDiff, reduceIte, reduceCtorEq, Nat.reduceAdd, Nat.reduceMul, Nat.reduceMod, Nat.reduceBEq, Nat.reduceBNe, List.reduceReplicate, Int.reduceLE, Int.reduceLT, Int.reduceNe]
  refine call_pure (areStates_spec _) (fits_of rfl) (by decide) rfl (by simp [idsV, idsVs]) ?_; simp only [push_cast, Nat.reduceLT, Nat.reduceLeDiff, Nat.reduceEqDiff, reduceIte, reduceCtorEq, Nat.reduceAdd, Nat.reduceMul, Nat.reduceMod, Nat.reduceBEq, Nat.reduceBNe, List.reduceReplicate, Int.reduceLE, Int.reduceLT, Int.reduceNe]
  rw [show isSt 2 = true from rfl]
  simp only [push_cast, Nat.reduceLT, Nat.reduceLeDiff, Nat.reduceEqDiff, reduceIte, reduceCtorEq, Nat.reduceAdd, Nat.reduceMul, Nat.reduceMod, Nat.reduceBEq, Nat.reduceBNe, List.reduceReplicate, Int.reduceLE, Int.reduceLT, Int.reduceNe]
  refine gcall_pure (fun _ => isReach_spec _) (fun _ => fits_of rfl) (by decide) rfl rfl ?_; simp only [push_cast, Nat.reduceLT, Nat.reduceLeDiff, Nat.reduceEqDiff, reduceIte, reduceCtorEq, Nat.reduceAdd, Nat.reduceMul, Nat.reduceMod, Nat.reduceBEq, Nat.reduceBNe, List.reduceReplicate, Int.reduceLE, Int.reduceLT, Int.reduceNe]
  rw [hr1]
  simp only [push_cast, Nat.reduceLT, Nat.reduceLeDiff, Nat.reduceEqDiff, reduceIte, reduceCtorEq, Nat.reduceAdd, Nat.reduceMul, Nat.reduceMod, Nat.reduceBEq, Nat.reduceBNe, List.reduceReplicate, Int.reduceLE, Int.reduceLT, Int.reduceNe]
  refine gcall_pure (fun _ => within_spec _ _ _) (fun _ => fits_of rfl) (by decide) rfl rfl ?_; simp only [push_cast, Nat.reduceLT, Nat.reduceLeDiff, Nat.reduceEqDiff, reduceIte, reduceCtorEq, Nat.reduceAdd, Nat.reduceMul, Nat.reduceMod, Nat.reduceBEq, Nat.reduceBNe, List.reduceReplicate, Int.reduceLE, Int.reduceLT, Int.reduceNe]
  rw [w64 (n := 2 - 1) (by omega) (by omega), show (2 : Int) - 1 = 1 from rfl, hst1]
  simp only [push_cast, Nat.reduceLT, Nat.reduceLeDiff, Nat.reduceEqDiff, reduceIte, reduceCtorEq, Nat.reduceAdd, Nat.reduceMul, Nat.reduceMod, Nat.reduceBEq, Nat.reduceBNe, List.reduceReplicate, Int.reduceLE, Int.reduceLT, Int.reduceNe]
  apply hK3; clear hK3
  refine aw_cond rfl (fun hc => ?_) (fun hc => ?_)
  · simp at hc
  · refine aw_skip ?_
    simp only [push_cast, Nat.reduceLT, Nat.reduceLeDiff, Nat.reduceEqDiff, reduceIte, reduceCtorEq, Nat.reduceAdd, Nat.reduceMul, Nat.reduceMod, Nat.reduceBEq, Nat.reduceBNe, List.reduceReplicate, Int.reduceLE, Int.reduceLT, Int.reduceNe]
    apply hK2; clear hK2
    refine aw_seq_k fun K5 hK5 => aw_region okG0 ?_; simp only [push_cast, Nat.reduceLT, Nat.reduceLeDiff, Nat.reduceEqDiff, reduceIte, reduceCtorEq, Nat.reduceAdd, Nat.reduceMul, Nat.reduceMod, Nat.reduceBEq, Nat.reduceBNe, List.reduceReplicate, Int.reduceLE, Int.reduceLT, Int.reduceNe]
    apply hK5; clear hK5
    refine aw_seq_k fun K6 hK6 => ?_
    refine aw_seq_k fun K7 hK7 => aw_region okG0 ?_; simp only [push_cast, Nat.reduceLT, Nat.reduceLeDiff, Nat.reduceEqDiff, reduceIte, reduceCtorEq, Nat.reduceAdd, Nat.reduceMul, Nat.reduceMod, Nat.reduceBEq, Nat.reduceBNe, List.reduceReplicate, Int.reduceLE, Int.reduceLT, Int.reduceNe]
    apply hK7; clear hK7
    refine aw_block ?_
    refine aw_loop (fun k : {k : Nat // k ≤ T.length} => ftS r st T k.1) (fun k => T.length - k.1) ⟨0, Nat.zero_le _⟩ ?_ ?_
    · show Sub _ (ft0 r st T)
      unfold ft0
      exact sub_to (by simp [allE, getE] <;> rfl) (by simp [allB, getB] <;> rfl) rfl rfl rfl
    rintro ⟨k, hk⟩
    rcases k with _ | k
    · show AW Try.prog 53 _ (ft0 r st T) _
      unfold ft0
      refine aw_seq_k fun K8 hK8 => aw_region okG0 ?_; simp only [push_cast, Nat.reduceLT, Nat.reduceLeDiff, Nat.reduceEqDiff, reduceIte, reduceCtorEq, Nat.reduceAdd, Nat.reduceMul, Nat.reduceMod, Nat.reduceBEq, Nat.reduceBNe, List.reduceReplicate, Int.reduceLE, Int.reduceLT, Int.reduceNe]
      apply hK8; clear hK8
      refine aw_seq_k fun K9 hK9 => ?_
      refine aw_cond rfl (fun hc => ?_) (fun hc => ?_)
      · refine aw_skip ?_
        simp only [push_cast, Nat.reduceLT, Nat.reduceLeDiff, Nat.reduceEqDiff, reduceIte, reduceCtorEq, Nat.reduceAdd, Nat.reduceMul, Nat.reduceMod, Nat.reduceBEq, Nat.reduceBNe, List.reduceReplicate, Int.reduceLE, Int.reduceLT, Int.reduceNe]
        apply hK9; clear hK9
        refine aw_seq_k fun K10 hK10 => ?_
        refine aw_block ?_
        have hlt : 0 < T.length := by omega
        refine aw_seq_k fun K11 hK11 => aw_region okG0 ?_; simp only [push_cast, Nat.reduceLT, Nat.reduceLeDiff, Nat.reduceEqDiff, reduceIte, reduceCtorEq, Nat.reduceAdd, Nat.reduceMul, Nat.reduceMod, Nat.reduceBEq, Nat.reduceBNe, List.reduceReplicate, Int.reduceLE, Int.reduceLT, Int.reduceNe]
        refine ⟨⟨by omega, by omega⟩, ?_⟩
        apply hK11; clear hK11
        refine aw_seq_k fun K12 hK12 => ?_
        refine aw_seq_k fun K13 hK13 => aw_region okG0 ?_; simp only [push_cast, Nat.reduceLT, Nat.reduceLeDiff, Nat.reduceEqDiff, reduceIte, reduceCtorEq, Nat.reduceAdd, Nat.reduceMul, Nat.reduceMod, Nat.reduceBEq, Nat.reduceBNe, List.reduceReplicate, Int.reduceLE, Int.reduceLT, Int.reduceNe]
        apply hK13; clear hK13
        have main : ∀ S, Sub S (⟨[(0, I 2), (1, I r), (3, I st), (8, .ptr 899 0), (10, .ptr 1099 0), (12, I (fill1 st (T.getD 0 0))), (32, Is T), (33, I T.length), (34, I 0)], [(1099, [I 2, I r, .nilsl]), (899, [I 0, I 0, .nilsl])], [1099, 899]⟩) → K12 S := by
          intro S hS
          apply hK12
          refine AW.sub hS ?_
          refine aw_region okG0 ?_
          simp only [push_cast, Nat.reduceLT, Nat.reduceLeDiff, Nat.reduceEqDiff, reduceIte, reduceCtorEq, Nat.reduceAdd, Nat.reduceMul, Nat.reduceMod, Nat.reduceBEq, Nat.reduceBNe, List.reduceReplicate, Int.reduceLE, Int.reduceLT, Int.reduceNe]
          apply hK10; clear hK10
          refine aw_region okG0 ?_
          simp only [push_cast, Nat.reduceLT, Nat.reduceLeDiff, Nat.reduceEqDiff, reduceIte, reduceCtorEq, Nat.reduceAdd, Nat.reduceMul, Nat.reduceMod, Nat.reduceBEq, Nat.reduceBNe, List.reduceReplicate, Int.reduceLE, Int.reduceLT, Int.reduceNe]
          refine ⟨⟨1, by omega⟩, ?_, by show T.length - 1 < T.length - 0; omega⟩
          rw [w64 (n := (0 : Int) + 1) (by omega) (by omega)]
          show Sub _ (ft1 r st T 0)
          unfold ft1
          rw [fillN_succ st T 0 hlt, show fillN st T 0 = [] from rfl]
          exact sub_to (by simp [allE, getE] <;> rfl) (by simp [allB, getB] <;> rfl) rfl rfl rfl
        refine aw_cond rfl (fun hc => ?_) (fun hc => ?_)
        · have he : T.getD 0 0 = -1 := by simpa using hc
          refine aw_region okG0 ?_
          simp only [push_cast, Nat.reduceLT, Nat.reduceLeDiff, Nat.reduceEqDiff, reduceIte, reduceCtorEq, Nat.reduceAdd, Nat.reduceMul, Nat.reduceMod, Nat.reduceBEq, Nat.reduceBNe, List.reduceReplicate, Int.reduceLE, Int.reduceLT, Int.reduceNe]
          refine main _ ?_
          rw [show fill1 st (T.getD 0 0) = st by unfold fill1; rw [if_pos he]]
          exact sub_to (by simp [allE, getE] <;> rfl) (by simp [allB, getB] <;> rfl) rfl rfl rfl
        · have he : ¬ T.getD 0 0 = -1 := by simpa using hc
          refine aw_skip ?_
          simp only [push_cast, Nat.reduceLT, Nat.reduceLeDiff, Nat.reduceEqDiff, reduceIte, reduceCtorEq, Nat.reduceAdd, Nat.reduceMul, Nat.reduceMod, Nat.reduceBEq, Nat.reduceBNe, List.reduceReplicate, Int.reduceLE, Int.reduceLT, Int.reduceNe]
          refine main _ ?_
          rw [show fill1 st (T.getD 0 0) = T.getD 0 0 by unfold fill1; rw [if_neg he]]
          exact sub_to (by simp [allE, getE] <;> rfl) (by simp [allB, getB] <;> rfl) rfl rfl rfl
      · have : ¬ (0 : Int) < T.length := by simpa using hc
        omega
    · show AW Try.prog 53 _ (ft1 r st T k) _
      unfold ft1
      have hkl := fillN_len st T (k + 1) hk
      refine aw_seq_k fun K8 hK8 => aw_region okG0 ?_; simp only [push_cast, Nat.reduceLT, Nat.reduceLeDiff, Nat.reduceEqDiff, reduceIte, reduceCtorEq, Nat.reduceAdd, Nat.reduceMul, Nat.reduceMod, Nat.reduceBEq, Nat.reduceBNe, List.reduceReplicate, Int.reduceLE, Int.reduceLT, Int.reduceNe]
      apply hK8; clear hK8
      refine aw_seq_k fun K9 hK9 => ?_
      refine aw_cond rfl (fun hc => ?_) (fun hc => ?_)
      · refine aw_skip ?_
        simp only [push_cast, Nat.reduceLT, Nat.reduceLeDiff, Nat.reduceEqDiff, reduceIte, reduceCtorEq, Nat.reduceAdd, Nat.reduceMul, Nat.reduceMod, Nat.reduceBEq, Nat.reduceBNe, List.reduceReplicate, Int.reduceLE, Int.reduceLT, Int.reduceNe]
        apply hK9; clear hK9
        refine aw_seq_k fun K10 hK10 => ?_
        refine aw_block ?_
        have hlt : k + 1 < T.length := by have : (k : Int) + 1 < T.length := (by simpa using hc); omega
        refine aw_seq_k fun K11 hK11 => aw_region okG0 ?_; simp only [push_cast, Nat.reduceLT, Nat.reduceLeDiff, Nat.reduceEqDiff, reduceIte, reduceCtorEq, Nat.reduceAdd, Nat.reduceMul, Nat.reduceMod, Nat.reduceBEq, Nat.reduceBNe, List.reduceReplicate, Int.reduceLE, Int.reduceLT, Int.reduceNe]
        refine ⟨⟨by omega, by omega⟩, ?_⟩
        rw [show ((k : Int) + 1).toNat = k + 1 by omega]
        apply hK11; clear hK11
        refine aw_seq_k fun K12 hK12 => ?_
        refine aw_seq_k fun K13 hK13 => aw_region okG0 ?_; simp only [push_cast, Nat.reduceLT, Nat.reduceLeDiff, Nat.reduceEqDiff, reduceIte, reduceCtorEq, Nat.reduceAdd, Nat.reduceMul, Nat.reduceMod, Nat.reduceBEq, Nat.reduceBNe, List.reduceReplicate, Int.reduceLE, Int.reduceLT, Int.reduceNe]
        apply hK13; clear hK13
        have main : ∀ S, Sub S (⟨[(0, I 2), (1, I r), (3, I st), (8, .ptr 899 0), (10, .ptr 1099 0), (12, I (fill1 st (T.getD (k + 1) 0))), (32, Is T), (33, I T.length), (34, I ((k : Int) + 1))], [(1099, [I 2, I r, .own 4500 2 (.int .i64) (fillN st T (k + 1))]), (899, [I 0, I 0, .nilsl])], [4500, 1099, 899]⟩) → K12 S := by
          intro S hS
          apply hK12
          refine AW.sub hS ?_
          refine aw_region okG0 ?_
          simp only [push_cast, Nat.reduceLT, Nat.reduceLeDiff, Nat.reduceEqDiff, reduceIte, reduceCtorEq, Nat.reduceAdd, Nat.reduceMul, Nat.reduceMod, Nat.reduceBEq, Nat.reduceBNe, List.reduceReplicate, Int.reduceLE, Int.reduceLT, Int.reduceNe]
          rw [hkl]
          refine ⟨by omega, by omega, ?_⟩
          apply hK10; clear hK10
          refine aw_region okG0 ?_
          simp only [push_cast, Nat.reduceLT, Nat.reduceLeDiff, Nat.reduceEqDiff, reduceIte, reduceCtorEq, Nat.reduceAdd, Nat.reduceMul, Nat.reduceMod, Nat.reduceBEq, Nat.reduceBNe, List.reduceReplicate, Int.reduceLE, Int.reduceLT, Int.reduceNe]
          refine ⟨⟨k + 1 + 1, by omega⟩, ?_, by show T.length - (k + 1 + 1) < T.length - (k + 1); omega⟩
          rw [w64 (n := (k : Int) + 1 + 1) (by omega) (by omega), show (k : Int) + 1 + 1 = ((k + 1 + 1 : Nat) : Int) by omega, ← fillN_succ st T (k + 1) hlt]
          show Sub _ (ft1 r st T (k + 1))
          unfold ft1
          exact sub_to (by simp [allE, getE] <;> rfl) (by simp [allB, getB] <;> rfl) rfl rfl rfl
        refine aw_cond rfl (fun hc => ?_) (fun hc => ?_)
        · have he : T.getD (k + 1) 0 = -1 := by simpa using hc
          refine aw_region okG0 ?_
          simp only [push_cast, Nat.reduceLT, Nat.reduceLeDiff, Nat.reduceEqDiff, reduceIte, reduceCtorEq, Nat.reduceAdd, Nat.reduceMul, Nat.reduceMod, Nat.reduceBEq, Nat.reduceBNe, List.reduceReplicate, Int.reduceLE, Int.reduceLT, Int.reduceNe]
          refine main _ ?_
          rw [show fill1 st (T.getD (k + 1) 0) = st by unfold fill1; rw [if_pos he]]
          exact sub_to (by simp [allE, getE] <;> rfl) (by simp [allB, getB] <;> rfl) rfl rfl rfl
        · have he : ¬ T.getD (k + 1) 0 = -1 := by simpa using hc
          refine aw_skip ?_
          simp only [push_cast, Nat.reduceLT, Nat.reduceLeDiff, Nat.reduceEqDiff, reduceIte, reduceCtorEq, Nat.reduceAdd, Nat.reduceMul, Nat.reduceMod, Nat.reduceBEq, Nat.reduceBNe, List.reduceReplicate, Int.reduceLE, Int.reduceLT, Int.reduceNe]
          refine main _ ?_
          rw [show fill1 st (T.getD (k + 1) 0) = T.getD (k + 1) 0 by unfold fill1; rw [if_neg he]]
          exact sub_to (by simp [allE, getE] <;> rfl) (by simp [allB, getB] <;> rfl) rfl rfl rfl
      · have hke : k + 1 = T.length := by have : ¬ (k : Int) + 1 < T.length := (by simpa using hc); omega
        have hfe : fillN st T (k + 1) = fillT st T := by unfold fillN fillT; rw [hke, List.take_length]
        rw [hfe]
        refine aw_exit ?_
        simp only [push_cast, Nat.reduceLT, Nat.reduceLeDiff, Nat.reduceEqDiff, reduceIte, reduceCtorEq, Nat.reduceAdd, Nat.reduceMul, Nat.reduceMod, Nat.reduceBEq, Nat.reduceBNe, List.reduceReplicate, Int.reduceLE, Int.reduceLT, Int.reduceNe]
        apply hK6; clear hK6
        refine aw_seq_k fun K14 hK14 => ?_
        refine aw_seq_k fun K15 hK15 => aw_region okG0 ?_; simp only [push_cast, Nat.reduceLT, Nat.reduceLeDiff, Nat.reduceEqDiff, reduceIte, reduceCtorEq, Nat.reduceAdd, Nat.reduceMul, Nat.reduceMod, Nat.reduceBEq, Nat.reduceBNe, List.reduceReplicate, Int.reduceLE, Int.reduceLT, Int.reduceNe]
        refine call_pure (ValidRule_spec r (fillT st T) hok) (fits_of rfl) (by decide) rfl (by simp [idsV, idsVs]) ?_; simp only [push_cast, Nat.reduceLT, Nat.reduceLeDiff, Nat.reduceEqDiff, reduceIte, reduceCtorEq, Nat.reduceAdd, Nat.reduceMul, Nat.reduceMod, Nat.reduceBEq, Nat.reduceBNe, List.reduceReplicate, Int.reduceLE, Int.reduceLT, Int.reduceNe]
        apply hK15; clear hK15
        refine aw_cond rfl (fun hc => ?_) (fun hc => ?_)
        · simp at hc
        · refine aw_skip ?_
          simp only [push_cast, Nat.reduceLT, Nat.reduceLeDiff, Nat.reduceEqDiff, reduceIte, reduceCtorEq, Nat.reduceAdd, Nat.reduceMul, Nat.reduceMod, Nat.reduceBEq, Nat.reduceBNe, List.reduceReplicate, Int.reduceLE, Int.reduceLT, Int.reduceNe]
          apply hK14; clear hK14
          refine aw_seq_k fun K17 hK17 => aw_region okG0 ?_; simp only [push_cast, Nat.reduceLT, Nat.reduceLeDiff, Nat.reduceEqDiff, reduceIte, reduceCtorEq, Nat.reduceAdd, Nat.reduceMul, Nat.reduceMod, Nat.reduceBEq, Nat.reduceBNe, List.reduceReplicate, Int.reduceLE, Int.reduceLT, Int.reduceNe]
          apply hK17; clear hK17
          refine aw_ret ?_
          simp only [push_cast, Nat.reduceLT, Nat.reduceLeDiff, Nat.reduceEqDiff, reduceIte, reduceCtorEq, Nat.reduceAdd, Nat.reduceMul, Nat.reduceMod, Nat.reduceBEq, Nat.reduceBNe, List.reduceReplicate, Int.reduceLE, Int.reduceLT, Int.reduceNe]
          exact ret_o [(4500, 0)] rfl rfl (by simp [renN]) rfl
end Go.Proofs.Avx

set_option linter.unusedVariables false
set_option linter.unusedSimpArgs false
set_option maxRecDepth 20000
namespace Go.Proofs.Avx
theorem isRing_ok {x : List Int} (h : ring01 x) : isRing x 2 = true := by
  obtain ⟨h5, h12, h01⟩ := h
  have ha := all01 h01
  unfold isRing many
  rw [show (2 : Int) - 1 = 1 from rfl, ha]
  simp [isSt, inB]; omega
theorem learn_of (hrep : ∀ n : Nat, 1 ≤ n → n ≤ 32 → AFp Try.prog 254 [Is [-1], I n] (.own 0 2 (.int .i64) (List.replicate n (-1))))
    (r : Nat) (bs ys : List (List Int)) (hr : r ≤ 2) (h : pairsOK bs ys) : AFp Try.prog 132 [I 2, I r, Iss bs, Iss ys] (learnRes (learnF r bs ys)) := by
  obtain ⟨hl, h1, h32, hp⟩ := h
  have hN := N2_le r hr
  have hr1 : inB (r : Int) 0 2 = true := by simp [inB]; omega
  refine AF_body okG0 Try.func132 rfl rfl (by simp [Try.ntmps132]) (by simp) ?_; simp only [Try.ntmps132]
  refine aw_seq_k fun K1 hK1 => aw_region okG0 ?_; simp only [push_cast, Nat.reduceLT, Nat.reduceLeDiff, Nat.reduceEqDiff, reduceIte, reduceCtorEq, Nat.reduceAdd, Nat.reduceMul, Nat.reduceMod, Nat.reduceBEq, Nat.reduceBNe, List.reduceReplicate, Int.reduceLE, Int.reduceLT, Int.reduceNe]
  apply hK1; clear hK1
  refine aw_seq_k fun K2 hK2 => ?_
  refine aw_seq_k fun K3 hK3 => aw_region okG0 ?_; simp only [push_cast, Nat.reduceLT, Nat.reduceLeDiff, Nat.reduceEqDiff, reduceIte, reduceCtorEq, Nat.reduceAdd, Nat.reduceMul, Nat.reduceMod, Nat.reduceBEq, Nat.reduceBNe, List.reduceReplicate, Int.reduceLE, Int.reduceLT, Int.reduceNe]
  refine call_pure (areStates_spec _) (fits_of rfl) (by decide) rfl (by simp [idsV, idsVs]) ?_; simp only [push_cast, Nat.reduceLT, Nat.reduceLeDiff, Nat.reduceEqDiff, reduceIte, reduceCtorEq, Nat.reduceAdd, Nat.reduceMul, Nat.reduceMod, Nat.reduceBEq, Nat.reduceBNe, List.reduceReplicate, Int.reduceLE, Int.reduceLT, Int.reduceNe]
  rw [show isSt 2 = true from rfl]
  simp only [push_cast, Nat.reduceLT, Nat.reduceLeDiff, Nat.reduceEqDiff, reduceIte, reduceCtorEq, Nat.reduceAdd, Nat.reduceMul, Nat.reduceMod, Nat.reduceBEq, Nat.reduceBNe, List.reduceReplicate, Int.reduceLE, Int.reduceLT, Int.reduceNe]
  refine gcall_pure (fun _ => isReach_spec _) (fun _ => fits_of rfl) (by decide) rfl rfl ?_; simp only [push_cast, Nat.reduceLT, Nat.reduceLeDiff, Nat.reduceEqDiff, reduceIte, reduceCtorEq, Nat.reduceAdd, Nat.reduceMul, Nat.reduceMod, Nat.reduceBEq, Nat.reduceBNe, List.reduceReplicate, Int.reduceLE, Int.reduceLT, Int.reduceNe]
  rw [hr1]
  simp only [push_cast, Nat.reduceLT, Nat.reduceLeDiff, Nat.reduceEqDiff, reduceIte, reduceCtorEq, Nat.reduceAdd, Nat.reduceMul, Nat.reduceMod, Nat.reduceBEq, Nat.reduceBNe, List.reduceReplicate, Int.reduceLE, Int.reduceLT, Int.reduceNe]
  apply hK3; clear hK3
  refine aw_cond rfl (fun hc => ?_) (fun hc => ?_)
  · simp at hc
    omega
  · refine aw_skip ?_
    simp only [push_cast, Nat.reduceLT, Nat.reduceLeDiff, Nat.reduceEqDiff, reduceIte, reduceCtorEq, Nat.reduceAdd, Nat.reduceMul, Nat.reduceMod, Nat.reduceBEq, Nat.reduceBNe, List.reduceReplicate, Int.reduceLE, Int.reduceLT, Int.reduceNe]
    apply hK2; clear hK2
    refine aw_seq_k fun K5 hK5 => aw_region okG0 ?_; simp only [push_cast, Nat.reduceLT, Nat.reduceLeDiff, Nat.reduceEqDiff, reduceIte, reduceCtorEq, Nat.reduceAdd, Nat.reduceMul, Nat.reduceMod, Nat.reduceBEq, Nat.reduceBNe, List.reduceReplicate, Int.reduceLE, Int.reduceLT, Int.reduceNe]
    apply hK5; clear hK5
    refine aw_seq_k fun K6 hK6 => aw_region okG0 ?_; simp only [push_cast, Nat.reduceLT, Nat.reduceLeDiff, Nat.reduceEqDiff, reduceIte, reduceCtorEq, Nat.reduceAdd, Nat.reduceMul, Nat.reduceMod, Nat.reduceBEq, Nat.reduceBNe, List.reduceReplicate, Int.reduceLE, Int.reduceLT, Int.reduceNe]
    refine call_pure (cells_spec 2 r [] (by omega) (by omega)) (by simp [bors, bor, fitsVs, fitsV, isNilA]) (by decide) rfl (by simp [idsV, idsVs]) ?_
    simp only [push_cast, Nat.reduceLT, Nat.reduceLeDiff, Nat.reduceEqDiff, reduceIte, reduceCtorEq, Nat.reduceAdd, Nat.reduceMul, Nat.reduceMod, Nat.reduceBEq, Nat.reduceBNe, List.reduceReplicate, Int.reduceLE, Int.reduceLT, Int.reduceNe]
    rw [show 2 * (r : Int) + 1 = ((2 * r + 1 : Nat) : Int) by omega]
    refine call_pure (raised_spec 2 (2 * r + 1) (by omega) (p2 r hr)) (fits_of rfl) (by decide) rfl (by simp [idsV, idsVs]) ?_; simp only [push_cast, Nat.reduceLT, Nat.reduceLeDiff, Nat.reduceEqDiff, reduceIte, reduceCtorEq, Nat.reduceAdd, Nat.reduceMul, Nat.reduceMod, Nat.reduceBEq, Nat.reduceBNe, List.reduceReplicate, Int.reduceLE, Int.reduceLT, Int.reduceNe]
    rw [N2_cast]
    refine call_pure (hrep (N2 r) (by omega) (by omega)) (fits_of rfl) (by decide) rfl (by simp [idsV, idsVs]) ?_; simp only [push_cast, Nat.reduceLT, Nat.reduceLeDiff, Nat.reduceEqDiff, reduceIte, reduceCtorEq, Nat.reduceAdd, Nat.reduceMul, Nat.reduceMod, Nat.reduceBEq, Nat.reduceBNe, List.reduceReplicate, Int.reduceLE, Int.reduceLT, Int.reduceNe]
    apply hK6; clear hK6
    refine aw_seq_k fun K7 hK7 => ?_
    refine aw_seq_k fun K8 hK8 => aw_region okG0 ?_; simp only [push_cast, Nat.reduceLT, Nat.reduceLeDiff, Nat.reduceEqDiff, reduceIte, reduceCtorEq, Nat.reduceAdd, Nat.reduceMul, Nat.reduceMod, Nat.reduceBEq, Nat.reduceBNe, List.reduceReplicate, Int.reduceLE, Int.reduceLT, Int.reduceNe]
    apply hK8; clear hK8
    refine aw_block ?_
    refine aw_loop (fun k : {k : Nat × List Int // k.1 ≤ bs.length ∧ lall r bs ys (List.replicate (N2 r) (-1)) k.1 = some k.2} => ⟨[(0, I 2), (1, I r), (2, Iss bs), (3, Iss ys), (10, .ptr 1099 0), (11, .own 5200 2 (.int .i64) k.1.2), (53, Iss bs), (54, I bs.length), (55, I k.1.1)], [(1099, [I 2, I r, .nilsl])], [5200, 1099]⟩) (fun k => bs.length - k.1.1) ⟨(0, List.replicate (N2 r) (-1)), Nat.zero_le _, rfl⟩ (sub_to (by simp [allE, getE] <;> rfl) (by simp [allB, getB] <;> rfl) rfl rfl rfl) ?_
    rintro ⟨⟨k, t⟩, hk, hall⟩
    simp only at hk hall
    have htl := lall_len hall
    rw [List.length_replicate] at htl
    refine aw_seq_k fun K9 hK9 => aw_region okG0 ?_; simp only [push_cast, Nat.reduceLT, Nat.reduceLeDiff, Nat.reduceEqDiff, reduceIte, reduceCtorEq, Nat.reduceAdd, Nat.reduceMul, Nat.reduceMod, Nat.reduceBEq, Nat.reduceBNe, List.reduceReplicate, Int.reduceLE, Int.reduceLT, Int.reduceNe]
    apply hK9; clear hK9
    refine aw_seq_k fun K10 hK10 => ?_
    refine aw_cond rfl (fun hc => ?_) (fun hc => ?_)
    · have hlt : k < bs.length := by simpa using hc
      obtain ⟨hb, hy, hby⟩ := hp k hlt
      have hb5 := hb.1
      have hb12 := hb.2.1
      refine aw_skip ?_
      simp only [push_cast, Nat.reduceLT, Nat.reduceLeDiff, Nat.reduceEqDiff, reduceIte, reduceCtorEq, Nat.reduceAdd, Nat.reduceMul, Nat.reduceMod, Nat.reduceBEq, Nat.reduceBNe, List.reduceReplicate, Int.reduceLE, Int.reduceLT, Int.reduceNe]
      apply hK10; clear hK10
      refine aw_seq_k fun K11 hK11 => ?_
      refine aw_block ?_
      refine aw_seq_k fun K12 hK12 => aw_region okG0 ?_; simp only [push_cast, Nat.reduceLT, Nat.reduceLeDiff, Nat.reduceEqDiff, reduceIte, reduceCtorEq, Nat.reduceAdd, Nat.reduceMul, Nat.reduceMod, Nat.reduceBEq, Nat.reduceBNe, List.reduceReplicate, Int.reduceLE, Int.reduceLT, Int.reduceNe]
      refine ⟨⟨by omega, by omega⟩, ?_⟩
      apply hK12; clear hK12
      refine aw_seq_k fun K13 hK13 => ?_
      refine aw_seq_k fun K14 hK14 => aw_region okG0 ?_; simp only [push_cast, Nat.reduceLT, Nat.reduceLeDiff, Nat.reduceEqDiff, reduceIte, reduceCtorEq, Nat.reduceAdd, Nat.reduceMul, Nat.reduceMod, Nat.reduceBEq, Nat.reduceBNe, List.reduceReplicate, Int.reduceLE, Int.reduceLT, Int.reduceNe]
      refine call_pure (IsRing_spec (bs.getD k []) 2 (by omega) (by omega) (by omega)) (fits_of rfl) (by decide) rfl (by simp [idsV, idsVs]) ?_; simp only [push_cast, Nat.reduceLT, Nat.reduceLeDiff, Nat.reduceEqDiff, reduceIte, reduceCtorEq, Nat.reduceAdd, Nat.reduceMul, Nat.reduceMod, Nat.reduceBEq, Nat.reduceBNe, List.reduceReplicate, Int.reduceLE, Int.reduceLT, Int.reduceNe]
      rw [isRing_ok hb]
      simp only [push_cast, Nat.reduceLT, Nat.reduceLeDiff, Nat.reduceEqDiff, reduceIte, reduceCtorEq, Nat.reduceAdd, Nat.reduceMul, Nat.reduceMod, Nat.reduceBEq, Nat.reduceBNe, List.reduceReplicate, Int.reduceLE, Int.reduceLT, Int.reduceNe]
      refine ⟨⟨by omega, by omega⟩, ?_⟩
      refine gcall_pure (fun _ => IsRing_spec (ys.getD k []) 2 (by rw [hby]; omega) (by omega) (by omega)) (fun _ => fits_of rfl) (by decide) rfl rfl ?_; simp only [push_cast, Nat.reduceLT, Nat.reduceLeDiff, Nat.reduceEqDiff, reduceIte, reduceCtorEq, Nat.reduceAdd, Nat.reduceMul, Nat.reduceMod, Nat.reduceBEq, Nat.reduceBNe, List.reduceReplicate, Int.reduceLE, Int.reduceLT, Int.reduceNe]
      rw [isRing_ok hy]
      simp only [push_cast, Nat.reduceLT, Nat.reduceLeDiff, Nat.reduceEqDiff, reduceIte, reduceCtorEq, Nat.reduceAdd, Nat.reduceMul, Nat.reduceMod, Nat.reduceBEq, Nat.reduceBNe, List.reduceReplicate, Int.reduceLE, Int.reduceLT, Int.reduceNe]
      refine ⟨⟨by omega, by omega⟩, ?_⟩
      rw [hby, bne_self_eq_false]
      simp only [push_cast, Nat.reduceLT, Nat.reduceLeDiff, Nat.reduceEqDiff, reduceIte, reduceCtorEq, Nat.reduceAdd, Nat.reduceMul, Nat.reduceMod, Nat.reduceBEq, Nat.reduceBNe, List.reduceReplicate, Int.reduceLE, Int.reduceLT, Int.reduceNe]
      refine gcall_pure (fun _ => cells_spec 2 r [] (by omega) (by omega)) (fun _ => by simp [bors, bor, fitsVs, fitsV, isNilA]) (by decide) rfl rfl ?_
      simp only [push_cast, Nat.reduceLT, Nat.reduceLeDiff, Nat.reduceEqDiff, reduceIte, reduceCtorEq, Nat.reduceAdd, Nat.reduceMul, Nat.reduceMod, Nat.reduceBEq, Nat.reduceBNe, List.reduceReplicate, Int.reduceLE, Int.reduceLT, Int.reduceNe]
      apply hK14; clear hK14
      refine aw_cond rfl (fun hc => ?_) (fun hc => ?_)
      · have : (List.length (bs.getD k []) : Int) < 2 * r + 1 := by simpa using hc
        omega
      · refine aw_skip ?_
        simp only [push_cast, Nat.reduceLT, Nat.reduceLeDiff, Nat.reduceEqDiff, reduceIte, reduceCtorEq, Nat.reduceAdd, Nat.reduceMul, Nat.reduceMod, Nat.reduceBEq, Nat.reduceBNe, List.reduceReplicate, Int.reduceLE, Int.reduceLT, Int.reduceNe]
        apply hK13; clear hK13
        refine aw_seq_k fun K16 hK16 => aw_region okG0 ?_; simp only [push_cast, Nat.reduceLT, Nat.reduceLeDiff, Nat.reduceEqDiff, reduceIte, reduceCtorEq, Nat.reduceAdd, Nat.reduceMul, Nat.reduceMod, Nat.reduceBEq, Nat.reduceBNe, List.reduceReplicate, Int.reduceLE, Int.reduceLT, Int.reduceNe]
        refine ⟨⟨by omega, by omega⟩, ?_⟩
        apply hK16; clear hK16
        refine aw_block ?_
        refine aw_loop (fun m : {m : Nat × List Int // m.1 ≤ (bs.getD k []).length ∧ lrow r (bs.getD k []) (ys.getD k []) t m.1 = some m.2} => ⟨[(0, I 2), (1, I r), (2, Iss bs), (3, Iss ys), (10, .ptr 1099 0), (11, .own 5200 2 (.int .i64) m.1.2), (13, Is (bs.getD k [])), (53, Iss bs), (54, I bs.length), (55, I k), (93, Is (ys.getD k [])), (94, I (bs.getD k []).length), (95, I m.1.1)], [(1099, [I 2, I r, .nilsl])], [5200, 1099]⟩) (fun m => (bs.getD k []).length - m.1.1) ⟨(0, t), Nat.zero_le _, rfl⟩ ?_ ?_
        · rw [hby]
          exact sub_to (by simp [allE, getE] <;> rfl) (by simp [allB, getB] <;> rfl) rfl rfl rfl
        rintro ⟨⟨m, u⟩, hm, hrow⟩
        simp only at hm hrow
        have hul := lrow_len hrow
        rw [htl] at hul
        refine aw_seq_k fun K17 hK17 => aw_region okG0 ?_; simp only [push_cast, Nat.reduceLT, Nat.reduceLeDiff, Nat.reduceEqDiff, reduceIte, reduceCtorEq, Nat.reduceAdd, Nat.reduceMul, Nat.reduceMod, Nat.reduceBEq, Nat.reduceBNe, List.reduceReplicate, Int.reduceLE, Int.reduceLT, Int.reduceNe]
        apply hK17; clear hK17
        refine aw_seq_k fun K18 hK18 => ?_
        refine aw_cond rfl (fun hc => ?_) (fun hc => ?_)
        · have hml : m < (bs.getD k []).length := by simpa using hc
          have hh := hood_range hb.2.2 m r
          refine aw_skip ?_
          simp only [push_cast, Nat.reduceLT, Nat.reduceLeDiff, Nat.reduceEqDiff, reduceIte, reduceCtorEq, Nat.reduceAdd, Nat.reduceMul, Nat.reduceMod, Nat.reduceBEq, Nat.reduceBNe, List.reduceReplicate, Int.reduceLE, Int.reduceLT, Int.reduceNe]
          apply hK18; clear hK18
          refine aw_seq_k fun K19 hK19 => ?_
          refine aw_block ?_
          refine aw_seq_k fun K20 hK20 => aw_region okG0 ?_; simp only [push_cast, Nat.reduceLT, Nat.reduceLeDiff, Nat.reduceEqDiff, reduceIte, reduceCtorEq, Nat.reduceAdd, Nat.reduceMul, Nat.reduceMod, Nat.reduceBEq, Nat.reduceBNe, List.reduceReplicate, Int.reduceLE, Int.reduceLT, Int.reduceNe]
          refine ⟨⟨by omega, by rw [hby]; omega⟩, ?_⟩
          apply hK20; clear hK20
          refine aw_seq_k fun K21 hK21 => aw_region okG0 ?_; simp only [push_cast, Nat.reduceLT, Nat.reduceLeDiff, Nat.reduceEqDiff, reduceIte, reduceCtorEq, Nat.reduceAdd, Nat.reduceMul, Nat.reduceMod, Nat.reduceBEq, Nat.reduceBNe, List.reduceReplicate, Int.reduceLE, Int.reduceLT, Int.reduceNe]
          apply hK21; clear hK21
          refine aw_seq_k fun K22 hK22 => ?_
          refine aw_seq_k fun K23 hK23 => aw_region okG0 ?_; simp only [push_cast, Nat.reduceLT, Nat.reduceLeDiff, Nat.reduceEqDiff, reduceIte, reduceCtorEq, Nat.reduceAdd, Nat.reduceMul, Nat.reduceMod, Nat.reduceBEq, Nat.reduceBNe, List.reduceReplicate, Int.reduceLE, Int.reduceLT, Int.reduceNe]
          rw [w64 (n := (m : Int) - r) (by omega) (by omega)]
          apply hK23; clear hK23
          refine aw_block ?_
          refine aw_loop (fun j : {j : Nat // j ≤ 2 * r + 1} => ⟨[(0, I 2), (1, I r), (2, Iss bs), (3, Iss ys), (10, .ptr 1099 0), (11, .own 5200 2 (.int .i64) u), (13, Is (bs.getD k [])), (14, I m), (15, I ((ys.getD k []).getD m 0)), (16, I (hoodN (bs.getD k []) m r j.1)), (17, I ((m : Int) - r + j.1)), (53, Iss bs), (54, I bs.length), (55, I k), (93, Is (ys.getD k [])), (94, I (bs.getD k []).length), (95, I m)], [(1099, [I 2, I r, .nilsl])], [5200, 1099]⟩) (fun j => 2 * r + 1 - j.1) ⟨0, Nat.zero_le _⟩ ?_ ?_
          · show Sub _ ⟨[(0, I 2), (1, I r), (2, Iss bs), (3, Iss ys), (10, .ptr 1099 0), (11, .own 5200 2 (.int .i64) u), (13, Is (bs.getD k [])), (14, I m), (15, I ((ys.getD k []).getD m 0)), (16, I 0), (17, I ((m : Int) - r + (0 : Nat))), (53, Iss bs), (54, I bs.length), (55, I k), (93, Is (ys.getD k [])), (94, I (bs.getD k []).length), (95, I m)], [(1099, [I 2, I r, .nilsl])], [5200, 1099]⟩
            exact sub_to (by simp [allE, getE] <;> rfl) (by simp [allB, getB] <;> rfl) rfl rfl rfl
          rintro ⟨j, hj⟩
          refine aw_seq_k fun K24 hK24 => ?_
          refine aw_seq_k fun K25 hK25 => aw_region okG0 ?_; simp only [push_cast, Nat.reduceLT, Nat.reduceLeDiff, Nat.reduceEqDiff, reduceIte, reduceCtorEq, Nat.reduceAdd, Nat.reduceMul, Nat.reduceMod, Nat.reduceBEq, Nat.reduceBNe, List.reduceReplicate, Int.reduceLE, Int.reduceLT, Int.reduceNe]
          rw [w64 (n := (m : Int) + r) (by omega) (by omega)]
          apply hK25; clear hK25
          refine aw_cond rfl (fun hc => ?_) (fun hc => ?_)
          · have hjl : j < 2 * r + 1 := by have : (m : Int) - r + j ≤ m + r := (by simpa using hc); omega
            have hq := hoodN_range hb.2.2 m r j
            have hp2 := p2N r j hr (by omega)
            have hm0 := Int.emod_nonneg ((m : Int) - r + j) (show ((bs.getD k []).length : Int) ≠ 0 by omega)
            have hm1 := Int.emod_lt_of_pos ((m : Int) - r + j) (show (0 : Int) < ((bs.getD k []).length : Int) by omega)
            have hx01 := getD01 hb.2.2 (((m : Int) - r + j) % ((bs.getD k []).length : Int)).toNat
            refine aw_skip ?_
            simp only [push_cast, Nat.reduceLT, Nat.reduceLeDiff, Nat.reduceEqDiff, reduceIte, reduceCtorEq, Nat.reduceAdd, Nat.reduceMul, Nat.reduceMod, Nat.reduceBEq, Nat.reduceBNe, List.reduceReplicate, Int.reduceLE, Int.reduceLT, Int.reduceNe]
            apply hK24; clear hK24
            refine aw_seq_k fun K26 hK26 => ?_
            refine aw_block ?_
            refine aw_region okG0 ?_
            simp only [push_cast, Nat.reduceLT, Nat.reduceLeDiff, Nat.reduceEqDiff, reduceIte, reduceCtorEq, Nat.reduceAdd, Nat.reduceMul, Nat.reduceMod, Nat.reduceBEq, Nat.reduceBNe, List.reduceReplicate, Int.reduceLE, Int.reduceLT, Int.reduceNe]
            refine call_pure (floorMod_spec ((m : Int) - r + j) ((bs.getD k []).length : Int) (by omega) (by omega)) (fits_of rfl) (by decide) rfl (by simp [idsV, idsVs]) ?_; simp only [push_cast, Nat.reduceLT, Nat.reduceLeDiff, Nat.reduceEqDiff, reduceIte, reduceCtorEq, Nat.reduceAdd, Nat.reduceMul, Nat.reduceMod, Nat.reduceBEq, Nat.reduceBNe, List.reduceReplicate, Int.reduceLE, Int.reduceLT, Int.reduceNe]
            refine ⟨⟨hm0, hm1⟩, ?_⟩
            rw [w64 (n := hoodN (bs.getD k []) m r j * 2) (by omega) (by omega), w64 (n := hoodN (bs.getD k []) m r j * 2 + _) (by omega) (by omega)]
            rw [show hoodN (bs.getD k []) m r j * 2 + (bs.getD k []).getD (((m : Int) - r + j) % ((bs.getD k []).length : Int)).toNat 0 = hoodN (bs.getD k []) m r (j + 1) from rfl]
            apply hK26; clear hK26
            refine aw_region okG0 ?_
            simp only [push_cast, Nat.reduceLT, Nat.reduceLeDiff, Nat.reduceEqDiff, reduceIte, reduceCtorEq, Nat.reduceAdd, Nat.reduceMul, Nat.reduceMod, Nat.reduceBEq, Nat.reduceBNe, List.reduceReplicate, Int.reduceLE, Int.reduceLT, Int.reduceNe]
            refine ⟨⟨j + 1, by omega⟩, ?_, by show 2 * r + 1 - (j + 1) < 2 * r + 1 - j; omega⟩
            rw [w64 (n := (m : Int) - r + j + 1) (by omega) (by omega), show (m : Int) - r + j + 1 = (m : Int) - r + ((j + 1 : Nat) : Int) by omega]
            exact sub_to (by simp [allE, getE] <;> rfl) (by simp [allB, getB] <;> rfl) rfl rfl rfl
          · have hje : j = 2 * r + 1 := by have : ¬ (m : Int) - r + j ≤ m + r := (by simpa using hc); omega
            subst hje
            rw [show hoodN (bs.getD k []) m r (2 * r + 1) = hood (bs.getD k []) m r from rfl]
            have i1 : InR (hood (bs.getD k []) m r) u.length := ⟨hh.1, by rw [hul]; exact hh.2⟩
            have i2 : (hood (bs.getD k []) m r).toNat < u.length := by rw [hul]; omega
            refine aw_exit ?_
            simp only [push_cast, Nat.reduceLT, Nat.reduceLeDiff, Nat.reduceEqDiff, reduceIte, reduceCtorEq, Nat.reduceAdd, Nat.reduceMul, Nat.reduceMod, Nat.reduceBEq, Nat.reduceBNe, List.reduceReplicate, Int.reduceLE, Int.reduceLT, Int.reduceNe]
            apply hK22; clear hK22
            refine aw_seq_k fun K27 hK27 => ?_
            refine aw_seq_k fun K28 hK28 => aw_region okG0 ?_; simp only [push_cast, Nat.reduceLT, Nat.reduceLeDiff, Nat.reduceEqDiff, reduceIte, reduceCtorEq, Nat.reduceAdd, Nat.reduceMul, Nat.reduceMod, Nat.reduceBEq, Nat.reduceBNe, List.reduceReplicate, Int.reduceLE, Int.reduceLT, Int.reduceNe]
            refine ⟨i1, i2, ?_⟩
            apply hK28; clear hK28
            refine aw_seq_k fun K29 hK29 => aw_region okG0 ?_; simp only [push_cast, Nat.reduceLT, Nat.reduceLeDiff, Nat.reduceEqDiff, reduceIte, reduceCtorEq, Nat.reduceAdd, Nat.reduceMul, Nat.reduceMod, Nat.reduceBEq, Nat.reduceBNe, List.reduceReplicate, Int.reduceLE, Int.reduceLT, Int.reduceNe]
            apply hK29; clear hK29
            refine aw_cond rfl (fun hc => ?_) (fun hc => ?_)
            · refine aw_seq_k fun K30 hK30 => aw_region okG0 ?_; simp only [push_cast, Nat.reduceLT, Nat.reduceLeDiff, Nat.reduceEqDiff, reduceIte, reduceCtorEq, Nat.reduceAdd, Nat.reduceMul, Nat.reduceMod, Nat.reduceBEq, Nat.reduceBNe, List.reduceReplicate, Int.reduceLE, Int.reduceLT, Int.reduceNe]
              apply hK30; clear hK30
              have hn : learnF r bs ys = none := by
                have h1 : lrow r (bs.getD k []) (ys.getD k []) t (m + 1) = none := by
                  simp only [lrow, hrow, Option.bind_some, upd]
                  simp only [Bool.and_eq_true, decide_eq_true_eq, bne_iff_ne] at hc
                  rw [if_pos hc]
                have h2 := lrow_none h1 ((bs.getD k []).length - (m + 1))
                rw [show m + 1 + ((bs.getD k []).length - (m + 1)) = (bs.getD k []).length by omega] at h2
                have h3 : lall r bs ys (List.replicate (N2 r) (-1)) (k + 1) = none := by simp only [lall, hall, Option.bind_some]; exact h2
                have h4 := lall_none h3 (bs.length - (k + 1))
                rw [show k + 1 + (bs.length - (k + 1)) = bs.length by omega] at h4
                exact h4
              rw [hn]
              exact aw_ret (ret_p rfl rfl rfl (by simp))
            · have hs : upd u (hood (bs.getD k []) m r) ((ys.getD k []).getD m 0) = some (u.set (hood (bs.getD k []) m r).toNat ((ys.getD k []).getD m 0)) := by
                unfold upd
                rw [if_neg]
                intro hcc
                simp only [Bool.and_eq_false_iff, decide_eq_false_iff_not, bne_eq_false_iff_eq] at hc
                rcases hc with hc | hc
                · exact hc hcc.1
                · exact hcc.2 hc
              refine aw_skip ?_
              simp only [push_cast, Nat.reduceLT, Nat.reduceLeDiff, Nat.reduceEqDiff, reduceIte, reduceCtorEq, Nat.reduceAdd, Nat.reduceMul, Nat.reduceMod, Nat.reduceBEq, Nat.reduceBNe, List.reduceReplicate, Int.reduceLE, Int.reduceLT, Int.reduceNe]
              apply hK27; clear hK27
              refine aw_region okG0 ?_
              simp only [push_cast, Nat.reduceLT, Nat.reduceLeDiff, Nat.reduceEqDiff, reduceIte, reduceCtorEq, Nat.reduceAdd, Nat.reduceMul, Nat.reduceMod, Nat.reduceBEq, Nat.reduceBNe, List.reduceReplicate, Int.reduceLE, Int.reduceLT, Int.reduceNe]
              refine ⟨i1, i2, ?_⟩
              apply hK19; clear hK19
              refine aw_region okG0 ?_
              simp only [push_cast, Nat.reduceLT, Nat.reduceLeDiff, Nat.reduceEqDiff, reduceIte, reduceCtorEq, Nat.reduceAdd, Nat.reduceMul, Nat.reduceMod, Nat.reduceBEq, Nat.reduceBNe, List.reduceReplicate, Int.reduceLE, Int.reduceLT, Int.reduceNe]
              refine ⟨⟨(m + 1, u.set (hood (bs.getD k []) m r).toNat ((ys.getD k []).getD m 0)), by show m + 1 ≤ _; omega, ?_⟩, ?_, by show (bs.getD k []).length - (m + 1) < (bs.getD k []).length - m; omega⟩
              · show lrow r _ _ t (m + 1) = _
                simp only [lrow, hrow, Option.bind_some]
                exact hs
              · rw [w64 (n := (m : Int) + 1) (by omega) (by omega)]
                exact sub_to (by simp [allE, getE] <;> rfl) (by simp [allB, getB] <;> rfl) rfl rfl rfl
        · have hme : m = (bs.getD k []).length := by have : ¬ (m : Int) < (bs.getD k []).length := (by simpa using hc); omega
          refine aw_exit ?_
          simp only [push_cast, Nat.reduceLT, Nat.reduceLeDiff, Nat.reduceEqDiff, reduceIte, reduceCtorEq, Nat.reduceAdd, Nat.reduceMul, Nat.reduceMod, Nat.reduceBEq, Nat.reduceBNe, List.reduceReplicate, Int.reduceLE, Int.reduceLT, Int.reduceNe]
          apply hK11; clear hK11
          refine aw_region okG0 ?_
          simp only [push_cast, Nat.reduceLT, Nat.reduceLeDiff, Nat.reduceEqDiff, reduceIte, reduceCtorEq, Nat.reduceAdd, Nat.reduceMul, Nat.reduceMod, Nat.reduceBEq, Nat.reduceBNe, List.reduceReplicate, Int.reduceLE, Int.reduceLT, Int.reduceNe]
          refine ⟨⟨(k + 1, u), by show k + 1 ≤ _; omega, ?_⟩, ?_, by show bs.length - (k + 1) < bs.length - k; omega⟩
          · show lall r bs ys _ (k + 1) = some u
            simp only [lall, hall, Option.bind_some]
            rw [← hme]; exact hrow
          · rw [w64 (n := (k : Int) + 1) (by omega) (by omega)]
            exact sub_to (by simp [allE, getE] <;> rfl) (by simp [allB, getB] <;> rfl) rfl rfl rfl
    · have hke : k = bs.length := by have : ¬ (k : Int) < bs.length := (by simpa using hc); omega
      refine aw_exit ?_
      simp only [push_cast, Nat.reduceLT, Nat.reduceLeDiff, Nat.reduceEqDiff, reduceIte, reduceCtorEq, Nat.reduceAdd, Nat.reduceMul, Nat.reduceMod, Nat.reduceBEq, Nat.reduceBNe, List.reduceReplicate, Int.reduceLE, Int.reduceLT, Int.reduceNe]
      apply hK7; clear hK7
      refine aw_seq_k fun K31 hK31 => aw_region okG0 ?_; simp only [push_cast, Nat.reduceLT, Nat.reduceLeDiff, Nat.reduceEqDiff, reduceIte, reduceCtorEq, Nat.reduceAdd, Nat.reduceMul, Nat.reduceMod, Nat.reduceBEq, Nat.reduceBNe, List.reduceReplicate, Int.reduceLE, Int.reduceLT, Int.reduceNe]
      apply hK31; clear hK31
      have he : learnF r bs ys = some t := by unfold learnF; rw [← hke]; exact hall
      rw [he]
      exact aw_ret (ret_o [(5200, 0)] rfl rfl (by simp [renN]) rfl)
end Go.Proofs.Avx

set_option linter.unusedVariables false
set_option linter.unusedSimpArgs false
namespace Go.Proofs.Avx
/-! ### What is learned of a rule's own steps -/
structure Agr (T t : List Int) : Prop where
  len : t.length = T.length
  at_ : ∀ j, t.getD j 0 = -1 ∨ t.getD j 0 = T.getD j 0
theorem stepR_at {r : Nat} {T x : List Int} {m : Nat} (h : m < x.length) : (stepR r T x).getD m 0 = T.getD (hood x m r).toNat 0 := by
  rw [List.getD_eq_getElem?_getD]
  simp [stepR, h]
theorem getD_set (t : List Int) (i j : Nat) (v : Int) (hi : i < t.length) : (t.set i v).getD j 0 = if j = i then v else t.getD j 0 := by
  rw [List.getD_eq_getElem?_getD, List.getElem?_set]
  by_cases h : i = j
  · subst h; simp [hi]
  · simp [h, Ne.symm h, List.getD_eq_getElem?_getD]
theorem upd_agr {T t : List Int} {h : Int} (ha : Agr T t) (hh : h.toNat < T.length) : ∃ u, upd t h (T.getD h.toNat 0) = some u ∧ Agr T u ∧ u.getD h.toNat 0 = T.getD h.toNat 0 ∧ ∀ j, t.getD j 0 = T.getD j 0 → u.getD j 0 = T.getD j 0 := by
  have hn : ¬ (0 ≤ t.getD h.toNat 0 ∧ t.getD h.toNat 0 ≠ T.getD h.toNat 0) := by
    rcases ha.at_ h.toNat with e | e
    · rw [e]; simp
    · rw [e]; simp
  have hl : h.toNat < t.length := by rw [ha.len]; exact hh
  refine ⟨t.set h.toNat (T.getD h.toNat 0), by unfold upd; rw [if_neg hn], ⟨by simp [ha.len], fun j => ?_⟩, ?_, fun j hj => ?_⟩
  · rw [getD_set _ _ _ _ hl]
    split
    · rename_i e; subst e; exact .inr rfl
    · exact ha.at_ j
  · rw [getD_set _ _ _ _ hl, if_pos rfl]
  · rw [getD_set _ _ _ _ hl]
    split
    · rename_i e; subst e; rfl
    · exact hj
theorem lrow_agr {r : Nat} {T x : List Int} (hT : T.length = N2 r) (hx : ∀ y ∈ x, 0 ≤ y ∧ y ≤ 1) {t : List Int} (ha : Agr T t) : ∀ m, m ≤ x.length →
    ∃ u, lrow r x (stepR r T x) t m = some u ∧ Agr T u ∧ (∀ i, i < m → u.getD (hood x i r).toNat 0 = T.getD (hood x i r).toNat 0) ∧ ∀ j, t.getD j 0 = T.getD j 0 → u.getD j 0 = T.getD j 0
  | 0, _ => ⟨t, rfl, ha, fun i hi => by omega, fun j hj => hj⟩
  | m + 1, hm => by
    obtain ⟨u, h1, h2, h3, h4⟩ := lrow_agr hT hx ha m (by omega)
    have hh := hood_range hx m r
    obtain ⟨v, k1, k2, k3, k4⟩ := upd_agr (h := hood x m r) h2 (by rw [hT]; omega)
    refine ⟨v, ?_, k2, fun i hi => ?_, fun j hj => k4 j (h4 j hj)⟩
    · simp only [lrow, h1, Option.bind_some]
      rw [stepR_at (by omega)]; exact k1
    · by_cases e : i = m
      · subst e; exact k3
      · exact k4 _ (h3 i (by omega))
theorem lall_agr {r : Nat} {T : List Int} {bs ys : List (List Int)} (hT : T.length = N2 r) (hb : ∀ k, k < bs.length → (∀ y ∈ bs.getD k [], 0 ≤ y ∧ y ≤ 1) ∧ ys.getD k [] = stepR r T (bs.getD k [])) {t : List Int} (ha : Agr T t) : ∀ k, k ≤ bs.length →
    ∃ u, lall r bs ys t k = some u ∧ Agr T u ∧ (∀ q, q < k → ∀ i, i < (bs.getD q []).length → u.getD (hood (bs.getD q []) i r).toNat 0 = T.getD (hood (bs.getD q []) i r).toNat 0) ∧ ∀ j, t.getD j 0 = T.getD j 0 → u.getD j 0 = T.getD j 0
  | 0, _ => ⟨t, rfl, ha, fun q hq => by omega, fun j hj => hj⟩
  | k + 1, hk => by
    obtain ⟨u, h1, h2, h3, h4⟩ := lall_agr hT hb ha k (by omega)
    obtain ⟨b1, b2⟩ := hb k (by omega)
    obtain ⟨v, k1, k2, k3, k4⟩ := lrow_agr hT b1 h2 (bs.getD k []).length (Nat.le_refl _)
    refine ⟨v, ?_, k2, fun q hq i hi => ?_, fun j hj => k4 j (h4 j hj)⟩
    · simp only [lall, h1, Option.bind_some]
      rw [b2]; exact k1
    · by_cases e : q = k
      · subst e; exact k3 i hi
      · exact k4 _ (h3 q (by omega) i hi)
theorem getD_rep (n j : Nat) : (List.replicate n (-1 : Int)).getD j 0 = if j < n then -1 else 0 := by
  rw [List.getD_eq_getElem?_getD, List.getElem?_replicate]; split <;> rfl
/-- The table that is learned of a rule's steps. -/
theorem learn_agr {r : Nat} {T : List Int} {bs ys : List (List Int)} (hT : T.length = N2 r) (hb : ∀ k, k < bs.length → (∀ y ∈ bs.getD k [], 0 ≤ y ∧ y ≤ 1) ∧ ys.getD k [] = stepR r T (bs.getD k [])) :
    ∃ u, learnF r bs ys = some u ∧ Agr T u ∧ ∀ q, q < bs.length → ∀ i, i < (bs.getD q []).length → u.getD (hood (bs.getD q []) i r).toNat 0 = T.getD (hood (bs.getD q []) i r).toNat 0 := by
  have ha : Agr T (List.replicate (N2 r) (-1)) := ⟨by simp [hT], fun j => by
    rw [getD_rep]
    split
    · exact .inl rfl
    · rename_i h
      right
      rw [List.getD_eq_getElem?_getD, List.getElem?_eq_none (by omega)]; rfl⟩
  obtain ⟨u, h1, h2, h3, _⟩ := lall_agr hT hb ha bs.length (Nat.le_refl _)
  exact ⟨u, h1, h2, h3⟩
end Go.Proofs.Avx

set_option linter.unusedVariables false
set_option linter.unusedSimpArgs false
namespace Go.Proofs.Avx
theorem fillT_at (st : Int) (u : List Int) (j : Nat) (h : j < u.length) : (fillT st u).getD j 0 = fill1 st (u.getD j 0) := by
  rw [List.getD_eq_getElem?_getD, List.getD_eq_getElem?_getD]
  simp [fillT, h]
theorem fill_step {r : Nat} {T u x : List Int} (st : Int) (hT : tabOK r T) (hu : u.length = N2 r) (hx : ∀ y ∈ x, 0 ≤ y ∧ y ≤ 1)
    (h : ∀ i, i < x.length → u.getD (hood x i r).toNat 0 = T.getD (hood x i r).toNat 0) : stepR r (fillT st u) x = stepR r T x := by
  unfold stepR
  refine List.map_congr_left (fun i hi => ?_)
  have hi := List.mem_range.1 hi
  have hh := hood_range hx i r
  have h01 := getD01 hT.2.2 (hood x i r).toNat
  rw [fillT_at st u _ (by rw [hu]; omega), h i hi, fill1, if_neg (by omega)]
/-- The least reach with which something is learned. -/
theorem least_learn {r : Nat} {bs ys : List (List Int)} {u : List Int} (h : learnF r bs ys = some u) : ∃ R v, R ≤ r ∧ learnF R bs ys = some v ∧ ∀ q, q < R → learnF q bs ys = none := by
  obtain ⟨R, h1, h2⟩ := exists_least (fun q => (learnF q bs ys).isSome = true) ⟨r, by simp [h]⟩
  obtain ⟨v, hv⟩ := Option.isSome_iff_exists.1 h1
  refine ⟨R, v, h2 r (by simp [h]), hv, fun q hq => ?_⟩
  cases hq' : learnF q bs ys with
  | none => rfl
  | some w => have := h2 q (by simp [hq']); omega
/-- The rings one after another. -/
def ringsN (r : Nat) (T x : List Int) : Nat → List Int
  | 0 => x
  | k + 1 => stepR r T (ringsN r T x k)
def befN (r : Nat) (T x : List Int) (n : Nat) : List (List Int) := (List.range n).map (ringsN r T x)
def behN (r : Nat) (T x : List Int) (n : Nat) : List (List Int) := (List.range n).map (fun k => ringsN r T x (k + 1))
theorem befN_succ (r : Nat) (T x : List Int) (n : Nat) : befN r T x (n + 1) = befN r T x n ++ [ringsN r T x n] := by simp [befN, List.range_succ]
theorem behN_succ (r : Nat) (T x : List Int) (n : Nat) : behN r T x (n + 1) = behN r T x n ++ [ringsN r T x (n + 1)] := by simp [behN, List.range_succ]
theorem befN_len (r : Nat) (T x : List Int) (n : Nat) : (befN r T x n).length = n := by simp [befN]
theorem behN_len (r : Nat) (T x : List Int) (n : Nat) : (behN r T x n).length = n := by simp [behN]
theorem befN_at (r : Nat) (T x : List Int) (n k : Nat) (h : k < n) : (befN r T x n).getD k [] = ringsN r T x k := by
  rw [List.getD_eq_getElem?_getD]; simp [befN, h]
theorem behN_at (r : Nat) (T x : List Int) (n k : Nat) (h : k < n) : (behN r T x n).getD k [] = ringsN r T x (k + 1) := by
  rw [List.getD_eq_getElem?_getD]; simp [behN, h]
theorem ringsN_ok {r : Nat} {T x : List Int} (hT : tabOK r T) (hx : ring01 x) : ∀ k, ring01 (ringsN r T x k)
  | 0 => hx
  | k + 1 => stepR_ring hT (ringsN_ok hT hx k)
theorem stepR_len (r : Nat) (T x : List Int) : (stepR r T x).length = x.length := by simp [stepR]
theorem pairs_ok {r : Nat} {T x : List Int} (hT : tabOK r T) (hx : ring01 x) (n : Nat) (h1 : 1 ≤ n) (h2 : n ≤ 32) : pairsOK (befN r T x n) (behN r T x n) := by
  refine ⟨by rw [befN_len, behN_len], by rw [befN_len]; exact h1, by rw [befN_len]; exact h2, fun k hk => ?_⟩
  rw [befN_len] at hk
  rw [befN_at _ _ _ _ _ hk, behN_at _ _ _ _ _ hk]
  exact ⟨ringsN_ok hT hx k, ringsN_ok hT hx (k + 1), stepR_len _ _ _⟩
theorem draws_tab {c : List Int} (hc : isBytes c) (r : Nat) (hr : r ≤ 2) : tabOK r (draws c (N2 r)) := by
  refine ⟨hr, draws_len _ _, fun x hx => ?_⟩
  obtain ⟨k, _, rfl⟩ := List.mem_map.1 hx
  exact drawn_range hc k
theorem draws_ring {c : List Int} (hc : isBytes c) (n : Nat) (h5 : 5 ≤ n) (h12 : n ≤ 12) : ring01 (draws c n) := by
  refine ⟨by rw [draws_len]; exact h5, by rw [draws_len]; exact h12, fun x hx => ?_⟩
  obtain ⟨k, _, rfl⟩ := List.mem_map.1 hx
  exact drawn_range hc k
end Go.Proofs.Avx

set_option linter.unusedVariables false
set_option linter.unusedSimpArgs false
set_option maxRecDepth 20000
namespace Go.Proofs.Avx
theorem law_of (hrep : ∀ n : Nat, 1 ≤ n → n ≤ 32 → AFp Try.prog 254 [Is [-1], I n] (.own 0 2 (.int .i64) (List.replicate n (-1))))
    (c m : List Int) (hc : isBytes c) (hm : isBytes m) : AFp Try.prog 4 [Bys c, Bys m] (Bo true) := by
  have hlearn := learn_of hrep
  obtain ⟨r, hr, hr2⟩ : ∃ r : Nat, b10 m 0 3 = r ∧ r ≤ 2 := ⟨(b10 m 0 3).toNat, by have := b10_range (c := m) (i := 0) (n := 3) (by omega); omega, by have := b10_range (c := m) (i := 0) (n := 3) (by omega); omega⟩
  obtain ⟨n, hn, hn2⟩ : ∃ n : Nat, b10 m 1 8 = n ∧ n ≤ 7 := ⟨(b10 m 1 8).toNat, by have := b10_range (c := m) (i := 1) (n := 8) (by omega); omega, by have := b10_range (c := m) (i := 1) (n := 8) (by omega); omega⟩
  obtain ⟨q, hq, hq2⟩ : ∃ q : Nat, b10 m 2 4 = q ∧ q ≤ 3 := ⟨(b10 m 2 4).toNat, by have := b10_range (c := m) (i := 2) (n := 4) (by omega); omega, by have := b10_range (c := m) (i := 2) (n := 4) (by omega); omega⟩
  have hs := b10_range (c := m) (i := 3) (n := 2) (by omega)
  refine AF_body okG0 Try.func4 rfl rfl (by simp [Try.ntmps4]) (by simp) ?_; simp only [Try.ntmps4]
  refine aw_seq_k fun K1 hK1 => aw_region okG0 ?_; simp only [push_cast, Nat.reduceLT, Nat.reduceLeDiff, Nat.reduceEqDiff, reduceIte, reduceCtorEq, Nat.reduceAdd, Nat.reduceMul, Nat.reduceMod, Nat.reduceBEq, Nat.reduceBNe, List.reduceReplicate, Int.reduceLE, Int.reduceLT, Int.reduceNe]
  apply hK1; clear hK1
  refine aw_seq_k fun K2 hK2 => ?_
  refine aw_seq_k fun K3 hK3 => aw_region okG0 ?_; simp only [push_cast, Nat.reduceLT, Nat.reduceLeDiff, Nat.reduceEqDiff, reduceIte, reduceCtorEq, Nat.reduceAdd, Nat.reduceMul, Nat.reduceMod, Nat.reduceBEq, Nat.reduceBNe, List.reduceReplicate, Int.reduceLE, Int.reduceLT, Int.reduceNe]
  refine call_pure (b10Long_spec c m) (fits_of rfl) (by decide) rfl (by simp [idsV, idsVs]) ?_; simp only [push_cast, Nat.reduceLT, Nat.reduceLeDiff, Nat.reduceEqDiff, reduceIte, reduceCtorEq, Nat.reduceAdd, Nat.reduceMul, Nat.reduceMod, Nat.reduceBEq, Nat.reduceBNe, List.reduceReplicate, Int.reduceLE, Int.reduceLT, Int.reduceNe]
  apply hK3; clear hK3
  refine aw_cond rfl (fun hc => ?_) (fun hc => ?_)
  · refine aw_seq_k fun K4 hK4 => aw_region okG0 ?_; simp only [push_cast, Nat.reduceLT, Nat.reduceLeDiff, Nat.reduceEqDiff, reduceIte, reduceCtorEq, Nat.reduceAdd, Nat.reduceMul, Nat.reduceMod, Nat.reduceBEq, Nat.reduceBNe, List.reduceReplicate, Int.reduceLE, Int.reduceLT, Int.reduceNe]
    apply hK4; clear hK4
    exact aw_ret (ret_p rfl rfl rfl (by simp))
  · have hlong : c.length ≤ 1048576 ∧ m.length ≤ 1048576 := by
      simp only [longB, Bool.or_eq_false_iff, decide_eq_false_iff_not] at hc
      omega
    have hT := draws_tab ‹isBytes c› r hr2
    have hx := draws_ring hm (5 + n) (by omega) (by omega)
    refine aw_skip ?_
    simp only [push_cast, Nat.reduceLT, Nat.reduceLeDiff, Nat.reduceEqDiff, reduceIte, reduceCtorEq, Nat.reduceAdd, Nat.reduceMul, Nat.reduceMod, Nat.reduceBEq, Nat.reduceBNe, List.reduceReplicate, Int.reduceLE, Int.reduceLT, Int.reduceNe]
    apply hK2; clear hK2
    refine aw_seq_k fun K5 hK5 => aw_region okG0 ?_; simp only [push_cast, Nat.reduceLT, Nat.reduceLeDiff, Nat.reduceEqDiff, reduceIte, reduceCtorEq, Nat.reduceAdd, Nat.reduceMul, Nat.reduceMod, Nat.reduceBEq, Nat.reduceBNe, List.reduceReplicate, Int.reduceLE, Int.reduceLT, Int.reduceNe]
    refine call_pure (b10At_spec m 0 3 hm (by omega) (by omega) (by omega)) (fits_of rfl) (by decide) rfl (by simp [idsV, idsVs]) ?_; simp only [push_cast, Nat.reduceLT, Nat.reduceLeDiff, Nat.reduceEqDiff, reduceIte, reduceCtorEq, Nat.reduceAdd, Nat.reduceMul, Nat.reduceMod, Nat.reduceBEq, Nat.reduceBNe, List.reduceReplicate, Int.reduceLE, Int.reduceLT, Int.reduceNe]
    rw [hr]
    apply hK5; clear hK5
    refine aw_seq_k fun K6 hK6 => aw_region okG0 ?_; simp only [push_cast, Nat.reduceLT, Nat.reduceLeDiff, Nat.reduceEqDiff, reduceIte, reduceCtorEq, Nat.reduceAdd, Nat.reduceMul, Nat.reduceMod, Nat.reduceBEq, Nat.reduceBNe, List.reduceReplicate, Int.reduceLE, Int.reduceLT, Int.reduceNe]
    refine call_pure (B10Rule_spec c r hr2 ‹isBytes c› hlong.1) (fits_of rfl) (by decide) rfl (by simp [idsV, idsVs]) ?_; simp only [push_cast, Nat.reduceLT, Nat.reduceLeDiff, Nat.reduceEqDiff, reduceIte, reduceCtorEq, Nat.reduceAdd, Nat.reduceMul, Nat.reduceMod, Nat.reduceBEq, Nat.reduceBNe, List.reduceReplicate, Int.reduceLE, Int.reduceLT, Int.reduceNe]
    apply hK6; clear hK6
    refine aw_seq_k fun K7 hK7 => aw_region okG0 ?_; simp only [push_cast, Nat.reduceLT, Nat.reduceLeDiff, Nat.reduceEqDiff, reduceIte, reduceCtorEq, Nat.reduceAdd, Nat.reduceMul, Nat.reduceMod, Nat.reduceBEq, Nat.reduceBNe, List.reduceReplicate, Int.reduceLE, Int.reduceLT, Int.reduceNe]
    apply hK7; clear hK7
    refine aw_seq_k fun K8 hK8 => aw_region okG0 ?_; simp only [push_cast, Nat.reduceLT, Nat.reduceLeDiff, Nat.reduceEqDiff, reduceIte, reduceCtorEq, Nat.reduceAdd, Nat.reduceMul, Nat.reduceMod, Nat.reduceBEq, Nat.reduceBNe, List.reduceReplicate, Int.reduceLE, Int.reduceLT, Int.reduceNe]
    apply hK8; clear hK8
    refine aw_seq_k fun K9 hK9 => aw_region okG0 ?_; simp only [push_cast, Nat.reduceLT, Nat.reduceLeDiff, Nat.reduceEqDiff, reduceIte, reduceCtorEq, Nat.reduceAdd, Nat.reduceMul, Nat.reduceMod, Nat.reduceBEq, Nat.reduceBNe, List.reduceReplicate, Int.reduceLE, Int.reduceLT, Int.reduceNe]
    refine call_pure (b10At_spec m 1 8 hm (by omega) (by omega) (by omega)) (fits_of rfl) (by decide) rfl (by simp [idsV, idsVs]) ?_; simp only [push_cast, Nat.reduceLT, Nat.reduceLeDiff, Nat.reduceEqDiff, reduceIte, reduceCtorEq, Nat.reduceAdd, Nat.reduceMul, Nat.reduceMod, Nat.reduceBEq, Nat.reduceBNe, List.reduceReplicate, Int.reduceLE, Int.reduceLT, Int.reduceNe]
    rw [hn, w64 (n := 5 + (n : Int)) (by omega) (by omega), show (5 : Int) + n = ((5 + n : Nat) : Int) by omega]
    refine call_pure (B10Ring_spec m (5 + n) hm hlong.2 (by omega)) (fits_of rfl) (by decide) rfl (by simp [idsV, idsVs]) ?_; simp only [push_cast, Nat.reduceLT, Nat.reduceLeDiff, Nat.reduceEqDiff, reduceIte, reduceCtorEq, Nat.reduceAdd, Nat.reduceMul, Nat.reduceMod, Nat.reduceBEq, Nat.reduceBNe, List.reduceReplicate, Int.reduceLE, Int.reduceLT, Int.reduceNe]
    apply hK9; clear hK9
    refine aw_seq_k fun K10 hK10 => ?_
    refine aw_seq_k fun K11 hK11 => aw_region okG0 ?_; simp only [push_cast, Nat.reduceLT, Nat.reduceLeDiff, Nat.reduceEqDiff, reduceIte, reduceCtorEq, Nat.reduceAdd, Nat.reduceMul, Nat.reduceMod, Nat.reduceBEq, Nat.reduceBNe, List.reduceReplicate, Int.reduceLE, Int.reduceLT, Int.reduceNe]
    apply hK11; clear hK11
    generalize hTd : draws c (N2 r) = T at *
    generalize hxd : draws m (5 + n) = x at *
    refine aw_frz 3900 (by simp) (by decide) ?_
    simp only [push_cast, Nat.reduceLT, Nat.reduceLeDiff, Nat.reduceEqDiff, reduceIte, reduceCtorEq, Nat.reduceAdd, Nat.reduceMul, Nat.reduceMod, Nat.reduceBEq, Nat.reduceBNe, List.reduceReplicate, Int.reduceLE, Int.reduceLT, Int.reduceNe]
    refine aw_block ?_
    refine aw_loop (fun k : {k : Nat // k ≤ q + 1} => ⟨[(1, Bys m), (5, I r), (6, .ptr 699 0), (7, .own 5800 25 (.sl (.int .i64)) (befN r T x k.1)), (8, .own 6200 25 (.sl (.int .i64)) (behN r T x k.1)), (9, Is (ringsN r T x k.1)), (10, I k.1)], [(699, [I 2, I r, .own 3200 2 (.int .i64) T])], [5800, 6200, 699, 3200]⟩) (fun k => q + 1 - k.1) ⟨0, Nat.zero_le _⟩ ?_ ?_
    · show Sub _ ⟨[(1, Bys m), (5, I r), (6, .ptr 699 0), (7, .own 5800 25 (.sl (.int .i64)) []), (8, .own 6200 25 (.sl (.int .i64)) []), (9, Is x), (10, I 0)], [(699, [I 2, I r, .own 3200 2 (.int .i64) T])], [5800, 6200, 699, 3200]⟩
      exact sub_ren_to [(3300, 5800), (3400, 6200)] (by simp [renN]) rfl (by simp [allE, getE, renE, renV, renVs, renN]) (by simp [allB, getB, renB, renVs, renV, renN]) rfl rfl rfl
    rintro ⟨k, hk⟩
    have hxk := ringsN_ok hT hx k
    refine aw_seq_k fun K12 hK12 => ?_
    refine aw_seq_k fun K13 hK13 => aw_region okG0 ?_; simp only [push_cast, Nat.reduceLT, Nat.reduceLeDiff, Nat.reduceEqDiff, reduceIte, reduceCtorEq, Nat.reduceAdd, Nat.reduceMul, Nat.reduceMod, Nat.reduceBEq, Nat.reduceBNe, List.reduceReplicate, Int.reduceLE, Int.reduceLT, Int.reduceNe]
    refine call_pure (b10At_spec m 2 4 hm (by omega) (by omega) (by omega)) (fits_of rfl) (by decide) rfl (by simp [idsV, idsVs]) ?_; simp only [push_cast, Nat.reduceLT, Nat.reduceLeDiff, Nat.reduceEqDiff, reduceIte, reduceCtorEq, Nat.reduceAdd, Nat.reduceMul, Nat.reduceMod, Nat.reduceBEq, Nat.reduceBNe, List.reduceReplicate, Int.reduceLE, Int.reduceLT, Int.reduceNe]
    rw [hq, w64 (n := 1 + (q : Int)) (by omega) (by omega)]
    apply hK13; clear hK13
    refine aw_cond rfl (fun hc => ?_) (fun hc => ?_)
    · have hlt : k < q + 1 := by have : (k : Int) < 1 + q := (by simpa using hc); omega
      refine aw_skip ?_
      simp only [push_cast, Nat.reduceLT, Nat.reduceLeDiff, Nat.reduceEqDiff, reduceIte, reduceCtorEq, Nat.reduceAdd, Nat.reduceMul, Nat.reduceMod, Nat.reduceBEq, Nat.reduceBNe, List.reduceReplicate, Int.reduceLE, Int.reduceLT, Int.reduceNe]
      apply hK12; clear hK12
      refine aw_seq_k fun K14 hK14 => ?_
      refine aw_block ?_
      refine aw_seq_k fun K15 hK15 => aw_region okG0 ?_; simp only [push_cast, Nat.reduceLT, Nat.reduceLeDiff, Nat.reduceEqDiff, reduceIte, reduceCtorEq, Nat.reduceAdd, Nat.reduceMul, Nat.reduceMod, Nat.reduceBEq, Nat.reduceBNe, List.reduceReplicate, Int.reduceLE, Int.reduceLT, Int.reduceNe]
      refine call_pure (StepRing_spec r T (ringsN r T x k) hT hxk) (fits_of rfl) (by decide) rfl (by simp [idsV, idsVs]) ?_; simp only [push_cast, Nat.reduceLT, Nat.reduceLeDiff, Nat.reduceEqDiff, reduceIte, reduceCtorEq, Nat.reduceAdd, Nat.reduceMul, Nat.reduceMod, Nat.reduceBEq, Nat.reduceBNe, List.reduceReplicate, Int.reduceLE, Int.reduceLT, Int.reduceNe]
      apply hK15; clear hK15
      refine aw_frz 5000 (by simp) (by decide) ?_
      simp only [push_cast, Nat.reduceLT, Nat.reduceLeDiff, Nat.reduceEqDiff, reduceIte, reduceCtorEq, Nat.reduceAdd, Nat.reduceMul, Nat.reduceMod, Nat.reduceBEq, Nat.reduceBNe, List.reduceReplicate, Int.reduceLE, Int.reduceLT, Int.reduceNe]
      rw [show stepR r T (ringsN r T x k) = ringsN r T x (k + 1) from rfl]
      refine aw_seq_k fun K16 hK16 => ?_
      refine aw_seq_k fun K17 hK17 => aw_region okG0 ?_; simp only [push_cast, Nat.reduceLT, Nat.reduceLeDiff, Nat.reduceEqDiff, reduceIte, reduceCtorEq, Nat.reduceAdd, Nat.reduceMul, Nat.reduceMod, Nat.reduceBEq, Nat.reduceBNe, List.reduceReplicate, Int.reduceLE, Int.reduceLT, Int.reduceNe]
      apply hK17; clear hK17
      refine aw_cond rfl (fun hc => ?_) (fun hc => ?_)
      · simp at hc
      · refine aw_skip ?_
        simp only [push_cast, Nat.reduceLT, Nat.reduceLeDiff, Nat.reduceEqDiff, reduceIte, reduceCtorEq, Nat.reduceAdd, Nat.reduceMul, Nat.reduceMod, Nat.reduceBEq, Nat.reduceBNe, List.reduceReplicate, Int.reduceLE, Int.reduceLT, Int.reduceNe]
        apply hK16; clear hK16
        refine aw_seq_k fun K19 hK19 => aw_region okG0 ?_; simp only [push_cast, Nat.reduceLT, Nat.reduceLeDiff, Nat.reduceEqDiff, reduceIte, reduceCtorEq, Nat.reduceAdd, Nat.reduceMul, Nat.reduceMod, Nat.reduceBEq, Nat.reduceBNe, List.reduceReplicate, Int.reduceLE, Int.reduceLT, Int.reduceNe]
        rw [befN_len]
        refine ⟨by omega, by omega, ?_⟩
        apply hK19; clear hK19
        refine aw_seq_k fun K20 hK20 => aw_region okG0 ?_; simp only [push_cast, Nat.reduceLT, Nat.reduceLeDiff, Nat.reduceEqDiff, reduceIte, reduceCtorEq, Nat.reduceAdd, Nat.reduceMul, Nat.reduceMod, Nat.reduceBEq, Nat.reduceBNe, List.reduceReplicate, Int.reduceLE, Int.reduceLT, Int.reduceNe]
        rw [behN_len]
        refine ⟨by omega, by omega, ?_⟩
        apply hK20; clear hK20
        refine aw_region okG0 ?_
        simp only [push_cast, Nat.reduceLT, Nat.reduceLeDiff, Nat.reduceEqDiff, reduceIte, reduceCtorEq, Nat.reduceAdd, Nat.reduceMul, Nat.reduceMod, Nat.reduceBEq, Nat.reduceBNe, List.reduceReplicate, Int.reduceLE, Int.reduceLT, Int.reduceNe]
        apply hK14; clear hK14
        refine aw_region okG0 ?_
        simp only [push_cast, Nat.reduceLT, Nat.reduceLeDiff, Nat.reduceEqDiff, reduceIte, reduceCtorEq, Nat.reduceAdd, Nat.reduceMul, Nat.reduceMod, Nat.reduceBEq, Nat.reduceBNe, List.reduceReplicate, Int.reduceLE, Int.reduceLT, Int.reduceNe]
        refine ⟨⟨k + 1, by omega⟩, ?_, by show q + 1 - (k + 1) < q + 1 - k; omega⟩
        rw [w64 (n := (k : Int) + 1) (by omega) (by omega), ← befN_succ, ← behN_succ]
        exact sub_to (by simp [allE, getE] <;> rfl) (by simp [allB, getB] <;> rfl) rfl rfl rfl
    · have hke : k = q + 1 := by have : ¬ (k : Int) < 1 + q := (by simpa using hc); omega
      subst hke
      refine aw_exit ?_
      simp only [push_cast, Nat.reduceLT, Nat.reduceLeDiff, Nat.reduceEqDiff, reduceIte, reduceCtorEq, Nat.reduceAdd, Nat.reduceMul, Nat.reduceMod, Nat.reduceBEq, Nat.reduceBNe, List.reduceReplicate, Int.reduceLE, Int.reduceLT, Int.reduceNe]
      apply hK10; clear hK10
      have hP := pairs_ok hT hx (q + 1) (by omega) (by omega)
      have hTl := hT.2.1
      obtain ⟨L, hL, hA, hLr⟩ := learn_agr (r := r) (T := T) (bs := befN r T x (q + 1)) (ys := behN r T x (q + 1)) hTl (fun k hk => by
        rw [befN_len] at hk
        rw [befN_at _ _ _ _ _ hk, behN_at _ _ _ _ _ hk]
        exact ⟨(ringsN_ok hT hx k).2.2, rfl⟩)
      obtain ⟨R, V, hRr, hV, hless⟩ := least_learn hL
      have hLl : L.length = N2 r := by rw [hA.len]; exact hTl
      have hN := N2_le r hr2
      have hL1 : ∀ y ∈ L, -1 ≤ y ∧ y ≤ 1 := fun y hy => by
        obtain ⟨j, hj, rfl⟩ := List.getElem_of_mem hy
        have h1 := hA.at_ j
        have h2 := getD01 hT.2.2 j
        rw [List.getD_eq_getElem?_getD, List.getElem?_eq_getElem hj] at h1
        simp only [Option.getD_some] at h1
        rcases h1 with h1 | h1 <;> omega
      refine aw_seq_k fun K20 hK20 => aw_region okG0 ?_; simp only [push_cast, Nat.reduceLT, Nat.reduceLeDiff, Nat.reduceEqDiff, reduceIte, reduceCtorEq, Nat.reduceAdd, Nat.reduceMul, Nat.reduceMod, Nat.reduceBEq, Nat.reduceBNe, List.reduceReplicate, Int.reduceLE, Int.reduceLT, Int.reduceNe]
      refine call_pure (LearnTable_of hlearn r _ _ hr2 hP L hL) (fits_of rfl) (by decide) rfl (by simp [idsV, idsVs]) ?_; simp only [push_cast, Nat.reduceLT, Nat.reduceLeDiff, Nat.reduceEqDiff, reduceIte, reduceCtorEq, Nat.reduceAdd, Nat.reduceMul, Nat.reduceMod, Nat.reduceBEq, Nat.reduceBNe, List.reduceReplicate, Int.reduceLE, Int.reduceLT, Int.reduceNe]
      apply hK20; clear hK20
      refine aw_seq_k fun K21 hK21 => aw_region okG0 ?_; simp only [push_cast, Nat.reduceLT, Nat.reduceLeDiff, Nat.reduceEqDiff, reduceIte, reduceCtorEq, Nat.reduceAdd, Nat.reduceMul, Nat.reduceMod, Nat.reduceBEq, Nat.reduceBNe, List.reduceReplicate, Int.reduceLE, Int.reduceLT, Int.reduceNe]
      refine call_pure (LeastReach_of hlearn R _ _ (by omega) hP V hV hless) (fits_of rfl) (by decide) rfl (by simp [idsV, idsVs]) ?_; simp only [push_cast, Nat.reduceLT, Nat.reduceLeDiff, Nat.reduceEqDiff, reduceIte, reduceCtorEq, Nat.reduceAdd, Nat.reduceMul, Nat.reduceMod, Nat.reduceBEq, Nat.reduceBNe, List.reduceReplicate, Int.reduceLE, Int.reduceLT, Int.reduceNe]
      apply hK21; clear hK21
      refine aw_seq_k fun K22 hK22 => aw_region okG0 ?_; simp only [push_cast, Nat.reduceLT, Nat.reduceLeDiff, Nat.reduceEqDiff, reduceIte, reduceCtorEq, Nat.reduceAdd, Nat.reduceMul, Nat.reduceMod, Nat.reduceBEq, Nat.reduceBNe, List.reduceReplicate, Int.reduceLE, Int.reduceLT, Int.reduceNe]
      refine call_pure (sLeastReach_spec R _ _ (by omega) hP V hV hless) (fits_of rfl) (by decide) rfl (by simp [idsV, idsVs]) ?_; simp only [push_cast, Nat.reduceLT, Nat.reduceLeDiff, Nat.reduceEqDiff, reduceIte, reduceCtorEq, Nat.reduceAdd, Nat.reduceMul, Nat.reduceMod, Nat.reduceBEq, Nat.reduceBNe, List.reduceReplicate, Int.reduceLE, Int.reduceLT, Int.reduceNe]
      apply hK22; clear hK22
      refine aw_seq_k fun K23 hK23 => ?_
      refine aw_seq_k fun K24 hK24 => aw_region okG0 ?_; simp only [push_cast, Nat.reduceLT, Nat.reduceLeDiff, Nat.reduceEqDiff, reduceIte, reduceCtorEq, Nat.reduceAdd, Nat.reduceMul, Nat.reduceMod, Nat.reduceBEq, Nat.reduceBNe, List.reduceReplicate, Int.reduceLE, Int.reduceLT, Int.reduceNe]
      apply hK24; clear hK24
      have hLT : (L.length : Int) = T.length := by rw [hA.len]
      refine aw_cond rfl (fun hc => ?_) (fun hc => ?_)
      · rw [hLT] at hc
        simp at hc
        omega
      · refine aw_skip ?_
        simp only [push_cast, Nat.reduceLT, Nat.reduceLeDiff, Nat.reduceEqDiff, reduceIte, reduceCtorEq, Nat.reduceAdd, Nat.reduceMul, Nat.reduceMod, Nat.reduceBEq, Nat.reduceBNe, List.reduceReplicate, Int.reduceLE, Int.reduceLT, Int.reduceNe]
        apply hK23; clear hK23
        refine aw_seq_k fun K27 hK27 => ?_
        refine aw_seq_k fun K28 hK28 => aw_region okG0 ?_; simp only [push_cast, Nat.reduceLT, Nat.reduceLeDiff, Nat.reduceEqDiff, reduceIte, reduceCtorEq, Nat.reduceAdd, Nat.reduceMul, Nat.reduceMod, Nat.reduceBEq, Nat.reduceBNe, List.reduceReplicate, Int.reduceLE, Int.reduceLT, Int.reduceNe]
        apply hK28; clear hK28
        refine aw_block ?_
        refine aw_loop (fun k : {k : Nat // k ≤ L.length} => ⟨[(1, Bys m), (5, I r), (6, .ptr 699 0), (7, .own 5800 25 (.sl (.int .i64)) (befN r T x (q + 1))), (8, .own 6200 25 (.sl (.int .i64)) (behN r T x (q + 1))), (13, .own 6800 2 (.int .i64) L), (112, I L.length), (113, I k.1)], [(699, [I 2, I r, .own 3200 2 (.int .i64) T])], [6800, 5800, 6200, 699, 3200]⟩) (fun k => L.length - k.1) ⟨0, Nat.zero_le _⟩ (sub_to (by simp [allE, getE] <;> rfl) (by simp [allB, getB] <;> rfl) rfl rfl rfl) ?_
        rintro ⟨k, hk⟩
        refine aw_seq_k fun K29 hK29 => aw_region okG0 ?_; simp only [push_cast, Nat.reduceLT, Nat.reduceLeDiff, Nat.reduceEqDiff, reduceIte, reduceCtorEq, Nat.reduceAdd, Nat.reduceMul, Nat.reduceMod, Nat.reduceBEq, Nat.reduceBNe, List.reduceReplicate, Int.reduceLE, Int.reduceLT, Int.reduceNe]
        apply hK29; clear hK29
        refine aw_seq_k fun K30 hK30 => ?_
        refine aw_cond rfl (fun hc => ?_) (fun hc => ?_)
        · have hlt : k < L.length := by simpa using hc
          have hkA := hA.at_ k
          refine aw_skip ?_
          simp only [push_cast, Nat.reduceLT, Nat.reduceLeDiff, Nat.reduceEqDiff, reduceIte, reduceCtorEq, Nat.reduceAdd, Nat.reduceMul, Nat.reduceMod, Nat.reduceBEq, Nat.reduceBNe, List.reduceReplicate, Int.reduceLE, Int.reduceLT, Int.reduceNe]
          apply hK30; clear hK30
          refine aw_seq_k fun K31 hK31 => ?_
          refine aw_block ?_
          refine aw_seq_k fun K32 hK32 => aw_region okG0 ?_; simp only [push_cast, Nat.reduceLT, Nat.reduceLeDiff, Nat.reduceEqDiff, reduceIte, reduceCtorEq, Nat.reduceAdd, Nat.reduceMul, Nat.reduceMod, Nat.reduceBEq, Nat.reduceBNe, List.reduceReplicate, Int.reduceLE, Int.reduceLT, Int.reduceNe]
          apply hK32; clear hK32
          refine aw_seq_k fun K33 hK33 => aw_draw fol okG0 17 (by kernel_rfl) ?_; simp only [push_cast, Nat.reduceLT, Nat.reduceLeDiff, Nat.reduceEqDiff, reduceIte, reduceCtorEq, Nat.reduceAdd, Nat.reduceMul, Nat.reduceMod, Nat.reduceBEq, Nat.reduceBNe, List.reduceReplicate, Int.reduceLE, Int.reduceLT, Int.reduceNe]
          have i1 : InR (k : Int) L.length := ⟨by omega, by omega⟩
          have i2 : InR (k : Int) T.length := ⟨by omega, by omega⟩
          have i3 : k < T.length := by omega
          refine ⟨i1, hlt, fun h => ⟨h, i1⟩, fun h => ⟨h, hlt⟩, fun h => ⟨h, i2⟩, fun h => ⟨h, i3⟩, ?_⟩
          apply hK33; clear hK33
          refine aw_cond rfl (fun hc => ?_) (fun hc => ?_)
          · simp only [Bool.and_eq_true, bne_iff_ne] at hc
            rcases hkA with h | h
            · exact absurd h hc.1
            · exact absurd h hc.2
          · refine aw_skip ?_
            simp only [push_cast, Nat.reduceLT, Nat.reduceLeDiff, Nat.reduceEqDiff, reduceIte, reduceCtorEq, Nat.reduceAdd, Nat.reduceMul, Nat.reduceMod, Nat.reduceBEq, Nat.reduceBNe, List.reduceReplicate, Int.reduceLE, Int.reduceLT, Int.reduceNe]
            apply hK31; clear hK31
            refine aw_region okG0 ?_
            simp only [push_cast, Nat.reduceLT, Nat.reduceLeDiff, Nat.reduceEqDiff, reduceIte, reduceCtorEq, Nat.reduceAdd, Nat.reduceMul, Nat.reduceMod, Nat.reduceBEq, Nat.reduceBNe, List.reduceReplicate, Int.reduceLE, Int.reduceLT, Int.reduceNe]
            refine ⟨⟨k + 1, by omega⟩, ?_, by show L.length - (k + 1) < L.length - k; omega⟩
            rw [w64 (n := (k : Int) + 1) (by omega) (by omega)]
            exact sub_to (by simp [allE, getE] <;> rfl) (by simp [allB, getB] <;> rfl) rfl rfl rfl
        · refine aw_exit ?_
          simp only [push_cast, Nat.reduceLT, Nat.reduceLeDiff, Nat.reduceEqDiff, reduceIte, reduceCtorEq, Nat.reduceAdd, Nat.reduceMul, Nat.reduceMod, Nat.reduceBEq, Nat.reduceBNe, List.reduceReplicate, Int.reduceLE, Int.reduceLT, Int.reduceNe]
          apply hK27; clear hK27
          refine aw_seq_k fun K35 hK35 => aw_region okG0 ?_; simp only [push_cast, Nat.reduceLT, Nat.reduceLeDiff, Nat.reduceEqDiff, reduceIte, reduceCtorEq, Nat.reduceAdd, Nat.reduceMul, Nat.reduceMod, Nat.reduceBEq, Nat.reduceBNe, List.reduceReplicate, Int.reduceLE, Int.reduceLT, Int.reduceNe]
          refine call_pure (b10At_spec m 3 2 hm (by omega) (by omega) (by omega)) (fits_of rfl) (by decide) rfl (by simp [idsV, idsVs]) ?_; simp only [push_cast, Nat.reduceLT, Nat.reduceLeDiff, Nat.reduceEqDiff, reduceIte, reduceCtorEq, Nat.reduceAdd, Nat.reduceMul, Nat.reduceMod, Nat.reduceBEq, Nat.reduceBNe, List.reduceReplicate, Int.reduceLE, Int.reduceLT, Int.reduceNe]
          generalize b10 m 3 2 = st at hs ⊢
          refine call_pure (FillTable_spec r st L hr2 ⟨hs.1, by omega⟩ hLl hL1) (fits_of rfl) (by decide) rfl (by simp [idsV, idsVs]) ?_; simp only [push_cast, Nat.reduceLT, Nat.reduceLeDiff, Nat.reduceEqDiff, reduceIte, reduceCtorEq, Nat.reduceAdd, Nat.reduceMul, Nat.reduceMod, Nat.reduceBEq, Nat.reduceBNe, List.reduceReplicate, Int.reduceLE, Int.reduceLT, Int.reduceNe]
          apply hK35; clear hK35
          have hFl : (fillT st L).length = L.length := by simp [fillT]
          refine aw_seq_k fun K36 hK36 => ?_
          refine aw_seq_k fun K37 hK37 => aw_region okG0 ?_; simp only [push_cast, Nat.reduceLT, Nat.reduceLeDiff, Nat.reduceEqDiff, reduceIte, reduceCtorEq, Nat.reduceAdd, Nat.reduceMul, Nat.reduceMod, Nat.reduceBEq, Nat.reduceBNe, List.reduceReplicate, Int.reduceLE, Int.reduceLT, Int.reduceNe]
          apply hK37; clear hK37
          refine aw_cond rfl (fun hc => ?_) (fun hc => ?_)
          · rw [hFl] at hc
            simp at hc
          · have hF : tabOK r (fillT st L) := by
              refine ⟨hr2, by rw [hFl]; exact hLl, fun y hy => ?_⟩
              obtain ⟨z, hz, rfl⟩ := List.mem_map.1 hy
              have := hL1 z hz
              unfold fill1; split <;> omega
            refine aw_skip ?_
            simp only [push_cast, Nat.reduceLT, Nat.reduceLeDiff, Nat.reduceEqDiff, reduceIte, reduceCtorEq, Nat.reduceAdd, Nat.reduceMul, Nat.reduceMod, Nat.reduceBEq, Nat.reduceBNe, List.reduceReplicate, Int.reduceLE, Int.reduceLT, Int.reduceNe]
            apply hK36; clear hK36
            refine aw_seq_k fun K39 hK39 => ?_
            refine aw_seq_k fun K40 hK40 => aw_region okG0 ?_; simp only [push_cast, Nat.reduceLT, Nat.reduceLeDiff, Nat.reduceEqDiff, reduceIte, reduceCtorEq, Nat.reduceAdd, Nat.reduceMul, Nat.reduceMod, Nat.reduceBEq, Nat.reduceBNe, List.reduceReplicate, Int.reduceLE, Int.reduceLT, Int.reduceNe]
            rw [befN_len]
            apply hK40; clear hK40
            refine aw_block ?_
            refine aw_loop (fun k : {k : Nat // k ≤ q + 1} => ⟨[(7, .own 5800 25 (.sl (.int .i64)) (befN r T x (q + 1))), (8, .own 6200 25 (.sl (.int .i64)) (behN r T x (q + 1))), (20, .ptr 2099 0), (159, I ((q + 1 : Nat) : Int)), (160, I k.1)], [(2099, [I 2, I r, .own 13900 2 (.int .i64) (fillT st L)])], [2099, 13900, 5800, 6200]⟩) (fun k => q + 1 - k.1) ⟨0, Nat.zero_le _⟩ (sub_to (by simp [allE, getE] <;> rfl) (by simp [allB, getB] <;> rfl) rfl rfl rfl) ?_
            rintro ⟨k, hk⟩
            refine aw_seq_k fun K41 hK41 => aw_region okG0 ?_; simp only [push_cast, Nat.reduceLT, Nat.reduceLeDiff, Nat.reduceEqDiff, reduceIte, reduceCtorEq, Nat.reduceAdd, Nat.reduceMul, Nat.reduceMod, Nat.reduceBEq, Nat.reduceBNe, List.reduceReplicate, Int.reduceLE, Int.reduceLT, Int.reduceNe]
            apply hK41; clear hK41
            refine aw_seq_k fun K42 hK42 => ?_
            refine aw_cond rfl (fun hc => ?_) (fun hc => ?_)
            · have hlt : k < q + 1 := by have : (k : Int) < q + 1 := (by simpa using hc); omega
              have hxk := ringsN_ok hT hx k
              have hst := fill_step st hT hLl hxk.2.2 (fun i hi => by have := hLr k (by rw [befN_len]; exact hlt) i (by rw [befN_at _ _ _ _ _ hlt]; exact hi); rw [befN_at _ _ _ _ _ hlt] at this; exact this)
              refine aw_skip ?_
              simp only [push_cast, Nat.reduceLT, Nat.reduceLeDiff, Nat.reduceEqDiff, reduceIte, reduceCtorEq, Nat.reduceAdd, Nat.reduceMul, Nat.reduceMod, Nat.reduceBEq, Nat.reduceBNe, List.reduceReplicate, Int.reduceLE, Int.reduceLT, Int.reduceNe]
              apply hK42; clear hK42
              refine aw_seq_k fun K43 hK43 => ?_
              refine aw_block ?_
              refine aw_seq_k fun K44 hK44 => aw_region okG0 ?_; simp only [push_cast, Nat.reduceLT, Nat.reduceLeDiff, Nat.reduceEqDiff, reduceIte, reduceCtorEq, Nat.reduceAdd, Nat.reduceMul, Nat.reduceMod, Nat.reduceBEq, Nat.reduceBNe, List.reduceReplicate, Int.reduceLE, Int.reduceLT, Int.reduceNe]
              apply hK44; clear hK44
              refine aw_seq_k fun K45 hK45 => aw_draw fol okG0 11 (by kernel_rfl) ?_; simp only [push_cast, Nat.reduceLT, Nat.reduceLeDiff, Nat.reduceEqDiff, reduceIte, reduceCtorEq, Nat.reduceAdd, Nat.reduceMul, Nat.reduceMod, Nat.reduceBEq, Nat.reduceBNe, List.reduceReplicate, Int.reduceLE, Int.reduceLT, Int.reduceNe]
              rw [befN_len, befN_at _ _ _ _ _ hlt]
              refine ⟨⟨by omega, by omega⟩, hlt, ?_⟩
              refine ⟨_, _, StepRing_spec r (fillT st L) (ringsN r T x k) hF hxk, .inl ⟨fits_of rfl, rfl⟩, ?_⟩; simp only [push_cast, Nat.reduceLT, Nat.reduceLeDiff, Nat.reduceEqDiff, reduceIte, reduceCtorEq, Nat.reduceAdd, Nat.reduceMul, Nat.reduceMod, Nat.reduceBEq, Nat.reduceBNe, List.reduceReplicate, Int.reduceLE, Int.reduceLT, Int.reduceNe]
              rw [hst, show stepR r T (ringsN r T x k) = ringsN r T x (k + 1) from rfl]
              apply hK45; clear hK45
              refine aw_seq_k fun K46 hK46 => aw_region okG0 ?_; simp only [push_cast, Nat.reduceLT, Nat.reduceLeDiff, Nat.reduceEqDiff, reduceIte, reduceCtorEq, Nat.reduceAdd, Nat.reduceMul, Nat.reduceMod, Nat.reduceBEq, Nat.reduceBNe, List.reduceReplicate, Int.reduceLE, Int.reduceLT, Int.reduceNe]
              rw [behN_len, behN_at _ _ _ _ _ hlt]
              refine ⟨⟨by omega, by omega⟩, hlt, ?_⟩
              refine gcall_pure (fun _ => b10Ints_eq (ringsN r T x (k + 1)) (by have := (ringsN_ok hT hx (k + 1)).2.1; omega)) (fun _ => fits_of rfl) (by decide) rfl rfl ?_; simp only [push_cast, Nat.reduceLT, Nat.reduceLeDiff, Nat.reduceEqDiff, reduceIte, reduceCtorEq, Nat.reduceAdd, Nat.reduceMul, Nat.reduceMod, Nat.reduceBEq, Nat.reduceBNe, List.reduceReplicate, Int.reduceLE, Int.reduceLT, Int.reduceNe]
              apply hK46; clear hK46
              refine aw_cond rfl (fun hc => ?_) (fun hc => ?_)
              · simp at hc
              · refine aw_skip ?_
                simp only [push_cast, Nat.reduceLT, Nat.reduceLeDiff, Nat.reduceEqDiff, reduceIte, reduceCtorEq, Nat.reduceAdd, Nat.reduceMul, Nat.reduceMod, Nat.reduceBEq, Nat.reduceBNe, List.reduceReplicate, Int.reduceLE, Int.reduceLT, Int.reduceNe]
                apply hK43; clear hK43
                refine aw_region okG0 ?_
                simp only [push_cast, Nat.reduceLT, Nat.reduceLeDiff, Nat.reduceEqDiff, reduceIte, reduceCtorEq, Nat.reduceAdd, Nat.reduceMul, Nat.reduceMod, Nat.reduceBEq, Nat.reduceBNe, List.reduceReplicate, Int.reduceLE, Int.reduceLT, Int.reduceNe]
                refine ⟨⟨k + 1, by omega⟩, ?_, by show q + 1 - (k + 1) < q + 1 - k; omega⟩
                rw [w64 (n := (k : Int) + 1) (by omega) (by omega)]
                exact sub_to (by simp [allE, getE] <;> rfl) (by simp [allB, getB] <;> rfl) rfl rfl rfl
            · refine aw_exit ?_
              simp only [push_cast, Nat.reduceLT, Nat.reduceLeDiff, Nat.reduceEqDiff, reduceIte, reduceCtorEq, Nat.reduceAdd, Nat.reduceMul, Nat.reduceMod, Nat.reduceBEq, Nat.reduceBNe, List.reduceReplicate, Int.reduceLE, Int.reduceLT, Int.reduceNe]
              apply hK39; clear hK39
              refine aw_seq_k fun K48 hK48 => aw_region okG0 ?_; simp only [push_cast, Nat.reduceLT, Nat.reduceLeDiff, Nat.reduceEqDiff, reduceIte, reduceCtorEq, Nat.reduceAdd, Nat.reduceMul, Nat.reduceMod, Nat.reduceBEq, Nat.reduceBNe, List.reduceReplicate, Int.reduceLE, Int.reduceLT, Int.reduceNe]
              apply hK48; clear hK48
              exact aw_ret (ret_p rfl rfl rfl (by simp))
end Go.Proofs.Avx
