/- What small functions of the program and of the reference compute: rules, rings, draws, steps; conditions stand in each statement. -/
import Derived.Test.YtgbkecenhbcihaaProg
import Derived.Test.YtgbkecenhbcihaaAvxB
set_option linter.unusedVariables false
set_option linter.unusedSimpArgs false
namespace Go.Proofs.Avx
abbrev I (n : Int) : AV := .dat (.int .i64) n
abbrev Bo (b : Bool) : AV := .dat .bool b
abbrev Is (l : List Int) : AV := .dat (.sl (.int .i64)) l
abbrev Iss (l : List (List Int)) : AV := .dat (.sl (.sl (.int .i64))) l
abbrev Bys (l : List Int) : AV := .dat (.sl (.int .u8)) l
abbrev U (n : Int) : AV := .dat (.int .u64) n
theorem fol : Try.prog.follows .mixedOrders = true := by kernel_rfl
def G0 : List (TypeId × TI) := [(2, ⟨.int .i64, 1, 8, .int .i64 0⟩),
  (3, ⟨.int .i64, 1, 8, .int .i64 0⟩),
  (4, ⟨.bool, 1, 1, .bool false⟩),
  (5, ⟨.int .u8, 1, 1, .int .u8 0⟩),
  (22, ⟨.sl 5, 1, 24, .slice none 0 0⟩),
  (25, ⟨.sl 2, 1, 24, .slice none 0 0⟩),
  (43, ⟨.struct [(2, 0), (2, 1), (25, 2)], 3, 40, .agg #[.int .i64 0, .int .i64 0, .slice none 0 0]⟩),
  (45, ⟨.sl 25, 1, 24, .slice none 0 0⟩),
  (152, ⟨.int .u64, 1, 8, .int .u64 0⟩),
  (233, ⟨.struct [(22, 0), (3, 1), (152, 2)], 3, 40, .agg #[.slice none 0 0, .int .i64 0, .int .u64 0]⟩),
  (234, ⟨.int .u64, 1, 8, .int .u64 0⟩),
  (300, ⟨.int .u32, 1, 4, .int .u32 0⟩)]
theorem i2 : (Try.prog.info? 2).map (fun i => (i.size, i.bytes, i.zero)) = some (1, 8, some (.int .i64 0)) := by kernel_rfl
theorem i3 : (Try.prog.info? 3).map (fun i => (i.size, i.bytes, i.zero)) = some (1, 8, some (.int .i64 0)) := by kernel_rfl
theorem i4 : (Try.prog.info? 4).map (fun i => (i.size, i.bytes, i.zero)) = some (1, 1, some (.bool false)) := by kernel_rfl
theorem i5 : (Try.prog.info? 5).map (fun i => (i.size, i.bytes, i.zero)) = some (1, 1, some (.int .u8 0)) := by kernel_rfl
theorem i22 : (Try.prog.info? 22).map (fun i => (i.size, i.bytes, i.zero)) = some (1, 24, some (.slice none 0 0)) := by kernel_rfl
theorem i25 : (Try.prog.info? 25).map (fun i => (i.size, i.bytes, i.zero)) = some (1, 24, some (.slice none 0 0)) := by kernel_rfl
theorem i43 : (Try.prog.info? 43).map (fun i => (i.size, i.bytes, i.zero)) = some (3, 40, some (.agg #[.int .i64 0, .int .i64 0, .slice none 0 0])) := by kernel_rfl
theorem i45 : (Try.prog.info? 45).map (fun i => (i.size, i.bytes, i.zero)) = some (1, 24, some (.slice none 0 0)) := by kernel_rfl
theorem i152 : (Try.prog.info? 152).map (fun i => (i.size, i.bytes, i.zero)) = some (1, 8, some (.int .u64 0)) := by kernel_rfl
theorem i233 : (Try.prog.info? 233).map (fun i => (i.size, i.bytes, i.zero)) = some (3, 40, some (.agg #[.slice none 0 0, .int .i64 0, .int .u64 0])) := by kernel_rfl
theorem i234 : (Try.prog.info? 234).map (fun i => (i.size, i.bytes, i.zero)) = some (1, 8, some (.int .u64 0)) := by kernel_rfl
theorem i300 : (Try.prog.info? 300).map (fun i => (i.size, i.bytes, i.zero)) = some (1, 4, some (.int .u32 0)) := by kernel_rfl
theorem okG0 : okTab Try.prog G0 := by
  simp only [okTab, G0, List.mem_cons, List.not_mem_nil, or_false, forall_eq_or_imp, forall_eq]
  exact ⟨⟨i2, Try.underlying2, rfl⟩,
    ⟨i3, Try.underlying3, rfl⟩,
    ⟨i4, Try.underlying4, rfl⟩,
    ⟨i5, Try.underlying5, rfl⟩,
    ⟨i22, Try.underlying22, rfl⟩,
    ⟨i25, Try.underlying25, rfl⟩,
    ⟨i43, ⟨_, Try.underlying43, rfl⟩, rfl⟩,
    ⟨i45, Try.underlying45, rfl⟩,
    ⟨i152, Try.underlying152, rfl⟩,
    ⟨i233, ⟨_, Try.underlying233, rfl⟩, rfl⟩,
    ⟨i234, Try.underlying234, rfl⟩,
    ⟨i300, Try.underlying300, rfl⟩⟩
theorem tgG0_2 : Tab.get G0 2 = some ⟨.int .i64, 1, 8, .int .i64 0⟩ := rfl
theorem tgG0_3 : Tab.get G0 3 = some ⟨.int .i64, 1, 8, .int .i64 0⟩ := rfl
theorem tgG0_4 : Tab.get G0 4 = some ⟨.bool, 1, 1, .bool false⟩ := rfl
theorem tgG0_5 : Tab.get G0 5 = some ⟨.int .u8, 1, 1, .int .u8 0⟩ := rfl
theorem tgG0_22 : Tab.get G0 22 = some ⟨.sl 5, 1, 24, .slice none 0 0⟩ := rfl
theorem tgG0_25 : Tab.get G0 25 = some ⟨.sl 2, 1, 24, .slice none 0 0⟩ := rfl
theorem tgG0_43 : Tab.get G0 43 = some ⟨.struct [(2, 0), (2, 1), (25, 2)], 3, 40, .agg #[.int .i64 0, .int .i64 0, .slice none 0 0]⟩ := rfl
theorem tgG0_45 : Tab.get G0 45 = some ⟨.sl 25, 1, 24, .slice none 0 0⟩ := rfl
theorem tgG0_152 : Tab.get G0 152 = some ⟨.int .u64, 1, 8, .int .u64 0⟩ := rfl
theorem tgG0_233 : Tab.get G0 233 = some ⟨.struct [(22, 0), (3, 1), (152, 2)], 3, 40, .agg #[.slice none 0 0, .int .i64 0, .int .u64 0]⟩ := rfl
theorem tgG0_234 : Tab.get G0 234 = some ⟨.int .u64, 1, 8, .int .u64 0⟩ := rfl
theorem tgG0_300 : Tab.get G0 300 = some ⟨.int .u32, 1, 4, .int .u32 0⟩ := rfl
attribute [push_cast] tgG0_2 tgG0_3 tgG0_4 tgG0_5 tgG0_22 tgG0_25 tgG0_43 tgG0_45 tgG0_152 tgG0_233 tgG0_234 tgG0_300

end Go.Proofs.Avx

set_option linter.unusedVariables false
set_option linter.unusedSimpArgs false
namespace Go.Proofs.Avx
theorem w64 {n : Int} (h1 : -9223372036854775808 ≤ n) (h2 : n ≤ 9223372036854775807) : IntKind.i64.wrap n = n := by rw [IntKind.wrap_i64]; omega
def inB (n lo hi : Int) : Bool := decide (lo ≤ n) && decide (n ≤ hi)
theorem within_spec (n lo hi : Int) : AFp Try.prog 125 [I n, I lo, I hi] (Bo (inB n lo hi)) := by
  refine AF_body okG0 Try.func125 rfl rfl (by simp [Try.ntmps125]) (by simp) ?_; simp only [Try.ntmps125]
  refine aw_seq_k fun K hK => aw_region okG0 ?_; simp only [push_cast, Nat.reduceLT, Nat.reduceLeDiff, Nat.reduceEqDiff, reduceIte, reduceCtorEq, Nat.reduceAdd, Nat.reduceMul, Nat.reduceMod, Nat.reduceBEq, Nat.reduceBNe, List.reduceReplicate, Int.reduceLE, Int.reduceLT, Int.reduceNe]
  apply hK; clear hK
  refine aw_seq_k fun K hK => aw_region okG0 ?_; simp only [push_cast, Nat.reduceLT, Nat.reduceLeDiff, Nat.reduceEqDiff, reduceIte, reduceCtorEq, Nat.reduceAdd, Nat.reduceMul, Nat.reduceMod, Nat.reduceBEq, Nat.reduceBNe, List.reduceReplicate, Int.reduceLE, Int.reduceLT, Int.reduceNe]
  apply hK; clear hK
  exact aw_ret (ret_p rfl rfl rfl (by simp))
theorem l00In_spec (n lo hi : Int) : AFp Try.prog 180 [I n, I lo, I hi] (Bo (inB n lo hi)) := by
  refine AF_body okG0 Try.func180 rfl rfl (by simp [Try.ntmps180]) (by simp) ?_; simp only [Try.ntmps180]
  refine aw_seq_k fun K hK => aw_region okG0 ?_; simp only [push_cast, Nat.reduceLT, Nat.reduceLeDiff, Nat.reduceEqDiff, reduceIte, reduceCtorEq, Nat.reduceAdd, Nat.reduceMul, Nat.reduceMod, Nat.reduceBEq, Nat.reduceBNe, List.reduceReplicate, Int.reduceLE, Int.reduceLT, Int.reduceNe]
  apply hK; clear hK
  refine aw_seq_k fun K hK => aw_region okG0 ?_; simp only [push_cast, Nat.reduceLT, Nat.reduceLeDiff, Nat.reduceEqDiff, reduceIte, reduceCtorEq, Nat.reduceAdd, Nat.reduceMul, Nat.reduceMod, Nat.reduceBEq, Nat.reduceBNe, List.reduceReplicate, Int.reduceLE, Int.reduceLT, Int.reduceNe]
  apply hK; clear hK
  exact aw_ret (ret_p rfl rfl rfl (by simp))
def isSt (n : Int) : Bool := n == 2 || n == 3
theorem areStates_spec (n : Int) : AFp Try.prog 135 [I n] (Bo (isSt n)) := by
  refine AF_body okG0 Try.func135 rfl rfl (by simp [Try.ntmps135]) (by simp) ?_; simp only [Try.ntmps135]
  refine aw_seq_k fun K hK => aw_region okG0 ?_; simp only [push_cast, Nat.reduceLT, Nat.reduceLeDiff, Nat.reduceEqDiff, reduceIte, reduceCtorEq, Nat.reduceAdd, Nat.reduceMul, Nat.reduceMod, Nat.reduceBEq, Nat.reduceBNe, List.reduceReplicate, Int.reduceLE, Int.reduceLT, Int.reduceNe]
  apply hK; clear hK
  refine aw_seq_k fun K hK => aw_region okG0 ?_; simp only [push_cast, Nat.reduceLT, Nat.reduceLeDiff, Nat.reduceEqDiff, reduceIte, reduceCtorEq, Nat.reduceAdd, Nat.reduceMul, Nat.reduceMod, Nat.reduceBEq, Nat.reduceBNe, List.reduceReplicate, Int.reduceLE, Int.reduceLT, Int.reduceNe]
  apply hK; clear hK
  exact aw_ret (ret_p rfl rfl rfl (by simp))
theorem isReach_spec (n : Int) : AFp Try.prog 136 [I n] (Bo (inB n 0 2)) := by
  refine AF_body okG0 Try.func136 rfl rfl (by simp [Try.ntmps136]) (by simp) ?_; simp only [Try.ntmps136]
  refine aw_seq_k fun K hK => aw_region okG0 ?_; simp only [push_cast, Nat.reduceLT, Nat.reduceLeDiff, Nat.reduceEqDiff, reduceIte, reduceCtorEq, Nat.reduceAdd, Nat.reduceMul, Nat.reduceMod, Nat.reduceBEq, Nat.reduceBNe, List.reduceReplicate, Int.reduceLE, Int.reduceLT, Int.reduceNe]
  apply hK; clear hK
  refine aw_seq_k fun K hK => aw_region okG0 ?_; simp only [push_cast, Nat.reduceLT, Nat.reduceLeDiff, Nat.reduceEqDiff, reduceIte, reduceCtorEq, Nat.reduceAdd, Nat.reduceMul, Nat.reduceMod, Nat.reduceBEq, Nat.reduceBNe, List.reduceReplicate, Int.reduceLE, Int.reduceLT, Int.reduceNe]
  refine call_pure (within_spec _ _ _) (fits_of rfl) (by decide) rfl (by simp [idsV, idsVs]) ?_; simp only [push_cast, Nat.reduceLT, Nat.reduceLeDiff, Nat.reduceEqDiff, reduceIte, reduceCtorEq, Nat.reduceAdd, Nat.reduceMul, Nat.reduceMod, Nat.reduceBEq, Nat.reduceBNe, List.reduceReplicate, Int.reduceLE, Int.reduceLT, Int.reduceNe]
  apply hK; clear hK
  exact aw_ret (ret_p rfl rfl rfl (by simp))
theorem floorMod_spec (a b : Int) (h0 : 0 < b) (h1 : b ≤ 4611686018427387904) : AFp Try.prog 246 [I a, I b] (I (a % b)) := by
  refine AF_body okG0 Try.func246 rfl rfl (by simp [Try.ntmps246]) (by simp) ?_; simp only [Try.ntmps246]
  refine aw_seq_k fun K hK => aw_region okG0 ?_; simp only [push_cast, Nat.reduceLT, Nat.reduceLeDiff, Nat.reduceEqDiff, reduceIte, reduceCtorEq, Nat.reduceAdd, Nat.reduceMul, Nat.reduceMod, Nat.reduceBEq, Nat.reduceBNe, List.reduceReplicate, Int.reduceLE, Int.reduceLT, Int.reduceNe]
  apply hK; clear hK
  refine aw_seq_k fun K hK => aw_region okG0 ?_; simp only [push_cast, Nat.reduceLT, Nat.reduceLeDiff, Nat.reduceEqDiff, reduceIte, reduceCtorEq, Nat.reduceAdd, Nat.reduceMul, Nat.reduceMod, Nat.reduceBEq, Nat.reduceBNe, List.reduceReplicate, Int.reduceLE, Int.reduceLT, Int.reduceNe]
  have hb : b ≠ 0 := by omega
  refine ⟨hb, hb, ?_⟩
  apply hK; clear hK
  refine aw_ret (ret_p rfl ?_ rfl (by simp))
  have e1 : a.tmod b = a - b * a.tdiv b := by have := Int.tmod_add_mul_tdiv a b; omega
  have hr : -b < a.tmod b ∧ a.tmod b < b := ⟨by have := Int.lt_tmod_of_pos a h0; omega, Int.tmod_lt_of_pos a h0⟩
  rw [w64 (by omega) (by omega)]
  have hge : 0 ≤ a.tmod b + b := by omega
  show I _ = I _
  rw [Int.tmod_eq_emod_of_nonneg hge]
  congr 1
  rw [Int.add_emod_right, e1, Int.sub_mul_emod_self_left]
theorem cells_spec (s r : Int) (t : List Int) (h0 : 0 ≤ r) (h1 : r ≤ 1000) : AFp Try.prog 198 [.agg [I s, I r, Is t]] (I (2 * r + 1)) := by
  refine AF_body okG0 Try.func198 rfl rfl (by simp [Try.ntmps198]) (by simp) ?_; simp only [Try.ntmps198]
  refine aw_seq_k fun K hK => aw_region okG0 ?_; simp only [push_cast, Nat.reduceLT, Nat.reduceLeDiff, Nat.reduceEqDiff, reduceIte, reduceCtorEq, Nat.reduceAdd, Nat.reduceMul, Nat.reduceMod, Nat.reduceBEq, Nat.reduceBNe, List.reduceReplicate, Int.reduceLE, Int.reduceLT, Int.reduceNe]
  apply hK; clear hK
  refine aw_seq_k fun K hK => aw_region okG0 ?_; simp only [push_cast, Nat.reduceLT, Nat.reduceLeDiff, Nat.reduceEqDiff, reduceIte, reduceCtorEq, Nat.reduceAdd, Nat.reduceMul, Nat.reduceMod, Nat.reduceBEq, Nat.reduceBNe, List.reduceReplicate, Int.reduceLE, Int.reduceLT, Int.reduceNe]
  apply hK; clear hK
  refine aw_ret (ret_p rfl ?_ rfl (by simp))
  simp only [push_cast]
  rw [w64 (n := 2 * r) (by omega) (by omega), w64 (by omega) (by omega)]
theorem raised_spec (b : Int) (n : Nat) (hn : n ≤ 1000) (hb : ∀ m, m ≤ n → 0 ≤ b ^ m ∧ b ^ m ≤ 4611686018427387904) : AFp Try.prog 197 [I b, I n] (I (b ^ n)) := by
  refine AF_body okG0 Try.func197 rfl rfl (by simp [Try.ntmps197]) (by simp) ?_; simp only [Try.ntmps197]
  refine aw_seq_k fun K1 hK1 => aw_region okG0 ?_; simp only [push_cast, Nat.reduceLT, Nat.reduceLeDiff, Nat.reduceEqDiff, reduceIte, reduceCtorEq, Nat.reduceAdd, Nat.reduceMul, Nat.reduceMod, Nat.reduceBEq, Nat.reduceBNe, List.reduceReplicate, Int.reduceLE, Int.reduceLT, Int.reduceNe]
  apply hK1; clear hK1
  refine aw_seq_k fun K2 hK2 => aw_region okG0 ?_; simp only [push_cast, Nat.reduceLT, Nat.reduceLeDiff, Nat.reduceEqDiff, reduceIte, reduceCtorEq, Nat.reduceAdd, Nat.reduceMul, Nat.reduceMod, Nat.reduceBEq, Nat.reduceBNe, List.reduceReplicate, Int.reduceLE, Int.reduceLT, Int.reduceNe]
  apply hK2; clear hK2
  refine aw_seq_k fun K3 hK3 => ?_
  refine aw_seq_k fun K4 hK4 => aw_region okG0 ?_; simp only [push_cast, Nat.reduceLT, Nat.reduceLeDiff, Nat.reduceEqDiff, reduceIte, reduceCtorEq, Nat.reduceAdd, Nat.reduceMul, Nat.reduceMod, Nat.reduceBEq, Nat.reduceBNe, List.reduceReplicate, Int.reduceLE, Int.reduceLT, Int.reduceNe]
  apply hK4; clear hK4
  refine aw_block ?_
  refine aw_loop (fun k : {k : Nat // k ≤ n} => ⟨[(0, I b), (5, I (b ^ k.1)), (6, I n), (7, I k.1)], [], []⟩) (fun k => n - k.1) ⟨0, Nat.zero_le _⟩ (sub_to (by simp [allE, getE] <;> rfl) (by simp [allB, getB] <;> rfl) rfl rfl rfl) ?_
  rintro ⟨k, hk⟩
  refine aw_seq_k fun K5 hK5 => aw_region okG0 ?_; simp only [push_cast, Nat.reduceLT, Nat.reduceLeDiff, Nat.reduceEqDiff, reduceIte, reduceCtorEq, Nat.reduceAdd, Nat.reduceMul, Nat.reduceMod, Nat.reduceBEq, Nat.reduceBNe, List.reduceReplicate, Int.reduceLE, Int.reduceLT, Int.reduceNe]
  apply hK5; clear hK5
  refine aw_seq_k fun K6 hK6 => ?_
  refine aw_cond rfl (fun hc => ?_) (fun hc => ?_)
  · refine aw_skip ?_
    simp only [push_cast, Nat.reduceLT, Nat.reduceLeDiff, Nat.reduceEqDiff, reduceIte, reduceCtorEq, Nat.reduceAdd, Nat.reduceMul, Nat.reduceMod, Nat.reduceBEq, Nat.reduceBNe, List.reduceReplicate, Int.reduceLE, Int.reduceLT, Int.reduceNe]
    apply hK6; clear hK6
    refine aw_seq_k fun K7 hK7 => ?_
    refine aw_block ?_
    have hlt : k < n := by simpa using hc
    refine aw_region okG0 ?_
    simp only [push_cast, Nat.reduceLT, Nat.reduceLeDiff, Nat.reduceEqDiff, reduceIte, reduceCtorEq, Nat.reduceAdd, Nat.reduceMul, Nat.reduceMod, Nat.reduceBEq, Nat.reduceBNe, List.reduceReplicate, Int.reduceLE, Int.reduceLT, Int.reduceNe]
    apply hK7; clear hK7
    refine aw_region okG0 ?_
    simp only [push_cast, Nat.reduceLT, Nat.reduceLeDiff, Nat.reduceEqDiff, reduceIte, reduceCtorEq, Nat.reduceAdd, Nat.reduceMul, Nat.reduceMod, Nat.reduceBEq, Nat.reduceBNe, List.reduceReplicate, Int.reduceLE, Int.reduceLT, Int.reduceNe]
    refine ⟨⟨k + 1, by omega⟩, ?_, by show n - (k + 1) < n - k; omega⟩
    rw [w64 (n := (k : Int) + 1) (by omega) (by omega)]
    have e : IntKind.i64.wrap (b ^ k * b) = b ^ (k + 1) := by
      have := hb (k + 1) hlt
      rw [Int.pow_succ] at this ⊢
      exact w64 (by omega) (by omega)
    rw [e]
    exact sub_to (by simp [allE, getE] <;> rfl) (by simp [allB, getB] <;> rfl) rfl rfl rfl
  · refine aw_exit ?_
    simp only [push_cast, Nat.reduceLT, Nat.reduceLeDiff, Nat.reduceEqDiff, reduceIte, reduceCtorEq, Nat.reduceAdd, Nat.reduceMul, Nat.reduceMod, Nat.reduceBEq, Nat.reduceBNe, List.reduceReplicate, Int.reduceLE, Int.reduceLT, Int.reduceNe]
    have hlt : k = n := by have : ¬ (k : Int) < n := by simpa using hc
                           omega
    subst hlt
    apply hK3; clear hK3
    refine aw_seq_k fun K8 hK8 => aw_region okG0 ?_; simp only [push_cast, Nat.reduceLT, Nat.reduceLeDiff, Nat.reduceEqDiff, reduceIte, reduceCtorEq, Nat.reduceAdd, Nat.reduceMul, Nat.reduceMod, Nat.reduceBEq, Nat.reduceBNe, List.reduceReplicate, Int.reduceLE, Int.reduceLT, Int.reduceNe]
    apply hK8; clear hK8
    exact aw_ret (ret_p rfl rfl rfl (by simp))
theorem l03Power_spec (b : Int) (n : Nat) (hn : n ≤ 1000) (hb : ∀ m, m ≤ n → 0 ≤ b ^ m ∧ b ^ m ≤ 4611686018427387904) : AFp Try.prog 249 [I b, I n] (I (b ^ n)) := by
  refine AF_body okG0 Try.func249 rfl rfl (by simp [Try.ntmps249]) (by simp) ?_; simp only [Try.ntmps249]
  refine aw_seq_k fun K1 hK1 => aw_region okG0 ?_; simp only [push_cast, Nat.reduceLT, Nat.reduceLeDiff, Nat.reduceEqDiff, reduceIte, reduceCtorEq, Nat.reduceAdd, Nat.reduceMul, Nat.reduceMod, Nat.reduceBEq, Nat.reduceBNe, List.reduceReplicate, Int.reduceLE, Int.reduceLT, Int.reduceNe]
  apply hK1; clear hK1
  refine aw_seq_k fun K2 hK2 => aw_region okG0 ?_; simp only [push_cast, Nat.reduceLT, Nat.reduceLeDiff, Nat.reduceEqDiff, reduceIte, reduceCtorEq, Nat.reduceAdd, Nat.reduceMul, Nat.reduceMod, Nat.reduceBEq, Nat.reduceBNe, List.reduceReplicate, Int.reduceLE, Int.reduceLT, Int.reduceNe]
  apply hK2; clear hK2
  refine aw_seq_k fun K3 hK3 => ?_
  refine aw_block ?_
  refine aw_loop (fun k : {k : Nat // k ≤ n} => ⟨[(0, I b), (5, I (b ^ k.1)), (1, I ((n - k.1 : Nat) : Int))], [], []⟩) (fun k => n - k.1) ⟨0, Nat.zero_le _⟩ (sub_to (by simp [allE, getE] <;> rfl) (by simp [allB, getB] <;> rfl) rfl rfl rfl) ?_
  rintro ⟨k, hk⟩
  refine aw_seq_k fun K6 hK6 => ?_
  refine aw_seq_k fun K5 hK5 => aw_region okG0 ?_; simp only [push_cast, Nat.reduceLT, Nat.reduceLeDiff, Nat.reduceEqDiff, reduceIte, reduceCtorEq, Nat.reduceAdd, Nat.reduceMul, Nat.reduceMod, Nat.reduceBEq, Nat.reduceBNe, List.reduceReplicate, Int.reduceLE, Int.reduceLT, Int.reduceNe]
  apply hK5; clear hK5
  refine aw_cond rfl (fun hc => ?_) (fun hc => ?_)
  · refine aw_skip ?_
    simp only [push_cast, Nat.reduceLT, Nat.reduceLeDiff, Nat.reduceEqDiff, reduceIte, reduceCtorEq, Nat.reduceAdd, Nat.reduceMul, Nat.reduceMod, Nat.reduceBEq, Nat.reduceBNe, List.reduceReplicate, Int.reduceLE, Int.reduceLT, Int.reduceNe]
    apply hK6; clear hK6
    refine aw_seq_k fun K7 hK7 => ?_
    refine aw_block ?_
    have hlt : k < n := by have : (0 : Int) < ((n - k : Nat) : Int) := by simpa using hc
                           omega
    refine aw_region okG0 ?_
    simp only [push_cast, Nat.reduceLT, Nat.reduceLeDiff, Nat.reduceEqDiff, reduceIte, reduceCtorEq, Nat.reduceAdd, Nat.reduceMul, Nat.reduceMod, Nat.reduceBEq, Nat.reduceBNe, List.reduceReplicate, Int.reduceLE, Int.reduceLT, Int.reduceNe]
    apply hK7; clear hK7
    refine aw_region okG0 ?_
    simp only [push_cast, Nat.reduceLT, Nat.reduceLeDiff, Nat.reduceEqDiff, reduceIte, reduceCtorEq, Nat.reduceAdd, Nat.reduceMul, Nat.reduceMod, Nat.reduceBEq, Nat.reduceBNe, List.reduceReplicate, Int.reduceLE, Int.reduceLT, Int.reduceNe]
    refine ⟨⟨k + 1, by omega⟩, ?_, by show n - (k + 1) < n - k; omega⟩
    rw [w64 (n := ((n - k : Nat) : Int) - 1) (by omega) (by omega), show ((n - k : Nat) : Int) - 1 = ((n - (k + 1) : Nat) : Int) by omega]
    have e : IntKind.i64.wrap (b ^ k * b) = b ^ (k + 1) := by
      have := hb (k + 1) hlt
      rw [Int.pow_succ] at this ⊢
      exact w64 (by omega) (by omega)
    rw [e]
    exact sub_to (by simp [allE, getE] <;> rfl) (by simp [allB, getB] <;> rfl) rfl rfl rfl
  · refine aw_exit ?_
    simp only [push_cast, Nat.reduceLT, Nat.reduceLeDiff, Nat.reduceEqDiff, reduceIte, reduceCtorEq, Nat.reduceAdd, Nat.reduceMul, Nat.reduceMod, Nat.reduceBEq, Nat.reduceBNe, List.reduceReplicate, Int.reduceLE, Int.reduceLT, Int.reduceNe]
    have hlt : k = n := by have : ¬ (0 : Int) < ((n - k : Nat) : Int) := by simpa using hc
                           omega
    subst hlt
    apply hK3; clear hK3
    refine aw_seq_k fun K8 hK8 => aw_region okG0 ?_; simp only [push_cast, Nat.reduceLT, Nat.reduceLeDiff, Nat.reduceEqDiff, reduceIte, reduceCtorEq, Nat.reduceAdd, Nat.reduceMul, Nat.reduceMod, Nat.reduceBEq, Nat.reduceBNe, List.reduceReplicate, Int.reduceLE, Int.reduceLT, Int.reduceNe]
    apply hK8; clear hK8
    exact aw_ret (ret_p rfl rfl rfl (by simp))
theorem l02Powers_spec (b : Int) (n : Nat) (hn : n ≤ 1000) (hb : ∀ m, m ≤ n → 0 ≤ b ^ m ∧ b ^ m ≤ 4611686018427387904) : AFp Try.prog 299 [I b, I n] (I (b ^ n)) := by
  refine AF_body okG0 Try.func299 rfl rfl (by simp [Try.ntmps299]) (by simp) ?_; simp only [Try.ntmps299]
  refine aw_seq_k fun K1 hK1 => aw_region okG0 ?_; simp only [push_cast, Nat.reduceLT, Nat.reduceLeDiff, Nat.reduceEqDiff, reduceIte, reduceCtorEq, Nat.reduceAdd, Nat.reduceMul, Nat.reduceMod, Nat.reduceBEq, Nat.reduceBNe, List.reduceReplicate, Int.reduceLE, Int.reduceLT, Int.reduceNe]
  apply hK1; clear hK1
  refine aw_seq_k fun K2 hK2 => aw_region okG0 ?_; simp only [push_cast, Nat.reduceLT, Nat.reduceLeDiff, Nat.reduceEqDiff, reduceIte, reduceCtorEq, Nat.reduceAdd, Nat.reduceMul, Nat.reduceMod, Nat.reduceBEq, Nat.reduceBNe, List.reduceReplicate, Int.reduceLE, Int.reduceLT, Int.reduceNe]
  apply hK2; clear hK2
  refine aw_seq_k fun K3 hK3 => ?_
  refine aw_block ?_
  refine aw_loop (fun k : {k : Nat // k ≤ n} => ⟨[(0, I b), (5, I (b ^ k.1)), (1, I ((n - k.1 : Nat) : Int))], [], []⟩) (fun k => n - k.1) ⟨0, Nat.zero_le _⟩ (sub_to (by simp [allE, getE] <;> rfl) (by simp [allB, getB] <;> rfl) rfl rfl rfl) ?_
  rintro ⟨k, hk⟩
  refine aw_seq_k fun K6 hK6 => ?_
  refine aw_seq_k fun K5 hK5 => aw_region okG0 ?_; simp only [push_cast, Nat.reduceLT, Nat.reduceLeDiff, Nat.reduceEqDiff, reduceIte, reduceCtorEq, Nat.reduceAdd, Nat.reduceMul, Nat.reduceMod, Nat.reduceBEq, Nat.reduceBNe, List.reduceReplicate, Int.reduceLE, Int.reduceLT, Int.reduceNe]
  apply hK5; clear hK5
  refine aw_cond rfl (fun hc => ?_) (fun hc => ?_)
  · refine aw_skip ?_
    simp only [push_cast, Nat.reduceLT, Nat.reduceLeDiff, Nat.reduceEqDiff, reduceIte, reduceCtorEq, Nat.reduceAdd, Nat.reduceMul, Nat.reduceMod, Nat.reduceBEq, Nat.reduceBNe, List.reduceReplicate, Int.reduceLE, Int.reduceLT, Int.reduceNe]
    apply hK6; clear hK6
    refine aw_seq_k fun K7 hK7 => ?_
    refine aw_block ?_
    have hlt : k < n := by have : (0 : Int) < ((n - k : Nat) : Int) := by simpa using hc
                           omega
    refine aw_region okG0 ?_
    simp only [push_cast, Nat.reduceLT, Nat.reduceLeDiff, Nat.reduceEqDiff, reduceIte, reduceCtorEq, Nat.reduceAdd, Nat.reduceMul, Nat.reduceMod, Nat.reduceBEq, Nat.reduceBNe, List.reduceReplicate, Int.reduceLE, Int.reduceLT, Int.reduceNe]
    apply hK7; clear hK7
    refine aw_region okG0 ?_
    simp only [push_cast, Nat.reduceLT, Nat.reduceLeDiff, Nat.reduceEqDiff, reduceIte, reduceCtorEq, Nat.reduceAdd, Nat.reduceMul, Nat.reduceMod, Nat.reduceBEq, Nat.reduceBNe, List.reduceReplicate, Int.reduceLE, Int.reduceLT, Int.reduceNe]
    refine ⟨⟨k + 1, by omega⟩, ?_, by show n - (k + 1) < n - k; omega⟩
    rw [w64 (n := ((n - k : Nat) : Int) - 1) (by omega) (by omega), show ((n - k : Nat) : Int) - 1 = ((n - (k + 1) : Nat) : Int) by omega]
    have e : IntKind.i64.wrap (b ^ k * b) = b ^ (k + 1) := by
      have := hb (k + 1) hlt
      rw [Int.pow_succ] at this ⊢
      exact w64 (by omega) (by omega)
    rw [e]
    exact sub_to (by simp [allE, getE] <;> rfl) (by simp [allB, getB] <;> rfl) rfl rfl rfl
  · refine aw_exit ?_
    simp only [push_cast, Nat.reduceLT, Nat.reduceLeDiff, Nat.reduceEqDiff, reduceIte, reduceCtorEq, Nat.reduceAdd, Nat.reduceMul, Nat.reduceMod, Nat.reduceBEq, Nat.reduceBNe, List.reduceReplicate, Int.reduceLE, Int.reduceLT, Int.reduceNe]
    have hlt : k = n := by have : ¬ (0 : Int) < ((n - k : Nat) : Int) := by simpa using hc
                           omega
    subst hlt
    apply hK3; clear hK3
    refine aw_seq_k fun K8 hK8 => aw_region okG0 ?_; simp only [push_cast, Nat.reduceLT, Nat.reduceLeDiff, Nat.reduceEqDiff, reduceIte, reduceCtorEq, Nat.reduceAdd, Nat.reduceMul, Nat.reduceMod, Nat.reduceBEq, Nat.reduceBNe, List.reduceReplicate, Int.reduceLE, Int.reduceLT, Int.reduceNe]
    apply hK8; clear hK8
    exact aw_ret (ret_p rfl rfl rfl (by simp))
theorem all_take (xs : List Int) (p : Int → Bool) (k : Nat) (h : (xs.take k).all p = true) (hk : k < xs.length) : (xs.take (k+1)).all p = p (xs.getD k 0) := by
  rw [List.take_succ_eq_append_getElem hk, List.all_append, h]
  simp [List.getD_eq_getElem?_getD, hk]
theorem all_false_of (xs : List Int) (p : Int → Bool) (k : Nat) (hk : k < xs.length) (h : p (xs.getD k 0) = false) : xs.all p = false := by
  rw [List.all_eq_false]
  refine ⟨xs[k], List.getElem_mem hk, ?_⟩
  rw [List.getD_eq_getElem?_getD, List.getElem?_eq_getElem hk] at h
  simpa using h
theorem areWithin_spec (xs : List Int) (lo hi : Int) (hlen : xs.length ≤ 4611686018427387904) : AFp Try.prog 247 [Is xs, I lo, I hi] (Bo (xs.all (inB · lo hi))) := by
  refine AF_body okG0 Try.func247 rfl rfl (by simp [Try.ntmps247]) (by simp) ?_; simp only [Try.ntmps247]
  refine aw_seq_k fun K1 hK1 => aw_region okG0 ?_; simp only [push_cast, Nat.reduceLT, Nat.reduceLeDiff, Nat.reduceEqDiff, reduceIte, reduceCtorEq, Nat.reduceAdd, Nat.reduceMul, Nat.reduceMod, Nat.reduceBEq, Nat.reduceBNe, List.reduceReplicate, Int.reduceLE, Int.reduceLT, Int.reduceNe]
  apply hK1; clear hK1
  refine aw_seq_k fun K2 hK2 => ?_
  refine aw_seq_k fun K3 hK3 => aw_region okG0 ?_; simp only [push_cast, Nat.reduceLT, Nat.reduceLeDiff, Nat.reduceEqDiff, reduceIte, reduceCtorEq, Nat.reduceAdd, Nat.reduceMul, Nat.reduceMod, Nat.reduceBEq, Nat.reduceBNe, List.reduceReplicate, Int.reduceLE, Int.reduceLT, Int.reduceNe]
  apply hK3; clear hK3
  refine aw_block ?_
  refine aw_loop (fun k : {k : Nat // k ≤ xs.length ∧ (xs.take k).all (inB · lo hi) = true} => ⟨[(9, Is xs), (10, I xs.length), (11, I k.1), (1, I lo), (2, I hi)], [], []⟩) (fun k => xs.length - k.1) ⟨0, by simp⟩ (sub_to (by simp [allE, getE] <;> rfl) (by simp [allB, getB] <;> rfl) rfl rfl rfl) ?_
  rintro ⟨k, hk, hall⟩
  refine aw_seq_k fun K4 hK4 => aw_region okG0 ?_; simp only [push_cast, Nat.reduceLT, Nat.reduceLeDiff, Nat.reduceEqDiff, reduceIte, reduceCtorEq, Nat.reduceAdd, Nat.reduceMul, Nat.reduceMod, Nat.reduceBEq, Nat.reduceBNe, List.reduceReplicate, Int.reduceLE, Int.reduceLT, Int.reduceNe]
  apply hK4; clear hK4
  refine aw_seq_k fun K5 hK5 => ?_
  refine aw_cond rfl (fun hc => ?_) (fun hc => ?_)
  · refine aw_skip ?_
    simp only [push_cast, Nat.reduceLT, Nat.reduceLeDiff, Nat.reduceEqDiff, reduceIte, reduceCtorEq, Nat.reduceAdd, Nat.reduceMul, Nat.reduceMod, Nat.reduceBEq, Nat.reduceBNe, List.reduceReplicate, Int.reduceLE, Int.reduceLT, Int.reduceNe]
    apply hK5; clear hK5
    refine aw_seq_k fun K6 hK6 => ?_
    refine aw_block ?_
    have hlt : k < xs.length := by simpa using hc
    refine aw_seq_k fun K7 hK7 => aw_region okG0 ?_; simp only [push_cast, Nat.reduceLT, Nat.reduceLeDiff, Nat.reduceEqDiff, reduceIte, reduceCtorEq, Nat.reduceAdd, Nat.reduceMul, Nat.reduceMod, Nat.reduceBEq, Nat.reduceBNe, List.reduceReplicate, Int.reduceLE, Int.reduceLT, Int.reduceNe]
    refine ⟨⟨by omega, by omega⟩, ?_⟩
    apply hK7; clear hK7
    refine aw_seq_k fun K8 hK8 => aw_region okG0 ?_; simp only [push_cast, Nat.reduceLT, Nat.reduceLeDiff, Nat.reduceEqDiff, reduceIte, reduceCtorEq, Nat.reduceAdd, Nat.reduceMul, Nat.reduceMod, Nat.reduceBEq, Nat.reduceBNe, List.reduceReplicate, Int.reduceLE, Int.reduceLT, Int.reduceNe]
    refine call_pure (within_spec _ _ _) (fits_of rfl) (by decide) rfl (by simp [idsV, idsVs]) ?_; simp only [push_cast, Nat.reduceLT, Nat.reduceLeDiff, Nat.reduceEqDiff, reduceIte, reduceCtorEq, Nat.reduceAdd, Nat.reduceMul, Nat.reduceMod, Nat.reduceBEq, Nat.reduceBNe, List.reduceReplicate, Int.reduceLE, Int.reduceLT, Int.reduceNe]
    apply hK8; clear hK8
    have ha := all_take xs (inB · lo hi) k hall hlt
    refine aw_cond rfl (fun hc => ?_) (fun hc => ?_)
    · refine aw_seq_k fun K9 hK9 => aw_region okG0 ?_; simp only [push_cast, Nat.reduceLT, Nat.reduceLeDiff, Nat.reduceEqDiff, reduceIte, reduceCtorEq, Nat.reduceAdd, Nat.reduceMul, Nat.reduceMod, Nat.reduceBEq, Nat.reduceBNe, List.reduceReplicate, Int.reduceLE, Int.reduceLT, Int.reduceNe]
      apply hK9; clear hK9
      refine aw_ret (ret_p rfl ?_ rfl (by simp))
      have : inB (xs.getD k 0) lo hi = false := by simpa using hc
      rw [all_false_of xs _ k hlt this]
      rfl
    · refine aw_skip ?_
      simp only [push_cast, Nat.reduceLT, Nat.reduceLeDiff, Nat.reduceEqDiff, reduceIte, reduceCtorEq, Nat.reduceAdd, Nat.reduceMul, Nat.reduceMod, Nat.reduceBEq, Nat.reduceBNe, List.reduceReplicate, Int.reduceLE, Int.reduceLT, Int.reduceNe]
      apply hK6; clear hK6
      refine aw_region okG0 ?_
      simp only [push_cast, Nat.reduceLT, Nat.reduceLeDiff, Nat.reduceEqDiff, reduceIte, reduceCtorEq, Nat.reduceAdd, Nat.reduceMul, Nat.reduceMod, Nat.reduceBEq, Nat.reduceBNe, List.reduceReplicate, Int.reduceLE, Int.reduceLT, Int.reduceNe]
      have hb : inB (xs.getD k 0) lo hi = true := by simpa using hc
      refine ⟨⟨k + 1, by omega, by rw [ha]; exact hb⟩, ?_, by show xs.length - (k + 1) < xs.length - k; omega⟩
      rw [w64 (n := (k : Int) + 1) (by omega) (by omega)]
      exact sub_to (by simp [allE, getE] <;> rfl) (by simp [allB, getB] <;> rfl) rfl rfl rfl
  · refine aw_exit ?_
    simp only [push_cast, Nat.reduceLT, Nat.reduceLeDiff, Nat.reduceEqDiff, reduceIte, reduceCtorEq, Nat.reduceAdd, Nat.reduceMul, Nat.reduceMod, Nat.reduceBEq, Nat.reduceBNe, List.reduceReplicate, Int.reduceLE, Int.reduceLT, Int.reduceNe]
    apply hK2; clear hK2
    refine aw_seq_k fun K10 hK10 => aw_region okG0 ?_; simp only [push_cast, Nat.reduceLT, Nat.reduceLeDiff, Nat.reduceEqDiff, reduceIte, reduceCtorEq, Nat.reduceAdd, Nat.reduceMul, Nat.reduceMod, Nat.reduceBEq, Nat.reduceBNe, List.reduceReplicate, Int.reduceLE, Int.reduceLT, Int.reduceNe]
    apply hK10; clear hK10
    have hlt : k = xs.length := by have : ¬ (k : Int) < xs.length := by simpa using hc
                                   omega
    subst hlt
    rw [List.take_length] at hall
    refine aw_ret (ret_p rfl ?_ rfl (by simp))
    rw [hall]
    rfl
def many (xs : List Int) (few many lo hi : Int) : Bool := inB xs.length few many && xs.all (inB · lo hi)
theorem areMany_spec (xs : List Int) (a b lo hi : Int) (hlen : xs.length ≤ 4611686018427387904) : AFp Try.prog 122 [Is xs, I a, I b, I lo, I hi] (Bo (many xs a b lo hi)) := by
  refine AF_body okG0 Try.func122 rfl rfl (by simp [Try.ntmps122]) (by simp) ?_; simp only [Try.ntmps122]
  refine aw_seq_k fun K1 hK1 => aw_region okG0 ?_; simp only [push_cast, Nat.reduceLT, Nat.reduceLeDiff, Nat.reduceEqDiff, reduceIte, reduceCtorEq, Nat.reduceAdd, Nat.reduceMul, Nat.reduceMod, Nat.reduceBEq, Nat.reduceBNe, List.reduceReplicate, Int.reduceLE, Int.reduceLT, Int.reduceNe]
  apply hK1; clear hK1
  refine aw_seq_k fun K2 hK2 => aw_region okG0 ?_; simp only [push_cast, Nat.reduceLT, Nat.reduceLeDiff, Nat.reduceEqDiff, reduceIte, reduceCtorEq, Nat.reduceAdd, Nat.reduceMul, Nat.reduceMod, Nat.reduceBEq, Nat.reduceBNe, List.reduceReplicate, Int.reduceLE, Int.reduceLT, Int.reduceNe]
  refine call_pure (within_spec _ _ _) (fits_of rfl) (by decide) rfl (by simp [idsV, idsVs]) ?_; simp only [push_cast, Nat.reduceLT, Nat.reduceLeDiff, Nat.reduceEqDiff, reduceIte, reduceCtorEq, Nat.reduceAdd, Nat.reduceMul, Nat.reduceMod, Nat.reduceBEq, Nat.reduceBNe, List.reduceReplicate, Int.reduceLE, Int.reduceLT, Int.reduceNe]
  refine gcall_pure (fun _ => areWithin_spec xs lo hi hlen) (fun _ => fits_of rfl) (by decide) rfl rfl ?_; simp only [push_cast, Nat.reduceLT, Nat.reduceLeDiff, Nat.reduceEqDiff, reduceIte, reduceCtorEq, Nat.reduceAdd, Nat.reduceMul, Nat.reduceMod, Nat.reduceBEq, Nat.reduceBNe, List.reduceReplicate, Int.reduceLE, Int.reduceLT, Int.reduceNe]
  apply hK2; clear hK2
  exact aw_ret (ret_p rfl rfl rfl (by simp))
def isRing (xs : List Int) (s : Int) : Bool := isSt s && many xs 1 64 0 (s - 1)
theorem IsRing_spec (xs : List Int) (s : Int) (hlen : xs.length ≤ 4611686018427387904) (h1 : -9223372036854775807 ≤ s) (h2 : s ≤ 9223372036854775807) : AFp Try.prog 74 [Is xs, I s] (Bo (isRing xs s)) := by
  refine AF_body okG0 Try.func74 rfl rfl (by simp [Try.ntmps74]) (by simp) ?_; simp only [Try.ntmps74]
  refine aw_seq_k fun K1 hK1 => aw_region okG0 ?_; simp only [push_cast, Nat.reduceLT, Nat.reduceLeDiff, Nat.reduceEqDiff, reduceIte, reduceCtorEq, Nat.reduceAdd, Nat.reduceMul, Nat.reduceMod, Nat.reduceBEq, Nat.reduceBNe, List.reduceReplicate, Int.reduceLE, Int.reduceLT, Int.reduceNe]
  apply hK1; clear hK1
  refine aw_seq_k fun K2 hK2 => aw_region okG0 ?_; simp only [push_cast, Nat.reduceLT, Nat.reduceLeDiff, Nat.reduceEqDiff, reduceIte, reduceCtorEq, Nat.reduceAdd, Nat.reduceMul, Nat.reduceMod, Nat.reduceBEq, Nat.reduceBNe, List.reduceReplicate, Int.reduceLE, Int.reduceLT, Int.reduceNe]
  refine call_pure (areStates_spec _) (fits_of rfl) (by decide) rfl (by simp [idsV, idsVs]) ?_; simp only [push_cast, Nat.reduceLT, Nat.reduceLeDiff, Nat.reduceEqDiff, reduceIte, reduceCtorEq, Nat.reduceAdd, Nat.reduceMul, Nat.reduceMod, Nat.reduceBEq, Nat.reduceBNe, List.reduceReplicate, Int.reduceLE, Int.reduceLT, Int.reduceNe]
  rw [w64 (by omega) (by omega)]
  refine gcall_pure (fun _ => areMany_spec xs 1 64 0 (s - 1) hlen) (fun _ => fits_of rfl) (by decide) rfl rfl ?_; simp only [push_cast, Nat.reduceLT, Nat.reduceLeDiff, Nat.reduceEqDiff, reduceIte, reduceCtorEq, Nat.reduceAdd, Nat.reduceMul, Nat.reduceMod, Nat.reduceBEq, Nat.reduceBNe, List.reduceReplicate, Int.reduceLE, Int.reduceLT, Int.reduceNe]
  apply hK2; clear hK2
  exact aw_ret (ret_p rfl rfl rfl (by simp))
end Go.Proofs.Avx

set_option linter.unusedVariables false
set_option linter.unusedSimpArgs false
namespace Go.Proofs.Avx
theorem l00From_spec (c : List Int) : AF Try.prog 113 [Bys c] [] [] (.ptr 0 0) [(0, [Bys c, I 0, U 0])] [] := by
  refine AF_body okG0 Try.func113 rfl rfl (by simp [Try.ntmps113]) (by simp) ?_; simp only [Try.ntmps113]
  refine aw_seq_k fun K1 hK1 => aw_region okG0 ?_; simp only [push_cast, Nat.reduceLT, Nat.reduceLeDiff, Nat.reduceEqDiff, reduceIte, reduceCtorEq, Nat.reduceAdd, Nat.reduceMul, Nat.reduceMod, Nat.reduceBEq, Nat.reduceBNe, List.reduceReplicate, Int.reduceLE, Int.reduceLT, Int.reduceNe]
  apply hK1; clear hK1
  refine aw_seq_k fun K2 hK2 => aw_region okG0 ?_; simp only [push_cast, Nat.reduceLT, Nat.reduceLeDiff, Nat.reduceEqDiff, reduceIte, reduceCtorEq, Nat.reduceAdd, Nat.reduceMul, Nat.reduceMod, Nat.reduceBEq, Nat.reduceBNe, List.reduceReplicate, Int.reduceLE, Int.reduceLT, Int.reduceNe]
  apply hK2; clear hK2
  refine aw_ret ?_
  simp only [push_cast, Nat.reduceLT, Nat.reduceLeDiff, Nat.reduceEqDiff, reduceIte, reduceCtorEq, Nat.reduceAdd, Nat.reduceMul, Nat.reduceMod, Nat.reduceBEq, Nat.reduceBNe, List.reduceReplicate, Int.reduceLE, Int.reduceLT, Int.reduceNe]
  refine ret_io [(599, 0)] [] rfl ?_ (by simp [renN]) rfl ?_ (by simp [rsEnd, getE, renV, renN]) rfl (by simp [renN]) <;> (try simp only [push_cast, reduceIte, Nat.reduceEqDiff])
def nextB (c : List Int) (at_ : Nat) : Int := if at_ < c.length then c.getD at_ 0 else 0
def nextS (c : List Int) (at_ : Nat) (seed : Int) : Int := IntKind.u64.wrap (IntKind.u64.wrap (IntKind.u64.wrap (seed * 6364136223846793005) + IntKind.u64.wrap (nextB c at_)) + 1442695040888963407)
def and255 (x : Int) : Int := IntKind.u64.wrap ((BitVec.ofInt 64 x &&& BitVec.ofInt 64 255).toNat : Int)
def nextV (c : List Int) (at_ : Nat) (seed : Int) : Int := if at_ < c.length then c.getD at_ 0 else IntKind.i64.wrap (and255 ((nextS c at_ seed).fdiv (2 ^ 40)))
def isBytes (c : List Int) : Prop := ∀ x ∈ c, 0 ≤ x ∧ x ≤ 255
theorem and255_range (x : Int) : 0 ≤ and255 x ∧ and255 x ≤ 255 := by
  have h : (BitVec.ofInt 64 x &&& BitVec.ofInt 64 255).toNat ≤ 255 := by
    rw [BitVec.toNat_and]
    exact Nat.le_trans Nat.and_le_right (by decide)
  unfold and255
  have : IntKind.u64.wrap ((BitVec.ofInt 64 x &&& BitVec.ofInt 64 255).toNat : Int) = ((BitVec.ofInt 64 x &&& BitVec.ofInt 64 255).toNat : Int) := by
    rw [IntKind.wrap_u64]; omega
  rw [this]; omega
theorem byte_at {c : List Int} (hc : isBytes c) (k : Nat) : 0 ≤ c.getD k 0 ∧ c.getD k 0 ≤ 255 := by
  rw [List.getD_eq_getElem?_getD]
  cases h : c[k]? with
  | none => simp
  | some x => simpa using hc x (List.mem_of_getElem? h)
theorem nextB_range {c : List Int} (hc : isBytes c) (k : Nat) : 0 ≤ nextB c k ∧ nextB c k ≤ 255 := by
  unfold nextB; split
  · exact byte_at hc k
  · omega
theorem nextV_range {c : List Int} (hc : isBytes c) (k : Nat) (s : Int) : 0 ≤ nextV c k s ∧ nextV c k s ≤ 255 := by
  unfold nextV; split
  · exact byte_at hc k
  · have := and255_range ((nextS c k s).fdiv (2 ^ 40))
    rw [w64 (by omega) (by omega)]; exact this
theorem next_spec (c : List Int) (at_ : Nat) (seed : Int) (hcb : isBytes c) (hl : c.length ≤ 1048576) (ha : at_ ≤ 2097152) :
    AF Try.prog 250 [.ptr 98 0] [98] [(98, [Bys c, I at_, U seed])] (I (nextV c at_ seed)) [(98, [Bys c, I ((at_ + 1 : Nat) : Int), U (nextS c at_ seed)])] [] := by
  refine AF_body okG0 Try.func250 rfl rfl (by simp [Try.ntmps250]) (by simp) ?_; simp only [Try.ntmps250]
  refine aw_seq_k fun K1 hK1 => aw_region okG0 ?_; simp only [push_cast, Nat.reduceLT, Nat.reduceLeDiff, Nat.reduceEqDiff, reduceIte, reduceCtorEq, Nat.reduceAdd, Nat.reduceMul, Nat.reduceMod, Nat.reduceBEq, Nat.reduceBNe, List.reduceReplicate, Int.reduceLE, Int.reduceLT, Int.reduceNe]
  apply hK1; clear hK1
  refine aw_seq_k fun K2 hK2 => aw_region okG0 ?_; simp only [push_cast, Nat.reduceLT, Nat.reduceLeDiff, Nat.reduceEqDiff, reduceIte, reduceCtorEq, Nat.reduceAdd, Nat.reduceMul, Nat.reduceMod, Nat.reduceBEq, Nat.reduceBNe, List.reduceReplicate, Int.reduceLE, Int.reduceLT, Int.reduceNe]
  apply hK2; clear hK2
  refine aw_seq_k fun K3 hK3 => ?_
  have main : ∀ S, Sub S ⟨[(0, .ptr 98 0), (3, I (nextB c at_))], [(98, [Bys c, I at_, U seed])], [98]⟩ → K3 S := by
    intro S hS
    apply hK3
    refine AW.sub hS ?_
    refine aw_seq_k fun K5 hK5 => aw_region okG0 ?_; simp only [push_cast, Nat.reduceLT, Nat.reduceLeDiff, Nat.reduceEqDiff, reduceIte, reduceCtorEq, Nat.reduceAdd, Nat.reduceMul, Nat.reduceMod, Nat.reduceBEq, Nat.reduceBNe, List.reduceReplicate, Int.reduceLE, Int.reduceLT, Int.reduceNe]
    apply hK5; clear hK5
    refine aw_seq_k fun K6 hK6 => aw_region okG0 ?_; simp only [push_cast, Nat.reduceLT, Nat.reduceLeDiff, Nat.reduceEqDiff, reduceIte, reduceCtorEq, Nat.reduceAdd, Nat.reduceMul, Nat.reduceMod, Nat.reduceBEq, Nat.reduceBNe, List.reduceReplicate, Int.reduceLE, Int.reduceLT, Int.reduceNe]
    apply hK6; clear hK6
    refine aw_seq_k fun K7 hK7 => ?_
    refine aw_seq_k fun K8 hK8 => aw_draw fol okG0 9 (by kernel_rfl) ?_; simp only [push_cast, Nat.reduceLT, Nat.reduceLeDiff, Nat.reduceEqDiff, reduceIte, reduceCtorEq, Nat.reduceAdd, Nat.reduceMul, Nat.reduceMod, Nat.reduceBEq, Nat.reduceBNe, List.reduceReplicate, Int.reduceLE, Int.reduceLT, Int.reduceNe]
    rw [w64 (n := (at_ : Int) + 1) (by omega) (by omega)]
    apply hK8; clear hK8
    refine aw_cond rfl (fun hc => ?_) (fun hc => ?_)
    · refine aw_seq_k fun K9 hK9 => aw_region okG0 ?_; simp only [push_cast, Nat.reduceLT, Nat.reduceLeDiff, Nat.reduceEqDiff, reduceIte, reduceCtorEq, Nat.reduceAdd, Nat.reduceMul, Nat.reduceMod, Nat.reduceBEq, Nat.reduceBNe, List.reduceReplicate, Int.reduceLE, Int.reduceLT, Int.reduceNe]
      apply hK9; clear hK9
      have hlt : at_ < c.length := by have : (at_ : Int) + 1 ≤ c.length := by simpa using hc
                                      omega
      refine aw_ret ?_
      simp only [push_cast, Nat.reduceLT, Nat.reduceLeDiff, Nat.reduceEqDiff, reduceIte, reduceCtorEq, Nat.reduceAdd, Nat.reduceMul, Nat.reduceMod, Nat.reduceBEq, Nat.reduceBNe, List.reduceReplicate, Int.reduceLE, Int.reduceLT, Int.reduceNe]
      refine ret_io [] [] rfl ?_ (by simp [renN]) rfl ?_ (by simp [rsEnd, getE, renV, renN]) rfl (by simp [renN]) <;> (try simp only [push_cast, reduceIte, Nat.reduceEqDiff])
      · simp [nextV, nextB, hlt]
      · rfl
    · refine aw_skip ?_
      simp only [push_cast, Nat.reduceLT, Nat.reduceLeDiff, Nat.reduceEqDiff, reduceIte, reduceCtorEq, Nat.reduceAdd, Nat.reduceMul, Nat.reduceMod, Nat.reduceBEq, Nat.reduceBNe, List.reduceReplicate, Int.reduceLE, Int.reduceLT, Int.reduceNe]
      apply hK7; clear hK7
      refine aw_seq_k fun K10 hK10 => aw_region okG0 ?_; simp only [push_cast, Nat.reduceLT, Nat.reduceLeDiff, Nat.reduceEqDiff, reduceIte, reduceCtorEq, Nat.reduceAdd, Nat.reduceMul, Nat.reduceMod, Nat.reduceBEq, Nat.reduceBNe, List.reduceReplicate, Int.reduceLE, Int.reduceLT, Int.reduceNe]
      apply hK10; clear hK10
      have hlt : ¬ at_ < c.length := by have : ¬ (at_ : Int) + 1 ≤ c.length := by simpa using hc
                                        omega
      refine aw_ret ?_
      simp only [push_cast, Nat.reduceLT, Nat.reduceLeDiff, Nat.reduceEqDiff, reduceIte, reduceCtorEq, Nat.reduceAdd, Nat.reduceMul, Nat.reduceMod, Nat.reduceBEq, Nat.reduceBNe, List.reduceReplicate, Int.reduceLE, Int.reduceLT, Int.reduceNe]
      refine ret_io [] [] rfl ?_ (by simp [renN]) rfl ?_ (by simp [rsEnd, getE, renV, renN]) rfl (by simp [renN]) <;> (try simp only [push_cast, reduceIte, Nat.reduceEqDiff])
      · simp only [nextV, hlt, if_false]; rfl
      · rfl
  refine aw_seq_k fun K8 hK8 => aw_draw fol okG0 9 (by kernel_rfl) ?_; simp only [push_cast, Nat.reduceLT, Nat.reduceLeDiff, Nat.reduceEqDiff, reduceIte, reduceCtorEq, Nat.reduceAdd, Nat.reduceMul, Nat.reduceMod, Nat.reduceBEq, Nat.reduceBNe, List.reduceReplicate, Int.reduceLE, Int.reduceLT, Int.reduceNe]
  apply hK8; clear hK8
  refine aw_cond rfl (fun hc => ?_) (fun hc => ?_)
  · have hlt : at_ < c.length := by simpa using hc
    have hb := byte_at hcb at_
    refine aw_draw fol okG0 8 (by kernel_rfl) ?_
    simp only [push_cast, Nat.reduceLT, Nat.reduceLeDiff, Nat.reduceEqDiff, reduceIte, reduceCtorEq, Nat.reduceAdd, Nat.reduceMul, Nat.reduceMod, Nat.reduceBEq, Nat.reduceBNe, List.reduceReplicate, Int.reduceLE, Int.reduceLT, Int.reduceNe]
    refine ⟨⟨by omega, by omega⟩, ?_⟩
    rw [w64 (by omega) (by omega)]
    refine main _ ?_
    rw [show c.getD at_ 0 = nextB c at_ by simp only [nextB, hlt, if_true]]
    exact sub_to (by simp [allE, getE] <;> rfl) (by simp [allB, getB] <;> rfl) rfl rfl rfl
  · have hlt : ¬ at_ < c.length := by simpa using hc
    refine aw_skip ?_
    simp only [push_cast, Nat.reduceLT, Nat.reduceLeDiff, Nat.reduceEqDiff, reduceIte, reduceCtorEq, Nat.reduceAdd, Nat.reduceMul, Nat.reduceMod, Nat.reduceBEq, Nat.reduceBNe, List.reduceReplicate, Int.reduceLE, Int.reduceLT, Int.reduceNe]
    refine main _ ?_
    rw [show nextB c at_ = 0 by simp only [nextB, hlt, if_false]]
    exact sub_to (by simp [allE, getE] <;> rfl) (by simp [allB, getB] <;> rfl) rfl rfl rfl
end Go.Proofs.Avx

set_option linter.unusedVariables false
set_option linter.unusedSimpArgs false
namespace Go.Proofs.Avx
theorem pick_spec (c : List Int) (at_ : Nat) (seed : Int) (n : Int) (hcb : isBytes c) (hl : c.length ≤ 1048576) (ha : at_ ≤ 2097152) (h1 : 1 < n) (h2 : n ≤ 200) :
    AF Try.prog 129 [.ptr 98 0, I n] [98] [(98, [Bys c, I at_, U seed])] (I ((nextV c at_ seed).tmod n)) [(98, [Bys c, I ((at_ + 1 : Nat) : Int), U (nextS c at_ seed)])] [] := by
  refine AF_body okG0 Try.func129 rfl rfl (by simp [Try.ntmps129]) (by simp) ?_; simp only [Try.ntmps129]
  refine aw_seq_k fun K1 hK1 => aw_region okG0 ?_; simp only [push_cast, Nat.reduceLT, Nat.reduceLeDiff, Nat.reduceEqDiff, reduceIte, reduceCtorEq, Nat.reduceAdd, Nat.reduceMul, Nat.reduceMod, Nat.reduceBEq, Nat.reduceBNe, List.reduceReplicate, Int.reduceLE, Int.reduceLT, Int.reduceNe]
  apply hK1; clear hK1
  refine aw_seq_k fun K2 hK2 => ?_
  refine aw_seq_k fun K3 hK3 => aw_region okG0 ?_; simp only [push_cast, Nat.reduceLT, Nat.reduceLeDiff, Nat.reduceEqDiff, reduceIte, reduceCtorEq, Nat.reduceAdd, Nat.reduceMul, Nat.reduceMod, Nat.reduceBEq, Nat.reduceBNe, List.reduceReplicate, Int.reduceLE, Int.reduceLT, Int.reduceNe]
  apply hK3; clear hK3
  refine aw_cond rfl (fun hc => ?_) (fun hc => ?_)
  · have : n ≤ 1 := by simpa using hc
    omega
  · refine aw_skip ?_
    simp only [push_cast, Nat.reduceLT, Nat.reduceLeDiff, Nat.reduceEqDiff, reduceIte, reduceCtorEq, Nat.reduceAdd, Nat.reduceMul, Nat.reduceMod, Nat.reduceBEq, Nat.reduceBNe, List.reduceReplicate, Int.reduceLE, Int.reduceLT, Int.reduceNe]
    apply hK2; clear hK2
    refine aw_seq_k fun K4 hK4 => aw_region okG0 ?_; simp only [push_cast, Nat.reduceLT, Nat.reduceLeDiff, Nat.reduceEqDiff, reduceIte, reduceCtorEq, Nat.reduceAdd, Nat.reduceMul, Nat.reduceMod, Nat.reduceBEq, Nat.reduceBNe, List.reduceReplicate, Int.reduceLE, Int.reduceLT, Int.reduceNe]
    refine call_io false [(98, 98)] (next_spec c at_ seed hcb hl ha) rfl (fits_of rfl) (by decide) (by decide) rfl (by simp [ioOK, getB, back, borVs, borV, kee, inSnd, fitsVs, fitsV]) rfl (by simp [newIds, idsV, idsVs, inSnd, dstN]) (by rfl) (by rfl) rfl (.inl rfl) ?_; simp only [push_cast, Nat.reduceLT, Nat.reduceLeDiff, Nat.reduceEqDiff, reduceIte, reduceCtorEq, Nat.reduceAdd, Nat.reduceMul, Nat.reduceMod, Nat.reduceBEq, Nat.reduceBNe, List.reduceReplicate, Int.reduceLE, Int.reduceLT, Int.reduceNe]
    apply hK4; clear hK4
    refine aw_seq_k fun K5 hK5 => ?_
    refine aw_seq_k fun K6 hK6 => aw_region okG0 ?_; simp only [push_cast, Nat.reduceLT, Nat.reduceLeDiff, Nat.reduceEqDiff, reduceIte, reduceCtorEq, Nat.reduceAdd, Nat.reduceMul, Nat.reduceMod, Nat.reduceBEq, Nat.reduceBNe, List.reduceReplicate, Int.reduceLE, Int.reduceLT, Int.reduceNe]
    apply hK6; clear hK6
    refine aw_cond rfl (fun hc => ?_) (fun hc => ?_)
    · have : 200 < n := by simpa using hc
      omega
    · refine aw_skip ?_
      simp only [push_cast, Nat.reduceLT, Nat.reduceLeDiff, Nat.reduceEqDiff, reduceIte, reduceCtorEq, Nat.reduceAdd, Nat.reduceMul, Nat.reduceMod, Nat.reduceBEq, Nat.reduceBNe, List.reduceReplicate, Int.reduceLE, Int.reduceLT, Int.reduceNe]
      apply hK5; clear hK5
      refine aw_seq_k fun K7 hK7 => aw_region okG0 ?_; simp only [push_cast, Nat.reduceLT, Nat.reduceLeDiff, Nat.reduceEqDiff, reduceIte, reduceCtorEq, Nat.reduceAdd, Nat.reduceMul, Nat.reduceMod, Nat.reduceBEq, Nat.reduceBNe, List.reduceReplicate, Int.reduceLE, Int.reduceLT, Int.reduceNe]
      have hn : n ≠ 0 := by omega
      refine ⟨hn, ?_⟩
      apply hK7; clear hK7
      refine aw_ret ?_
      simp only [push_cast, Nat.reduceLT, Nat.reduceLeDiff, Nat.reduceEqDiff, reduceIte, reduceCtorEq, Nat.reduceAdd, Nat.reduceMul, Nat.reduceMod, Nat.reduceBEq, Nat.reduceBNe, List.reduceReplicate, Int.reduceLE, Int.reduceLT, Int.reduceNe]
      refine ret_io [] [] rfl ?_ (by simp [renN]) rfl ?_ (by simp [rsEnd, getE, renV, renN]) rfl (by simp [renN]) <;> (try simp only [push_cast, reduceIte, Nat.reduceEqDiff])
      all_goals rfl
def seedN (c : List Int) : Nat → Int
  | 0 => 0
  | k + 1 => nextS c k (seedN c k)
def drawn (c : List Int) (k : Nat) : Int := (nextV c k (seedN c k)).tmod 2
def draws (c : List Int) (n : Nat) : List Int := (List.range n).map (drawn c)
theorem draws_succ (c : List Int) (n : Nat) : draws c (n + 1) = draws c n ++ [drawn c n] := by simp [draws, List.range_succ]
theorem draws_len (c : List Int) (n : Nat) : (draws c n).length = n := by simp [draws]
theorem drawn_range {c : List Int} (hc : isBytes c) (k : Nat) : 0 ≤ drawn c k ∧ drawn c k ≤ 1 := by
  have := nextV_range hc k (seedN c k)
  unfold drawn
  rw [Int.tmod_eq_emod_of_nonneg this.1]
  omega
theorem B10Ring_spec (c : List Int) (n : Nat) (hcb : isBytes c) (hl : c.length ≤ 1048576) (hn : n ≤ 1000) :
    AFp Try.prog 30 [Bys c, I 2, I n] (.own 0 2 (.int .i64) (draws c n)) := by
  refine AF_body okG0 Try.func30 rfl rfl (by simp [Try.ntmps30]) (by simp) ?_; simp only [Try.ntmps30]
  refine aw_seq_k fun K1 hK1 => aw_region okG0 ?_; simp only [push_cast, Nat.reduceLT, Nat.reduceLeDiff, Nat.reduceEqDiff, reduceIte, reduceCtorEq, Nat.reduceAdd, Nat.reduceMul, Nat.reduceMod, Nat.reduceBEq, Nat.reduceBNe, List.reduceReplicate, Int.reduceLE, Int.reduceLT, Int.reduceNe]
  apply hK1; clear hK1
  refine aw_seq_k fun K2 hK2 => aw_region okG0 ?_; simp only [push_cast, Nat.reduceLT, Nat.reduceLeDiff, Nat.reduceEqDiff, reduceIte, reduceCtorEq, Nat.reduceAdd, Nat.reduceMul, Nat.reduceMod, Nat.reduceBEq, Nat.reduceBNe, List.reduceReplicate, Int.reduceLE, Int.reduceLT, Int.reduceNe]
  refine call_io false [] (l00From_spec c) rfl (fits_of rfl) (by decide) (by decide) rfl (by simp [ioOK, getB, back, borVs, borV, kee, inSnd, fitsVs, fitsV]) rfl (by simp [newIds, idsV, idsVs, inSnd, dstN]) (by rfl) (by rfl) rfl (.inl rfl) ?_; simp only [push_cast, Nat.reduceLT, Nat.reduceLeDiff, Nat.reduceEqDiff, reduceIte, reduceCtorEq, Nat.reduceAdd, Nat.reduceMul, Nat.reduceMod, Nat.reduceBEq, Nat.reduceBNe, List.reduceReplicate, Int.reduceLE, Int.reduceLT, Int.reduceNe]
  apply hK2; clear hK2
  refine aw_seq_k fun K3 hK3 => aw_region okG0 ?_; simp only [push_cast, Nat.reduceLT, Nat.reduceLeDiff, Nat.reduceEqDiff, reduceIte, reduceCtorEq, Nat.reduceAdd, Nat.reduceMul, Nat.reduceMod, Nat.reduceBEq, Nat.reduceBNe, List.reduceReplicate, Int.reduceLE, Int.reduceLT, Int.reduceNe]
  apply hK3; clear hK3
  refine aw_seq_k fun K4 hK4 => ?_
  refine aw_block ?_
  refine aw_loop (fun k : {k : Nat // k ≤ n} => ⟨[(1, I 2), (2, I ((n - k.1 : Nat) : Int)), (7, .ptr 1000 0), (8, .own 2100 2 (.int .i64) (draws c k.1))], [(1000, [Bys c, I k.1, U (seedN c k.1)])], [2100, 1000]⟩) (fun k => n - k.1) ⟨0, Nat.zero_le _⟩ ?_ ?_
  · show Sub _ ⟨[(1, I 2), (2, I n), (7, .ptr 1000 0), (8, .own 2100 2 (.int .i64) [])], [(1000, [Bys c, I 0, U 0])], [2100, 1000]⟩
    exact sub_ren_to [(1100, 2100)] (by simp [renN]) rfl (by simp [allE, getE, renE, renV, renVs, renN]) (by simp [allB, getB, renB, renVs, renV, renN]) rfl rfl rfl
  rintro ⟨k, hk⟩
  refine aw_seq_k fun K5 hK5 => ?_
  refine aw_seq_k fun K6 hK6 => aw_region okG0 ?_; simp only [push_cast, Nat.reduceLT, Nat.reduceLeDiff, Nat.reduceEqDiff, reduceIte, reduceCtorEq, Nat.reduceAdd, Nat.reduceMul, Nat.reduceMod, Nat.reduceBEq, Nat.reduceBNe, List.reduceReplicate, Int.reduceLE, Int.reduceLT, Int.reduceNe]
  apply hK6; clear hK6
  refine aw_cond rfl (fun hc => ?_) (fun hc => ?_)
  · refine aw_skip ?_
    simp only [push_cast, Nat.reduceLT, Nat.reduceLeDiff, Nat.reduceEqDiff, reduceIte, reduceCtorEq, Nat.reduceAdd, Nat.reduceMul, Nat.reduceMod, Nat.reduceBEq, Nat.reduceBNe, List.reduceReplicate, Int.reduceLE, Int.reduceLT, Int.reduceNe]
    apply hK5; clear hK5
    have hlt : k < n := by have : (0 : Int) < ((n - k : Nat) : Int) := by simpa using hc
                           omega
    refine aw_seq_k fun K7 hK7 => ?_
    refine aw_block ?_
    refine aw_region okG0 ?_
    simp only [push_cast, Nat.reduceLT, Nat.reduceLeDiff, Nat.reduceEqDiff, reduceIte, reduceCtorEq, Nat.reduceAdd, Nat.reduceMul, Nat.reduceMod, Nat.reduceBEq, Nat.reduceBNe, List.reduceReplicate, Int.reduceLE, Int.reduceLT, Int.reduceNe]
    refine call_io false [(1000, 98)] (pick_spec c k (seedN c k) 2 hcb hl (by omega) (by omega) (by omega)) rfl (fits_of rfl) (by decide) (by decide) rfl (by simp [ioOK, getB, back, borVs, borV, kee, inSnd, fitsVs, fitsV]) rfl (by simp [newIds, idsV, idsVs, inSnd, dstN]) (by rfl) (by rfl) rfl (.inl rfl) ?_; simp only [push_cast, Nat.reduceLT, Nat.reduceLeDiff, Nat.reduceEqDiff, reduceIte, reduceCtorEq, Nat.reduceAdd, Nat.reduceMul, Nat.reduceMod, Nat.reduceBEq, Nat.reduceBNe, List.reduceReplicate, Int.reduceLE, Int.reduceLT, Int.reduceNe]
    rw [draws_len]
    refine ⟨by omega, by omega, ?_⟩
    apply hK7; clear hK7
    refine aw_region okG0 ?_
    simp only [push_cast, Nat.reduceLT, Nat.reduceLeDiff, Nat.reduceEqDiff, reduceIte, reduceCtorEq, Nat.reduceAdd, Nat.reduceMul, Nat.reduceMod, Nat.reduceBEq, Nat.reduceBNe, List.reduceReplicate, Int.reduceLE, Int.reduceLT, Int.reduceNe]
    refine ⟨⟨k + 1, by omega⟩, ?_, by show n - (k + 1) < n - k; omega⟩
    rw [w64 (n := ((n - k : Nat) : Int) - 1) (by omega) (by omega), show ((n - k : Nat) : Int) - 1 = ((n - (k + 1) : Nat) : Int) by omega]
    rw [show draws c k ++ [(nextV c k (seedN c k)).tmod 2] = draws c (k + 1) from (draws_succ c k).symm]
    exact sub_to (by simp [allE, getE] <;> rfl) (by simp [allB, getB] <;> rfl) rfl rfl rfl
  · refine aw_exit ?_
    simp only [push_cast, Nat.reduceLT, Nat.reduceLeDiff, Nat.reduceEqDiff, reduceIte, reduceCtorEq, Nat.reduceAdd, Nat.reduceMul, Nat.reduceMod, Nat.reduceBEq, Nat.reduceBNe, List.reduceReplicate, Int.reduceLE, Int.reduceLT, Int.reduceNe]
    apply hK4; clear hK4
    refine aw_seq_k fun K8 hK8 => aw_region okG0 ?_; simp only [push_cast, Nat.reduceLT, Nat.reduceLeDiff, Nat.reduceEqDiff, reduceIte, reduceCtorEq, Nat.reduceAdd, Nat.reduceMul, Nat.reduceMod, Nat.reduceBEq, Nat.reduceBNe, List.reduceReplicate, Int.reduceLE, Int.reduceLT, Int.reduceNe]
    apply hK8; clear hK8
    have hlt : k = n := by have : ¬ (0 : Int) < ((n - k : Nat) : Int) := by simpa using hc
                           omega
    subst hlt
    exact aw_ret (ret_o [(2100, 0)] rfl rfl (by simp [renN]) rfl)
end Go.Proofs.Avx

set_option linter.unusedVariables false
set_option linter.unusedSimpArgs false
namespace Go.Proofs.Avx
theorem p2 (r : Nat) (hr : r ≤ 2) : ∀ m, m ≤ 2 * r + 1 → 0 ≤ (2 : Int) ^ m ∧ (2 : Int) ^ m ≤ 4611686018427387904 := fun m hm => by
  have : m = 0 ∨ m = 1 ∨ m = 2 ∨ m = 3 ∨ m = 4 ∨ m = 5 := by omega
  rcases this with rfl | rfl | rfl | rfl | rfl | rfl <;> decide
def N2 (r : Nat) : Nat := 2 ^ (2 * r + 1)
theorem N2_le (r : Nat) (hr : r ≤ 2) : 2 ≤ N2 r ∧ N2 r ≤ 32 := by
  have : r = 0 ∨ r = 1 ∨ r = 2 := by omega
  rcases this with rfl | rfl | rfl <;> decide
theorem N2_cast (r : Nat) : (2 : Int) ^ (2 * r + 1) = ((N2 r : Nat) : Int) := by simp [N2]
def dt0 (c : List Int) (r : Nat) : St := ⟨[(0, .ptr 98 0), (1, I r), (4, .ptr 499 0), (5, .ptr 599 0), (6, I (N2 r : Nat))], [(599, [I 2, I r, .nilsl]), (499, [I 0, I 0, .nilsl]), (98, [Bys c, I 0, U 0])], [599, 499, 98]⟩
def dt1 (c : List Int) (r k : Nat) : St := ⟨[(0, .ptr 98 0), (1, I r), (4, .ptr 499 0), (5, .ptr 599 0), (6, I ((N2 r - (k + 1) : Nat) : Int))], [(599, [I 2, I r, .own 2200 2 (.int .i64) (draws c (k + 1))]), (499, [I 0, I 0, .nilsl]), (98, [Bys c, I ((k + 1 : Nat) : Int), U (seedN c (k + 1))])], [2200, 599, 499, 98]⟩
def dtS (c : List Int) (r : Nat) : Nat → St
  | 0 => dt0 c r
  | k + 1 => dt1 c r k
theorem l07DrawTwo_spec (c : List Int) (r : Nat) (hr : r ≤ 2) (hcb : isBytes c) (hl : c.length ≤ 1048576) :
    AF Try.prog 128 [.ptr 98 0, I r] [98] [(98, [Bys c, I 0, U 0])] (.agg [I 2, I r, .own 0 2 (.int .i64) (draws c (N2 r))]) [(98, [Bys c, I (N2 r : Nat), U (seedN c (N2 r))])] [] := by
  have hN := N2_le r hr
  refine AF_body okG0 Try.func128 rfl rfl (by simp [Try.ntmps128]) (by simp) ?_; simp only [Try.ntmps128]
  refine aw_seq_k fun K1 hK1 => aw_region okG0 ?_; simp only [push_cast, Nat.reduceLT, Nat.reduceLeDiff, Nat.reduceEqDiff, reduceIte, reduceCtorEq, Nat.reduceAdd, Nat.reduceMul, Nat.reduceMod, Nat.reduceBEq, Nat.reduceBNe, List.reduceReplicate, Int.reduceLE, Int.reduceLT, Int.reduceNe]
  apply hK1; clear hK1
  refine aw_seq_k fun K2 hK2 => aw_region okG0 ?_; simp only [push_cast, Nat.reduceLT, Nat.reduceLeDiff, Nat.reduceEqDiff, reduceIte, reduceCtorEq, Nat.reduceAdd, Nat.reduceMul, Nat.reduceMod, Nat.reduceBEq, Nat.reduceBNe, List.reduceReplicate, Int.reduceLE, Int.reduceLT, Int.reduceNe]
  apply hK2; clear hK2
  refine aw_seq_k fun K3 hK3 => ?_
  refine aw_seq_k fun K4 hK4 => aw_region okG0 ?_; simp only [push_cast, Nat.reduceLT, Nat.reduceLeDiff, Nat.reduceEqDiff, reduceIte, reduceCtorEq, Nat.reduceAdd, Nat.reduceMul, Nat.reduceMod, Nat.reduceBEq, Nat.reduceBNe, List.reduceReplicate, Int.reduceLE, Int.reduceLT, Int.reduceNe]
  rw [w64 (n := 2 * (r : Int)) (by omega) (by omega), w64 (n := 2 * (r : Int) + 1) (by omega) (by omega), show 2 * (r : Int) + 1 = ((2 * r + 1 : Nat) : Int) by omega]
  refine call_pure (l03Power_spec 2 (2 * r + 1) (by omega) (p2 r hr)) (fits_of rfl) (by decide) rfl (by simp [idsV, idsVs]) ?_; simp only [push_cast, Nat.reduceLT, Nat.reduceLeDiff, Nat.reduceEqDiff, reduceIte, reduceCtorEq, Nat.reduceAdd, Nat.reduceMul, Nat.reduceMod, Nat.reduceBEq, Nat.reduceBNe, List.reduceReplicate, Int.reduceLE, Int.reduceLT, Int.reduceNe]
  apply hK4; clear hK4
  refine aw_block ?_
  refine aw_loop (fun k : {k : Nat // k ≤ N2 r} => dtS c r k.1) (fun k => N2 r - k.1) ⟨0, Nat.zero_le _⟩ ?_ ?_
  · show Sub _ (dtS c r 0)
    rw [N2_cast]
    show Sub _ (dt0 c r)
    unfold dt0
    exact sub_to (by simp [allE, getE] <;> rfl) (by simp [allB, getB] <;> rfl) rfl rfl rfl
  rintro ⟨k, hk⟩
  refine aw_seq_k fun K5 hK5 => ?_
  rcases k with _ | k
  · show AW Try.prog 25 _ (dt0 c r) _
    unfold dt0
    refine aw_seq_k fun K6 hK6 => aw_region okG0 ?_; simp only [push_cast, Nat.reduceLT, Nat.reduceLeDiff, Nat.reduceEqDiff, reduceIte, reduceCtorEq, Nat.reduceAdd, Nat.reduceMul, Nat.reduceMod, Nat.reduceBEq, Nat.reduceBNe, List.reduceReplicate, Int.reduceLE, Int.reduceLT, Int.reduceNe]
    apply hK6; clear hK6
    refine aw_cond rfl (fun hc => ?_) (fun hc => ?_)
    · refine aw_skip ?_
      simp only [push_cast, Nat.reduceLT, Nat.reduceLeDiff, Nat.reduceEqDiff, reduceIte, reduceCtorEq, Nat.reduceAdd, Nat.reduceMul, Nat.reduceMod, Nat.reduceBEq, Nat.reduceBNe, List.reduceReplicate, Int.reduceLE, Int.reduceLT, Int.reduceNe]
      apply hK5; clear hK5
      refine aw_seq_k fun K7 hK7 => ?_
      have main : ∀ S, Sub S (⟨[(0, .ptr 98 0), (1, I r), (4, .ptr 499 0), (5, .ptr 599 0), (6, I ((N2 r - 0 : Nat) : Int))], [(599, [I 2, I r, .own 2200 2 (.int .i64) (draws c (0 + 1))]), (499, [I 0, I 0, .nilsl]), (98, [Bys c, I ((0 + 1 : Nat) : Int), U (seedN c (0 + 1))])], [2200, 599, 499, 98]⟩) → K7 S := by
        intro S hS
        apply hK7
        refine AW.sub hS ?_
        refine aw_region okG0 ?_
        simp only [push_cast, Nat.reduceLT, Nat.reduceLeDiff, Nat.reduceEqDiff, reduceIte, reduceCtorEq, Nat.reduceAdd, Nat.reduceMul, Nat.reduceMod, Nat.reduceBEq, Nat.reduceBNe, List.reduceReplicate, Int.reduceLE, Int.reduceLT, Int.reduceNe]
        have hlt : 0 < N2 r := by have h0 : (0 : Int) < ((N2 r - 0 : Nat) : Int) := (by simpa using hc); omega
        refine ⟨⟨0 + 1, by omega⟩, ?_, by show N2 r - (0 + 1) < N2 r - 0; omega⟩
        rw [w64 (n := ((N2 r - 0 : Nat) : Int) - 1) (by omega) (by omega), show ((N2 r - 0 : Nat) : Int) - 1 = ((N2 r - (0 + 1) : Nat) : Int) by omega]
        show Sub _ (dt1 c r 0)
        unfold dt1
        exact sub_to (by simp [allE, getE] <;> rfl) (by simp [allB, getB] <;> rfl) rfl rfl rfl
      refine aw_block ?_
      refine aw_orders fol okG0 (.br 0 (.br 1 (.br 2 (.br 3 (.br 4 (.br 5 (.br 6 (.br 7 .fin .stop) .stop) .stop) .stop) .stop) .stop) (.br 2 (.br 1 (.br 3 (.br 4 (.br 5 (.br 6 (.br 7 .fin .stop) .stop) .stop) .stop) .stop) (.br 3 (.br 1 (.br 4 (.br 5 (.br 6 (.br 7 .fin .stop) .stop) .stop) .stop) (.br 4 (.br 1 (.br 5 (.br 6 (.br 7 .fin .stop) .stop) .stop) .stop) .stop)) .stop)) .stop)) (.br 2 (.br 0 (.br 1 (.br 3 (.br 4 (.br 5 (.br 6 (.br 7 .fin .stop) .stop) .stop) .stop) .stop) (.br 3 (.br 1 (.br 4 (.br 5 (.br 6 (.br 7 .fin .stop) .stop) .stop) .stop) (.br 4 (.br 1 (.br 5 (.br 6 (.br 7 .fin .stop) .stop) .stop) .stop) .stop)) .stop)) (.br 3 (.br 0 (.br 1 (.br 4 (.br 5 (.br 6 (.br 7 .fin .stop) .stop) .stop) .stop) (.br 4 (.br 1 (.br 5 (.br 6 (.br 7 .fin .stop) .stop) .stop) .stop) .stop)) (.br 4 (.br 0 (.br 1 (.br 5 (.br 6 (.br 7 .fin .stop) .stop) .stop) .stop) .stop) .stop)) .stop)) .stop)) (by kernel_rfl) ?_
      simp only [push_cast, Nat.reduceLT, Nat.reduceLeDiff, Nat.reduceEqDiff, reduceIte, reduceCtorEq, Nat.reduceAdd, Nat.reduceMul, Nat.reduceMod, Nat.reduceBEq, Nat.reduceBNe, List.reduceReplicate, Int.reduceLE, Int.reduceLT, Int.reduceNe]
      have h1 : draws c (0 + 1) = [(nextV c 0 0).tmod 2] := rfl
      have h2 : seedN c (0 + 1) = nextS c 0 0 := rfl
      rw [h1, h2] at main
      repeat' (first
        | exact trivial
        | (refine ⟨?_, ?_⟩)
        | refine call_io false [(98, 98)] (pick_spec c 0 0 2 hcb hl (by omega) (by omega) (by omega)) rfl (fits_of rfl) (by decide) (by decide) rfl (by simp [ioOK, getB, back, borVs, borV, kee, inSnd, fitsVs, fitsV]) rfl (by simp [newIds, idsV, idsVs, inSnd, dstN]) (by rfl) (by rfl) rfl (.inl rfl) ?_; simp only [push_cast, Nat.reduceLT, Nat.reduceLeDiff, Nat.reduceEqDiff, reduceIte, reduceCtorEq, Nat.reduceAdd, Nat.reduceMul, Nat.reduceMod, Nat.reduceBEq, Nat.reduceBNe, List.reduceReplicate, Int.reduceLE, Int.reduceLT, Int.reduceNe]
        | (rw [draws_len]; omega)
        | (refine main _ ?_; exact sub_to (by simp [allE, getE] <;> rfl) (by simp [allB, getB] <;> rfl) rfl rfl rfl))
    · have : ¬ (0 : Int) < (N2 r : Int) := by simpa using hc
      omega
  · show AW Try.prog 25 _ (dt1 c r k) _
    unfold dt1
    refine aw_seq_k fun K6 hK6 => aw_region okG0 ?_; simp only [push_cast, Nat.reduceLT, Nat.reduceLeDiff, Nat.reduceEqDiff, reduceIte, reduceCtorEq, Nat.reduceAdd, Nat.reduceMul, Nat.reduceMod, Nat.reduceBEq, Nat.reduceBNe, List.reduceReplicate, Int.reduceLE, Int.reduceLT, Int.reduceNe]
    apply hK6; clear hK6
    refine aw_cond rfl (fun hc => ?_) (fun hc => ?_)
    · refine aw_skip ?_
      simp only [push_cast, Nat.reduceLT, Nat.reduceLeDiff, Nat.reduceEqDiff, reduceIte, reduceCtorEq, Nat.reduceAdd, Nat.reduceMul, Nat.reduceMod, Nat.reduceBEq, Nat.reduceBNe, List.reduceReplicate, Int.reduceLE, Int.reduceLT, Int.reduceNe]
      apply hK5; clear hK5
      refine aw_seq_k fun K7 hK7 => ?_
      have main : ∀ S, Sub S (⟨[(0, .ptr 98 0), (1, I r), (4, .ptr 499 0), (5, .ptr 599 0), (6, I ((N2 r - (k + 1) : Nat) : Int))], [(599, [I 2, I r, .own 2200 2 (.int .i64) (draws c ((k + 1) + 1))]), (499, [I 0, I 0, .nilsl]), (98, [Bys c, I (((k + 1) + 1 : Nat) : Int), U (seedN c ((k + 1) + 1))])], [2200, 599, 499, 98]⟩) → K7 S := by
        intro S hS
        apply hK7
        refine AW.sub hS ?_
        refine aw_region okG0 ?_
        simp only [push_cast, Nat.reduceLT, Nat.reduceLeDiff, Nat.reduceEqDiff, reduceIte, reduceCtorEq, Nat.reduceAdd, Nat.reduceMul, Nat.reduceMod, Nat.reduceBEq, Nat.reduceBNe, List.reduceReplicate, Int.reduceLE, Int.reduceLT, Int.reduceNe]
        have hlt : (k + 1) < N2 r := by have h0 : (0 : Int) < ((N2 r - (k + 1) : Nat) : Int) := (by simpa using hc); omega
        refine ⟨⟨(k + 1) + 1, by omega⟩, ?_, by show N2 r - ((k + 1) + 1) < N2 r - (k + 1); omega⟩
        rw [w64 (n := ((N2 r - (k + 1) : Nat) : Int) - 1) (by omega) (by omega), show ((N2 r - (k + 1) : Nat) : Int) - 1 = ((N2 r - ((k + 1) + 1) : Nat) : Int) by omega]
        show Sub _ (dt1 c r (k + 1))
        unfold dt1
        exact sub_to (by simp [allE, getE] <;> rfl) (by simp [allB, getB] <;> rfl) rfl rfl rfl
      refine aw_block ?_
      refine aw_orders fol okG0 (.br 0 (.br 1 (.br 2 (.br 3 (.br 4 (.br 5 (.br 6 (.br 7 .fin .stop) .stop) .stop) .stop) .stop) .stop) (.br 2 (.br 1 (.br 3 (.br 4 (.br 5 (.br 6 (.br 7 .fin .stop) .stop) .stop) .stop) .stop) (.br 3 (.br 1 (.br 4 (.br 5 (.br 6 (.br 7 .fin .stop) .stop) .stop) .stop) (.br 4 (.br 1 (.br 5 (.br 6 (.br 7 .fin .stop) .stop) .stop) .stop) .stop)) .stop)) .stop)) (.br 2 (.br 0 (.br 1 (.br 3 (.br 4 (.br 5 (.br 6 (.br 7 .fin .stop) .stop) .stop) .stop) .stop) (.br 3 (.br 1 (.br 4 (.br 5 (.br 6 (.br 7 .fin .stop) .stop) .stop) .stop) (.br 4 (.br 1 (.br 5 (.br 6 (.br 7 .fin .stop) .stop) .stop) .stop) .stop)) .stop)) (.br 3 (.br 0 (.br 1 (.br 4 (.br 5 (.br 6 (.br 7 .fin .stop) .stop) .stop) .stop) (.br 4 (.br 1 (.br 5 (.br 6 (.br 7 .fin .stop) .stop) .stop) .stop) .stop)) (.br 4 (.br 0 (.br 1 (.br 5 (.br 6 (.br 7 .fin .stop) .stop) .stop) .stop) .stop) .stop)) .stop)) .stop)) (by kernel_rfl) ?_
      simp only [push_cast, Nat.reduceLT, Nat.reduceLeDiff, Nat.reduceEqDiff, reduceIte, reduceCtorEq, Nat.reduceAdd, Nat.reduceMul, Nat.reduceMod, Nat.reduceBEq, Nat.reduceBNe, List.reduceReplicate, Int.reduceLE, Int.reduceLT, Int.reduceNe]
      have h1 : draws c (k + 1 + 1) = draws c (k + 1) ++ [(nextV c (k + 1) (seedN c (k + 1))).tmod 2] := draws_succ c (k + 1)
      have h2 : seedN c (k + 1 + 1) = nextS c (k + 1) (seedN c (k + 1)) := rfl
      rw [h1, h2] at main
      repeat' (first
        | exact trivial
        | (refine ⟨?_, ?_⟩)
        | refine call_io false [(98, 98)] (pick_spec c (k + 1) (seedN c (k + 1)) 2 hcb hl (by omega) (by omega) (by omega)) rfl (fits_of rfl) (by decide) (by decide) rfl (by simp [ioOK, getB, back, borVs, borV, kee, inSnd, fitsVs, fitsV]) rfl (by simp [newIds, idsV, idsVs, inSnd, dstN]) (by rfl) (by rfl) rfl (.inl rfl) ?_; simp only [push_cast, Nat.reduceLT, Nat.reduceLeDiff, Nat.reduceEqDiff, reduceIte, reduceCtorEq, Nat.reduceAdd, Nat.reduceMul, Nat.reduceMod, Nat.reduceBEq, Nat.reduceBNe, List.reduceReplicate, Int.reduceLE, Int.reduceLT, Int.reduceNe]
        | (rw [draws_len]; omega)
        | (refine main _ ?_; exact sub_to (by simp [allE, getE] <;> rfl) (by simp [allB, getB] <;> rfl) rfl rfl rfl))
    · refine aw_exit ?_
      simp only [push_cast, Nat.reduceLT, Nat.reduceLeDiff, Nat.reduceEqDiff, reduceIte, reduceCtorEq, Nat.reduceAdd, Nat.reduceMul, Nat.reduceMod, Nat.reduceBEq, Nat.reduceBNe, List.reduceReplicate, Int.reduceLE, Int.reduceLT, Int.reduceNe]
      have hkN : k + 1 = N2 r := by have h0 : ¬ (0 : Int) < ((N2 r - (k + 1) : Nat) : Int) := (by simpa using hc); omega
      apply hK3; clear hK3
      refine aw_seq_k fun K8 hK8 => aw_region okG0 ?_; simp only [push_cast, Nat.reduceLT, Nat.reduceLeDiff, Nat.reduceEqDiff, reduceIte, reduceCtorEq, Nat.reduceAdd, Nat.reduceMul, Nat.reduceMod, Nat.reduceBEq, Nat.reduceBNe, List.reduceReplicate, Int.reduceLE, Int.reduceLT, Int.reduceNe]
      apply hK8; clear hK8
      refine aw_ret ?_
      simp only [push_cast, Nat.reduceLT, Nat.reduceLeDiff, Nat.reduceEqDiff, reduceIte, reduceCtorEq, Nat.reduceAdd, Nat.reduceMul, Nat.reduceMod, Nat.reduceBEq, Nat.reduceBNe, List.reduceReplicate, Int.reduceLE, Int.reduceLT, Int.reduceNe]
      refine ret_io [(2200, 0)] [] rfl ?_ (by simp [renN]) rfl ?_ (by simp [rsEnd, getE, renV, renN]) rfl (by simp [renN]) <;> (try simp only [push_cast, reduceIte, Nat.reduceEqDiff])
      · rw [hkN]
      · rw [hkN, show ((k : Int) + 1) = (N2 r : Int) by omega]
theorem B10Rule_spec (c : List Int) (r : Nat) (hr : r ≤ 2) (hcb : isBytes c) (hl : c.length ≤ 1048576) :
    AFp Try.prog 29 [Bys c, I r] (.agg [I 2, I r, .own 0 2 (.int .i64) (draws c (N2 r))]) := by
  refine AF_body okG0 Try.func29 rfl rfl (by simp [Try.ntmps29]) (by simp) ?_; simp only [Try.ntmps29]
  refine aw_seq_k fun K1 hK1 => aw_region okG0 ?_; simp only [push_cast, Nat.reduceLT, Nat.reduceLeDiff, Nat.reduceEqDiff, reduceIte, reduceCtorEq, Nat.reduceAdd, Nat.reduceMul, Nat.reduceMod, Nat.reduceBEq, Nat.reduceBNe, List.reduceReplicate, Int.reduceLE, Int.reduceLT, Int.reduceNe]
  apply hK1; clear hK1
  refine aw_seq_k fun K2 hK2 => aw_region okG0 ?_; simp only [push_cast, Nat.reduceLT, Nat.reduceLeDiff, Nat.reduceEqDiff, reduceIte, reduceCtorEq, Nat.reduceAdd, Nat.reduceMul, Nat.reduceMod, Nat.reduceBEq, Nat.reduceBNe, List.reduceReplicate, Int.reduceLE, Int.reduceLT, Int.reduceNe]
  refine call_io false [] (l00From_spec c) rfl (fits_of rfl) (by decide) (by decide) rfl (by simp [ioOK, getB, back, borVs, borV, kee, inSnd, fitsVs, fitsV]) rfl (by simp [newIds, idsV, idsVs, inSnd, dstN]) (by rfl) (by rfl) rfl (.inl rfl) ?_; simp only [push_cast, Nat.reduceLT, Nat.reduceLeDiff, Nat.reduceEqDiff, reduceIte, reduceCtorEq, Nat.reduceAdd, Nat.reduceMul, Nat.reduceMod, Nat.reduceBEq, Nat.reduceBNe, List.reduceReplicate, Int.reduceLE, Int.reduceLT, Int.reduceNe]
  apply hK2; clear hK2
  refine aw_seq_k fun K3 hK3 => aw_region okG0 ?_; simp only [push_cast, Nat.reduceLT, Nat.reduceLeDiff, Nat.reduceEqDiff, reduceIte, reduceCtorEq, Nat.reduceAdd, Nat.reduceMul, Nat.reduceMod, Nat.reduceBEq, Nat.reduceBNe, List.reduceReplicate, Int.reduceLE, Int.reduceLT, Int.reduceNe]
  refine call_io false [(700, 98)] (l07DrawTwo_spec c r hr hcb hl) rfl (fits_of rfl) (by decide) (by decide) rfl (by simp [ioOK, getB, back, borVs, borV, kee, inSnd, fitsVs, fitsV]) rfl (by simp [newIds, idsV, idsVs, inSnd, dstN]) (by rfl) (by rfl) rfl (.inl rfl) ?_; simp only [push_cast, Nat.reduceLT, Nat.reduceLeDiff, Nat.reduceEqDiff, reduceIte, reduceCtorEq, Nat.reduceAdd, Nat.reduceMul, Nat.reduceMod, Nat.reduceBEq, Nat.reduceBNe, List.reduceReplicate, Int.reduceLE, Int.reduceLT, Int.reduceNe]
  apply hK3; clear hK3
  refine aw_ret ?_
  simp only [push_cast, Nat.reduceLT, Nat.reduceLeDiff, Nat.reduceEqDiff, reduceIte, reduceCtorEq, Nat.reduceAdd, Nat.reduceMul, Nat.reduceMod, Nat.reduceBEq, Nat.reduceBNe, List.reduceReplicate, Int.reduceLE, Int.reduceLT, Int.reduceNe]
  exact ret_o [(1000, 0)] rfl rfl (by simp [renN]) rfl
end Go.Proofs.Avx

set_option linter.unusedVariables false
set_option linter.unusedSimpArgs false
namespace Go.Proofs.Avx
def longB (c m : List Int) : Bool := decide (1048576 < (c.length : Int)) || decide (1048576 < (m.length : Int))
theorem b10Long_spec (c m : List Int) : AFp Try.prog 27 [Bys c, Bys m] (Bo (longB c m)) := by
  refine AF_body okG0 Try.func27 rfl rfl (by simp [Try.ntmps27]) (by simp) ?_; simp only [Try.ntmps27]
  refine aw_seq_k fun K1 hK1 => aw_region okG0 ?_; simp only [push_cast, Nat.reduceLT, Nat.reduceLeDiff, Nat.reduceEqDiff, reduceIte, reduceCtorEq, Nat.reduceAdd, Nat.reduceMul, Nat.reduceMod, Nat.reduceBEq, Nat.reduceBNe, List.reduceReplicate, Int.reduceLE, Int.reduceLT, Int.reduceNe]
  apply hK1; clear hK1
  refine aw_seq_k fun K2 hK2 => aw_region okG0 ?_; simp only [push_cast, Nat.reduceLT, Nat.reduceLeDiff, Nat.reduceEqDiff, reduceIte, reduceCtorEq, Nat.reduceAdd, Nat.reduceMul, Nat.reduceMod, Nat.reduceBEq, Nat.reduceBNe, List.reduceReplicate, Int.reduceLE, Int.reduceLT, Int.reduceNe]
  apply hK2; clear hK2
  exact aw_ret (ret_p rfl rfl rfl (by simp))
def b10 (c : List Int) (i : Nat) (n : Int) : Int := if i < c.length then c.getD i 0 % n else (37 * i + 11) % n
theorem b10_range {c : List Int} {i : Nat} {n : Int} (hn : 0 < n) : 0 ≤ b10 c i n ∧ b10 c i n < n := by
  unfold b10
  split
  · exact ⟨Int.emod_nonneg _ (by omega), Int.emod_lt_of_pos _ hn⟩
  · exact ⟨Int.emod_nonneg _ (by omega), Int.emod_lt_of_pos _ hn⟩
theorem b10At_spec (c : List Int) (i : Nat) (n : Int) (hc : isBytes c) (hi : i ≤ 1000) (hn : 1 < n) (hn2 : n ≤ 1000) : AFp Try.prog 28 [Bys c, I i, I n] (I (b10 c i n)) := by
  refine AF_body okG0 Try.func28 rfl rfl (by simp [Try.ntmps28]) (by simp) ?_; simp only [Try.ntmps28]
  refine aw_seq_k fun K1 hK1 => aw_region okG0 ?_; simp only [push_cast, Nat.reduceLT, Nat.reduceLeDiff, Nat.reduceEqDiff, reduceIte, reduceCtorEq, Nat.reduceAdd, Nat.reduceMul, Nat.reduceMod, Nat.reduceBEq, Nat.reduceBNe, List.reduceReplicate, Int.reduceLE, Int.reduceLT, Int.reduceNe]
  apply hK1; clear hK1
  refine aw_seq_k fun K2 hK2 => ?_
  refine aw_seq_k fun K3 hK3 => aw_region okG0 ?_; simp only [push_cast, Nat.reduceLT, Nat.reduceLeDiff, Nat.reduceEqDiff, reduceIte, reduceCtorEq, Nat.reduceAdd, Nat.reduceMul, Nat.reduceMod, Nat.reduceBEq, Nat.reduceBNe, List.reduceReplicate, Int.reduceLE, Int.reduceLT, Int.reduceNe]
  apply hK3; clear hK3
  refine aw_cond rfl (fun hc => ?_) (fun hc => ?_)
  · have : n ≤ 1 := by simpa using hc
    omega
  · refine aw_skip ?_
    simp only [push_cast, Nat.reduceLT, Nat.reduceLeDiff, Nat.reduceEqDiff, reduceIte, reduceCtorEq, Nat.reduceAdd, Nat.reduceMul, Nat.reduceMod, Nat.reduceBEq, Nat.reduceBNe, List.reduceReplicate, Int.reduceLE, Int.reduceLT, Int.reduceNe]
    apply hK2; clear hK2
    refine aw_seq_k fun K5 hK5 => ?_
    refine aw_seq_k fun K6 hK6 => aw_region okG0 ?_; simp only [push_cast, Nat.reduceLT, Nat.reduceLeDiff, Nat.reduceEqDiff, reduceIte, reduceCtorEq, Nat.reduceAdd, Nat.reduceMul, Nat.reduceMod, Nat.reduceBEq, Nat.reduceBNe, List.reduceReplicate, Int.reduceLE, Int.reduceLT, Int.reduceNe]
    apply hK6; clear hK6
    have hn0 : n ≠ 0 := by omega
    refine aw_cond rfl (fun hc => ?_) (fun hc => ?_)
    · have hlt : i < c.length := by simpa using hc
      have hb := byte_at ‹isBytes c› i
      refine aw_seq_k fun K7 hK7 => aw_region okG0 ?_; simp only [push_cast, Nat.reduceLT, Nat.reduceLeDiff, Nat.reduceEqDiff, reduceIte, reduceCtorEq, Nat.reduceAdd, Nat.reduceMul, Nat.reduceMod, Nat.reduceBEq, Nat.reduceBNe, List.reduceReplicate, Int.reduceLE, Int.reduceLT, Int.reduceNe]
      refine ⟨⟨by omega, by omega⟩, hn0, ?_⟩
      rw [w64 (by omega) (by omega)]
      apply hK7; clear hK7
      refine aw_ret (ret_p rfl ?_ rfl (by simp))
      simp only [push_cast, b10, hlt]
      rw [Int.tmod_eq_emod_of_nonneg hb.1]
    · have hlt : ¬ i < c.length := by simpa using hc
      refine aw_skip ?_
      simp only [push_cast, Nat.reduceLT, Nat.reduceLeDiff, Nat.reduceEqDiff, reduceIte, reduceCtorEq, Nat.reduceAdd, Nat.reduceMul, Nat.reduceMod, Nat.reduceBEq, Nat.reduceBNe, List.reduceReplicate, Int.reduceLE, Int.reduceLT, Int.reduceNe]
      apply hK5; clear hK5
      refine aw_seq_k fun K8 hK8 => aw_region okG0 ?_; simp only [push_cast, Nat.reduceLT, Nat.reduceLeDiff, Nat.reduceEqDiff, reduceIte, reduceCtorEq, Nat.reduceAdd, Nat.reduceMul, Nat.reduceMod, Nat.reduceBEq, Nat.reduceBNe, List.reduceReplicate, Int.reduceLE, Int.reduceLT, Int.reduceNe]
      refine ⟨hn0, ?_⟩
      rw [w64 (n := (i : Int) * 37) (by omega) (by omega), w64 (n := (i : Int) * 37 + 11) (by omega) (by omega)]
      apply hK8; clear hK8
      refine aw_ret (ret_p rfl ?_ rfl (by simp))
      simp only [push_cast, b10, hlt]
      rw [Int.tmod_eq_emod_of_nonneg (by omega), Int.mul_comm]
theorem b10Ints_eq (a : List Int) (hl : a.length ≤ 4611686018427387904) : AFp Try.prog 36 [Is a, Is a] (Bo true) := by
  refine AF_body okG0 Try.func36 rfl rfl (by simp [Try.ntmps36]) (by simp) ?_; simp only [Try.ntmps36]
  refine aw_seq_k fun K1 hK1 => aw_region okG0 ?_; simp only [push_cast, Nat.reduceLT, Nat.reduceLeDiff, Nat.reduceEqDiff, reduceIte, reduceCtorEq, Nat.reduceAdd, Nat.reduceMul, Nat.reduceMod, Nat.reduceBEq, Nat.reduceBNe, List.reduceReplicate, Int.reduceLE, Int.reduceLT, Int.reduceNe]
  apply hK1; clear hK1
  refine aw_seq_k fun K2 hK2 => ?_
  refine aw_seq_k fun K3 hK3 => aw_region okG0 ?_; simp only [push_cast, Nat.reduceLT, Nat.reduceLeDiff, Nat.reduceEqDiff, reduceIte, reduceCtorEq, Nat.reduceAdd, Nat.reduceMul, Nat.reduceMod, Nat.reduceBEq, Nat.reduceBNe, List.reduceReplicate, Int.reduceLE, Int.reduceLT, Int.reduceNe]
  apply hK3; clear hK3
  refine aw_cond rfl (fun hc => ?_) (fun hc => ?_)
  · simp at hc
  · refine aw_skip ?_
    simp only [push_cast, Nat.reduceLT, Nat.reduceLeDiff, Nat.reduceEqDiff, reduceIte, reduceCtorEq, Nat.reduceAdd, Nat.reduceMul, Nat.reduceMod, Nat.reduceBEq, Nat.reduceBNe, List.reduceReplicate, Int.reduceLE, Int.reduceLT, Int.reduceNe]
    apply hK2; clear hK2
    refine aw_seq_k fun K5 hK5 => ?_
    refine aw_seq_k fun K6 hK6 => aw_region okG0 ?_; simp only [push_cast, Nat.reduceLT, Nat.reduceLeDiff, Nat.reduceEqDiff, reduceIte, reduceCtorEq, Nat.reduceAdd, Nat.reduceMul, Nat.reduceMod, Nat.reduceBEq, Nat.reduceBNe, List.reduceReplicate, Int.reduceLE, Int.reduceLT, Int.reduceNe]
    apply hK6; clear hK6
    refine aw_block ?_
    refine aw_loop (fun k : {k : Nat // k ≤ a.length} => ⟨[(0, Is a), (1, Is a), (12, I a.length), (13, I k.1)], [], []⟩) (fun k => a.length - k.1) ⟨0, Nat.zero_le _⟩ (sub_to (by simp [allE, getE] <;> rfl) (by simp [allB, getB] <;> rfl) rfl rfl rfl) ?_
    rintro ⟨k, hk⟩
    refine aw_seq_k fun K7 hK7 => aw_region okG0 ?_; simp only [push_cast, Nat.reduceLT, Nat.reduceLeDiff, Nat.reduceEqDiff, reduceIte, reduceCtorEq, Nat.reduceAdd, Nat.reduceMul, Nat.reduceMod, Nat.reduceBEq, Nat.reduceBNe, List.reduceReplicate, Int.reduceLE, Int.reduceLT, Int.reduceNe]
    apply hK7; clear hK7
    refine aw_seq_k fun K8 hK8 => ?_
    refine aw_cond rfl (fun hc => ?_) (fun hc => ?_)
    · have hlt : k < a.length := by simpa using hc
      refine aw_skip ?_
      simp only [push_cast, Nat.reduceLT, Nat.reduceLeDiff, Nat.reduceEqDiff, reduceIte, reduceCtorEq, Nat.reduceAdd, Nat.reduceMul, Nat.reduceMod, Nat.reduceBEq, Nat.reduceBNe, List.reduceReplicate, Int.reduceLE, Int.reduceLT, Int.reduceNe]
      apply hK8; clear hK8
      refine aw_seq_k fun K9 hK9 => ?_
      refine aw_block ?_
      refine aw_seq_k fun K10 hK10 => aw_region okG0 ?_; simp only [push_cast, Nat.reduceLT, Nat.reduceLeDiff, Nat.reduceEqDiff, reduceIte, reduceCtorEq, Nat.reduceAdd, Nat.reduceMul, Nat.reduceMod, Nat.reduceBEq, Nat.reduceBNe, List.reduceReplicate, Int.reduceLE, Int.reduceLT, Int.reduceNe]
      apply hK10; clear hK10
      refine aw_seq_k fun K11 hK11 => aw_draw fol okG0 9 (by kernel_rfl) ?_; simp only [push_cast, Nat.reduceLT, Nat.reduceLeDiff, Nat.reduceEqDiff, reduceIte, reduceCtorEq, Nat.reduceAdd, Nat.reduceMul, Nat.reduceMod, Nat.reduceBEq, Nat.reduceBNe, List.reduceReplicate, Int.reduceLE, Int.reduceLT, Int.reduceNe]
      refine ⟨⟨by omega, by omega⟩, ⟨by omega, by omega⟩, ?_⟩
      apply hK11; clear hK11
      refine aw_cond rfl (fun hc => ?_) (fun hc => ?_)
      · simp at hc
      · refine aw_skip ?_
        simp only [push_cast, Nat.reduceLT, Nat.reduceLeDiff, Nat.reduceEqDiff, reduceIte, reduceCtorEq, Nat.reduceAdd, Nat.reduceMul, Nat.reduceMod, Nat.reduceBEq, Nat.reduceBNe, List.reduceReplicate, Int.reduceLE, Int.reduceLT, Int.reduceNe]
        apply hK9; clear hK9
        refine aw_region okG0 ?_
        simp only [push_cast, Nat.reduceLT, Nat.reduceLeDiff, Nat.reduceEqDiff, reduceIte, reduceCtorEq, Nat.reduceAdd, Nat.reduceMul, Nat.reduceMod, Nat.reduceBEq, Nat.reduceBNe, List.reduceReplicate, Int.reduceLE, Int.reduceLT, Int.reduceNe]
        refine ⟨⟨k + 1, by omega⟩, ?_, by show a.length - (k + 1) < a.length - k; omega⟩
        rw [w64 (n := (k : Int) + 1) (by omega) (by omega)]
        exact sub_to (by simp [allE, getE] <;> rfl) (by simp [allB, getB] <;> rfl) rfl rfl rfl
    · refine aw_exit ?_
      simp only [push_cast, Nat.reduceLT, Nat.reduceLeDiff, Nat.reduceEqDiff, reduceIte, reduceCtorEq, Nat.reduceAdd, Nat.reduceMul, Nat.reduceMod, Nat.reduceBEq, Nat.reduceBNe, List.reduceReplicate, Int.reduceLE, Int.reduceLT, Int.reduceNe]
      apply hK5; clear hK5
      refine aw_seq_k fun K12 hK12 => aw_region okG0 ?_; simp only [push_cast, Nat.reduceLT, Nat.reduceLeDiff, Nat.reduceEqDiff, reduceIte, reduceCtorEq, Nat.reduceAdd, Nat.reduceMul, Nat.reduceMod, Nat.reduceBEq, Nat.reduceBNe, List.reduceReplicate, Int.reduceLE, Int.reduceLT, Int.reduceNe]
      apply hK12; clear hK12
      exact aw_ret (ret_p rfl rfl rfl (by simp))
/-- A table of a rule of two states. -/
def tabOK (r : Nat) (t : List Int) : Prop := r ≤ 2 ∧ t.length = N2 r ∧ ∀ x ∈ t, 0 ≤ x ∧ x ≤ 1
theorem all01 {t : List Int} (h : ∀ x ∈ t, 0 ≤ x ∧ x ≤ 1) : t.all (inB · 0 1) = true := by
  rw [List.all_eq_true]; intro x hx
  have := h x hx
  simp [inB, this.1, this.2]
theorem ValidRule_spec (r : Nat) (t : List Int) (h : tabOK r t) : AFp Try.prog 73 [.agg [I 2, I r, Is t]] (Bo true) := by
  obtain ⟨hr, hl, ht⟩ := h
  have hN := N2_le r hr
  refine AF_body okG0 Try.func73 rfl rfl (by simp [Try.ntmps73]) (by simp) ?_; simp only [Try.ntmps73]
  refine aw_seq_k fun K1 hK1 => aw_region okG0 ?_; simp only [push_cast, Nat.reduceLT, Nat.reduceLeDiff, Nat.reduceEqDiff, reduceIte, reduceCtorEq, Nat.reduceAdd, Nat.reduceMul, Nat.reduceMod, Nat.reduceBEq, Nat.reduceBNe, List.reduceReplicate, Int.reduceLE, Int.reduceLT, Int.reduceNe]
  apply hK1; clear hK1
  refine aw_seq_k fun K2 hK2 => ?_
  refine aw_seq_k fun K3 hK3 => aw_region okG0 ?_; simp only [push_cast, Nat.reduceLT, Nat.reduceLeDiff, Nat.reduceEqDiff, reduceIte, reduceCtorEq, Nat.reduceAdd, Nat.reduceMul, Nat.reduceMod, Nat.reduceBEq, Nat.reduceBNe, List.reduceReplicate, Int.reduceLE, Int.reduceLT, Int.reduceNe]
  refine call_pure (areStates_spec _) (fits_of rfl) (by decide) rfl (by simp [idsV, idsVs]) ?_; simp only [push_cast, Nat.reduceLT, Nat.reduceLeDiff, Nat.reduceEqDiff, reduceIte, reduceCtorEq, Nat.reduceAdd, Nat.reduceMul, Nat.reduceMod, Nat.reduceBEq, Nat.reduceBNe, List.reduceReplicate, Int.reduceLE, Int.reduceLT, Int.reduceNe]
  refine gcall_pure (fun _ => isReach_spec _) (fun _ => fits_of rfl) (by decide) rfl rfl ?_; simp only [push_cast, Nat.reduceLT, Nat.reduceLeDiff, Nat.reduceEqDiff, reduceIte, reduceCtorEq, Nat.reduceAdd, Nat.reduceMul, Nat.reduceMod, Nat.reduceBEq, Nat.reduceBNe, List.reduceReplicate, Int.reduceLE, Int.reduceLT, Int.reduceNe]
  apply hK3; clear hK3
  refine aw_cond rfl (fun hc => ?_) (fun hc => ?_)
  · have h1 : inB (r : Int) 0 2 = true := by simp [inB]; omega
    simp [isSt, h1] at hc
  · refine aw_skip ?_
    simp only [push_cast, Nat.reduceLT, Nat.reduceLeDiff, Nat.reduceEqDiff, reduceIte, reduceCtorEq, Nat.reduceAdd, Nat.reduceMul, Nat.reduceMod, Nat.reduceBEq, Nat.reduceBNe, List.reduceReplicate, Int.reduceLE, Int.reduceLT, Int.reduceNe]
    apply hK2; clear hK2
    refine aw_seq_k fun K5 hK5 => aw_draw fol okG0 6 (by kernel_rfl) ?_; simp only [push_cast, Nat.reduceLT, Nat.reduceLeDiff, Nat.reduceEqDiff, reduceIte, reduceCtorEq, Nat.reduceAdd, Nat.reduceMul, Nat.reduceMod, Nat.reduceBEq, Nat.reduceBNe, List.reduceReplicate, Int.reduceLE, Int.reduceLT, Int.reduceNe]
    refine ⟨_, _, cells_spec 2 r t (by omega) (by omega), .inl ⟨fits_of rfl, rfl⟩, ?_⟩; simp only [push_cast, Nat.reduceLT, Nat.reduceLeDiff, Nat.reduceEqDiff, reduceIte, reduceCtorEq, Nat.reduceAdd, Nat.reduceMul, Nat.reduceMod, Nat.reduceBEq, Nat.reduceBNe, List.reduceReplicate, Int.reduceLE, Int.reduceLT, Int.reduceNe]
    rw [show 2 * (r : Int) + 1 = ((2 * r + 1 : Nat) : Int) by omega]
    refine ⟨_, _, raised_spec 2 (2 * r + 1) (by omega) (p2 r hr), .inl ⟨fits_of rfl, rfl⟩, ?_⟩; simp only [push_cast, Nat.reduceLT, Nat.reduceLeDiff, Nat.reduceEqDiff, reduceIte, reduceCtorEq, Nat.reduceAdd, Nat.reduceMul, Nat.reduceMod, Nat.reduceBEq, Nat.reduceBNe, List.reduceReplicate, Int.reduceLE, Int.reduceLT, Int.reduceNe]
    apply hK5; clear hK5
    refine aw_seq_k fun K6 hK6 => aw_region okG0 ?_; simp only [push_cast, Nat.reduceLT, Nat.reduceLeDiff, Nat.reduceEqDiff, reduceIte, reduceCtorEq, Nat.reduceAdd, Nat.reduceMul, Nat.reduceMod, Nat.reduceBEq, Nat.reduceBNe, List.reduceReplicate, Int.reduceLE, Int.reduceLT, Int.reduceNe]
    refine call_pure (areMany_spec t _ _ 0 1 (by omega)) (fits_of rfl) (by decide) rfl (by simp [idsV, idsVs]) ?_; simp only [push_cast, Nat.reduceLT, Nat.reduceLeDiff, Nat.reduceEqDiff, reduceIte, reduceCtorEq, Nat.reduceAdd, Nat.reduceMul, Nat.reduceMod, Nat.reduceBEq, Nat.reduceBNe, List.reduceReplicate, Int.reduceLE, Int.reduceLT, Int.reduceNe]
    apply hK6; clear hK6
    refine aw_ret (ret_p rfl ?_ rfl (by simp))
    show Bo (many t _ _ 0 1) = Bo true
    rw [many, all01 ht, N2_cast, inB, hl]
    simp
end Go.Proofs.Avx

set_option linter.unusedVariables false
set_option linter.unusedSimpArgs false
namespace Go.Proofs.Avx
/-- A rule behind a pointer. -/
abbrev Pr (r : Nat) (t : List Int) : AV := .rptr [I 2, I r, Is t]
theorem l02Is_spec (r : Nat) (t : List Int) (h : tabOK r t) : AFp Try.prog 251 [Pr r t] (Bo true) := by
  obtain ⟨hr, hl, ht⟩ := h
  have hN := N2_le r hr
  refine AF_body okG0 Try.func251 rfl rfl (by simp [Try.ntmps251]) (by simp) ?_; simp only [Try.ntmps251]
  refine aw_seq_k fun K1 hK1 => aw_region okG0 ?_; simp only [push_cast, Nat.reduceLT, Nat.reduceLeDiff, Nat.reduceEqDiff, reduceIte, reduceCtorEq, Nat.reduceAdd, Nat.reduceMul, Nat.reduceMod, Nat.reduceBEq, Nat.reduceBNe, List.reduceReplicate, Int.reduceLE, Int.reduceLT, Int.reduceNe]
  apply hK1; clear hK1
  refine aw_seq_k fun K2 hK2 => ?_
  refine aw_seq_k fun K3 hK3 => aw_draw fol okG0 33 (by kernel_rfl) ?_; simp only [push_cast, Nat.reduceLT, Nat.reduceLeDiff, Nat.reduceEqDiff, reduceIte, reduceCtorEq, Nat.reduceAdd, Nat.reduceMul, Nat.reduceMod, Nat.reduceBEq, Nat.reduceBNe, List.reduceReplicate, Int.reduceLE, Int.reduceLT, Int.reduceNe]
  refine ⟨_, _, l00In_spec _ _ _, .inl ⟨fits_of rfl, rfl⟩, ?_⟩; simp only [push_cast, Nat.reduceLT, Nat.reduceLeDiff, Nat.reduceEqDiff, reduceIte, reduceCtorEq, Nat.reduceAdd, Nat.reduceMul, Nat.reduceMod, Nat.reduceBEq, Nat.reduceBNe, List.reduceReplicate, Int.reduceLE, Int.reduceLT, Int.reduceNe]
  refine ⟨_, _, fun _ => l00In_spec _ _ _, fun _ => fits_of rfl, rfl, rfl, ?_⟩; simp only [push_cast, Nat.reduceLT, Nat.reduceLeDiff, Nat.reduceEqDiff, reduceIte, reduceCtorEq, Nat.reduceAdd, Nat.reduceMul, Nat.reduceMod, Nat.reduceBEq, Nat.reduceBNe, List.reduceReplicate, Int.reduceLE, Int.reduceLT, Int.reduceNe]
  rw [w64 (n := 2 * (r : Int)) (by omega) (by omega), w64 (n := 2 * (r : Int) + 1) (by omega) (by omega), show 2 * (r : Int) + 1 = ((2 * r + 1 : Nat) : Int) by omega]
  refine ⟨_, _, fun _ => l02Powers_spec 2 (2 * r + 1) (by omega) (p2 r hr), fun _ => fits_of rfl, rfl, rfl, ?_⟩; simp only [push_cast, Nat.reduceLT, Nat.reduceLeDiff, Nat.reduceEqDiff, reduceIte, reduceCtorEq, Nat.reduceAdd, Nat.reduceMul, Nat.reduceMod, Nat.reduceBEq, Nat.reduceBNe, List.reduceReplicate, Int.reduceLE, Int.reduceLT, Int.reduceNe]
  apply hK3; clear hK3
  refine aw_cond rfl (fun hc => ?_) (fun hc => ?_)
  · have h1 : inB (r : Int) 0 2 = true := by simp [inB]; omega
    rw [N2_cast, hl] at hc
    simp [inB] at hc
    omega
  · refine aw_skip ?_
    simp only [push_cast, Nat.reduceLT, Nat.reduceLeDiff, Nat.reduceEqDiff, reduceIte, reduceCtorEq, Nat.reduceAdd, Nat.reduceMul, Nat.reduceMod, Nat.reduceBEq, Nat.reduceBNe, List.reduceReplicate, Int.reduceLE, Int.reduceLT, Int.reduceNe]
    apply hK2; clear hK2
    refine aw_seq_k fun K5 hK5 => ?_
    refine aw_seq_k fun K4 hK4 => aw_region okG0 ?_; simp only [push_cast, Nat.reduceLT, Nat.reduceLeDiff, Nat.reduceEqDiff, reduceIte, reduceCtorEq, Nat.reduceAdd, Nat.reduceMul, Nat.reduceMod, Nat.reduceBEq, Nat.reduceBNe, List.reduceReplicate, Int.reduceLE, Int.reduceLT, Int.reduceNe]
    apply hK4; clear hK4
    refine aw_block ?_
    refine aw_loop (fun k : {k : Nat // k ≤ t.length} => ⟨[(0, Pr r t), (3, I k.1)], [], []⟩) (fun k => t.length - k.1) ⟨0, Nat.zero_le _⟩ (sub_to (by simp [allE, getE] <;> rfl) (by simp [allB, getB] <;> rfl) rfl rfl rfl) ?_
    rintro ⟨k, hk⟩
    refine aw_seq_k fun K6 hK6 => ?_
    refine aw_seq_k fun K7 hK7 => aw_region okG0 ?_; simp only [push_cast, Nat.reduceLT, Nat.reduceLeDiff, Nat.reduceEqDiff, reduceIte, reduceCtorEq, Nat.reduceAdd, Nat.reduceMul, Nat.reduceMod, Nat.reduceBEq, Nat.reduceBNe, List.reduceReplicate, Int.reduceLE, Int.reduceLT, Int.reduceNe]
    apply hK7; clear hK7
    refine aw_cond rfl (fun hc => ?_) (fun hc => ?_)
    · have hlt : k < t.length := by simpa using hc
      have h01 := ht (t.getD k 0) (by rw [List.getD_eq_getElem?_getD, List.getElem?_eq_getElem hlt]; exact List.getElem_mem hlt)
      refine aw_skip ?_
      simp only [push_cast, Nat.reduceLT, Nat.reduceLeDiff, Nat.reduceEqDiff, reduceIte, reduceCtorEq, Nat.reduceAdd, Nat.reduceMul, Nat.reduceMod, Nat.reduceBEq, Nat.reduceBNe, List.reduceReplicate, Int.reduceLE, Int.reduceLT, Int.reduceNe]
      apply hK6; clear hK6
      refine aw_seq_k fun K8 hK8 => ?_
      refine aw_block ?_
      refine aw_seq_k fun K9 hK9 => aw_draw fol okG0 14 (by kernel_rfl) ?_; simp only [push_cast, Nat.reduceLT, Nat.reduceLeDiff, Nat.reduceEqDiff, reduceIte, reduceCtorEq, Nat.reduceAdd, Nat.reduceMul, Nat.reduceMod, Nat.reduceBEq, Nat.reduceBNe, List.reduceReplicate, Int.reduceLE, Int.reduceLT, Int.reduceNe]
      refine ⟨⟨by omega, by omega⟩, ?_⟩
      rw [w64 (n := 2 - 1) (by omega) (by omega)]
      refine ⟨_, _, l00In_spec _ _ _, .inl ⟨fits_of rfl, rfl⟩, ?_⟩; simp only [push_cast, Nat.reduceLT, Nat.reduceLeDiff, Nat.reduceEqDiff, reduceIte, reduceCtorEq, Nat.reduceAdd, Nat.reduceMul, Nat.reduceMod, Nat.reduceBEq, Nat.reduceBNe, List.reduceReplicate, Int.reduceLE, Int.reduceLT, Int.reduceNe]
      apply hK9; clear hK9
      refine aw_cond rfl (fun hc => ?_) (fun hc => ?_)
      · have h2 : inB (t.getD k 0) 0 1 = true := by unfold inB; rw [decide_eq_true h01.1, decide_eq_true h01.2]; rfl
        rw [show (2 : Int) - 1 = 1 from rfl, h2] at hc
        simp at hc
      · refine aw_skip ?_
        simp only [push_cast, Nat.reduceLT, Nat.reduceLeDiff, Nat.reduceEqDiff, reduceIte, reduceCtorEq, Nat.reduceAdd, Nat.reduceMul, Nat.reduceMod, Nat.reduceBEq, Nat.reduceBNe, List.reduceReplicate, Int.reduceLE, Int.reduceLT, Int.reduceNe]
        apply hK8; clear hK8
        refine aw_region okG0 ?_
        simp only [push_cast, Nat.reduceLT, Nat.reduceLeDiff, Nat.reduceEqDiff, reduceIte, reduceCtorEq, Nat.reduceAdd, Nat.reduceMul, Nat.reduceMod, Nat.reduceBEq, Nat.reduceBNe, List.reduceReplicate, Int.reduceLE, Int.reduceLT, Int.reduceNe]
        refine ⟨⟨k + 1, by omega⟩, ?_, by show t.length - (k + 1) < t.length - k; omega⟩
        rw [w64 (n := (k : Int) + 1) (by omega) (by omega)]
        exact sub_to (by simp [allE, getE] <;> rfl) (by simp [allB, getB] <;> rfl) rfl rfl rfl
    · refine aw_exit ?_
      simp only [push_cast, Nat.reduceLT, Nat.reduceLeDiff, Nat.reduceEqDiff, reduceIte, reduceCtorEq, Nat.reduceAdd, Nat.reduceMul, Nat.reduceMod, Nat.reduceBEq, Nat.reduceBNe, List.reduceReplicate, Int.reduceLE, Int.reduceLT, Int.reduceNe]
      apply hK5; clear hK5
      refine aw_seq_k fun K10 hK10 => aw_region okG0 ?_; simp only [push_cast, Nat.reduceLT, Nat.reduceLeDiff, Nat.reduceEqDiff, reduceIte, reduceCtorEq, Nat.reduceAdd, Nat.reduceMul, Nat.reduceMod, Nat.reduceBEq, Nat.reduceBNe, List.reduceReplicate, Int.reduceLE, Int.reduceLT, Int.reduceNe]
      apply hK10; clear hK10
      exact aw_ret (ret_p rfl rfl rfl (by simp))
def ring01 (x : List Int) : Prop := 5 ≤ x.length ∧ x.length ≤ 12 ∧ ∀ y ∈ x, 0 ≤ y ∧ y ≤ 1
theorem getD01 {x : List Int} (h : ∀ y ∈ x, 0 ≤ y ∧ y ≤ 1) (k : Nat) : 0 ≤ x.getD k 0 ∧ x.getD k 0 ≤ 1 := by
  rw [List.getD_eq_getElem?_getD]
  cases hk : x[k]? with
  | none => simp
  | some y => simpa using h y (List.mem_of_getElem? hk)
theorem l02Ring_spec (x : List Int) (h : ring01 x) : AFp Try.prog 252 [Is x, I 2] (Bo true) := by
  obtain ⟨h5, h12, h01⟩ := h
  refine AF_body okG0 Try.func252 rfl rfl (by simp [Try.ntmps252]) (by simp) ?_; simp only [Try.ntmps252]
  refine aw_seq_k fun K1 hK1 => aw_region okG0 ?_; simp only [push_cast, Nat.reduceLT, Nat.reduceLeDiff, Nat.reduceEqDiff, reduceIte, reduceCtorEq, Nat.reduceAdd, Nat.reduceMul, Nat.reduceMod, Nat.reduceBEq, Nat.reduceBNe, List.reduceReplicate, Int.reduceLE, Int.reduceLT, Int.reduceNe]
  apply hK1; clear hK1
  refine aw_seq_k fun K2 hK2 => ?_
  refine aw_seq_k fun K3 hK3 => aw_region okG0 ?_; simp only [push_cast, Nat.reduceLT, Nat.reduceLeDiff, Nat.reduceEqDiff, reduceIte, reduceCtorEq, Nat.reduceAdd, Nat.reduceMul, Nat.reduceMod, Nat.reduceBEq, Nat.reduceBNe, List.reduceReplicate, Int.reduceLE, Int.reduceLT, Int.reduceNe]
  apply hK3; clear hK3
  refine aw_block ?_
  refine aw_loop (fun k : {k : Nat // k ≤ x.length} => ⟨[(0, Is x), (1, I 2), (5, I k.1)], [], []⟩) (fun k => x.length - k.1) ⟨0, Nat.zero_le _⟩ (sub_to (by simp [allE, getE] <;> rfl) (by simp [allB, getB] <;> rfl) rfl rfl rfl) ?_
  rintro ⟨k, hk⟩
  refine aw_seq_k fun K4 hK4 => ?_
  refine aw_seq_k fun K5 hK5 => aw_region okG0 ?_; simp only [push_cast, Nat.reduceLT, Nat.reduceLeDiff, Nat.reduceEqDiff, reduceIte, reduceCtorEq, Nat.reduceAdd, Nat.reduceMul, Nat.reduceMod, Nat.reduceBEq, Nat.reduceBNe, List.reduceReplicate, Int.reduceLE, Int.reduceLT, Int.reduceNe]
  apply hK5; clear hK5
  refine aw_cond rfl (fun hc => ?_) (fun hc => ?_)
  · have hlt : k < x.length := by simpa using hc
    have hx := getD01 h01 k
    refine aw_skip ?_
    simp only [push_cast, Nat.reduceLT, Nat.reduceLeDiff, Nat.reduceEqDiff, reduceIte, reduceCtorEq, Nat.reduceAdd, Nat.reduceMul, Nat.reduceMod, Nat.reduceBEq, Nat.reduceBNe, List.reduceReplicate, Int.reduceLE, Int.reduceLT, Int.reduceNe]
    apply hK4; clear hK4
    refine aw_seq_k fun K6 hK6 => ?_
    refine aw_block ?_
    refine aw_seq_k fun K7 hK7 => aw_region okG0 ?_; simp only [push_cast, Nat.reduceLT, Nat.reduceLeDiff, Nat.reduceEqDiff, reduceIte, reduceCtorEq, Nat.reduceAdd, Nat.reduceMul, Nat.reduceMod, Nat.reduceBEq, Nat.reduceBNe, List.reduceReplicate, Int.reduceLE, Int.reduceLT, Int.reduceNe]
    refine ⟨⟨by omega, by omega⟩, ?_⟩
    rw [w64 (n := 2 - 1) (by omega) (by omega)]
    refine call_pure (l00In_spec _ _ _) (fits_of rfl) (by decide) rfl (by simp [idsV, idsVs]) ?_; simp only [push_cast, Nat.reduceLT, Nat.reduceLeDiff, Nat.reduceEqDiff, reduceIte, reduceCtorEq, Nat.reduceAdd, Nat.reduceMul, Nat.reduceMod, Nat.reduceBEq, Nat.reduceBNe, List.reduceReplicate, Int.reduceLE, Int.reduceLT, Int.reduceNe]
    apply hK7; clear hK7
    refine aw_cond rfl (fun hc => ?_) (fun hc => ?_)
    · have h2 : inB (x.getD k 0) 0 1 = true := by unfold inB; rw [decide_eq_true hx.1, decide_eq_true hx.2]; rfl
      rw [show (2 : Int) - 1 = 1 from rfl, h2] at hc
      simp at hc
    · refine aw_skip ?_
      simp only [push_cast, Nat.reduceLT, Nat.reduceLeDiff, Nat.reduceEqDiff, reduceIte, reduceCtorEq, Nat.reduceAdd, Nat.reduceMul, Nat.reduceMod, Nat.reduceBEq, Nat.reduceBNe, List.reduceReplicate, Int.reduceLE, Int.reduceLT, Int.reduceNe]
      apply hK6; clear hK6
      refine aw_region okG0 ?_
      simp only [push_cast, Nat.reduceLT, Nat.reduceLeDiff, Nat.reduceEqDiff, reduceIte, reduceCtorEq, Nat.reduceAdd, Nat.reduceMul, Nat.reduceMod, Nat.reduceBEq, Nat.reduceBNe, List.reduceReplicate, Int.reduceLE, Int.reduceLT, Int.reduceNe]
      refine ⟨⟨k + 1, by omega⟩, ?_, by show x.length - (k + 1) < x.length - k; omega⟩
      rw [w64 (n := (k : Int) + 1) (by omega) (by omega)]
      exact sub_to (by simp [allE, getE] <;> rfl) (by simp [allB, getB] <;> rfl) rfl rfl rfl
  · refine aw_exit ?_
    simp only [push_cast, Nat.reduceLT, Nat.reduceLeDiff, Nat.reduceEqDiff, reduceIte, reduceCtorEq, Nat.reduceAdd, Nat.reduceMul, Nat.reduceMod, Nat.reduceBEq, Nat.reduceBNe, List.reduceReplicate, Int.reduceLE, Int.reduceLT, Int.reduceNe]
    apply hK2; clear hK2
    refine aw_seq_k fun K8 hK8 => aw_region okG0 ?_; simp only [push_cast, Nat.reduceLT, Nat.reduceLeDiff, Nat.reduceEqDiff, reduceIte, reduceCtorEq, Nat.reduceAdd, Nat.reduceMul, Nat.reduceMod, Nat.reduceBEq, Nat.reduceBNe, List.reduceReplicate, Int.reduceLE, Int.reduceLT, Int.reduceNe]
    apply hK8; clear hK8
    refine aw_ret (ret_p rfl ?_ rfl (by simp))
    simp only [push_cast]
    rw [decide_eq_true (show (1 : Int) ≤ x.length by omega), decide_eq_true (show (x.length : Int) ≤ 64 by omega)]
    rfl
theorem l02Can_spec (r : Nat) (t x : List Int) (h : tabOK r t) (hx : ring01 x) : AFp Try.prog 130 [Pr r t, Is x] (Bo true) := by
  refine AF_body okG0 Try.func130 rfl rfl (by simp [Try.ntmps130]) (by simp) ?_; simp only [Try.ntmps130]
  refine aw_seq_k fun K1 hK1 => aw_region okG0 ?_; simp only [push_cast, Nat.reduceLT, Nat.reduceLeDiff, Nat.reduceEqDiff, reduceIte, reduceCtorEq, Nat.reduceAdd, Nat.reduceMul, Nat.reduceMod, Nat.reduceBEq, Nat.reduceBNe, List.reduceReplicate, Int.reduceLE, Int.reduceLT, Int.reduceNe]
  apply hK1; clear hK1
  refine aw_seq_k fun K2 hK2 => aw_region okG0 ?_; simp only [push_cast, Nat.reduceLT, Nat.reduceLeDiff, Nat.reduceEqDiff, reduceIte, reduceCtorEq, Nat.reduceAdd, Nat.reduceMul, Nat.reduceMod, Nat.reduceBEq, Nat.reduceBNe, List.reduceReplicate, Int.reduceLE, Int.reduceLT, Int.reduceNe]
  refine call_pure (l02Is_spec r t h) (fits_of rfl) (by decide) rfl (by simp [idsV, idsVs]) ?_; simp only [push_cast, Nat.reduceLT, Nat.reduceLeDiff, Nat.reduceEqDiff, reduceIte, reduceCtorEq, Nat.reduceAdd, Nat.reduceMul, Nat.reduceMod, Nat.reduceBEq, Nat.reduceBNe, List.reduceReplicate, Int.reduceLE, Int.reduceLT, Int.reduceNe]
  refine gcall_pure (fun _ => l02Ring_spec x hx) (fun _ => fits_of rfl) (by decide) rfl rfl ?_; simp only [push_cast, Nat.reduceLT, Nat.reduceLeDiff, Nat.reduceEqDiff, reduceIte, reduceCtorEq, Nat.reduceAdd, Nat.reduceMul, Nat.reduceMod, Nat.reduceBEq, Nat.reduceBNe, List.reduceReplicate, Int.reduceLE, Int.reduceLT, Int.reduceNe]
  apply hK2; clear hK2
  exact aw_ret (ret_p rfl rfl rfl (by simp))
/-- The cells from which a cell is told, so many of them. -/
def hoodN (x : List Int) (i r : Nat) : Nat → Int
  | 0 => 0
  | m + 1 => hoodN x i r m * 2 + x.getD (((i : Int) - r + m) % (x.length : Int)).toNat 0
def hood (x : List Int) (i r : Nat) : Int := hoodN x i r (2 * r + 1)
theorem hoodN_range {x : List Int} (h : ∀ y ∈ x, 0 ≤ y ∧ y ≤ 1) (i r : Nat) : ∀ m, 0 ≤ hoodN x i r m ∧ hoodN x i r m < 2 ^ m
  | 0 => by simp [hoodN]
  | m + 1 => by
    have h1 := hoodN_range h i r m
    have h2 := getD01 h (((i : Int) - r + m) % (x.length : Int)).toNat
    simp only [hoodN]
    rw [Int.pow_succ]
    omega
theorem hood_range {x : List Int} (h : ∀ y ∈ x, 0 ≤ y ∧ y ≤ 1) (i r : Nat) : 0 ≤ hood x i r ∧ hood x i r < (N2 r : Int) := by
  have := hoodN_range h i r (2 * r + 1)
  rw [N2_cast] at this
  exact this
theorem go_mod (k : Int) (n : Nat) (hn : 0 < n) (hk : -(n : Int) ≤ k) : (k.tmod n + n).tmod n = k % n := by
  have h1 := Int.lt_tmod_of_pos k (show (0 : Int) < n by omega)
  have h2 := Int.tmod_lt_of_pos k (show (0 : Int) < n by omega)
  have e1 : k.tmod n = k - n * k.tdiv n := by have := Int.tmod_add_mul_tdiv k n; omega
  rw [Int.tmod_eq_emod_of_nonneg (by omega), Int.add_emod_right, e1, Int.sub_mul_emod_self_left]
theorem p2N (r m : Nat) (hr : r ≤ 2) (hm : m ≤ 2 * r + 1) : (2 : Int) ^ m ≤ 32 := by
  have : m = 0 ∨ m = 1 ∨ m = 2 ∨ m = 3 ∨ m = 4 ∨ m = 5 := by omega
  rcases this with rfl | rfl | rfl | rfl | rfl | rfl <;> decide
theorem l02Told_spec (r : Nat) (t x : List Int) (i : Nat) (h : tabOK r t) (hx : ring01 x) (hi : i < x.length) : AFp Try.prog 253 [Pr r t, Is x, I i] (I (t.getD (hood x i r).toNat 0)) := by
  obtain ⟨hr, hl, ht⟩ := h
  obtain ⟨h5, h12, h01⟩ := hx
  have hN := N2_le r hr
  refine AF_body okG0 Try.func253 rfl rfl (by simp [Try.ntmps253]) (by simp) ?_; simp only [Try.ntmps253]
  refine aw_seq_k fun K1 hK1 => aw_region okG0 ?_; simp only [push_cast, Nat.reduceLT, Nat.reduceLeDiff, Nat.reduceEqDiff, reduceIte, reduceCtorEq, Nat.reduceAdd, Nat.reduceMul, Nat.reduceMod, Nat.reduceBEq, Nat.reduceBNe, List.reduceReplicate, Int.reduceLE, Int.reduceLT, Int.reduceNe]
  apply hK1; clear hK1
  refine aw_seq_k fun K2 hK2 => aw_region okG0 ?_; simp only [push_cast, Nat.reduceLT, Nat.reduceLeDiff, Nat.reduceEqDiff, reduceIte, reduceCtorEq, Nat.reduceAdd, Nat.reduceMul, Nat.reduceMod, Nat.reduceBEq, Nat.reduceBNe, List.reduceReplicate, Int.reduceLE, Int.reduceLT, Int.reduceNe]
  apply hK2; clear hK2
  refine aw_seq_k fun K4 hK4 => aw_region okG0 ?_; simp only [push_cast, Nat.reduceLT, Nat.reduceLeDiff, Nat.reduceEqDiff, reduceIte, reduceCtorEq, Nat.reduceAdd, Nat.reduceMul, Nat.reduceMod, Nat.reduceBEq, Nat.reduceBNe, List.reduceReplicate, Int.reduceLE, Int.reduceLT, Int.reduceNe]
  apply hK4; clear hK4
  refine aw_seq_k fun K3 hK3 => ?_
  refine aw_seq_k fun K5 hK5 => aw_region okG0 ?_; simp only [push_cast, Nat.reduceLT, Nat.reduceLeDiff, Nat.reduceEqDiff, reduceIte, reduceCtorEq, Nat.reduceAdd, Nat.reduceMul, Nat.reduceMod, Nat.reduceBEq, Nat.reduceBNe, List.reduceReplicate, Int.reduceLE, Int.reduceLT, Int.reduceNe]
  rw [w64 (n := (i : Int) - r) (by omega) (by omega)]
  apply hK5; clear hK5
  refine aw_block ?_
  refine aw_loop (fun m : {m : Nat // m ≤ 2 * r + 1} => ⟨[(0, Pr r t), (1, Is x), (2, I i), (7, I x.length), (8, I (hoodN x i r m.1)), (9, I ((i : Int) - r + m.1))], [], []⟩) (fun m => 2 * r + 1 - m.1) ⟨0, Nat.zero_le _⟩ ?_ ?_
  · show Sub _ ⟨[(0, Pr r t), (1, Is x), (2, I i), (7, I x.length), (8, I 0), (9, I ((i : Int) - r + (0 : Nat)))], [], []⟩
    exact sub_to (by simp [allE, getE] <;> rfl) (by simp [allB, getB] <;> rfl) rfl rfl rfl
  rintro ⟨m, hm⟩
  refine aw_seq_k fun K6 hK6 => ?_
  refine aw_seq_k fun K7 hK7 => aw_region okG0 ?_; simp only [push_cast, Nat.reduceLT, Nat.reduceLeDiff, Nat.reduceEqDiff, reduceIte, reduceCtorEq, Nat.reduceAdd, Nat.reduceMul, Nat.reduceMod, Nat.reduceBEq, Nat.reduceBNe, List.reduceReplicate, Int.reduceLE, Int.reduceLT, Int.reduceNe]
  rw [w64 (n := (i : Int) + r) (by omega) (by omega)]
  apply hK7; clear hK7
  refine aw_cond rfl (fun hc => ?_) (fun hc => ?_)
  · have hlt : m < 2 * r + 1 := by have : (i : Int) - r + m ≤ i + r := (by simpa using hc); omega
    have hh := hoodN_range h01 i r m
    have hp := p2N r m hr (by omega)
    refine aw_skip ?_
    simp only [push_cast, Nat.reduceLT, Nat.reduceLeDiff, Nat.reduceEqDiff, reduceIte, reduceCtorEq, Nat.reduceAdd, Nat.reduceMul, Nat.reduceMod, Nat.reduceBEq, Nat.reduceBNe, List.reduceReplicate, Int.reduceLE, Int.reduceLT, Int.reduceNe]
    apply hK6; clear hK6
    refine aw_seq_k fun K8 hK8 => ?_
    refine aw_block ?_
    refine aw_draw fol okG0 16 (by kernel_rfl) ?_
    simp only [push_cast, Nat.reduceLT, Nat.reduceLeDiff, Nat.reduceEqDiff, reduceIte, reduceCtorEq, Nat.reduceAdd, Nat.reduceMul, Nat.reduceMod, Nat.reduceBEq, Nat.reduceBNe, List.reduceReplicate, Int.reduceLE, Int.reduceLT, Int.reduceNe]
    have hn0 : (0 : Int) < (x.length : Int) := by omega
    have hlo : -(x.length : Int) ≤ (i : Int) - r + m := by omega
    have hidx : (IntKind.i64.wrap (((i : Int) - r + m).tmod x.length + x.length)).tmod x.length = ((i : Int) - r + m) % x.length := by
      have h1 := Int.lt_tmod_of_pos ((i : Int) - r + m) hn0
      have h2 := Int.tmod_lt_of_pos ((i : Int) - r + m) hn0
      rw [w64 (by omega) (by omega)]
      exact go_mod _ _ (by omega) hlo
    rw [hidx]
    have hm0 := Int.emod_nonneg ((i : Int) - r + m) (show (x.length : Int) ≠ 0 by omega)
    have hm1 := Int.emod_lt_of_pos ((i : Int) - r + m) hn0
    have hx01 := getD01 h01 (((i : Int) - r + m) % (x.length : Int)).toNat
    refine ⟨by omega, by omega, ⟨hm0, hm1⟩, ?_⟩
    rw [w64 (n := hoodN x i r m * 2) (by omega) (by omega), w64 (n := hoodN x i r m * 2 + _) (by omega) (by omega)]
    rw [show hoodN x i r m * 2 + x.getD (((i : Int) - r + m) % (x.length : Int)).toNat 0 = hoodN x i r (m + 1) from rfl]
    apply hK8; clear hK8
    refine aw_region okG0 ?_
    simp only [push_cast, Nat.reduceLT, Nat.reduceLeDiff, Nat.reduceEqDiff, reduceIte, reduceCtorEq, Nat.reduceAdd, Nat.reduceMul, Nat.reduceMod, Nat.reduceBEq, Nat.reduceBNe, List.reduceReplicate, Int.reduceLE, Int.reduceLT, Int.reduceNe]
    refine ⟨⟨m + 1, by omega⟩, ?_, by show 2 * r + 1 - (m + 1) < 2 * r + 1 - m; omega⟩
    rw [w64 (n := (i : Int) - r + m + 1) (by omega) (by omega), show (i : Int) - r + m + 1 = (i : Int) - r + ((m + 1 : Nat) : Int) by omega]
    exact sub_to (by simp [allE, getE] <;> rfl) (by simp [allB, getB] <;> rfl) rfl rfl rfl
  · have hlt : m = 2 * r + 1 := by have : ¬ (i : Int) - r + m ≤ i + r := (by simpa using hc); omega
    subst hlt
    have hr' := hood_range h01 i r
    refine aw_exit ?_
    simp only [push_cast, Nat.reduceLT, Nat.reduceLeDiff, Nat.reduceEqDiff, reduceIte, reduceCtorEq, Nat.reduceAdd, Nat.reduceMul, Nat.reduceMod, Nat.reduceBEq, Nat.reduceBNe, List.reduceReplicate, Int.reduceLE, Int.reduceLT, Int.reduceNe]
    apply hK3; clear hK3
    refine aw_seq_k fun K9 hK9 => aw_region okG0 ?_; simp only [push_cast, Nat.reduceLT, Nat.reduceLeDiff, Nat.reduceEqDiff, reduceIte, reduceCtorEq, Nat.reduceAdd, Nat.reduceMul, Nat.reduceMod, Nat.reduceBEq, Nat.reduceBNe, List.reduceReplicate, Int.reduceLE, Int.reduceLT, Int.reduceNe]
    refine ⟨⟨hr'.1, by have := hr'.2; rw [hl]; exact this⟩, ?_⟩
    apply hK9; clear hK9
    exact aw_ret (ret_p rfl rfl rfl (by simp))
/-- A ring's next one. -/
def stepR (r : Nat) (t x : List Int) : List Int := (List.range x.length).map fun i => t.getD (hood x i r).toNat 0
def stepN (r : Nat) (t x : List Int) (n : Nat) : List Int := (List.range n).map fun i => t.getD (hood x i r).toNat 0
theorem stepN_succ (r : Nat) (t x : List Int) (n : Nat) : stepN r t x (n + 1) = stepN r t x n ++ [t.getD (hood x n r).toNat 0] := by simp [stepN, List.range_succ]
theorem stepN_len (r : Nat) (t x : List Int) (n : Nat) : (stepN r t x n).length = n := by simp [stepN]
theorem stepR_ring {r : Nat} {t x : List Int} (h : tabOK r t) (hx : ring01 x) : ring01 (stepR r t x) := by
  refine ⟨by simp [stepR]; exact hx.1, by simp [stepR]; exact hx.2.1, fun y hy => ?_⟩
  obtain ⟨i, _, rfl⟩ := List.mem_map.1 hy
  exact getD01 h.2.2 _
theorem l02Step_spec (r : Nat) (t x : List Int) (h : tabOK r t) (hx : ring01 x) : AFp Try.prog 131 [Pr r t, Is x] (.own 0 2 (.int .i64) (stepR r t x)) := by
  have h12 := hx.2.1
  refine AF_body okG0 Try.func131 rfl rfl (by simp [Try.ntmps131]) (by simp) ?_; simp only [Try.ntmps131]
  refine aw_seq_k fun K1 hK1 => aw_region okG0 ?_; simp only [push_cast, Nat.reduceLT, Nat.reduceLeDiff, Nat.reduceEqDiff, reduceIte, reduceCtorEq, Nat.reduceAdd, Nat.reduceMul, Nat.reduceMod, Nat.reduceBEq, Nat.reduceBNe, List.reduceReplicate, Int.reduceLE, Int.reduceLT, Int.reduceNe]
  apply hK1; clear hK1
  refine aw_seq_k fun K2 hK2 => aw_region okG0 ?_; simp only [push_cast, Nat.reduceLT, Nat.reduceLeDiff, Nat.reduceEqDiff, reduceIte, reduceCtorEq, Nat.reduceAdd, Nat.reduceMul, Nat.reduceMod, Nat.reduceBEq, Nat.reduceBNe, List.reduceReplicate, Int.reduceLE, Int.reduceLT, Int.reduceNe]
  apply hK2; clear hK2
  refine aw_seq_k fun K3 hK3 => ?_
  refine aw_seq_k fun K4 hK4 => aw_region okG0 ?_; simp only [push_cast, Nat.reduceLT, Nat.reduceLeDiff, Nat.reduceEqDiff, reduceIte, reduceCtorEq, Nat.reduceAdd, Nat.reduceMul, Nat.reduceMod, Nat.reduceBEq, Nat.reduceBNe, List.reduceReplicate, Int.reduceLE, Int.reduceLT, Int.reduceNe]
  apply hK4; clear hK4
  refine aw_block ?_
  refine aw_loop (fun k : {k : Nat // k ≤ x.length} => ⟨[(0, Pr r t), (1, Is x), (5, .own 2000 2 (.int .i64) (stepN r t x k.1)), (6, I k.1)], [], [2000]⟩) (fun k => x.length - k.1) ⟨0, Nat.zero_le _⟩ ?_ ?_
  · show Sub _ ⟨[(0, Pr r t), (1, Is x), (5, .own 2000 2 (.int .i64) []), (6, I 0)], [], [2000]⟩
    exact sub_ren_to [(700, 2000)] (by simp [renN]) rfl (by simp [allE, getE, renE, renV, renVs, renN]) (by simp [allB, getB, renB, renVs, renV, renN]) rfl rfl rfl
  rintro ⟨k, hk⟩
  refine aw_seq_k fun K5 hK5 => ?_
  refine aw_seq_k fun K6 hK6 => aw_region okG0 ?_; simp only [push_cast, Nat.reduceLT, Nat.reduceLeDiff, Nat.reduceEqDiff, reduceIte, reduceCtorEq, Nat.reduceAdd, Nat.reduceMul, Nat.reduceMod, Nat.reduceBEq, Nat.reduceBNe, List.reduceReplicate, Int.reduceLE, Int.reduceLT, Int.reduceNe]
  apply hK6; clear hK6
  refine aw_cond rfl (fun hc => ?_) (fun hc => ?_)
  · have hlt : k < x.length := by simpa using hc
    refine aw_skip ?_
    simp only [push_cast, Nat.reduceLT, Nat.reduceLeDiff, Nat.reduceEqDiff, reduceIte, reduceCtorEq, Nat.reduceAdd, Nat.reduceMul, Nat.reduceMod, Nat.reduceBEq, Nat.reduceBNe, List.reduceReplicate, Int.reduceLE, Int.reduceLT, Int.reduceNe]
    apply hK5; clear hK5
    refine aw_seq_k fun K7 hK7 => ?_
    refine aw_block ?_
    refine aw_region okG0 ?_
    simp only [push_cast, Nat.reduceLT, Nat.reduceLeDiff, Nat.reduceEqDiff, reduceIte, reduceCtorEq, Nat.reduceAdd, Nat.reduceMul, Nat.reduceMod, Nat.reduceBEq, Nat.reduceBNe, List.reduceReplicate, Int.reduceLE, Int.reduceLT, Int.reduceNe]
    refine call_pure (l02Told_spec r t x k h hx hlt) (fits_of rfl) (by decide) rfl (by simp [idsV, idsVs]) ?_; simp only [push_cast, Nat.reduceLT, Nat.reduceLeDiff, Nat.reduceEqDiff, reduceIte, reduceCtorEq, Nat.reduceAdd, Nat.reduceMul, Nat.reduceMod, Nat.reduceBEq, Nat.reduceBNe, List.reduceReplicate, Int.reduceLE, Int.reduceLT, Int.reduceNe]
    rw [stepN_len]
    refine ⟨by omega, by omega, ?_⟩
    apply hK7; clear hK7
    refine aw_region okG0 ?_
    simp only [push_cast, Nat.reduceLT, Nat.reduceLeDiff, Nat.reduceEqDiff, reduceIte, reduceCtorEq, Nat.reduceAdd, Nat.reduceMul, Nat.reduceMod, Nat.reduceBEq, Nat.reduceBNe, List.reduceReplicate, Int.reduceLE, Int.reduceLT, Int.reduceNe]
    refine ⟨⟨k + 1, by omega⟩, ?_, by show x.length - (k + 1) < x.length - k; omega⟩
    rw [w64 (n := (k : Int) + 1) (by omega) (by omega), ← stepN_succ]
    exact sub_to (by simp [allE, getE] <;> rfl) (by simp [allB, getB] <;> rfl) rfl rfl rfl
  · have hlt : k = x.length := by have : ¬ (k : Int) < x.length := (by simpa using hc); omega
    subst hlt
    refine aw_exit ?_
    simp only [push_cast, Nat.reduceLT, Nat.reduceLeDiff, Nat.reduceEqDiff, reduceIte, reduceCtorEq, Nat.reduceAdd, Nat.reduceMul, Nat.reduceMod, Nat.reduceBEq, Nat.reduceBNe, List.reduceReplicate, Int.reduceLE, Int.reduceLT, Int.reduceNe]
    apply hK3; clear hK3
    refine aw_seq_k fun K8 hK8 => aw_region okG0 ?_; simp only [push_cast, Nat.reduceLT, Nat.reduceLeDiff, Nat.reduceEqDiff, reduceIte, reduceCtorEq, Nat.reduceAdd, Nat.reduceMul, Nat.reduceMod, Nat.reduceBEq, Nat.reduceBNe, List.reduceReplicate, Int.reduceLE, Int.reduceLT, Int.reduceNe]
    apply hK8; clear hK8
    exact aw_ret (ret_o [(2000, 0)] rfl rfl (by simp [renN]) rfl)
theorem StepRing_spec (r : Nat) (t x : List Int) (h : tabOK r t) (hx : ring01 x) : AFp Try.prog 31 [.agg [I 2, I r, Is t], Is x] (.tup [.own 0 2 (.int .i64) (stepR r t x), Bo true]) := by
  refine AF_body okG0 Try.func31 rfl rfl (by simp [Try.ntmps31]) (by simp) ?_; simp only [Try.ntmps31]
  refine aw_seq_k fun K1 hK1 => aw_region okG0 ?_; simp only [push_cast, Nat.reduceLT, Nat.reduceLeDiff, Nat.reduceEqDiff, reduceIte, reduceCtorEq, Nat.reduceAdd, Nat.reduceMul, Nat.reduceMod, Nat.reduceBEq, Nat.reduceBNe, List.reduceReplicate, Int.reduceLE, Int.reduceLT, Int.reduceNe]
  apply hK1; clear hK1
  refine aw_seq_k fun K2 hK2 => ?_
  refine aw_seq_k fun K3 hK3 => aw_region okG0 ?_; simp only [push_cast, Nat.reduceLT, Nat.reduceLeDiff, Nat.reduceEqDiff, reduceIte, reduceCtorEq, Nat.reduceAdd, Nat.reduceMul, Nat.reduceMod, Nat.reduceBEq, Nat.reduceBNe, List.reduceReplicate, Int.reduceLE, Int.reduceLT, Int.reduceNe]
  refine call_pure (l02Can_spec r t x h hx) (fits_of rfl) (by decide) rfl (by simp [idsV, idsVs]) ?_; simp only [push_cast, Nat.reduceLT, Nat.reduceLeDiff, Nat.reduceEqDiff, reduceIte, reduceCtorEq, Nat.reduceAdd, Nat.reduceMul, Nat.reduceMod, Nat.reduceBEq, Nat.reduceBNe, List.reduceReplicate, Int.reduceLE, Int.reduceLT, Int.reduceNe]
  apply hK3; clear hK3
  refine aw_cond rfl (fun hc => ?_) (fun hc => ?_)
  · simp at hc
  · refine aw_skip ?_
    simp only [push_cast, Nat.reduceLT, Nat.reduceLeDiff, Nat.reduceEqDiff, reduceIte, reduceCtorEq, Nat.reduceAdd, Nat.reduceMul, Nat.reduceMod, Nat.reduceBEq, Nat.reduceBNe, List.reduceReplicate, Int.reduceLE, Int.reduceLT, Int.reduceNe]
    apply hK2; clear hK2
    refine aw_seq_k fun K4 hK4 => aw_region okG0 ?_; simp only [push_cast, Nat.reduceLT, Nat.reduceLeDiff, Nat.reduceEqDiff, reduceIte, reduceCtorEq, Nat.reduceAdd, Nat.reduceMul, Nat.reduceMod, Nat.reduceBEq, Nat.reduceBNe, List.reduceReplicate, Int.reduceLE, Int.reduceLT, Int.reduceNe]
    refine call_pure (l02Step_spec r t x h hx) (fits_of rfl) (by decide) rfl (by simp [idsV, idsVs]) ?_; simp only [push_cast, Nat.reduceLT, Nat.reduceLeDiff, Nat.reduceEqDiff, reduceIte, reduceCtorEq, Nat.reduceAdd, Nat.reduceMul, Nat.reduceMod, Nat.reduceBEq, Nat.reduceBNe, List.reduceReplicate, Int.reduceLE, Int.reduceLT, Int.reduceNe]
    apply hK4; clear hK4
    exact aw_ret (ret_o [(1000, 0)] rfl rfl (by simp [renN]) rfl)
end Go.Proofs.Avx
