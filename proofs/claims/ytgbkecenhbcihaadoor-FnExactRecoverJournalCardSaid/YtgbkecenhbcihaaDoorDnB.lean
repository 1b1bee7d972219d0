/- What RecoverJournal of the program and of the reference compute, and that the law answers true of every text. -/
import Derived.Test.YtgbkecenhbcihaaDoorDnA
set_option linter.unusedVariables false
set_option linter.unusedSimpArgs false
namespace Go.Proofs.Avx
theorem eqStringS_spec (l : List (List UInt8)) (hl : l.length ≤ 4611686018427387904) : AFp Tryd.prog 14 [Sts l, Sts l] (Bo true) := by
  refine AF_body okG0 Tryd.func14 rfl rfl (by simp [Tryd.ntmps14]) (by simp) ?_; simp only [Tryd.ntmps14]
  refine aw_seq_k fun K1 hK1 => aw_region okG0 ?_; simp only [push_cast, Nat.reduceLT, Nat.reduceLeDiff, Nat.reduceEqDiff, reduceIte, reduceCtorEq, Nat.reduceAdd, Nat.reduceMul, Nat.reduceMod, Nat.reduceBEq, Nat.reduceBNe, List.reduceReplicate, Int.reduceLE, Int.reduceLT, Int.reduceNe]
  apply hK1; clear hK1
  refine aw_seq_k fun K2 hK2 => ?_
  refine aw_seq_k fun K3 hK3 => aw_region okG0 ?_; simp only [push_cast, Nat.reduceLT, Nat.reduceLeDiff, Nat.reduceEqDiff, reduceIte, reduceCtorEq, Nat.reduceAdd, Nat.reduceMul, Nat.reduceMod, Nat.reduceBEq, Nat.reduceBNe, List.reduceReplicate, Int.reduceLE, Int.reduceLT, Int.reduceNe]
  apply hK3; clear hK3
  refine aw_cond rfl (fun hc => ?_) (fun hc => ?_)
  · simp at hc
  · refine aw_skip ?_
    simp only [push_cast, Nat.reduceLT, Nat.reduceLeDiff, Nat.reduceEqDiff, reduceIte, reduceCtorEq, Nat.reduceAdd, Nat.reduceMul, Nat.reduceMod, Nat.reduceBEq, Nat.reduceBNe, List.reduceReplicate, Int.reduceLE, Int.reduceLT, Int.reduceNe]
    apply hK2; clear hK2
    refine aw_seq_k fun K5 hK5 => ?_
    refine aw_seq_k fun K6 hK6 => aw_region okG0 ?_; simp only [push_cast, Nat.reduceLT, Nat.reduceLeDiff, Nat.reduceEqDiff, reduceIte, reduceCtorEq, Nat.reduceAdd, Nat.reduceMul, Nat.reduceMod, Nat.reduceBEq, Nat.reduceBNe, List.reduceReplicate, Int.reduceLE, Int.reduceLT, Int.reduceNe]
    apply hK6; clear hK6
    refine aw_block ?_
    refine aw_loop (fun k : {k : Nat // k ≤ l.length} => ⟨[(0, Sts l), (1, Sts l), (5, I k.1)], [], []⟩) (fun k => l.length - k.1) ⟨0, Nat.zero_le _⟩ (sub_to (by simp [allE, getE] <;> rfl) (by simp [allB, getB] <;> rfl) rfl rfl rfl) ?_
    rintro ⟨k, hk⟩
    refine aw_seq_k fun K7 hK7 => ?_
    refine aw_seq_k fun K8 hK8 => aw_region okG0 ?_; simp only [push_cast, Nat.reduceLT, Nat.reduceLeDiff, Nat.reduceEqDiff, reduceIte, reduceCtorEq, Nat.reduceAdd, Nat.reduceMul, Nat.reduceMod, Nat.reduceBEq, Nat.reduceBNe, List.reduceReplicate, Int.reduceLE, Int.reduceLT, Int.reduceNe]
    apply hK8; clear hK8
    refine aw_cond rfl (fun hc => ?_) (fun hc => ?_)
    · have hlt : k < l.length := by simpa using hc
      refine aw_skip ?_
      simp only [push_cast, Nat.reduceLT, Nat.reduceLeDiff, Nat.reduceEqDiff, reduceIte, reduceCtorEq, Nat.reduceAdd, Nat.reduceMul, Nat.reduceMod, Nat.reduceBEq, Nat.reduceBNe, List.reduceReplicate, Int.reduceLE, Int.reduceLT, Int.reduceNe]
      apply hK7; clear hK7
      refine aw_seq_k fun K9 hK9 => ?_
      refine aw_block ?_
      refine aw_seq_k fun K10 hK10 => aw_draw fol okG0 8 (by kernel_rfl) ?_; simp only [push_cast, Nat.reduceLT, Nat.reduceLeDiff, Nat.reduceEqDiff, reduceIte, reduceCtorEq, Nat.reduceAdd, Nat.reduceMul, Nat.reduceMod, Nat.reduceBEq, Nat.reduceBNe, List.reduceReplicate, Int.reduceLE, Int.reduceLT, Int.reduceNe]
      refine ⟨⟨by omega, by omega⟩, ⟨by omega, by omega⟩, ?_⟩
      apply hK10; clear hK10
      refine aw_cond rfl (fun hc => ?_) (fun hc => ?_)
      · simp at hc
      · refine aw_skip ?_
        simp only [push_cast, Nat.reduceLT, Nat.reduceLeDiff, Nat.reduceEqDiff, reduceIte, reduceCtorEq, Nat.reduceAdd, Nat.reduceMul, Nat.reduceMod, Nat.reduceBEq, Nat.reduceBNe, List.reduceReplicate, Int.reduceLE, Int.reduceLT, Int.reduceNe]
        apply hK9; clear hK9
        refine aw_region okG0 ?_
        simp only [push_cast, Nat.reduceLT, Nat.reduceLeDiff, Nat.reduceEqDiff, reduceIte, reduceCtorEq, Nat.reduceAdd, Nat.reduceMul, Nat.reduceMod, Nat.reduceBEq, Nat.reduceBNe, List.reduceReplicate, Int.reduceLE, Int.reduceLT, Int.reduceNe]
        refine ⟨⟨k + 1, by omega⟩, ?_, by show l.length - (k + 1) < l.length - k; omega⟩
        rw [w64 (n := (k : Int) + 1) (by omega) (by omega)]
        exact sub_to (by simp [allE, getE] <;> rfl) (by simp [allB, getB] <;> rfl) rfl rfl rfl
    · refine aw_exit ?_
      simp only [push_cast, Nat.reduceLT, Nat.reduceLeDiff, Nat.reduceEqDiff, reduceIte, reduceCtorEq, Nat.reduceAdd, Nat.reduceMul, Nat.reduceMod, Nat.reduceBEq, Nat.reduceBNe, List.reduceReplicate, Int.reduceLE, Int.reduceLT, Int.reduceNe]
      apply hK5; clear hK5
      refine aw_seq_k fun K12 hK12 => aw_region okG0 ?_; simp only [push_cast, Nat.reduceLT, Nat.reduceLeDiff, Nat.reduceEqDiff, reduceIte, reduceCtorEq, Nat.reduceAdd, Nat.reduceMul, Nat.reduceMod, Nat.reduceBEq, Nat.reduceBNe, List.reduceReplicate, Int.reduceLE, Int.reduceLT, Int.reduceNe]
      apply hK12; clear hK12
      exact aw_ret (ret_p rfl rfl rfl (by simp))
/-- Marks from a number on. -/
def mk (k0 n : Nat) : List (List UInt8) := (List.range n).map fun j => mtext (k0 + j)
theorem mk_len (k0 n : Nat) : (mk k0 n).length = n := by simp [mk]
theorem mk_at {k0 n i : Nat} (h : i < n) : (mk k0 n).getD i [] = mtext (k0 + i) := by simp [mk, List.getD, h]
def mkd (l : List (List UInt8)) (k0 i : Nat) : List (List UInt8) := mk k0 i ++ l.drop i
theorem mkd_len {l : List (List UInt8)} {k0 i : Nat} (h : i ≤ l.length) : (mkd l k0 i).length = l.length := by simp [mkd, mk_len]; omega
theorem mkd_set {l : List (List UInt8)} {k0 i : Nat} (h : i < l.length) : (mkd l k0 i).set i (mtext (k0 + i)) = mkd l k0 (i + 1) := by
  unfold mkd
  rw [List.set_append, if_neg (by rw [mk_len]; omega), mk_len, Nat.sub_self, List.drop_eq_getElem_cons h, List.set_cons_zero]
  simp [mk, List.range_succ]
theorem markStringS_spec (l : List (List UInt8)) (k0 : Nat) (h0 : 0 < k0) (hk0 : k0 ≤ 1000000) (hl : l.length ≤ 1000000000) : AF Tryd.prog 17 [.own 98 9 .str l, I k0] [98] [] (I ((k0 + l.length : Nat) : Int)) [] [.own 98 9 .str (mk k0 l.length)] := by
  refine AF_body okG0 Tryd.func17 rfl rfl (by simp [Tryd.ntmps17]) (by simp) ?_; simp only [Tryd.ntmps17]
  refine aw_seq_k fun K1 hK1 => aw_region okG0 ?_; simp only [push_cast, Nat.reduceLT, Nat.reduceLeDiff, Nat.reduceEqDiff, reduceIte, reduceCtorEq, Nat.reduceAdd, Nat.reduceMul, Nat.reduceMod, Nat.reduceBEq, Nat.reduceBNe, List.reduceReplicate, Int.reduceLE, Int.reduceLT, Int.reduceNe]
  apply hK1; clear hK1
  refine aw_seq_k fun K2 hK2 => ?_
  refine aw_seq_k fun K3 hK3 => aw_region okG0 ?_; simp only [push_cast, Nat.reduceLT, Nat.reduceLeDiff, Nat.reduceEqDiff, reduceIte, reduceCtorEq, Nat.reduceAdd, Nat.reduceMul, Nat.reduceMod, Nat.reduceBEq, Nat.reduceBNe, List.reduceReplicate, Int.reduceLE, Int.reduceLT, Int.reduceNe]
  apply hK3; clear hK3
  refine aw_block ?_
  refine aw_loop (fun k : {k : Nat // k ≤ l.length} => ⟨[(0, .own 98 9 .str (mkd l k0 k.1)), (1, I ((k0 + k.1 : Nat) : Int)), (5, I k.1)], [], [98]⟩) (fun k => l.length - k.1) ⟨0, Nat.zero_le _⟩ (sub_to (by simp [allE, getE] <;> rfl) (by simp [allB, getB] <;> rfl) rfl rfl rfl) ?_
  rintro ⟨k, hk⟩
  have hlen := mkd_len (k0 := k0) hk
  refine aw_seq_k fun K4 hK4 => ?_
  refine aw_seq_k fun K5 hK5 => aw_region okG0 ?_; simp only [push_cast, Nat.reduceLT, Nat.reduceLeDiff, Nat.reduceEqDiff, reduceIte, reduceCtorEq, Nat.reduceAdd, Nat.reduceMul, Nat.reduceMod, Nat.reduceBEq, Nat.reduceBNe, List.reduceReplicate, Int.reduceLE, Int.reduceLT, Int.reduceNe]
  apply hK5; clear hK5
  refine aw_cond rfl (fun hc => ?_) (fun hc => ?_)
  · have hlt : k < l.length := by rw [hlen] at hc; simpa using hc
    refine aw_skip ?_
    simp only [push_cast, Nat.reduceLT, Nat.reduceLeDiff, Nat.reduceEqDiff, reduceIte, reduceCtorEq, Nat.reduceAdd, Nat.reduceMul, Nat.reduceMod, Nat.reduceBEq, Nat.reduceBNe, List.reduceReplicate, Int.reduceLE, Int.reduceLT, Int.reduceNe]
    apply hK4; clear hK4
    refine aw_seq_k fun K6 hK6 => ?_
    refine aw_block ?_
    refine aw_seq_k fun K7 hK7 => aw_region okG0 ?_; simp only [push_cast, Nat.reduceLT, Nat.reduceLeDiff, Nat.reduceEqDiff, reduceIte, reduceCtorEq, Nat.reduceAdd, Nat.reduceMul, Nat.reduceMod, Nat.reduceBEq, Nat.reduceBNe, List.reduceReplicate, Int.reduceLE, Int.reduceLT, Int.reduceNe]
    refine call_pure (markText_spec (k0 + k) (by omega) (by omega)) (fits_of rfl) (by decide) rfl (by simp [idsV, idsVs]) ?_; simp only [push_cast, Nat.reduceLT, Nat.reduceLeDiff, Nat.reduceEqDiff, reduceIte, reduceCtorEq, Nat.reduceAdd, Nat.reduceMul, Nat.reduceMod, Nat.reduceBEq, Nat.reduceBNe, List.reduceReplicate, Int.reduceLE, Int.reduceLT, Int.reduceNe]
    refine ⟨⟨by omega, by omega⟩, by omega, ?_⟩
    rw [mkd_set hlt]
    apply hK7; clear hK7
    refine aw_region okG0 ?_
    simp only [push_cast, Nat.reduceLT, Nat.reduceLeDiff, Nat.reduceEqDiff, reduceIte, reduceCtorEq, Nat.reduceAdd, Nat.reduceMul, Nat.reduceMod, Nat.reduceBEq, Nat.reduceBNe, List.reduceReplicate, Int.reduceLE, Int.reduceLT, Int.reduceNe]
    apply hK6; clear hK6
    refine aw_region okG0 ?_
    simp only [push_cast, Nat.reduceLT, Nat.reduceLeDiff, Nat.reduceEqDiff, reduceIte, reduceCtorEq, Nat.reduceAdd, Nat.reduceMul, Nat.reduceMod, Nat.reduceBEq, Nat.reduceBNe, List.reduceReplicate, Int.reduceLE, Int.reduceLT, Int.reduceNe]
    refine ⟨⟨k + 1, by omega⟩, ?_, by show l.length - (k + 1) < l.length - k; omega⟩
    rw [w64 (n := (k : Int) + 1) (by omega) (by omega), w64 (n := (k0 : Int) + k + 1) (by omega) (by omega), show (k0 : Int) + k + 1 = ((k0 + (k + 1) : Nat) : Int) by omega]
    exact sub_to (by simp [allE, getE] <;> rfl) (by simp [allB, getB] <;> rfl) rfl rfl rfl
  · have hlt : k = l.length := by rw [hlen] at hc
                                  have : ¬ (k : Int) < l.length := by simpa using hc
                                  omega
    subst hlt
    refine aw_exit ?_
    simp only [push_cast, Nat.reduceLT, Nat.reduceLeDiff, Nat.reduceEqDiff, reduceIte, reduceCtorEq, Nat.reduceAdd, Nat.reduceMul, Nat.reduceMod, Nat.reduceBEq, Nat.reduceBNe, List.reduceReplicate, Int.reduceLE, Int.reduceLT, Int.reduceNe]
    apply hK2; clear hK2
    refine aw_seq_k fun K8 hK8 => aw_region okG0 ?_; simp only [push_cast, Nat.reduceLT, Nat.reduceLeDiff, Nat.reduceEqDiff, reduceIte, reduceCtorEq, Nat.reduceAdd, Nat.reduceMul, Nat.reduceMod, Nat.reduceBEq, Nat.reduceBNe, List.reduceReplicate, Int.reduceLE, Int.reduceLT, Int.reduceNe]
    apply hK8; clear hK8
    rw [show mkd l k0 l.length = mk k0 l.length by simp [mkd]]
    refine aw_ret ?_
    refine ret_io [] [(0, .own 98 9 .str (mk k0 l.length))] rfl ?_ (by simp [renN]) rfl ?_ (by simp [rsEnd, getE, renV, renN]) rfl (by simp [renN]) <;> (try simp only [push_cast, reduceIte, Nat.reduceEqDiff])
theorem markNil_spec (k0 : Nat) : AFp Tryd.prog 17 [Sts [], I k0] (I k0) := by
  refine AF_body okG0 Tryd.func17 rfl rfl (by simp [Tryd.ntmps17]) (by simp) ?_; simp only [Tryd.ntmps17]
  refine aw_seq_k fun K1 hK1 => aw_region okG0 ?_; simp only [push_cast, Nat.reduceLT, Nat.reduceLeDiff, Nat.reduceEqDiff, reduceIte, reduceCtorEq, Nat.reduceAdd, Nat.reduceMul, Nat.reduceMod, Nat.reduceBEq, Nat.reduceBNe, List.reduceReplicate, Int.reduceLE, Int.reduceLT, Int.reduceNe]
  apply hK1; clear hK1
  refine aw_seq_k fun K2 hK2 => ?_
  refine aw_seq_k fun K3 hK3 => aw_region okG0 ?_; simp only [push_cast, Nat.reduceLT, Nat.reduceLeDiff, Nat.reduceEqDiff, reduceIte, reduceCtorEq, Nat.reduceAdd, Nat.reduceMul, Nat.reduceMod, Nat.reduceBEq, Nat.reduceBNe, List.reduceReplicate, Int.reduceLE, Int.reduceLT, Int.reduceNe]
  apply hK3; clear hK3
  refine aw_block ?_
  refine aw_loop (fun _ : Unit => ⟨[(0, Sts []), (1, I k0), (5, I 0)], [], []⟩) (fun _ => 0) () (sub_to (by simp [allE, getE] <;> rfl) (by simp [allB, getB] <;> rfl) rfl rfl rfl) ?_
  rintro ⟨⟩
  refine aw_seq_k fun K4 hK4 => ?_
  refine aw_seq_k fun K5 hK5 => aw_region okG0 ?_; simp only [push_cast, Nat.reduceLT, Nat.reduceLeDiff, Nat.reduceEqDiff, reduceIte, reduceCtorEq, Nat.reduceAdd, Nat.reduceMul, Nat.reduceMod, Nat.reduceBEq, Nat.reduceBNe, List.reduceReplicate, Int.reduceLE, Int.reduceLT, Int.reduceNe]
  apply hK5; clear hK5
  refine aw_cond rfl (fun hc => ?_) (fun hc => ?_)
  · simp at hc
  · refine aw_exit ?_
    simp only [push_cast, Nat.reduceLT, Nat.reduceLeDiff, Nat.reduceEqDiff, reduceIte, reduceCtorEq, Nat.reduceAdd, Nat.reduceMul, Nat.reduceMod, Nat.reduceBEq, Nat.reduceBNe, List.reduceReplicate, Int.reduceLE, Int.reduceLT, Int.reduceNe]
    apply hK2; clear hK2
    refine aw_seq_k fun K8 hK8 => aw_region okG0 ?_; simp only [push_cast, Nat.reduceLT, Nat.reduceLeDiff, Nat.reduceEqDiff, reduceIte, reduceCtorEq, Nat.reduceAdd, Nat.reduceMul, Nat.reduceMod, Nat.reduceBEq, Nat.reduceBNe, List.reduceReplicate, Int.reduceLE, Int.reduceLT, Int.reduceNe]
    apply hK8; clear hK8
    exact aw_ret (ret_p rfl rfl rfl (by simp))
theorem heldStringS_spec (n k0 : Nat) (h0 : 0 < k0) (hk0 : k0 ≤ 1000000) (hn : n ≤ 1000000000) : AFp Tryd.prog 18 [Sts (mk k0 n), I k0] (I ((k0 + n : Nat) : Int)) := by
  have hlen := mk_len k0 n
  refine AF_body okG0 Tryd.func18 rfl rfl (by simp [Tryd.ntmps18]) (by simp) ?_; simp only [Tryd.ntmps18]
  refine aw_seq_k fun K1 hK1 => aw_region okG0 ?_; simp only [push_cast, Nat.reduceLT, Nat.reduceLeDiff, Nat.reduceEqDiff, reduceIte, reduceCtorEq, Nat.reduceAdd, Nat.reduceMul, Nat.reduceMod, Nat.reduceBEq, Nat.reduceBNe, List.reduceReplicate, Int.reduceLE, Int.reduceLT, Int.reduceNe]
  apply hK1; clear hK1
  refine aw_seq_k fun K2 hK2 => ?_
  refine aw_seq_k fun K3 hK3 => aw_region okG0 ?_; simp only [push_cast, Nat.reduceLT, Nat.reduceLeDiff, Nat.reduceEqDiff, reduceIte, reduceCtorEq, Nat.reduceAdd, Nat.reduceMul, Nat.reduceMod, Nat.reduceBEq, Nat.reduceBNe, List.reduceReplicate, Int.reduceLE, Int.reduceLT, Int.reduceNe]
  apply hK3; clear hK3
  refine aw_block ?_
  refine aw_loop (fun k : {k : Nat // k ≤ n} => ⟨[(0, Sts (mk k0 n)), (1, I ((k0 + k.1 : Nat) : Int)), (5, I k.1)], [], []⟩) (fun k => n - k.1) ⟨0, Nat.zero_le _⟩ (sub_to (by simp [allE, getE] <;> rfl) (by simp [allB, getB] <;> rfl) rfl rfl rfl) ?_
  rintro ⟨k, hk⟩
  refine aw_seq_k fun K4 hK4 => ?_
  refine aw_seq_k fun K5 hK5 => aw_region okG0 ?_; simp only [push_cast, Nat.reduceLT, Nat.reduceLeDiff, Nat.reduceEqDiff, reduceIte, reduceCtorEq, Nat.reduceAdd, Nat.reduceMul, Nat.reduceMod, Nat.reduceBEq, Nat.reduceBNe, List.reduceReplicate, Int.reduceLE, Int.reduceLT, Int.reduceNe]
  apply hK5; clear hK5
  refine aw_cond rfl (fun hc => ?_) (fun hc => ?_)
  · have hlt : k < n := by rw [hlen] at hc; simpa using hc
    refine aw_skip ?_
    simp only [push_cast, Nat.reduceLT, Nat.reduceLeDiff, Nat.reduceEqDiff, reduceIte, reduceCtorEq, Nat.reduceAdd, Nat.reduceMul, Nat.reduceMod, Nat.reduceBEq, Nat.reduceBNe, List.reduceReplicate, Int.reduceLE, Int.reduceLT, Int.reduceNe]
    apply hK4; clear hK4
    refine aw_seq_k fun K6 hK6 => ?_
    refine aw_block ?_
    refine aw_seq_k fun K7 hK7 => ?_
    refine aw_seq_k fun K8 hK8 => aw_draw fol okG0 6 (by kernel_rfl) ?_; simp only [push_cast, Nat.reduceLT, Nat.reduceLeDiff, Nat.reduceEqDiff, reduceIte, reduceCtorEq, Nat.reduceAdd, Nat.reduceMul, Nat.reduceMod, Nat.reduceBEq, Nat.reduceBNe, List.reduceReplicate, Int.reduceLE, Int.reduceLT, Int.reduceNe]
    refine ⟨⟨by omega, by omega⟩, ?_⟩
    refine ⟨_, _, markText_spec (k0 + k) (by omega) (by omega), .inl ⟨fits_of rfl, rfl⟩, ?_⟩; simp only [push_cast, Nat.reduceLT, Nat.reduceLeDiff, Nat.reduceEqDiff, reduceIte, reduceCtorEq, Nat.reduceAdd, Nat.reduceMul, Nat.reduceMod, Nat.reduceBEq, Nat.reduceBNe, List.reduceReplicate, Int.reduceLE, Int.reduceLT, Int.reduceNe]
    rw [mk_at hlt]
    apply hK8; clear hK8
    refine aw_cond rfl (fun hc => ?_) (fun hc => ?_)
    · simp at hc
    · refine aw_skip ?_
      simp only [push_cast, Nat.reduceLT, Nat.reduceLeDiff, Nat.reduceEqDiff, reduceIte, reduceCtorEq, Nat.reduceAdd, Nat.reduceMul, Nat.reduceMod, Nat.reduceBEq, Nat.reduceBNe, List.reduceReplicate, Int.reduceLE, Int.reduceLT, Int.reduceNe]
      apply hK7; clear hK7
      refine aw_region okG0 ?_
      simp only [push_cast, Nat.reduceLT, Nat.reduceLeDiff, Nat.reduceEqDiff, reduceIte, reduceCtorEq, Nat.reduceAdd, Nat.reduceMul, Nat.reduceMod, Nat.reduceBEq, Nat.reduceBNe, List.reduceReplicate, Int.reduceLE, Int.reduceLT, Int.reduceNe]
      apply hK6; clear hK6
      refine aw_region okG0 ?_
      simp only [push_cast, Nat.reduceLT, Nat.reduceLeDiff, Nat.reduceEqDiff, reduceIte, reduceCtorEq, Nat.reduceAdd, Nat.reduceMul, Nat.reduceMod, Nat.reduceBEq, Nat.reduceBNe, List.reduceReplicate, Int.reduceLE, Int.reduceLT, Int.reduceNe]
      refine ⟨⟨k + 1, by omega⟩, ?_, by show n - (k + 1) < n - k; omega⟩
      rw [w64 (n := (k : Int) + 1) (by omega) (by omega), w64 (n := (k0 : Int) + k + 1) (by omega) (by omega), show (k0 : Int) + k + 1 = ((k0 + (k + 1) : Nat) : Int) by omega]
      exact sub_to (by simp [allE, getE] <;> rfl) (by simp [allB, getB] <;> rfl) rfl rfl rfl
  · have hlt : k = n := by rw [hlen] at hc
                           have : ¬ (k : Int) < n := by simpa using hc
                           omega
    subst hlt
    refine aw_exit ?_
    simp only [push_cast, Nat.reduceLT, Nat.reduceLeDiff, Nat.reduceEqDiff, reduceIte, reduceCtorEq, Nat.reduceAdd, Nat.reduceMul, Nat.reduceMod, Nat.reduceBEq, Nat.reduceBNe, List.reduceReplicate, Int.reduceLE, Int.reduceLT, Int.reduceNe]
    apply hK2; clear hK2
    refine aw_seq_k fun K10 hK10 => aw_region okG0 ?_; simp only [push_cast, Nat.reduceLT, Nat.reduceLeDiff, Nat.reduceEqDiff, reduceIte, reduceCtorEq, Nat.reduceAdd, Nat.reduceMul, Nat.reduceMod, Nat.reduceBEq, Nat.reduceBNe, List.reduceReplicate, Int.reduceLE, Int.reduceLT, Int.reduceNe]
    apply hK10; clear hK10
    exact aw_ret (ret_p rfl rfl rfl (by simp))
end Go.Proofs.Avx

set_option linter.unusedVariables false
set_option linter.unusedSimpArgs false
namespace Go.Proofs.Avx
open Lib (decDigits)
/-- The lines of the longest journal that lines begin with, and how long it is. -/
def recL : List (List UInt8) → Nat → List (List UInt8) × Nat
  | [], _ => ([], 0)
  | l :: r, c => match brk 32 l with
    | none => ([], 0)
    | some (w, line) => if w = decDigits (chk c line) then (line :: (recL r (chk c line)).1, l.length + 1 + (recL r (chk c line)).2) else ([], 0)
def tot : List (List UInt8) → Nat
  | [] => 0
  | l :: r => l.length + 1 + tot r
theorem recL_len : ∀ (ls : List (List UInt8)) (c : Nat), (recL ls c).1.length ≤ ls.length ∧ (recL ls c).2 ≤ tot ls
  | [], c => by simp [recL, tot]
  | l :: r, c => by
    simp only [recL, tot]
    split
    · simp
    · rename_i w line h
      have := recL_len r (chk c line)
      split
      · simp; omega
      · simp
theorem lns_not {s : List UInt8} (h : (10 : UInt8) ∉ s) : lns s = [] := by simp [lns, cuts_not h]
theorem lns_app {a : List UInt8} (b : List UInt8) (h : (10 : UInt8) ∉ a) : lns (a ++ 10 :: b) = a :: lns b := by
  have := cuts_pos 10 b
  simp only [lns, cuts_app b h, List.length_cons, Nat.add_sub_cancel]
  obtain ⟨m, hm⟩ : ∃ m, (cuts 10 b).length = m + 1 := ⟨(cuts 10 b).length - 1, by omega⟩
  rw [hm]
  simp
theorem tot_lns : ∀ (n : Nat) (s : List UInt8), s.length ≤ n → tot (lns s) ≤ s.length
  | 0, s, h => by have : s = [] := List.length_eq_zero_iff.1 (by omega); subst this; simp [lns, cuts, tot]
  | n + 1, s, h => by
    rcases brk_spec 10 s with ⟨h1, _⟩ | ⟨a, b, rfl, h1, _⟩
    · rw [lns_not h1]; simp [tot]
    · rw [lns_app b h1]
      simp only [List.length_append, List.length_cons] at h
      have := tot_lns n b (by omega)
      simp [tot]; omega
theorem drop_take_app {a b : List UInt8} {c : UInt8} {j : Nat} (hj : j ≤ (a ++ c :: b).length) (hn : c ∉ (a ++ c :: b).take j) (h1 : c ∉ a) : j ≤ a.length := by
  refine Nat.le_of_not_lt fun hlt => hn ?_
  rw [List.take_append, List.take_of_length_le (by omega)]
  obtain ⟨m, hm⟩ : ∃ m, j - a.length = m + 1 := ⟨j - a.length - 1, by omega⟩
  rw [hm]
  simp
structure RecOK (L : List (List UInt8)) (R : List (List UInt8) × Nat) (c : Nat) (out : List (List UInt8)) (n : Nat) : Prop where
  hc : c < 65003
  ho : out ++ (recL L c).1 = R.1
  hn : n + (recL L c).2 = R.2
theorem RecOK.end {L : List (List UInt8)} {R : List (List UInt8) × Nat} {c : Nat} {out : List (List UInt8)} {n : Nat} (h : RecOK L R c out n) (he : recL L c = ([], 0)) : R = (out, n) := by
  have h1 := h.ho
  have h2 := h.hn
  rw [he] at h1 h2
  cases R
  simp at h1 h2
  rw [h1, h2]
theorem RecOK.next {l : List UInt8} {L : List (List UInt8)} {R : List (List UInt8) × Nat} {c : Nat} {out : List (List UInt8)} {n : Nat} (h : RecOK (l :: L) R c out n) {a b : List UInt8} (hb : brk 32 l = some (a, b)) (he : a = decDigits (chk c b)) :
    RecOK L R (chk c b) (out ++ [b]) (n + l.length + 1) := by
  have h1 := h.ho
  have h2 := h.hn
  have e : recL (l :: L) c = (b :: (recL L (chk c b)).1, l.length + 1 + (recL L (chk c b)).2) := by simp only [recL, hb]; rw [if_pos he]
  rw [e] at h1 h2
  refine ⟨chk_lt _ _ h.hc, ?_, ?_⟩
  · rw [← h1]; simp
  · rw [← h2]; simp only; omega
theorem RecOK.lens {L : List (List UInt8)} {R : List (List UInt8) × Nat} {c : Nat} {out : List (List UInt8)} {n : Nat} (h : RecOK L R c out n) : out.length ≤ R.1.length ∧ n ≤ R.2 := by
  have h1 := congrArg List.length h.ho
  rw [List.length_append] at h1
  have h2 := h.hn
  omega
theorem recL_none {l : List UInt8} {L : List (List UInt8)} {c : Nat} (h : brk 32 l = none) : recL (l :: L) c = ([], 0) := by simp only [recL, h]
theorem recL_ne {l a b : List UInt8} {L : List (List UInt8)} {c : Nat} (h : brk 32 l = some (a, b)) (he : a ≠ decDigits (chk c b)) : recL (l :: L) c = ([], 0) := by simp only [recL, h]; rw [if_neg he]
theorem index_brk' (c : UInt8) (l : List UInt8) : (c ∉ l ∧ Lib.indexByte l c = -1) ∨ ∃ a b, l = a ++ c :: b ∧ c ∉ a ∧ Lib.indexByte l c = a.length := indexByte_spec c l
theorem cutR_cases (c : UInt8) (l : List UInt8) : (brk c l = none ∧ cutR c l = (l, [], false)) ∨ ∃ a b, brk c l = some (a, b) ∧ cutR c l = (a, b, true) ∧ b.length < l.length := by
  rcases brk_spec c l with ⟨_, h⟩ | ⟨a, b, e, _, h⟩
  · exact .inl ⟨h, by unfold cutR; rw [h]⟩
  · exact .inr ⟨a, b, h, by unfold cutR; rw [h], by rw [e]; simp; omega⟩
theorem recovered_spec (t : List UInt8) (ht : t.length ≤ 1048576) : AFp Tryd.prog 39 [St8 t] (.tup [.own 0 9 .str (recL (lns t) 0).1, I (recL (lns t) 0).2]) := by
  obtain ⟨R, hR⟩ : ∃ R, recL (lns t) 0 = R := ⟨_, rfl⟩
  have hlen := recL_len (lns t) 0
  have htot := tot_lns _ t (Nat.le_refl _)
  have hcl := cuts_len 10 t
  have hll := lns_len t
  rw [hR] at hlen ⊢
  refine AF_body okG0 Tryd.func39 rfl rfl (by simp [Tryd.ntmps39]) (by simp) ?_; simp only [Tryd.ntmps39]
  refine aw_seq_k fun K1 hK1 => aw_region okG0 ?_; simp only [push_cast, Nat.reduceLT, Nat.reduceLeDiff, Nat.reduceEqDiff, reduceIte, reduceCtorEq, Nat.reduceAdd, Nat.reduceMul, Nat.reduceMod, Nat.reduceBEq, Nat.reduceBNe, List.reduceReplicate, Int.reduceLE, Int.reduceLT, Int.reduceNe]
  apply hK1; clear hK1
  refine aw_seq_k fun K2 hK2 => aw_region okG0 ?_; simp only [push_cast, Nat.reduceLT, Nat.reduceLeDiff, Nat.reduceEqDiff, reduceIte, reduceCtorEq, Nat.reduceAdd, Nat.reduceMul, Nat.reduceMod, Nat.reduceBEq, Nat.reduceBNe, List.reduceReplicate, Int.reduceLE, Int.reduceLT, Int.reduceNe]
  apply hK2; clear hK2
  refine aw_seq_k fun K3 hK3 => aw_region okG0 ?_; simp only [push_cast, Nat.reduceLT, Nat.reduceLeDiff, Nat.reduceEqDiff, reduceIte, reduceCtorEq, Nat.reduceAdd, Nat.reduceMul, Nat.reduceMod, Nat.reduceBEq, Nat.reduceBNe, List.reduceReplicate, Int.reduceLE, Int.reduceLT, Int.reduceNe]
  apply hK3; clear hK3
  refine aw_seq_k fun K4 hK4 => aw_region okG0 ?_; simp only [push_cast, Nat.reduceLT, Nat.reduceLeDiff, Nat.reduceEqDiff, reduceIte, reduceCtorEq, Nat.reduceAdd, Nat.reduceMul, Nat.reduceMod, Nat.reduceBEq, Nat.reduceBNe, List.reduceReplicate, Int.reduceLE, Int.reduceLT, Int.reduceNe]
  apply hK4; clear hK4
  refine aw_block ?_
  refine aw_loop (fun k : {k : Nat × Nat × List (List UInt8) // k.1 ≤ t.length ∧ RecOK (lns (t.drop k.1)) R k.2.1 k.2.2 k.1} => ⟨[(0, St8 t), (4, .own 1300 9 .str k.1.2.2), (5, I k.1.2.1), (6, I k.1.1)], [], [1300]⟩) (fun k => t.length - k.1.1) ⟨(0, 0, []), Nat.zero_le _, by decide, by rw [List.drop_zero, hR]; rfl, by rw [List.drop_zero, hR]; simp⟩ (sub_to (by simp [allE, getE] <;> rfl) (by simp [allB, getB] <;> rfl) rfl rfl rfl) ?_
  rintro ⟨⟨at_, c, out⟩, hat, hok⟩
  have hlens := hok.lens
  have hc0 := hok.hc
  simp only at hat hok hlens hc0
  refine aw_block ?_
  refine aw_seq_k fun K5 hK5 => aw_region okG0 ?_; simp only [push_cast, Nat.reduceLT, Nat.reduceLeDiff, Nat.reduceEqDiff, reduceIte, reduceCtorEq, Nat.reduceAdd, Nat.reduceMul, Nat.reduceMod, Nat.reduceBEq, Nat.reduceBNe, List.reduceReplicate, Int.reduceLE, Int.reduceLT, Int.reduceNe]
  refine ⟨⟨rfl, by unfold SlR; omega⟩, ?_⟩
  rw [List.take_length]
  refine call_pure (IndexByte_spec (t.drop at_) 10) (fits_of rfl) (by decide) rfl (by simp [idsV, idsVs]) ?_; simp only [push_cast, Nat.reduceLT, Nat.reduceLeDiff, Nat.reduceEqDiff, reduceIte, reduceCtorEq, Nat.reduceAdd, Nat.reduceMul, Nat.reduceMod, Nat.reduceBEq, Nat.reduceBNe, List.reduceReplicate, Int.reduceLE, Int.reduceLT, Int.reduceNe]
  rcases index_brk' 10 (t.drop at_) with ⟨hno, hix⟩ | ⟨a, b, hab, hna, hix⟩
  · rw [hix]
    apply hK5; clear hK5
    refine aw_seq_k fun K6 hK6 => ?_
    refine aw_seq_k fun K7 hK7 => aw_region okG0 ?_; simp only [push_cast, Nat.reduceLT, Nat.reduceLeDiff, Nat.reduceEqDiff, reduceIte, reduceCtorEq, Nat.reduceAdd, Nat.reduceMul, Nat.reduceMod, Nat.reduceBEq, Nat.reduceBNe, List.reduceReplicate, Int.reduceLE, Int.reduceLT, Int.reduceNe]
    apply hK7; clear hK7
    refine aw_cond rfl (fun hc => ?_) (fun hc => ?_)
    · refine aw_seq_k fun K8 hK8 => aw_region okG0 ?_; simp only [push_cast, Nat.reduceLT, Nat.reduceLeDiff, Nat.reduceEqDiff, reduceIte, reduceCtorEq, Nat.reduceAdd, Nat.reduceMul, Nat.reduceMod, Nat.reduceBEq, Nat.reduceBNe, List.reduceReplicate, Int.reduceLE, Int.reduceLT, Int.reduceNe]
      apply hK8; clear hK8
      have hend := hok.end (by rw [lns_not hno]; rfl)
      refine aw_ret (ret_o [(1300, 0)] rfl ?_ (by simp [renN]) rfl)
      rw [hend]
      rfl
    · simp at hc
  · rw [hix]
    have hdl : (t.drop at_).length = t.length - at_ := by simp
    rw [hab] at hdl hok
    rw [lns_app b hna] at hok
    have hal : a.length + (b.length + 1) = t.length - at_ := by simpa using hdl
    have hsl : (t.take (at_ + a.length)).drop at_ = a := by
      rw [List.drop_take, hab, show at_ + a.length - at_ = a.length by omega, List.take_left' rfl]
    have hb : t.drop (at_ + (a.length + 1)) = b := by
      rw [← List.drop_drop, hab, List.drop_append, List.drop_eq_nil_of_le (by omega)]
      simp
    apply hK5; clear hK5
    refine aw_seq_k fun K6 hK6 => ?_
    refine aw_seq_k fun K7 hK7 => aw_region okG0 ?_; simp only [push_cast, Nat.reduceLT, Nat.reduceLeDiff, Nat.reduceEqDiff, reduceIte, reduceCtorEq, Nat.reduceAdd, Nat.reduceMul, Nat.reduceMod, Nat.reduceBEq, Nat.reduceBNe, List.reduceReplicate, Int.reduceLE, Int.reduceLT, Int.reduceNe]
    apply hK7; clear hK7
    refine aw_cond rfl (fun hc => ?_) (fun hc => ?_)
    · simp at hc; omega
    · refine aw_skip ?_
      simp only [push_cast, Nat.reduceLT, Nat.reduceLeDiff, Nat.reduceEqDiff, reduceIte, reduceCtorEq, Nat.reduceAdd, Nat.reduceMul, Nat.reduceMod, Nat.reduceBEq, Nat.reduceBNe, List.reduceReplicate, Int.reduceLE, Int.reduceLT, Int.reduceNe]
      apply hK6; clear hK6
      refine aw_seq_k fun K9 hK9 => aw_region okG0 ?_; simp only [push_cast, Nat.reduceLT, Nat.reduceLeDiff, Nat.reduceEqDiff, reduceIte, reduceCtorEq, Nat.reduceAdd, Nat.reduceMul, Nat.reduceMod, Nat.reduceBEq, Nat.reduceBNe, List.reduceReplicate, Int.reduceLE, Int.reduceLT, Int.reduceNe]
      rw [w64 (n := (at_ : Int) + a.length) (by omega) (by omega), show ((at_ : Int) + a.length).toNat = at_ + a.length by omega, hsl]
      refine ⟨⟨rfl, by unfold SlR; omega⟩, ?_⟩
      refine call_pure (Cut_spec a 32 (by omega)) (fits_of rfl) (by decide) rfl (by simp [idsV, idsVs]) ?_; simp only [push_cast, Nat.reduceLT, Nat.reduceLeDiff, Nat.reduceEqDiff, reduceIte, reduceCtorEq, Nat.reduceAdd, Nat.reduceMul, Nat.reduceMod, Nat.reduceBEq, Nat.reduceBNe, List.reduceReplicate, Int.reduceLE, Int.reduceLT, Int.reduceNe]
      apply hK9; clear hK9
      obtain ⟨w, line, found, hcut⟩ : ∃ w line found, cutR 32 a = (w, line, found) := ⟨_, _, _, rfl⟩
      have hll2 : line.length ≤ 1048576 := by
        rcases cutR_cases 32 a with ⟨_, h⟩ | ⟨x, y, _, h, hl⟩
        · rw [h] at hcut; cases hcut; simp
        · rw [h] at hcut; cases hcut; omega
      rw [hcut]
      refine aw_seq_k fun K10 hK10 => aw_region okG0 ?_; simp only [push_cast, Nat.reduceLT, Nat.reduceLeDiff, Nat.reduceEqDiff, reduceIte, reduceCtorEq, Nat.reduceAdd, Nat.reduceMul, Nat.reduceMod, Nat.reduceBEq, Nat.reduceBNe, List.reduceReplicate, Int.reduceLE, Int.reduceLT, Int.reduceNe]
      refine call_pure (CheckOf_spec c line hc0 hll2) (fits_of rfl) (by decide) rfl (by simp [idsV, idsVs]) ?_; simp only [push_cast, Nat.reduceLT, Nat.reduceLeDiff, Nat.reduceEqDiff, reduceIte, reduceCtorEq, Nat.reduceAdd, Nat.reduceMul, Nat.reduceMod, Nat.reduceBEq, Nat.reduceBNe, List.reduceReplicate, Int.reduceLE, Int.reduceLT, Int.reduceNe]
      apply hK10; clear hK10
      have hck := chk_lt line c hc0
      refine aw_seq_k fun K11 hK11 => ?_
      refine aw_seq_k fun K12 hK12 => aw_region okG0 ?_; simp only [push_cast, Nat.reduceLT, Nat.reduceLeDiff, Nat.reduceEqDiff, reduceIte, reduceCtorEq, Nat.reduceAdd, Nat.reduceMul, Nat.reduceMod, Nat.reduceBEq, Nat.reduceBNe, List.reduceReplicate, Int.reduceLE, Int.reduceLT, Int.reduceNe]
      refine gcall_pure (fun _ => Decimal_spec (chk c line) (by omega)) (fun _ => fits_of rfl) (by decide) rfl rfl ?_; simp only [push_cast, Nat.reduceLT, Nat.reduceLeDiff, Nat.reduceEqDiff, reduceIte, reduceCtorEq, Nat.reduceAdd, Nat.reduceMul, Nat.reduceMod, Nat.reduceBEq, Nat.reduceBNe, List.reduceReplicate, Int.reduceLE, Int.reduceLT, Int.reduceNe]
      apply hK12; clear hK12
      refine aw_cond rfl (fun hc => ?_) (fun hc => ?_)
      · refine aw_seq_k fun K13 hK13 => aw_region okG0 ?_; simp only [push_cast, Nat.reduceLT, Nat.reduceLeDiff, Nat.reduceEqDiff, reduceIte, reduceCtorEq, Nat.reduceAdd, Nat.reduceMul, Nat.reduceMod, Nat.reduceBEq, Nat.reduceBNe, List.reduceReplicate, Int.reduceLE, Int.reduceLT, Int.reduceNe]
        apply hK13; clear hK13
        have hend := hok.end (by
          rcases cutR_cases 32 a with ⟨h0, h⟩ | ⟨x, y, h0, h, _⟩
          · exact recL_none h0
          · rw [h] at hcut; cases hcut
            exact recL_ne h0 (by simpa using hc))
        refine aw_ret (ret_o [(1300, 0)] rfl ?_ (by simp [renN]) rfl)
        rw [hend]
        rfl
      · have hnext : RecOK (lns b) R (chk c line) (out ++ [line]) (at_ + a.length + 1) := by
          rcases cutR_cases 32 a with ⟨h0, h⟩ | ⟨x, y, h0, h, _⟩
          · rw [h] at hcut; cases hcut; simp at hc
          · rw [h] at hcut; cases hcut
            exact hok.next h0 (by simpa using hc)
        refine aw_skip ?_
        simp only [push_cast, Nat.reduceLT, Nat.reduceLeDiff, Nat.reduceEqDiff, reduceIte, reduceCtorEq, Nat.reduceAdd, Nat.reduceMul, Nat.reduceMod, Nat.reduceBEq, Nat.reduceBNe, List.reduceReplicate, Int.reduceLE, Int.reduceLT, Int.reduceNe]
        apply hK11; clear hK11
        refine aw_seq_k fun K14 hK14 => aw_region okG0 ?_; simp only [push_cast, Nat.reduceLT, Nat.reduceLeDiff, Nat.reduceEqDiff, reduceIte, reduceCtorEq, Nat.reduceAdd, Nat.reduceMul, Nat.reduceMod, Nat.reduceBEq, Nat.reduceBNe, List.reduceReplicate, Int.reduceLE, Int.reduceLT, Int.reduceNe]
        refine ⟨by omega, by omega, ?_⟩
        apply hK14; clear hK14
        refine aw_seq_k fun K15 hK15 => aw_region okG0 ?_; simp only [push_cast, Nat.reduceLT, Nat.reduceLeDiff, Nat.reduceEqDiff, reduceIte, reduceCtorEq, Nat.reduceAdd, Nat.reduceMul, Nat.reduceMod, Nat.reduceBEq, Nat.reduceBNe, List.reduceReplicate, Int.reduceLE, Int.reduceLT, Int.reduceNe]
        apply hK15; clear hK15
        refine aw_region okG0 ?_
        simp only [push_cast, Nat.reduceLT, Nat.reduceLeDiff, Nat.reduceEqDiff, reduceIte, reduceCtorEq, Nat.reduceAdd, Nat.reduceMul, Nat.reduceMod, Nat.reduceBEq, Nat.reduceBNe, List.reduceReplicate, Int.reduceLE, Int.reduceLT, Int.reduceNe]
        rw [w64 (n := (a.length : Int) + 1) (by omega) (by omega), w64 (n := (at_ : Int) + ((a.length : Int) + 1)) (by omega) (by omega), show (at_ : Int) + ((a.length : Int) + 1) = ((at_ + (a.length + 1) : Nat) : Int) by omega]
        refine ⟨⟨(at_ + (a.length + 1), chk c line, out ++ [line]), by simp only; omega, by simp only; rw [hb]; exact hnext⟩, ?_, by show t.length - (at_ + (a.length + 1)) < t.length - at_; omega⟩
        exact sub_ren_to [(5200, 1300), (1300, 5200)] (by simp [renN]) rfl (by simp [allE, getE, renE, renV, renVs, renN]) (by simp [allB, getB, renB, renVs, renV, renN]) rfl rfl rfl
theorem brk_none {c : UInt8} {l : List UInt8} (h : c ∉ l) : brk c l = none := by
  rcases brk_spec c l with ⟨_, h1⟩ | ⟨a, b, rfl, _⟩
  · exact h1
  · simp at h
theorem brk_at {c : UInt8} {l : List UInt8} {j : Nat} (hj : j < l.length) (hn : c ∉ l.take j) (hc : l[j] = c) : brk c l = some (l.take j, l.drop (j + 1)) := by
  have e : l = l.take j ++ c :: l.drop (j + 1) := by rw [← hc, ← List.drop_eq_getElem_cons hj, List.take_append_drop]
  rcases brk_spec c l with ⟨h1, _⟩ | ⟨a, b, e2, h2, h3⟩
  · exact absurd (by rw [e]; simp) h1
  · obtain ⟨h4, h5⟩ := app_inj h2 hn (e2.symm.trans e)
    rw [h3, h4, h5]
theorem l08Recover_spec (t : List UInt8) (ht : t.length ≤ 1048576) : AFp Tryd.prog 38 [St8 t] (.tup [.own 0 9 .str (recL (lns t) 0).1, I (recL (lns t) 0).2]) := by
  obtain ⟨R, hR⟩ : ∃ R, recL (lns t) 0 = R := ⟨_, rfl⟩
  have hlen := recL_len (lns t) 0
  have htot := tot_lns _ t (Nat.le_refl _)
  have hcl := cuts_len 10 t
  have hll := lns_len t
  rw [hR] at hlen ⊢
  have hmem : ∀ i, i < (lns t).length → ((lns t).getD i []).length + 1 ≤ tot (lns t) := by
    generalize lns t = L
    intro i
    induction L generalizing i with
    | nil => intro h; simp at h
    | cons x L ih =>
      intro h
      cases i with
      | zero => simp [tot]
      | succ i => have := ih i (by simpa using h); simp [tot] at this ⊢; omega
  refine AF_body okG0 Tryd.func38 rfl rfl (by simp [Tryd.ntmps38]) (by simp) ?_; simp only [Tryd.ntmps38]
  refine aw_seq_k fun K1 hK1 => aw_region okG0 ?_; simp only [push_cast, Nat.reduceLT, Nat.reduceLeDiff, Nat.reduceEqDiff, reduceIte, reduceCtorEq, Nat.reduceAdd, Nat.reduceMul, Nat.reduceMod, Nat.reduceBEq, Nat.reduceBNe, List.reduceReplicate, Int.reduceLE, Int.reduceLT, Int.reduceNe]
  apply hK1; clear hK1
  refine aw_seq_k fun K2 hK2 => aw_region okG0 ?_; simp only [push_cast, Nat.reduceLT, Nat.reduceLeDiff, Nat.reduceEqDiff, reduceIte, reduceCtorEq, Nat.reduceAdd, Nat.reduceMul, Nat.reduceMod, Nat.reduceBEq, Nat.reduceBNe, List.reduceReplicate, Int.reduceLE, Int.reduceLT, Int.reduceNe]
  refine call_pure (l08Lines_spec t ht) (fits_of rfl) (by decide) rfl (by simp [idsV, idsVs]) ?_; simp only [push_cast, Nat.reduceLT, Nat.reduceLeDiff, Nat.reduceEqDiff, reduceIte, reduceCtorEq, Nat.reduceAdd, Nat.reduceMul, Nat.reduceMod, Nat.reduceBEq, Nat.reduceBNe, List.reduceReplicate, Int.reduceLE, Int.reduceLT, Int.reduceNe]
  apply hK2; clear hK2
  refine aw_seq_k fun K3 hK3 => aw_region okG0 ?_; simp only [push_cast, Nat.reduceLT, Nat.reduceLeDiff, Nat.reduceEqDiff, reduceIte, reduceCtorEq, Nat.reduceAdd, Nat.reduceMul, Nat.reduceMod, Nat.reduceBEq, Nat.reduceBNe, List.reduceReplicate, Int.reduceLE, Int.reduceLT, Int.reduceNe]
  apply hK3; clear hK3
  refine aw_seq_k fun K4 hK4 => aw_region okG0 ?_; simp only [push_cast, Nat.reduceLT, Nat.reduceLeDiff, Nat.reduceEqDiff, reduceIte, reduceCtorEq, Nat.reduceAdd, Nat.reduceMul, Nat.reduceMod, Nat.reduceBEq, Nat.reduceBNe, List.reduceReplicate, Int.reduceLE, Int.reduceLT, Int.reduceNe]
  apply hK4; clear hK4
  refine aw_seq_k fun K5 hK5 => aw_region okG0 ?_; simp only [push_cast, Nat.reduceLT, Nat.reduceLeDiff, Nat.reduceEqDiff, reduceIte, reduceCtorEq, Nat.reduceAdd, Nat.reduceMul, Nat.reduceMod, Nat.reduceBEq, Nat.reduceBNe, List.reduceReplicate, Int.reduceLE, Int.reduceLT, Int.reduceNe]
  apply hK5; clear hK5
  refine aw_seq_k fun K6 hK6 => ?_
  refine aw_seq_k fun K7 hK7 => aw_region okG0 ?_; simp only [push_cast, Nat.reduceLT, Nat.reduceLeDiff, Nat.reduceEqDiff, reduceIte, reduceCtorEq, Nat.reduceAdd, Nat.reduceMul, Nat.reduceMod, Nat.reduceBEq, Nat.reduceBNe, List.reduceReplicate, Int.reduceLE, Int.reduceLT, Int.reduceNe]
  apply hK7; clear hK7
  refine aw_block ?_
  refine aw_loop (fun k : {k : Nat × Nat × List (List UInt8) × Nat // k.1 ≤ (lns t).length ∧ RecOK ((lns t).drop k.1) R k.2.1 k.2.2.1 k.2.2.2} => ⟨[(4, .own 1400 9 .str (lns t)), (6, .own 1700 9 .str k.1.2.2.1), (7, I k.1.2.1), (8, I k.1.2.2.2), (9, I k.1.1)], [], [1400, 1700]⟩) (fun k => (lns t).length - k.1.1) ⟨(0, 0, [], 0), Nat.zero_le _, by decide, by rw [List.drop_zero, hR]; rfl, by rw [List.drop_zero, hR]; simp⟩ (sub_to (by simp [allE, getE] <;> rfl) (by simp [allB, getB] <;> rfl) rfl rfl rfl) ?_
  rintro ⟨⟨i, c, out, n⟩, hi, hok⟩
  have hlens := hok.lens
  have hc0 := hok.hc
  simp only at hi hok hlens hc0
  refine aw_seq_k fun K8 hK8 => ?_
  refine aw_seq_k fun K9 hK9 => aw_region okG0 ?_; simp only [push_cast, Nat.reduceLT, Nat.reduceLeDiff, Nat.reduceEqDiff, reduceIte, reduceCtorEq, Nat.reduceAdd, Nat.reduceMul, Nat.reduceMod, Nat.reduceBEq, Nat.reduceBNe, List.reduceReplicate, Int.reduceLE, Int.reduceLT, Int.reduceNe]
  apply hK9; clear hK9
  refine aw_cond rfl (fun hc => ?_) (fun hc => ?_)
  · have hlt : i < (lns t).length := by simpa using hc
    obtain ⟨l, hl⟩ : ∃ l, (lns t).getD i [] = l := ⟨_, rfl⟩
    have hll2 := hmem i hlt
    have hdrop : (lns t).drop i = l :: (lns t).drop (i + 1) := by
      rw [List.drop_eq_getElem_cons hlt, ← hl]; simp [List.getD, hlt]
    rw [hl] at hll2
    rw [hdrop] at hok
    refine aw_skip ?_
    simp only [push_cast, Nat.reduceLT, Nat.reduceLeDiff, Nat.reduceEqDiff, reduceIte, reduceCtorEq, Nat.reduceAdd, Nat.reduceMul, Nat.reduceMod, Nat.reduceBEq, Nat.reduceBNe, List.reduceReplicate, Int.reduceLE, Int.reduceLT, Int.reduceNe]
    apply hK8; clear hK8
    refine aw_seq_k fun K10 hK10 => ?_
    refine aw_block ?_
    refine aw_seq_k fun K11 hK11 => aw_region okG0 ?_; simp only [push_cast, Nat.reduceLT, Nat.reduceLeDiff, Nat.reduceEqDiff, reduceIte, reduceCtorEq, Nat.reduceAdd, Nat.reduceMul, Nat.reduceMod, Nat.reduceBEq, Nat.reduceBNe, List.reduceReplicate, Int.reduceLE, Int.reduceLT, Int.reduceNe]
    apply hK11; clear hK11
    refine aw_seq_k fun K12 hK12 => ?_
    refine aw_block ?_
    refine aw_loop (fun j : {j : Nat // j ≤ l.length ∧ (32 : UInt8) ∉ l.take j} => ⟨[(4, .own 1400 9 .str (lns t)), (6, .own 1700 9 .str out), (7, I c), (8, I n), (9, I i), (10, I j.1)], [], [1400, 1700]⟩) (fun j => l.length - j.1) ⟨0, Nat.zero_le _, by simp⟩ (sub_to (by simp [allE, getE] <;> rfl) (by simp [allB, getB] <;> rfl) rfl rfl rfl) ?_
    rintro ⟨j, hj, hjn⟩
    refine aw_seq_k fun K13 hK13 => ?_
    refine aw_seq_k fun K14 hK14 => aw_region okG0 ?_; simp only [push_cast, Nat.reduceLT, Nat.reduceLeDiff, Nat.reduceEqDiff, reduceIte, reduceCtorEq, Nat.reduceAdd, Nat.reduceMul, Nat.reduceMod, Nat.reduceBEq, Nat.reduceBNe, List.reduceReplicate, Int.reduceLE, Int.reduceLT, Int.reduceNe]
    rw [hl]
    have hgd : ∀ (h : j < l.length), l.getD j 0 = l[j] := fun h => by simp [List.getD, h]
    refine ⟨by unfold InR; omega, hlt, fun h => ⟨h, by unfold InR; omega⟩, fun h => ⟨h, hlt⟩, fun h => ⟨h, by simp at h; unfold InR; omega⟩, ?_⟩
    apply hK14; clear hK14
    refine aw_cond rfl (fun hc => ?_) (fun hc => ?_)
    · simp only [Bool.and_eq_true, decide_eq_true_eq, bne_iff_ne, ne_eq] at hc
      have hjl : j < l.length := by omega
      have hne : l[j] ≠ 32 := fun h => hc.2 (by rw [hgd hjl, h]; rfl)
      refine aw_skip ?_
      simp only [push_cast, Nat.reduceLT, Nat.reduceLeDiff, Nat.reduceEqDiff, reduceIte, reduceCtorEq, Nat.reduceAdd, Nat.reduceMul, Nat.reduceMod, Nat.reduceBEq, Nat.reduceBNe, List.reduceReplicate, Int.reduceLE, Int.reduceLT, Int.reduceNe]
      apply hK13; clear hK13
      refine aw_block ?_
      refine aw_region okG0 ?_
      simp only [push_cast, Nat.reduceLT, Nat.reduceLeDiff, Nat.reduceEqDiff, reduceIte, reduceCtorEq, Nat.reduceAdd, Nat.reduceMul, Nat.reduceMod, Nat.reduceBEq, Nat.reduceBNe, List.reduceReplicate, Int.reduceLE, Int.reduceLT, Int.reduceNe]
      refine ⟨⟨j + 1, by omega, ?_⟩, ?_, by show l.length - (j + 1) < l.length - j; omega⟩
      · rw [List.take_add_one, List.getElem?_eq_getElem hjl]
        simp only [Option.toList_some, List.mem_append, List.mem_singleton, not_or]
        exact ⟨hjn, Ne.symm hne⟩
      rw [w64 (n := (j : Int) + 1) (by omega) (by omega)]
      exact sub_to (by simp [allE, getE] <;> rfl) (by simp [allB, getB] <;> rfl) rfl rfl rfl
    · have hx : (j = l.length ∧ brk 32 l = none) ∨ (j < l.length ∧ brk 32 l = some (l.take j, l.drop (j + 1))) := by
        by_cases hjl : j < l.length
        · right
          refine ⟨hjl, brk_at hjl hjn ?_⟩
          simp only [Bool.and_eq_false_iff, decide_eq_false_iff_not, bne_eq_false_iff_eq] at hc
          have h2 := hc.resolve_left (by omega)
          rw [hgd hjl] at h2
          exact UInt8.toNat_inj.1 (by have : (32 : UInt8).toNat = 32 := rfl; omega)
        · have : j = l.length := by omega
          subst this
          rw [List.take_length] at hjn
          exact .inl ⟨rfl, brk_none hjn⟩
      refine aw_exit ?_
      simp only [push_cast, Nat.reduceLT, Nat.reduceLeDiff, Nat.reduceEqDiff, reduceIte, reduceCtorEq, Nat.reduceAdd, Nat.reduceMul, Nat.reduceMod, Nat.reduceBEq, Nat.reduceBNe, List.reduceReplicate, Int.reduceLE, Int.reduceLT, Int.reduceNe]
      apply hK12; clear hK12
      refine aw_seq_k fun K15 hK15 => ?_
      refine aw_seq_k fun K16 hK16 => aw_region okG0 ?_; simp only [push_cast, Nat.reduceLT, Nat.reduceLeDiff, Nat.reduceEqDiff, reduceIte, reduceCtorEq, Nat.reduceAdd, Nat.reduceMul, Nat.reduceMod, Nat.reduceBEq, Nat.reduceBNe, List.reduceReplicate, Int.reduceLE, Int.reduceLT, Int.reduceNe]
      rw [hl]
      refine ⟨by unfold InR; omega, hlt, ?_⟩
      apply hK16; clear hK16
      refine aw_cond rfl (fun hc => ?_) (fun hc => ?_)
      · have hj2 : j = l.length := by simp at hc; omega
        have hnone : brk 32 l = none := by
          rcases hx with ⟨_, h⟩ | ⟨h, _⟩
          · exact h
          · omega
        have hend := hok.end (recL_none hnone)
        refine aw_exit ?_
        simp only [push_cast, Nat.reduceLT, Nat.reduceLeDiff, Nat.reduceEqDiff, reduceIte, reduceCtorEq, Nat.reduceAdd, Nat.reduceMul, Nat.reduceMod, Nat.reduceBEq, Nat.reduceBNe, List.reduceReplicate, Int.reduceLE, Int.reduceLT, Int.reduceNe]
        apply hK6; clear hK6
        refine aw_seq_k fun K17 hK17 => aw_region okG0 ?_; simp only [push_cast, Nat.reduceLT, Nat.reduceLeDiff, Nat.reduceEqDiff, reduceIte, reduceCtorEq, Nat.reduceAdd, Nat.reduceMul, Nat.reduceMod, Nat.reduceBEq, Nat.reduceBNe, List.reduceReplicate, Int.reduceLE, Int.reduceLT, Int.reduceNe]
        apply hK17; clear hK17
        refine aw_ret (ret_o [(1700, 0), (1400, 1)] rfl ?_ (by simp [renN]) rfl)
        rw [hend]
        rfl
      · have hj2 : j ≠ l.length := by intro h; subst h; simp at hc
        obtain ⟨hjl, hbrk⟩ : j < l.length ∧ brk 32 l = some (l.take j, l.drop (j + 1)) := by
          rcases hx with ⟨h, _⟩ | h
          · exact absurd h hj2
          · exact h
        obtain ⟨line, hline⟩ : ∃ line, l.drop (j + 1) = line := ⟨_, rfl⟩
        have hlinel : line.length ≤ 1048576 := by rw [← hline]; simp; omega
        have hck := chk_lt line c hc0
        rw [hline] at hbrk
        refine aw_skip ?_
        simp only [push_cast, Nat.reduceLT, Nat.reduceLeDiff, Nat.reduceEqDiff, reduceIte, reduceCtorEq, Nat.reduceAdd, Nat.reduceMul, Nat.reduceMod, Nat.reduceBEq, Nat.reduceBNe, List.reduceReplicate, Int.reduceLE, Int.reduceLT, Int.reduceNe]
        apply hK15; clear hK15
        refine aw_seq_k fun K18 hK18 => aw_region okG0 ?_; simp only [push_cast, Nat.reduceLT, Nat.reduceLeDiff, Nat.reduceEqDiff, reduceIte, reduceCtorEq, Nat.reduceAdd, Nat.reduceMul, Nat.reduceMod, Nat.reduceBEq, Nat.reduceBNe, List.reduceReplicate, Int.reduceLE, Int.reduceLT, Int.reduceNe]
        rw [hl, w64 (n := (j : Int) + 1) (by omega) (by omega), show ((j : Int) + 1).toNat = j + 1 by omega, List.take_length, hline]
        refine ⟨by unfold InR; omega, hlt, ⟨rfl, by unfold SlR; omega⟩, ?_⟩
        apply hK18; clear hK18
        refine aw_seq_k fun K19 hK19 => aw_region okG0 ?_; simp only [push_cast, Nat.reduceLT, Nat.reduceLeDiff, Nat.reduceEqDiff, reduceIte, reduceCtorEq, Nat.reduceAdd, Nat.reduceMul, Nat.reduceMod, Nat.reduceBEq, Nat.reduceBNe, List.reduceReplicate, Int.reduceLE, Int.reduceLT, Int.reduceNe]
        refine call_pure (l01Check_spec c line hc0 hlinel) (fits_of rfl) (by decide) rfl (by simp [idsV, idsVs]) ?_; simp only [push_cast, Nat.reduceLT, Nat.reduceLeDiff, Nat.reduceEqDiff, reduceIte, reduceCtorEq, Nat.reduceAdd, Nat.reduceMul, Nat.reduceMod, Nat.reduceBEq, Nat.reduceBNe, List.reduceReplicate, Int.reduceLE, Int.reduceLT, Int.reduceNe]
        apply hK19; clear hK19
        refine aw_seq_k fun K20 hK20 => ?_
        refine aw_seq_k fun K21 hK21 => aw_draw fol okG0 8 (by kernel_rfl) ?_; simp only [push_cast, Nat.reduceLT, Nat.reduceLeDiff, Nat.reduceEqDiff, reduceIte, reduceCtorEq, Nat.reduceAdd, Nat.reduceMul, Nat.reduceMod, Nat.reduceBEq, Nat.reduceBNe, List.reduceReplicate, Int.reduceLE, Int.reduceLT, Int.reduceNe]
        rw [hl]
        refine ⟨by unfold InR; omega, hlt, ⟨rfl, by unfold SlR; omega⟩, ?_⟩
        refine ⟨_, _, l01Dec_spec (chk c line) (by omega), .inl ⟨fits_of rfl, rfl⟩, ?_⟩; simp only [push_cast, Nat.reduceLT, Nat.reduceLeDiff, Nat.reduceEqDiff, reduceIte, reduceCtorEq, Nat.reduceAdd, Nat.reduceMul, Nat.reduceMod, Nat.reduceBEq, Nat.reduceBNe, List.reduceReplicate, Int.reduceLE, Int.reduceLT, Int.reduceNe]
        apply hK21; clear hK21
        rw [show Int.toNat 0 = 0 from rfl, List.drop_zero]
        refine aw_cond rfl (fun hc => ?_) (fun hc => ?_)
        · have hend := hok.end (recL_ne hbrk (by simpa using hc))
          refine aw_exit ?_
          simp only [push_cast, Nat.reduceLT, Nat.reduceLeDiff, Nat.reduceEqDiff, reduceIte, reduceCtorEq, Nat.reduceAdd, Nat.reduceMul, Nat.reduceMod, Nat.reduceBEq, Nat.reduceBNe, List.reduceReplicate, Int.reduceLE, Int.reduceLT, Int.reduceNe]
          apply hK6; clear hK6
          refine aw_seq_k fun K22 hK22 => aw_region okG0 ?_; simp only [push_cast, Nat.reduceLT, Nat.reduceLeDiff, Nat.reduceEqDiff, reduceIte, reduceCtorEq, Nat.reduceAdd, Nat.reduceMul, Nat.reduceMod, Nat.reduceBEq, Nat.reduceBNe, List.reduceReplicate, Int.reduceLE, Int.reduceLT, Int.reduceNe]
          apply hK22; clear hK22
          refine aw_ret (ret_o [(1700, 0), (1400, 1)] rfl ?_ (by simp [renN]) rfl)
          rw [hend]
          rfl
        · have hnext := hok.next hbrk (by simpa using hc)
          have hn2 := hnext.lens
          refine aw_skip ?_
          simp only [push_cast, Nat.reduceLT, Nat.reduceLeDiff, Nat.reduceEqDiff, reduceIte, reduceCtorEq, Nat.reduceAdd, Nat.reduceMul, Nat.reduceMod, Nat.reduceBEq, Nat.reduceBNe, List.reduceReplicate, Int.reduceLE, Int.reduceLT, Int.reduceNe]
          apply hK20; clear hK20
          refine aw_seq_k fun K23 hK23 => aw_region okG0 ?_; simp only [push_cast, Nat.reduceLT, Nat.reduceLeDiff, Nat.reduceEqDiff, reduceIte, reduceCtorEq, Nat.reduceAdd, Nat.reduceMul, Nat.reduceMod, Nat.reduceBEq, Nat.reduceBNe, List.reduceReplicate, Int.reduceLE, Int.reduceLT, Int.reduceNe]
          refine ⟨by omega, by omega, ?_⟩
          apply hK23; clear hK23
          refine aw_region okG0 ?_
          simp only [push_cast, Nat.reduceLT, Nat.reduceLeDiff, Nat.reduceEqDiff, reduceIte, reduceCtorEq, Nat.reduceAdd, Nat.reduceMul, Nat.reduceMod, Nat.reduceBEq, Nat.reduceBNe, List.reduceReplicate, Int.reduceLE, Int.reduceLT, Int.reduceNe]
          rw [hl]
          refine ⟨by unfold InR; omega, hlt, ?_⟩
          apply hK10; clear hK10
          refine aw_region okG0 ?_
          simp only [push_cast, Nat.reduceLT, Nat.reduceLeDiff, Nat.reduceEqDiff, reduceIte, reduceCtorEq, Nat.reduceAdd, Nat.reduceMul, Nat.reduceMod, Nat.reduceBEq, Nat.reduceBNe, List.reduceReplicate, Int.reduceLE, Int.reduceLT, Int.reduceNe]
          rw [w64 (n := (l.length : Int) + 1) (by omega) (by omega), w64 (n := (n : Int) + ((l.length : Int) + 1)) (by omega) (by omega), w64 (n := (i : Int) + 1) (by omega) (by omega), show (n : Int) + ((l.length : Int) + 1) = ((n + l.length + 1 : Nat) : Int) by omega]
          refine ⟨⟨(i + 1, chk c line, out ++ [line], n + l.length + 1), by simp only; omega, hnext⟩, ?_, by show (lns t).length - (i + 1) < (lns t).length - i; omega⟩
          exact sub_ren_to [(7100, 1700), (1700, 7100)] (by simp [renN]) rfl (by simp [allE, getE, renE, renV, renVs, renN]) (by simp [allB, getB, renB, renVs, renV, renN]) rfl rfl rfl
  · have hlt : i = (lns t).length := by have : ¬ (i : Int) < (lns t).length := by simpa using hc
                                        omega
    have hend := hok.end (by rw [List.drop_eq_nil_of_le (by omega)]; rfl)
    refine aw_exit ?_
    simp only [push_cast, Nat.reduceLT, Nat.reduceLeDiff, Nat.reduceEqDiff, reduceIte, reduceCtorEq, Nat.reduceAdd, Nat.reduceMul, Nat.reduceMod, Nat.reduceBEq, Nat.reduceBNe, List.reduceReplicate, Int.reduceLE, Int.reduceLT, Int.reduceNe]
    apply hK6; clear hK6
    refine aw_seq_k fun K24 hK24 => aw_region okG0 ?_; simp only [push_cast, Nat.reduceLT, Nat.reduceLeDiff, Nat.reduceEqDiff, reduceIte, reduceCtorEq, Nat.reduceAdd, Nat.reduceMul, Nat.reduceMod, Nat.reduceBEq, Nat.reduceBNe, List.reduceReplicate, Int.reduceLE, Int.reduceLT, Int.reduceNe]
    apply hK24; clear hK24
    refine aw_ret (ret_o [(1700, 0), (1400, 1)] rfl ?_ (by simp [renN]) rfl)
    rw [hend]
    rfl
end Go.Proofs.Avx

set_option linter.unusedVariables false
set_option linter.unusedSimpArgs false
namespace Go.Proofs.Avx
theorem rjBig15 (t : List UInt8) (h : 16000 < t.length) : AFp Tryd.prog 15 [St8 t] (.tup [.nilsl, I 0, Bo false]) := by
  refine AF_body okG0 Tryd.func15 rfl rfl (by simp [Tryd.ntmps15]) (by simp) ?_; simp only [Tryd.ntmps15]
  refine aw_seq_k fun K1 hK1 => aw_region okG0 ?_; simp only [push_cast, Nat.reduceLT, Nat.reduceLeDiff, Nat.reduceEqDiff, reduceIte, reduceCtorEq, Nat.reduceAdd, Nat.reduceMul, Nat.reduceMod, Nat.reduceBEq, Nat.reduceBNe, List.reduceReplicate, Int.reduceLE, Int.reduceLT, Int.reduceNe]
  apply hK1; clear hK1
  refine aw_seq_k fun K2 hK2 => ?_
  refine aw_seq_k fun K3 hK3 => aw_region okG0 ?_; simp only [push_cast, Nat.reduceLT, Nat.reduceLeDiff, Nat.reduceEqDiff, reduceIte, reduceCtorEq, Nat.reduceAdd, Nat.reduceMul, Nat.reduceMod, Nat.reduceBEq, Nat.reduceBNe, List.reduceReplicate, Int.reduceLE, Int.reduceLT, Int.reduceNe]
  apply hK3; clear hK3
  refine aw_cond rfl (fun hc => ?_) (fun hc => ?_)
  · refine aw_seq_k fun K4 hK4 => aw_region okG0 ?_; simp only [push_cast, Nat.reduceLT, Nat.reduceLeDiff, Nat.reduceEqDiff, reduceIte, reduceCtorEq, Nat.reduceAdd, Nat.reduceMul, Nat.reduceMod, Nat.reduceBEq, Nat.reduceBNe, List.reduceReplicate, Int.reduceLE, Int.reduceLT, Int.reduceNe]
    apply hK4; clear hK4
    exact aw_ret (ret_p rfl rfl rfl (by simp))
  · simp at hc; omega
theorem rjSmall15 (t : List UInt8) (h : ¬ 16000 < t.length) : AFp Tryd.prog 15 [St8 t] (.tup [.own 0 9 .str (recL (lns t) 0).1, I (recL (lns t) 0).2, Bo true]) := by
  refine AF_body okG0 Tryd.func15 rfl rfl (by simp [Tryd.ntmps15]) (by simp) ?_; simp only [Tryd.ntmps15]
  refine aw_seq_k fun K1 hK1 => aw_region okG0 ?_; simp only [push_cast, Nat.reduceLT, Nat.reduceLeDiff, Nat.reduceEqDiff, reduceIte, reduceCtorEq, Nat.reduceAdd, Nat.reduceMul, Nat.reduceMod, Nat.reduceBEq, Nat.reduceBNe, List.reduceReplicate, Int.reduceLE, Int.reduceLT, Int.reduceNe]
  apply hK1; clear hK1
  refine aw_seq_k fun K2 hK2 => ?_
  refine aw_seq_k fun K3 hK3 => aw_region okG0 ?_; simp only [push_cast, Nat.reduceLT, Nat.reduceLeDiff, Nat.reduceEqDiff, reduceIte, reduceCtorEq, Nat.reduceAdd, Nat.reduceMul, Nat.reduceMod, Nat.reduceBEq, Nat.reduceBNe, List.reduceReplicate, Int.reduceLE, Int.reduceLT, Int.reduceNe]
  apply hK3; clear hK3
  refine aw_cond rfl (fun hc => ?_) (fun hc => ?_)
  · simp at hc; omega
  · refine aw_skip ?_
    simp only [push_cast, Nat.reduceLT, Nat.reduceLeDiff, Nat.reduceEqDiff, reduceIte, reduceCtorEq, Nat.reduceAdd, Nat.reduceMul, Nat.reduceMod, Nat.reduceBEq, Nat.reduceBNe, List.reduceReplicate, Int.reduceLE, Int.reduceLT, Int.reduceNe]
    apply hK2; clear hK2
    refine aw_seq_k fun K5 hK5 => aw_region okG0 ?_; simp only [push_cast, Nat.reduceLT, Nat.reduceLeDiff, Nat.reduceEqDiff, reduceIte, reduceCtorEq, Nat.reduceAdd, Nat.reduceMul, Nat.reduceMod, Nat.reduceBEq, Nat.reduceBNe, List.reduceReplicate, Int.reduceLE, Int.reduceLT, Int.reduceNe]
    refine call_pure (l08Recover_spec t (by omega)) (fits_of rfl) (by decide) rfl (by simp [idsV, idsVs]) ?_; simp only [push_cast, Nat.reduceLT, Nat.reduceLeDiff, Nat.reduceEqDiff, reduceIte, reduceCtorEq, Nat.reduceAdd, Nat.reduceMul, Nat.reduceMod, Nat.reduceBEq, Nat.reduceBNe, List.reduceReplicate, Int.reduceLE, Int.reduceLT, Int.reduceNe]
    apply hK5; clear hK5
    refine aw_seq_k fun K6 hK6 => aw_region okG0 ?_; simp only [push_cast, Nat.reduceLT, Nat.reduceLeDiff, Nat.reduceEqDiff, reduceIte, reduceCtorEq, Nat.reduceAdd, Nat.reduceMul, Nat.reduceMod, Nat.reduceBEq, Nat.reduceBNe, List.reduceReplicate, Int.reduceLE, Int.reduceLT, Int.reduceNe]
    apply hK6; clear hK6
    exact aw_ret (ret_o [(1200, 0)] rfl rfl (by simp [renN]) rfl)
theorem rjBig16 (t : List UInt8) (h : 16000 < t.length) : AFp Tryd.prog 16 [St8 t] (.tup [.nilsl, I 0, Bo false]) := by
  refine AF_body okG0 Tryd.func16 rfl rfl (by simp [Tryd.ntmps16]) (by simp) ?_; simp only [Tryd.ntmps16]
  refine aw_seq_k fun K1 hK1 => aw_region okG0 ?_; simp only [push_cast, Nat.reduceLT, Nat.reduceLeDiff, Nat.reduceEqDiff, reduceIte, reduceCtorEq, Nat.reduceAdd, Nat.reduceMul, Nat.reduceMod, Nat.reduceBEq, Nat.reduceBNe, List.reduceReplicate, Int.reduceLE, Int.reduceLT, Int.reduceNe]
  apply hK1; clear hK1
  refine aw_seq_k fun K2 hK2 => ?_
  refine aw_seq_k fun K3 hK3 => aw_region okG0 ?_; simp only [push_cast, Nat.reduceLT, Nat.reduceLeDiff, Nat.reduceEqDiff, reduceIte, reduceCtorEq, Nat.reduceAdd, Nat.reduceMul, Nat.reduceMod, Nat.reduceBEq, Nat.reduceBNe, List.reduceReplicate, Int.reduceLE, Int.reduceLT, Int.reduceNe]
  apply hK3; clear hK3
  refine aw_cond rfl (fun hc => ?_) (fun hc => ?_)
  · refine aw_seq_k fun K4 hK4 => aw_region okG0 ?_; simp only [push_cast, Nat.reduceLT, Nat.reduceLeDiff, Nat.reduceEqDiff, reduceIte, reduceCtorEq, Nat.reduceAdd, Nat.reduceMul, Nat.reduceMod, Nat.reduceBEq, Nat.reduceBNe, List.reduceReplicate, Int.reduceLE, Int.reduceLT, Int.reduceNe]
    apply hK4; clear hK4
    exact aw_ret (ret_p rfl rfl rfl (by simp))
  · simp at hc; omega
theorem rjSmall16 (t : List UInt8) (h : ¬ 16000 < t.length) : AFp Tryd.prog 16 [St8 t] (.tup [.own 0 9 .str (recL (lns t) 0).1, I (recL (lns t) 0).2, Bo true]) := by
  refine AF_body okG0 Tryd.func16 rfl rfl (by simp [Tryd.ntmps16]) (by simp) ?_; simp only [Tryd.ntmps16]
  refine aw_seq_k fun K1 hK1 => aw_region okG0 ?_; simp only [push_cast, Nat.reduceLT, Nat.reduceLeDiff, Nat.reduceEqDiff, reduceIte, reduceCtorEq, Nat.reduceAdd, Nat.reduceMul, Nat.reduceMod, Nat.reduceBEq, Nat.reduceBNe, List.reduceReplicate, Int.reduceLE, Int.reduceLT, Int.reduceNe]
  apply hK1; clear hK1
  refine aw_seq_k fun K2 hK2 => ?_
  refine aw_seq_k fun K3 hK3 => aw_region okG0 ?_; simp only [push_cast, Nat.reduceLT, Nat.reduceLeDiff, Nat.reduceEqDiff, reduceIte, reduceCtorEq, Nat.reduceAdd, Nat.reduceMul, Nat.reduceMod, Nat.reduceBEq, Nat.reduceBNe, List.reduceReplicate, Int.reduceLE, Int.reduceLT, Int.reduceNe]
  apply hK3; clear hK3
  refine aw_cond rfl (fun hc => ?_) (fun hc => ?_)
  · simp at hc; omega
  · refine aw_skip ?_
    simp only [push_cast, Nat.reduceLT, Nat.reduceLeDiff, Nat.reduceEqDiff, reduceIte, reduceCtorEq, Nat.reduceAdd, Nat.reduceMul, Nat.reduceMod, Nat.reduceBEq, Nat.reduceBNe, List.reduceReplicate, Int.reduceLE, Int.reduceLT, Int.reduceNe]
    apply hK2; clear hK2
    refine aw_seq_k fun K5 hK5 => aw_region okG0 ?_; simp only [push_cast, Nat.reduceLT, Nat.reduceLeDiff, Nat.reduceEqDiff, reduceIte, reduceCtorEq, Nat.reduceAdd, Nat.reduceMul, Nat.reduceMod, Nat.reduceBEq, Nat.reduceBNe, List.reduceReplicate, Int.reduceLE, Int.reduceLT, Int.reduceNe]
    refine call_pure (recovered_spec t (by omega)) (fits_of rfl) (by decide) rfl (by simp [idsV, idsVs]) ?_; simp only [push_cast, Nat.reduceLT, Nat.reduceLeDiff, Nat.reduceEqDiff, reduceIte, reduceCtorEq, Nat.reduceAdd, Nat.reduceMul, Nat.reduceMod, Nat.reduceBEq, Nat.reduceBNe, List.reduceReplicate, Int.reduceLE, Int.reduceLT, Int.reduceNe]
    apply hK5; clear hK5
    refine aw_seq_k fun K6 hK6 => aw_region okG0 ?_; simp only [push_cast, Nat.reduceLT, Nat.reduceLeDiff, Nat.reduceEqDiff, reduceIte, reduceCtorEq, Nat.reduceAdd, Nat.reduceMul, Nat.reduceMod, Nat.reduceBEq, Nat.reduceBNe, List.reduceReplicate, Int.reduceLE, Int.reduceLT, Int.reduceNe]
    apply hK6; clear hK6
    exact aw_ret (ret_o [(1200, 0)] rfl rfl (by simp [renN]) rfl)
theorem AFp_fits {P : Program} {f : FuncId} {a b : List AV} {res : AV} (h : fitsVs a b) (H : AFp P f b res) : AFp P f a res := fun β Y w vs hE hr hb => H β Y w vs hE (relVs_fits _ _ _ h hr) hb
theorem eqNil_spec : AFp Tryd.prog 14 [.nilsl, .nilsl] (Bo true) := AFp_fits (by simp [fitsVs, fitsV, isNilA]) (eqStringS_spec [] (by simp))
theorem markNil_spec' (k0 : Nat) : AFp Tryd.prog 17 [.nilsl, I k0] (I k0) := AFp_fits (by simp [fitsVs, fitsV, isNilA]) (markNil_spec k0)
theorem heldNil_spec : AFp Tryd.prog 18 [.nilsl, I 1] (I 1) := AFp_fits (by simp [fitsVs, fitsV, isNilA, mk]) (heldStringS_spec 0 1 (by decide) (by decide) (by decide))
theorem lawRecover_spec (t : List UInt8) : AFp Tryd.prog 5 [St8 t] (Bo true) := by
  by_cases hbig : 16000 < t.length
  · refine AF_body okG0 Tryd.func5 rfl rfl (by simp [Tryd.ntmps5]) (by simp) ?_; simp only [Tryd.ntmps5]
    refine aw_seq_k fun K1 hK1 => aw_region okG0 ?_; simp only [push_cast, Nat.reduceLT, Nat.reduceLeDiff, Nat.reduceEqDiff, reduceIte, reduceCtorEq, Nat.reduceAdd, Nat.reduceMul, Nat.reduceMod, Nat.reduceBEq, Nat.reduceBNe, List.reduceReplicate, Int.reduceLE, Int.reduceLT, Int.reduceNe]
    apply hK1; clear hK1
    refine aw_seq_k fun K2 hK2 => ?_
    refine aw_seq_k fun K3 hK3 => aw_region okG0 ?_; simp only [push_cast, Nat.reduceLT, Nat.reduceLeDiff, Nat.reduceEqDiff, reduceIte, reduceCtorEq, Nat.reduceAdd, Nat.reduceMul, Nat.reduceMod, Nat.reduceBEq, Nat.reduceBNe, List.reduceReplicate, Int.reduceLE, Int.reduceLT, Int.reduceNe]
    apply hK3; clear hK3
    refine aw_cond rfl (fun hc => ?_) (fun hc => ?_)
    · refine aw_seq_k fun K4 hK4 => aw_region okG0 ?_; simp only [push_cast, Nat.reduceLT, Nat.reduceLeDiff, Nat.reduceEqDiff, reduceIte, reduceCtorEq, Nat.reduceAdd, Nat.reduceMul, Nat.reduceMod, Nat.reduceBEq, Nat.reduceBNe, List.reduceReplicate, Int.reduceLE, Int.reduceLT, Int.reduceNe]
      apply hK4; clear hK4
      exact aw_ret (ret_p rfl rfl rfl (by simp))
    · refine aw_skip ?_
      simp only [push_cast, Nat.reduceLT, Nat.reduceLeDiff, Nat.reduceEqDiff, reduceIte, reduceCtorEq, Nat.reduceAdd, Nat.reduceMul, Nat.reduceMod, Nat.reduceBEq, Nat.reduceBNe, List.reduceReplicate, Int.reduceLE, Int.reduceLT, Int.reduceNe]
      apply hK2; clear hK2
      refine aw_seq_k fun K5 hK5 => aw_region okG0 ?_; simp only [push_cast, Nat.reduceLT, Nat.reduceLeDiff, Nat.reduceEqDiff, reduceIte, reduceCtorEq, Nat.reduceAdd, Nat.reduceMul, Nat.reduceMod, Nat.reduceBEq, Nat.reduceBNe, List.reduceReplicate, Int.reduceLE, Int.reduceLT, Int.reduceNe]
      refine call_pure (rjBig15 t hbig) (fits_of rfl) (by decide) rfl (by simp [idsV, idsVs]) ?_; simp only [push_cast, Nat.reduceLT, Nat.reduceLeDiff, Nat.reduceEqDiff, reduceIte, reduceCtorEq, Nat.reduceAdd, Nat.reduceMul, Nat.reduceMod, Nat.reduceBEq, Nat.reduceBNe, List.reduceReplicate, Int.reduceLE, Int.reduceLT, Int.reduceNe]
      apply hK5; clear hK5
      refine aw_seq_k fun K6 hK6 => aw_region okG0 ?_; simp only [push_cast, Nat.reduceLT, Nat.reduceLeDiff, Nat.reduceEqDiff, reduceIte, reduceCtorEq, Nat.reduceAdd, Nat.reduceMul, Nat.reduceMod, Nat.reduceBEq, Nat.reduceBNe, List.reduceReplicate, Int.reduceLE, Int.reduceLT, Int.reduceNe]
      refine call_pure (rjBig16 t hbig) (fits_of rfl) (by decide) rfl (by simp [idsV, idsVs]) ?_; simp only [push_cast, Nat.reduceLT, Nat.reduceLeDiff, Nat.reduceEqDiff, reduceIte, reduceCtorEq, Nat.reduceAdd, Nat.reduceMul, Nat.reduceMod, Nat.reduceBEq, Nat.reduceBNe, List.reduceReplicate, Int.reduceLE, Int.reduceLT, Int.reduceNe]
      apply hK6; clear hK6
      refine aw_seq_k fun K7 hK7 => ?_
      refine aw_seq_k fun K8 hK8 => aw_region okG0 ?_; simp only [push_cast, Nat.reduceLT, Nat.reduceLeDiff, Nat.reduceEqDiff, reduceIte, reduceCtorEq, Nat.reduceAdd, Nat.reduceMul, Nat.reduceMod, Nat.reduceBEq, Nat.reduceBNe, List.reduceReplicate, Int.reduceLE, Int.reduceLT, Int.reduceNe]
      refine call_pure (eqNil_spec) (fits_of rfl) (by decide) rfl (by simp [idsV, idsVs]) ?_; simp only [push_cast, Nat.reduceLT, Nat.reduceLeDiff, Nat.reduceEqDiff, reduceIte, reduceCtorEq, Nat.reduceAdd, Nat.reduceMul, Nat.reduceMod, Nat.reduceBEq, Nat.reduceBNe, List.reduceReplicate, Int.reduceLE, Int.reduceLT, Int.reduceNe]
      apply hK8; clear hK8
      refine aw_cond rfl (fun hc => ?_) (fun hc => ?_)
      · simp at hc
      · refine aw_skip ?_
        simp only [push_cast, Nat.reduceLT, Nat.reduceLeDiff, Nat.reduceEqDiff, reduceIte, reduceCtorEq, Nat.reduceAdd, Nat.reduceMul, Nat.reduceMod, Nat.reduceBEq, Nat.reduceBNe, List.reduceReplicate, Int.reduceLE, Int.reduceLT, Int.reduceNe]
        apply hK7; clear hK7
        refine aw_seq_k fun K10 hK10 => aw_region okG0 ?_; simp only [push_cast, Nat.reduceLT, Nat.reduceLeDiff, Nat.reduceEqDiff, reduceIte, reduceCtorEq, Nat.reduceAdd, Nat.reduceMul, Nat.reduceMod, Nat.reduceBEq, Nat.reduceBNe, List.reduceReplicate, Int.reduceLE, Int.reduceLT, Int.reduceNe]
        apply hK10; clear hK10
        refine aw_seq_k fun K11 hK11 => aw_region okG0 ?_; simp only [push_cast, Nat.reduceLT, Nat.reduceLeDiff, Nat.reduceEqDiff, reduceIte, reduceCtorEq, Nat.reduceAdd, Nat.reduceMul, Nat.reduceMod, Nat.reduceBEq, Nat.reduceBNe, List.reduceReplicate, Int.reduceLE, Int.reduceLT, Int.reduceNe]
        refine call_pure (markNil_spec' 1) (fits_of rfl) (by decide) rfl (by simp [idsV, idsVs]) ?_; simp only [push_cast, Nat.reduceLT, Nat.reduceLeDiff, Nat.reduceEqDiff, reduceIte, reduceCtorEq, Nat.reduceAdd, Nat.reduceMul, Nat.reduceMod, Nat.reduceBEq, Nat.reduceBNe, List.reduceReplicate, Int.reduceLE, Int.reduceLT, Int.reduceNe]
        apply hK11; clear hK11
        refine aw_seq_k fun K12 hK12 => aw_region okG0 ?_; simp only [push_cast, Nat.reduceLT, Nat.reduceLeDiff, Nat.reduceEqDiff, reduceIte, reduceCtorEq, Nat.reduceAdd, Nat.reduceMul, Nat.reduceMod, Nat.reduceBEq, Nat.reduceBNe, List.reduceReplicate, Int.reduceLE, Int.reduceLT, Int.reduceNe]
        apply hK12; clear hK12
        refine aw_seq_k fun K13 hK13 => aw_region okG0 ?_; simp only [push_cast, Nat.reduceLT, Nat.reduceLeDiff, Nat.reduceEqDiff, reduceIte, reduceCtorEq, Nat.reduceAdd, Nat.reduceMul, Nat.reduceMod, Nat.reduceBEq, Nat.reduceBNe, List.reduceReplicate, Int.reduceLE, Int.reduceLT, Int.reduceNe]
        refine call_pure (heldNil_spec) (fits_of rfl) (by decide) rfl (by simp [idsV, idsVs]) ?_; simp only [push_cast, Nat.reduceLT, Nat.reduceLeDiff, Nat.reduceEqDiff, reduceIte, reduceCtorEq, Nat.reduceAdd, Nat.reduceMul, Nat.reduceMod, Nat.reduceBEq, Nat.reduceBNe, List.reduceReplicate, Int.reduceLE, Int.reduceLT, Int.reduceNe]
        apply hK13; clear hK13
        refine aw_seq_k fun K14 hK14 => ?_
        refine aw_seq_k fun K15 hK15 => aw_region okG0 ?_; simp only [push_cast, Nat.reduceLT, Nat.reduceLeDiff, Nat.reduceEqDiff, reduceIte, reduceCtorEq, Nat.reduceAdd, Nat.reduceMul, Nat.reduceMod, Nat.reduceBEq, Nat.reduceBNe, List.reduceReplicate, Int.reduceLE, Int.reduceLT, Int.reduceNe]
        apply hK15; clear hK15
        refine aw_cond rfl (fun hc => ?_) (fun hc => ?_)
        · simp at hc 
        · refine aw_skip ?_
          simp only [push_cast, Nat.reduceLT, Nat.reduceLeDiff, Nat.reduceEqDiff, reduceIte, reduceCtorEq, Nat.reduceAdd, Nat.reduceMul, Nat.reduceMod, Nat.reduceBEq, Nat.reduceBNe, List.reduceReplicate, Int.reduceLE, Int.reduceLT, Int.reduceNe]
          apply hK14; clear hK14
          refine aw_seq_k fun K17 hK17 => ?_
          refine aw_seq_k fun K18 hK18 => aw_region okG0 ?_; simp only [push_cast, Nat.reduceLT, Nat.reduceLeDiff, Nat.reduceEqDiff, reduceIte, reduceCtorEq, Nat.reduceAdd, Nat.reduceMul, Nat.reduceMod, Nat.reduceBEq, Nat.reduceBNe, List.reduceReplicate, Int.reduceLE, Int.reduceLT, Int.reduceNe]
          apply hK18; clear hK18
          refine aw_cond rfl (fun hc => ?_) (fun hc => ?_)
          · simp at hc
          · refine aw_skip ?_
            simp only [push_cast, Nat.reduceLT, Nat.reduceLeDiff, Nat.reduceEqDiff, reduceIte, reduceCtorEq, Nat.reduceAdd, Nat.reduceMul, Nat.reduceMod, Nat.reduceBEq, Nat.reduceBNe, List.reduceReplicate, Int.reduceLE, Int.reduceLT, Int.reduceNe]
            apply hK17; clear hK17
            refine aw_seq_k fun K20 hK20 => aw_region okG0 ?_; simp only [push_cast, Nat.reduceLT, Nat.reduceLeDiff, Nat.reduceEqDiff, reduceIte, reduceCtorEq, Nat.reduceAdd, Nat.reduceMul, Nat.reduceMod, Nat.reduceBEq, Nat.reduceBNe, List.reduceReplicate, Int.reduceLE, Int.reduceLT, Int.reduceNe]
            refine call_pure (rjBig16 t hbig) (fits_of rfl) (by decide) rfl (by simp [idsV, idsVs]) ?_; simp only [push_cast, Nat.reduceLT, Nat.reduceLeDiff, Nat.reduceEqDiff, reduceIte, reduceCtorEq, Nat.reduceAdd, Nat.reduceMul, Nat.reduceMod, Nat.reduceBEq, Nat.reduceBNe, List.reduceReplicate, Int.reduceLE, Int.reduceLT, Int.reduceNe]
            apply hK20; clear hK20
            refine aw_seq_k fun K21 hK21 => ?_
            refine aw_seq_k fun K22 hK22 => aw_region okG0 ?_; simp only [push_cast, Nat.reduceLT, Nat.reduceLeDiff, Nat.reduceEqDiff, reduceIte, reduceCtorEq, Nat.reduceAdd, Nat.reduceMul, Nat.reduceMod, Nat.reduceBEq, Nat.reduceBNe, List.reduceReplicate, Int.reduceLE, Int.reduceLT, Int.reduceNe]
            refine call_pure (eqNil_spec) (fits_of rfl) (by decide) rfl (by simp [idsV, idsVs]) ?_; simp only [push_cast, Nat.reduceLT, Nat.reduceLeDiff, Nat.reduceEqDiff, reduceIte, reduceCtorEq, Nat.reduceAdd, Nat.reduceMul, Nat.reduceMod, Nat.reduceBEq, Nat.reduceBNe, List.reduceReplicate, Int.reduceLE, Int.reduceLT, Int.reduceNe]
            apply hK22; clear hK22
            refine aw_cond rfl (fun hc => ?_) (fun hc => ?_)
            · simp at hc
            · refine aw_skip ?_
              simp only [push_cast, Nat.reduceLT, Nat.reduceLeDiff, Nat.reduceEqDiff, reduceIte, reduceCtorEq, Nat.reduceAdd, Nat.reduceMul, Nat.reduceMod, Nat.reduceBEq, Nat.reduceBNe, List.reduceReplicate, Int.reduceLE, Int.reduceLT, Int.reduceNe]
              apply hK21; clear hK21
              refine aw_seq_k fun K24 hK24 => aw_region okG0 ?_; simp only [push_cast, Nat.reduceLT, Nat.reduceLeDiff, Nat.reduceEqDiff, reduceIte, reduceCtorEq, Nat.reduceAdd, Nat.reduceMul, Nat.reduceMod, Nat.reduceBEq, Nat.reduceBNe, List.reduceReplicate, Int.reduceLE, Int.reduceLT, Int.reduceNe]
              apply hK24; clear hK24
              refine aw_seq_k fun K25 hK25 => aw_region okG0 ?_; simp only [push_cast, Nat.reduceLT, Nat.reduceLeDiff, Nat.reduceEqDiff, reduceIte, reduceCtorEq, Nat.reduceAdd, Nat.reduceMul, Nat.reduceMod, Nat.reduceBEq, Nat.reduceBNe, List.reduceReplicate, Int.reduceLE, Int.reduceLT, Int.reduceNe]
              refine call_pure (heldNil_spec) (fits_of rfl) (by decide) rfl (by simp [idsV, idsVs]) ?_; simp only [push_cast, Nat.reduceLT, Nat.reduceLeDiff, Nat.reduceEqDiff, reduceIte, reduceCtorEq, Nat.reduceAdd, Nat.reduceMul, Nat.reduceMod, Nat.reduceBEq, Nat.reduceBNe, List.reduceReplicate, Int.reduceLE, Int.reduceLT, Int.reduceNe]
              apply hK25; clear hK25
              refine aw_seq_k fun K26 hK26 => ?_
              refine aw_seq_k fun K27 hK27 => aw_region okG0 ?_; simp only [push_cast, Nat.reduceLT, Nat.reduceLeDiff, Nat.reduceEqDiff, reduceIte, reduceCtorEq, Nat.reduceAdd, Nat.reduceMul, Nat.reduceMod, Nat.reduceBEq, Nat.reduceBNe, List.reduceReplicate, Int.reduceLE, Int.reduceLT, Int.reduceNe]
              apply hK27; clear hK27
              refine aw_cond rfl (fun hc => ?_) (fun hc => ?_)
              · simp at hc 
              · refine aw_skip ?_
                simp only [push_cast, Nat.reduceLT, Nat.reduceLeDiff, Nat.reduceEqDiff, reduceIte, reduceCtorEq, Nat.reduceAdd, Nat.reduceMul, Nat.reduceMod, Nat.reduceBEq, Nat.reduceBNe, List.reduceReplicate, Int.reduceLE, Int.reduceLT, Int.reduceNe]
                apply hK26; clear hK26
                refine aw_seq_k fun K29 hK29 => ?_
                refine aw_seq_k fun K30 hK30 => aw_region okG0 ?_; simp only [push_cast, Nat.reduceLT, Nat.reduceLeDiff, Nat.reduceEqDiff, reduceIte, reduceCtorEq, Nat.reduceAdd, Nat.reduceMul, Nat.reduceMod, Nat.reduceBEq, Nat.reduceBNe, List.reduceReplicate, Int.reduceLE, Int.reduceLT, Int.reduceNe]
                apply hK30; clear hK30
                refine aw_cond rfl (fun hc => ?_) (fun hc => ?_)
                · simp at hc
                · refine aw_skip ?_
                  simp only [push_cast, Nat.reduceLT, Nat.reduceLeDiff, Nat.reduceEqDiff, reduceIte, reduceCtorEq, Nat.reduceAdd, Nat.reduceMul, Nat.reduceMod, Nat.reduceBEq, Nat.reduceBNe, List.reduceReplicate, Int.reduceLE, Int.reduceLT, Int.reduceNe]
                  apply hK29; clear hK29
                  refine aw_seq_k fun K32 hK32 => aw_region okG0 ?_; simp only [push_cast, Nat.reduceLT, Nat.reduceLeDiff, Nat.reduceEqDiff, reduceIte, reduceCtorEq, Nat.reduceAdd, Nat.reduceMul, Nat.reduceMod, Nat.reduceBEq, Nat.reduceBNe, List.reduceReplicate, Int.reduceLE, Int.reduceLT, Int.reduceNe]
                  apply hK32; clear hK32
                  exact aw_ret (ret_p rfl rfl rfl (by simp))
  · have hlen := recL_len (lns t) 0
    have hcl := cuts_len 10 t
    have hll := lns_len t
    obtain ⟨R, hR⟩ : ∃ R, recL (lns t) 0 = R := ⟨_, rfl⟩
    have h15 := rjSmall15 t hbig
    have h16 := rjSmall16 t hbig
    rw [hR] at hlen h15 h16
    refine AF_body okG0 Tryd.func5 rfl rfl (by simp [Tryd.ntmps5]) (by simp) ?_; simp only [Tryd.ntmps5]
    refine aw_seq_k fun K1 hK1 => aw_region okG0 ?_; simp only [push_cast, Nat.reduceLT, Nat.reduceLeDiff, Nat.reduceEqDiff, reduceIte, reduceCtorEq, Nat.reduceAdd, Nat.reduceMul, Nat.reduceMod, Nat.reduceBEq, Nat.reduceBNe, List.reduceReplicate, Int.reduceLE, Int.reduceLT, Int.reduceNe]
    apply hK1; clear hK1
    refine aw_seq_k fun K2 hK2 => ?_
    refine aw_seq_k fun K3 hK3 => aw_region okG0 ?_; simp only [push_cast, Nat.reduceLT, Nat.reduceLeDiff, Nat.reduceEqDiff, reduceIte, reduceCtorEq, Nat.reduceAdd, Nat.reduceMul, Nat.reduceMod, Nat.reduceBEq, Nat.reduceBNe, List.reduceReplicate, Int.reduceLE, Int.reduceLT, Int.reduceNe]
    apply hK3; clear hK3
    refine aw_cond rfl (fun hc => ?_) (fun hc => ?_)
    · refine aw_seq_k fun K4 hK4 => aw_region okG0 ?_; simp only [push_cast, Nat.reduceLT, Nat.reduceLeDiff, Nat.reduceEqDiff, reduceIte, reduceCtorEq, Nat.reduceAdd, Nat.reduceMul, Nat.reduceMod, Nat.reduceBEq, Nat.reduceBNe, List.reduceReplicate, Int.reduceLE, Int.reduceLT, Int.reduceNe]
      apply hK4; clear hK4
      exact aw_ret (ret_p rfl rfl rfl (by simp))
    · refine aw_skip ?_
      simp only [push_cast, Nat.reduceLT, Nat.reduceLeDiff, Nat.reduceEqDiff, reduceIte, reduceCtorEq, Nat.reduceAdd, Nat.reduceMul, Nat.reduceMod, Nat.reduceBEq, Nat.reduceBNe, List.reduceReplicate, Int.reduceLE, Int.reduceLT, Int.reduceNe]
      apply hK2; clear hK2
      refine aw_seq_k fun K5 hK5 => aw_region okG0 ?_; simp only [push_cast, Nat.reduceLT, Nat.reduceLeDiff, Nat.reduceEqDiff, reduceIte, reduceCtorEq, Nat.reduceAdd, Nat.reduceMul, Nat.reduceMod, Nat.reduceBEq, Nat.reduceBNe, List.reduceReplicate, Int.reduceLE, Int.reduceLT, Int.reduceNe]
      refine call_pure (h15) (fits_of rfl) (by decide) rfl (by simp [idsV, idsVs]) ?_; simp only [push_cast, Nat.reduceLT, Nat.reduceLeDiff, Nat.reduceEqDiff, reduceIte, reduceCtorEq, Nat.reduceAdd, Nat.reduceMul, Nat.reduceMod, Nat.reduceBEq, Nat.reduceBNe, List.reduceReplicate, Int.reduceLE, Int.reduceLT, Int.reduceNe]
      apply hK5; clear hK5
      refine aw_seq_k fun K6 hK6 => aw_region okG0 ?_; simp only [push_cast, Nat.reduceLT, Nat.reduceLeDiff, Nat.reduceEqDiff, reduceIte, reduceCtorEq, Nat.reduceAdd, Nat.reduceMul, Nat.reduceMod, Nat.reduceBEq, Nat.reduceBNe, List.reduceReplicate, Int.reduceLE, Int.reduceLT, Int.reduceNe]
      refine call_pure (h16) (fits_of rfl) (by decide) rfl (by simp [idsV, idsVs]) ?_; simp only [push_cast, Nat.reduceLT, Nat.reduceLeDiff, Nat.reduceEqDiff, reduceIte, reduceCtorEq, Nat.reduceAdd, Nat.reduceMul, Nat.reduceMod, Nat.reduceBEq, Nat.reduceBNe, List.reduceReplicate, Int.reduceLE, Int.reduceLT, Int.reduceNe]
      apply hK6; clear hK6
      refine aw_seq_k fun K7 hK7 => ?_
      refine aw_seq_k fun K8 hK8 => aw_region okG0 ?_; simp only [push_cast, Nat.reduceLT, Nat.reduceLeDiff, Nat.reduceEqDiff, reduceIte, reduceCtorEq, Nat.reduceAdd, Nat.reduceMul, Nat.reduceMod, Nat.reduceBEq, Nat.reduceBNe, List.reduceReplicate, Int.reduceLE, Int.reduceLT, Int.reduceNe]
      refine call_pure (eqStringS_spec R.1 (by omega)) (fits_of rfl) (by decide) rfl (by simp [idsV, idsVs]) ?_; simp only [push_cast, Nat.reduceLT, Nat.reduceLeDiff, Nat.reduceEqDiff, reduceIte, reduceCtorEq, Nat.reduceAdd, Nat.reduceMul, Nat.reduceMod, Nat.reduceBEq, Nat.reduceBNe, List.reduceReplicate, Int.reduceLE, Int.reduceLT, Int.reduceNe]
      apply hK8; clear hK8
      refine aw_cond rfl (fun hc => ?_) (fun hc => ?_)
      · simp at hc
      · refine aw_skip ?_
        simp only [push_cast, Nat.reduceLT, Nat.reduceLeDiff, Nat.reduceEqDiff, reduceIte, reduceCtorEq, Nat.reduceAdd, Nat.reduceMul, Nat.reduceMod, Nat.reduceBEq, Nat.reduceBNe, List.reduceReplicate, Int.reduceLE, Int.reduceLT, Int.reduceNe]
        apply hK7; clear hK7
        refine aw_seq_k fun K10 hK10 => aw_region okG0 ?_; simp only [push_cast, Nat.reduceLT, Nat.reduceLeDiff, Nat.reduceEqDiff, reduceIte, reduceCtorEq, Nat.reduceAdd, Nat.reduceMul, Nat.reduceMod, Nat.reduceBEq, Nat.reduceBNe, List.reduceReplicate, Int.reduceLE, Int.reduceLT, Int.reduceNe]
        apply hK10; clear hK10
        refine aw_seq_k fun K11 hK11 => aw_region okG0 ?_; simp only [push_cast, Nat.reduceLT, Nat.reduceLeDiff, Nat.reduceEqDiff, reduceIte, reduceCtorEq, Nat.reduceAdd, Nat.reduceMul, Nat.reduceMod, Nat.reduceBEq, Nat.reduceBNe, List.reduceReplicate, Int.reduceLE, Int.reduceLT, Int.reduceNe]
        refine call_io false [(2500, 98)] (markStringS_spec R.1 1 (by decide) (by decide) (by omega)) rfl (fits_of rfl) (by decide) (by decide) rfl (by simp [ioOK, getB, back, borVs, borV, kee, inSnd, fitsVs, fitsV]) rfl (by simp [newIds, idsV, idsVs, inSnd, dstN]) (by rfl) (by rfl) rfl (.inl rfl) ?_; simp only [push_cast, Nat.reduceLT, Nat.reduceLeDiff, Nat.reduceEqDiff, reduceIte, reduceCtorEq, Nat.reduceAdd, Nat.reduceMul, Nat.reduceMod, Nat.reduceBEq, Nat.reduceBNe, List.reduceReplicate, Int.reduceLE, Int.reduceLT, Int.reduceNe]
        simp only [mk_len, if_true]
        apply hK11; clear hK11
        refine aw_seq_k fun K12 hK12 => aw_region okG0 ?_; simp only [push_cast, Nat.reduceLT, Nat.reduceLeDiff, Nat.reduceEqDiff, reduceIte, reduceCtorEq, Nat.reduceAdd, Nat.reduceMul, Nat.reduceMod, Nat.reduceBEq, Nat.reduceBNe, List.reduceReplicate, Int.reduceLE, Int.reduceLT, Int.reduceNe]
        apply hK12; clear hK12
        refine aw_seq_k fun K13 hK13 => aw_region okG0 ?_; simp only [push_cast, Nat.reduceLT, Nat.reduceLeDiff, Nat.reduceEqDiff, reduceIte, reduceCtorEq, Nat.reduceAdd, Nat.reduceMul, Nat.reduceMod, Nat.reduceBEq, Nat.reduceBNe, List.reduceReplicate, Int.reduceLE, Int.reduceLT, Int.reduceNe]
        refine call_pure (heldStringS_spec R.1.length 1 (by decide) (by decide) (by omega)) (fits_of rfl) (by decide) rfl (by simp [idsV, idsVs]) ?_; simp only [push_cast, Nat.reduceLT, Nat.reduceLeDiff, Nat.reduceEqDiff, reduceIte, reduceCtorEq, Nat.reduceAdd, Nat.reduceMul, Nat.reduceMod, Nat.reduceBEq, Nat.reduceBNe, List.reduceReplicate, Int.reduceLE, Int.reduceLT, Int.reduceNe]
        apply hK13; clear hK13
        refine aw_seq_k fun K14 hK14 => ?_
        refine aw_seq_k fun K15 hK15 => aw_region okG0 ?_; simp only [push_cast, Nat.reduceLT, Nat.reduceLeDiff, Nat.reduceEqDiff, reduceIte, reduceCtorEq, Nat.reduceAdd, Nat.reduceMul, Nat.reduceMod, Nat.reduceBEq, Nat.reduceBNe, List.reduceReplicate, Int.reduceLE, Int.reduceLT, Int.reduceNe]
        apply hK15; clear hK15
        refine aw_cond rfl (fun hc => ?_) (fun hc => ?_)
        · simp at hc <;> omega
        · refine aw_skip ?_
          simp only [push_cast, Nat.reduceLT, Nat.reduceLeDiff, Nat.reduceEqDiff, reduceIte, reduceCtorEq, Nat.reduceAdd, Nat.reduceMul, Nat.reduceMod, Nat.reduceBEq, Nat.reduceBNe, List.reduceReplicate, Int.reduceLE, Int.reduceLT, Int.reduceNe]
          apply hK14; clear hK14
          refine aw_seq_k fun K17 hK17 => ?_
          refine aw_seq_k fun K18 hK18 => aw_region okG0 ?_; simp only [push_cast, Nat.reduceLT, Nat.reduceLeDiff, Nat.reduceEqDiff, reduceIte, reduceCtorEq, Nat.reduceAdd, Nat.reduceMul, Nat.reduceMod, Nat.reduceBEq, Nat.reduceBNe, List.reduceReplicate, Int.reduceLE, Int.reduceLT, Int.reduceNe]
          apply hK18; clear hK18
          refine aw_cond rfl (fun hc => ?_) (fun hc => ?_)
          · simp at hc
          · refine aw_skip ?_
            simp only [push_cast, Nat.reduceLT, Nat.reduceLeDiff, Nat.reduceEqDiff, reduceIte, reduceCtorEq, Nat.reduceAdd, Nat.reduceMul, Nat.reduceMod, Nat.reduceBEq, Nat.reduceBNe, List.reduceReplicate, Int.reduceLE, Int.reduceLT, Int.reduceNe]
            apply hK17; clear hK17
            refine aw_seq_k fun K20 hK20 => aw_region okG0 ?_; simp only [push_cast, Nat.reduceLT, Nat.reduceLeDiff, Nat.reduceEqDiff, reduceIte, reduceCtorEq, Nat.reduceAdd, Nat.reduceMul, Nat.reduceMod, Nat.reduceBEq, Nat.reduceBNe, List.reduceReplicate, Int.reduceLE, Int.reduceLT, Int.reduceNe]
            refine call_pure (h16) (fits_of rfl) (by decide) rfl (by simp [idsV, idsVs]) ?_; simp only [push_cast, Nat.reduceLT, Nat.reduceLeDiff, Nat.reduceEqDiff, reduceIte, reduceCtorEq, Nat.reduceAdd, Nat.reduceMul, Nat.reduceMod, Nat.reduceBEq, Nat.reduceBNe, List.reduceReplicate, Int.reduceLE, Int.reduceLT, Int.reduceNe]
            apply hK20; clear hK20
            refine aw_seq_k fun K21 hK21 => ?_
            refine aw_seq_k fun K22 hK22 => aw_region okG0 ?_; simp only [push_cast, Nat.reduceLT, Nat.reduceLeDiff, Nat.reduceEqDiff, reduceIte, reduceCtorEq, Nat.reduceAdd, Nat.reduceMul, Nat.reduceMod, Nat.reduceBEq, Nat.reduceBNe, List.reduceReplicate, Int.reduceLE, Int.reduceLT, Int.reduceNe]
            refine call_pure (eqStringS_spec R.1 (by omega)) (fits_of rfl) (by decide) rfl (by simp [idsV, idsVs]) ?_; simp only [push_cast, Nat.reduceLT, Nat.reduceLeDiff, Nat.reduceEqDiff, reduceIte, reduceCtorEq, Nat.reduceAdd, Nat.reduceMul, Nat.reduceMod, Nat.reduceBEq, Nat.reduceBNe, List.reduceReplicate, Int.reduceLE, Int.reduceLT, Int.reduceNe]
            apply hK22; clear hK22
            refine aw_cond rfl (fun hc => ?_) (fun hc => ?_)
            · simp at hc
            · refine aw_skip ?_
              simp only [push_cast, Nat.reduceLT, Nat.reduceLeDiff, Nat.reduceEqDiff, reduceIte, reduceCtorEq, Nat.reduceAdd, Nat.reduceMul, Nat.reduceMod, Nat.reduceBEq, Nat.reduceBNe, List.reduceReplicate, Int.reduceLE, Int.reduceLT, Int.reduceNe]
              apply hK21; clear hK21
              refine aw_seq_k fun K24 hK24 => aw_region okG0 ?_; simp only [push_cast, Nat.reduceLT, Nat.reduceLeDiff, Nat.reduceEqDiff, reduceIte, reduceCtorEq, Nat.reduceAdd, Nat.reduceMul, Nat.reduceMod, Nat.reduceBEq, Nat.reduceBNe, List.reduceReplicate, Int.reduceLE, Int.reduceLT, Int.reduceNe]
              apply hK24; clear hK24
              refine aw_seq_k fun K25 hK25 => aw_region okG0 ?_; simp only [push_cast, Nat.reduceLT, Nat.reduceLeDiff, Nat.reduceEqDiff, reduceIte, reduceCtorEq, Nat.reduceAdd, Nat.reduceMul, Nat.reduceMod, Nat.reduceBEq, Nat.reduceBNe, List.reduceReplicate, Int.reduceLE, Int.reduceLT, Int.reduceNe]
              refine call_pure (heldStringS_spec R.1.length 1 (by decide) (by decide) (by omega)) (fits_of rfl) (by decide) rfl (by simp [idsV, idsVs]) ?_; simp only [push_cast, Nat.reduceLT, Nat.reduceLeDiff, Nat.reduceEqDiff, reduceIte, reduceCtorEq, Nat.reduceAdd, Nat.reduceMul, Nat.reduceMod, Nat.reduceBEq, Nat.reduceBNe, List.reduceReplicate, Int.reduceLE, Int.reduceLT, Int.reduceNe]
              apply hK25; clear hK25
              refine aw_seq_k fun K26 hK26 => ?_
              refine aw_seq_k fun K27 hK27 => aw_region okG0 ?_; simp only [push_cast, Nat.reduceLT, Nat.reduceLeDiff, Nat.reduceEqDiff, reduceIte, reduceCtorEq, Nat.reduceAdd, Nat.reduceMul, Nat.reduceMod, Nat.reduceBEq, Nat.reduceBNe, List.reduceReplicate, Int.reduceLE, Int.reduceLT, Int.reduceNe]
              apply hK27; clear hK27
              refine aw_cond rfl (fun hc => ?_) (fun hc => ?_)
              · simp at hc <;> omega
              · refine aw_skip ?_
                simp only [push_cast, Nat.reduceLT, Nat.reduceLeDiff, Nat.reduceEqDiff, reduceIte, reduceCtorEq, Nat.reduceAdd, Nat.reduceMul, Nat.reduceMod, Nat.reduceBEq, Nat.reduceBNe, List.reduceReplicate, Int.reduceLE, Int.reduceLT, Int.reduceNe]
                apply hK26; clear hK26
                refine aw_seq_k fun K29 hK29 => ?_
                refine aw_seq_k fun K30 hK30 => aw_region okG0 ?_; simp only [push_cast, Nat.reduceLT, Nat.reduceLeDiff, Nat.reduceEqDiff, reduceIte, reduceCtorEq, Nat.reduceAdd, Nat.reduceMul, Nat.reduceMod, Nat.reduceBEq, Nat.reduceBNe, List.reduceReplicate, Int.reduceLE, Int.reduceLT, Int.reduceNe]
                apply hK30; clear hK30
                refine aw_cond rfl (fun hc => ?_) (fun hc => ?_)
                · simp at hc
                · refine aw_skip ?_
                  simp only [push_cast, Nat.reduceLT, Nat.reduceLeDiff, Nat.reduceEqDiff, reduceIte, reduceCtorEq, Nat.reduceAdd, Nat.reduceMul, Nat.reduceMod, Nat.reduceBEq, Nat.reduceBNe, List.reduceReplicate, Int.reduceLE, Int.reduceLT, Int.reduceNe]
                  apply hK29; clear hK29
                  refine aw_seq_k fun K32 hK32 => aw_region okG0 ?_; simp only [push_cast, Nat.reduceLT, Nat.reduceLeDiff, Nat.reduceEqDiff, reduceIte, reduceCtorEq, Nat.reduceAdd, Nat.reduceMul, Nat.reduceMod, Nat.reduceBEq, Nat.reduceBNe, List.reduceReplicate, Int.reduceLE, Int.reduceLT, Int.reduceNe]
                  apply hK32; clear hK32
                  exact aw_ret (ret_p rfl rfl rfl (by simp))
end Go.Proofs.Avx
