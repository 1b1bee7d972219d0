/- What slices.Repeat computes of a list of one number -1 and a count from 1 to 32. -/
import Derived.Test.YtgbkecenhbcihaaLnA
import Derived.Laws.CopyRow
set_option linter.unusedVariables false
set_option linter.unusedSimpArgs false
set_option maxRecDepth 20000
namespace Go.Proofs.Avx
/-- The region of slices.Repeat that doubles what is there. -/
noncomputable def rep9 : Array Oper := match Try.f254.body with
  | some c => find c
  | none => #[]
where find : Code → Array Oper
  | .region i ops _ => if i = 9 then ops else #[]
  | .seq x y => find x ++ find y
  | .block _ c => find c
  | .loop c => find c
  | .cond _ x y => find x ++ find y
  | _ => #[]
example : rep9.size = 10 := by kernel_rfl
theorem eval_put_same (a : Act) (d : Nat) (v : Value) (h : d < a.tmps.size) : (a.put (some d) v).eval (.tmp d) = v := by
  simp [Act.eval, Act.put, h]
theorem eval_put_ne (a : Act) (d t : Nat) (v : Value) (h : t ≠ d) : (a.put (some d) v).eval (.tmp t) = a.eval (.tmp t) := by
  have := getD_put
  simp only [Act.eval, Act.put]
  simp [Array.getD_eq_getD_getElem?, Array.getElem?_setIfInBounds, Ne.symm h]
theorem size_put (a : Act) (d : Option Nat) (v : Value) : (a.put d v).tmps.size = a.tmps.size := by
  cases d <;> simp [Act.put]
end Go.Proofs.Avx

set_option linter.unusedVariables false
set_option linter.unusedSimpArgs false
set_option maxRecDepth 20000
namespace Go.Proofs.Avx
theorem relL_ints {Y : Nat → Prop} {w : World} : ∀ {l : List Int} {xs : List Value}, relL (relT Y w (.int .i64)) l xs → xs = l.map (Value.int .i64)
  | [], xs, h => h
  | a :: l, xs, ⟨c, d, e, h1, h2⟩ => by
    have : c = [.int .i64 a] := h1
    rw [e, this, relL_ints h2]; rfl
theorem ints_relL {Y : Nat → Prop} {w : World} : ∀ (l : List Int), relL (relT Y w (.int .i64)) l (l.map (Value.int .i64))
  | [] => rfl
  | a :: l => ⟨[.int .i64 a], _, rfl, rfl, ints_relL l⟩
theorem und25 : Try.prog.underlying 25 = some (.slice 2) := Try.underlying25
theorem slice_hi (a : Act) (w : World) (b n cap k : Nat) (hk : k ≤ n) (hc : n ≤ cap) : (Instr.sliceAt 25 (.slice (some ⟨b, 0, none⟩) n cap) none (some (.int .i64 k)) none).run Try.prog w = .ok (.slice (some ⟨b, 0, none⟩) k cap) w := by
  have hbd := run_bounds (P := Try.prog) (w := w) (isS := true) (len := n) (cap := cap) (lo := none) (hi := some (.int .i64 k)) (a := 0) (b := k) (.inl ⟨rfl, rfl⟩) (.inr ⟨.i64, rfl⟩) (Int.le_refl _) (by omega) (by omega) hc
  have hsz := run_sizeOf_of (P := Try.prog) (w := w) (okG0.get tgG0_2)
  have h0 : (⟨b, 0, none⟩ : Addr).add 0 = ⟨b, 0, none⟩ := by simp [Addr.add]
  simp [Instr.sliceAt, Instr.slice, run_und und25, hbd, hsz, h0]
  try exact fun h => h.symm
theorem slice_lo (a : Act) (w : World) (b n cap k : Nat) (hk : k ≤ n) (hk2 : k < cap) (hc : n ≤ cap) : (Instr.sliceAt 25 (.slice (some ⟨b, 0, none⟩) n cap) (some (.int .i64 k)) none none).run Try.prog w = .ok (.slice (some ⟨b, k, none⟩) (n - k) (cap - k)) w := by
  have hbd := run_bounds (P := Try.prog) (w := w) (isS := true) (len := n) (cap := cap) (lo := some (.int .i64 k)) (hi := none) (a := k) (b := n) (.inr ⟨.i64, rfl⟩) (.inl ⟨rfl, rfl⟩) (by omega) (by omega) (by omega) hc
  have hsz := run_sizeOf_of (P := Try.prog) (w := w) (okG0.get tgG0_2)
  have h0 : (⟨b, 0, none⟩ : Addr).add k = ⟨b, k, none⟩ := by rw [add_spot, Nat.zero_add]
  have hne : ¬ cap = k := by omega
  simp [Instr.sliceAt, Instr.slice, run_und und25, hbd, hsz, h0, hne]
end Go.Proofs.Avx

set_option linter.unusedVariables false
set_option linter.unusedSimpArgs false
set_option maxRecDepth 20000
namespace Go.Proofs.Avx
theorem rop {i d : Nat} {op : Op} (h : (rep9[i]?).map (fun o => (o.dst, o.op, o.guard)) = some (some d, op, none)) : ∃ o, rep9[i]? = some o ∧ o.dst = some d ∧ o.op = op ∧ o.guard = none := by
  obtain ⟨o, h1, h2⟩ := Option.map_eq_some_iff.1 h
  simp only [Prod.mk.injEq] at h2
  exact ⟨o, h1, h2.1, h2.2.1, h2.2.2⟩
theorem rep_take {i d : Nat} {op : Op} (h : (rep9[i]?).map (fun o => (o.dst, o.op, o.guard)) = some (some d, op, none)) {v : Value} {fuel : Nat} {listed : Array Bool} {a : Act} {w : World} {Q : Exit → Act → World → Prop}
    (hf : Region.free .any rep9 listed i = true) (hr : (Region.ready .any rep9 listed).contains i = true) (hQ : ∀ c a w, ¬ Q (.panic c) a w)
    (hy : ∀ o : Oper, o.op = op → ∀ w, (execOp a.eval o).run Try.prog w = .ok (.value v) w) (hk : wpAny Try.prog .any rep9 Q fuel (listed.setIfInBounds i true) (a.put (some d) v) w) : wpAny Try.prog .any rep9 Q (fuel + 1) listed a w := by
  obtain ⟨o, h1, h2, h3, h4⟩ := rop h
  refine wpAny_take h1 (by kernel_rfl) hf hr (fun c a w hp => absurd hp (hQ c _ w)) (.inl ⟨by simp [Region.wanted, h4], fun w => hy o h3 w⟩) ?_
  rw [h2]; exact hk
end Go.Proofs.Avx

set_option linter.unusedVariables false
set_option linter.unusedSimpArgs false
set_option maxRecDepth 20000
namespace Go.Proofs.Avx
theorem eval_put (a : Act) (d t : Nat) (v : Value) (h : d < a.tmps.size) : (a.put (some d) v).eval (.tmp t) = if t = d then v else a.eval (.tmp t) := by
  by_cases e : t = d
  · subst e; rw [if_pos rfl, eval_put_same a t v h]
  · rw [if_neg e, eval_put_ne a d t v e]
theorem defers_put (a : Act) (d : Option Nat) (v : Value) : (a.put d v).defers = a.defers := by cases d <;> rfl
set_option maxHeartbeats 1000000 in
/-- Region 9: what is there is copied behind itself. -/
theorem rep9_run {a : Act} {w : World} {b n cap k : Nat} {cur : Array Value} (hs : a.tmps.size = 48) (h7 : a.eval (.tmp 7) = .slice (some ⟨b, 0, none⟩) n cap) (h8 : a.eval (.tmp 8) = .int .i64 k)
    (hh : w.heap[b]? = some (.cells cur 2 (0, 0))) (hc : cur.size = cap) (hn : n ≤ cap) (hk : 1 ≤ k) (hkn : k < n) (hcap : n ≤ 1000000) (h1 : ∀ v ∈ cur.toList.take n, v.oneCell' = true) {Q : Exit → Act → World → Prop} (hQp : ∀ c a w, ¬ Q (.panic c) a w)
    (hQ : ∀ a', a'.tmps.size = 48 → a'.defers = a.defers → (∀ t : Nat, t ≠ 8 → t < 38 → a'.eval (.tmp t) = a.eval (.tmp t)) → a'.eval (.tmp 8) = .int .i64 (k + min k (n - k) : Nat) →
      Q .normal a' (w.drew.setRow b (cur.toList.take k ++ cur.toList.take (min k (n - k)) ++ cur.toList.drop (k + min k (n - k))).toArray)) : (Code.region 9 rep9 true).wp Try.prog Q a w := by
  refine wp_region_any fol ?_
  show wpAny Try.prog .any rep9 Q 10 (Array.replicate 10 false) a w.drew
  refine rep_take (i := 0) (d := 38) (op := .move (.tmp 8)) (v := .int .i64 k) (by kernel_rfl) (by kernel_rfl) (by kernel_rfl) hQp (fun o ho w => by simp [execOp, ho, h8]) ?_
  refine rep_take (i := 1) (d := 39) (op := .move (.tmp 7)) (v := .slice (some ⟨b, 0, none⟩) n cap) (by kernel_rfl) (by kernel_rfl) (by kernel_rfl) hQp (fun o ho w => by simp [execOp, ho, eval_put, hs, size_put, h7]) ?_
  refine rep_take (i := 2) (d := 40) (op := .move (.tmp 8)) (v := .int .i64 k) (by kernel_rfl) (by kernel_rfl) (by kernel_rfl) hQp (fun o ho w => by simp [execOp, ho, eval_put, hs, size_put, h8]) ?_
  refine rep_take (i := 3) (d := 41) (op := .slice 25 (.tmp 39) (some (.tmp 40)) none none) (v := .slice (some ⟨b, k, none⟩) (n - k) (cap - k)) (by kernel_rfl) (by kernel_rfl) (by kernel_rfl) hQp (fun o ho w => by
    have := slice_lo a w b n cap k (by omega) (by omega) hn
    simp [execOp, ho, eval_put, hs, size_put, this]) ?_
  refine rep_take (i := 4) (d := 42) (op := .move (.tmp 7)) (v := .slice (some ⟨b, 0, none⟩) n cap) (by kernel_rfl) (by kernel_rfl) (by kernel_rfl) hQp (fun o ho w => by simp [execOp, ho, eval_put, hs, size_put, h7]) ?_
  refine rep_take (i := 5) (d := 43) (op := .move (.tmp 8)) (v := .int .i64 k) (by kernel_rfl) (by kernel_rfl) (by kernel_rfl) hQp (fun o ho w => by simp [execOp, ho, eval_put, hs, size_put, h8]) ?_
  refine rep_take (i := 6) (d := 44) (op := .slice 25 (.tmp 42) none (some (.tmp 43)) none) (v := .slice (some ⟨b, 0, none⟩) k cap) (by kernel_rfl) (by kernel_rfl) (by kernel_rfl) hQp (fun o ho w => by
    have := slice_hi a w b n cap k (by omega) hn
    simp [execOp, ho, eval_put, hs, size_put, this]) ?_
  refine wpAny_all (rs := [7]) (by kernel_rfl) (by simp) (fun i hi => ?_)
  have hi7 : i = 7 := by simpa using hi
  subst hi7
  obtain ⟨o, h71, h72, h73, h74⟩ := rop (i := 7) (d := 45) (op := .call { callee := .builtin .copy, args := #[.tmp 41, .tmp 44], argTypes := #[25, 25] }) (by kernel_rfl)
  have hcl : cur.toList.length = cap := by simpa using hc
  have hcell : ∀ j v, (cur.toList.take (min k (n - k)))[j]? = some v → w.drew.cell? ((⟨b, 0, none⟩ : Addr).add j) = some v := fun j v hj => by
    rw [add_spot, Nat.zero_add]
    have hlt : j < (cur.toList.take (min k (n - k))).length := (List.getElem?_eq_some_iff.1 hj).1
    rw [List.getElem?_take, if_pos (by simp at hlt; omega)] at hj
    have hh' : w.drew.heap[b]? = some (.cells cur 2 (0, 0)) := hh
    simp only [World.cell?, hh']
    simpa using hj
  have hlen : (cur.toList.take (min k (n - k))).length = min k (n - k) := by simp; omega
  have hrun := run_copy_row Try.prog w.drew 25 25 o.type 2 b k (n - k) (cap - k) ⟨b, 0, none⟩ k cap cur 2 (cur.toList.take (min k (n - k))) und25 (by have := i2; simp only [Option.map_eq_some_iff] at this ⊢; obtain ⟨x, h1, h2⟩ := this; exact ⟨x, h1, by simp at h2; exact h2.1⟩) hh
    (by rw [hlen]) hcell (by rw [hlen]; omega) (fun v hv => h1 v (by rw [show min k (n - k) = min (min k (n - k)) n by omega, ← List.take_take] at hv; exact List.mem_of_mem_take hv))
  rw [hlen] at hrun
  unfold wpOp
  rw [h71]
  simp only
  rw [if_pos (by simp [Region.wanted, h74])]
  left
  refine wp_value (v := goInt (min k (n - k) : Nat)) (w' := w.drew.setRow b (cur.toList.take k ++ cur.toList.take (min k (n - k)) ++ cur.toList.drop (k + min k (n - k))).toArray) ?_ ?_
  · simp only [execOp, h73, resolve, invoke, builtin, Sem.run_bind, Sem.run_pure, Result.andThen_ok]
    simp [eval_put, hs, size_put, hrun]
  have hwrap : IntKind.i64.wrap ((k : Int) + (min k (n - k) : Nat)) = (k : Int) + (min k (n - k) : Nat) := w64 (by omega) (by omega)
  rw [h72]
  refine rep_take (i := 8) (d := 46) (op := .binOp .add 3 (.tmp 38) (.tmp 45) 3) (v := .int .i64 (k + min k (n - k) : Nat)) (by kernel_rfl) (by kernel_rfl) (by kernel_rfl) hQp (fun o ho w => by
    simp [execOp, ho, eval_put, hs, size_put, eqGuard, binOp, Op.intArith, goInt, hwrap]) ?_
  refine rep_take (i := 9) (d := 8) (op := .assign (.tmp 46)) (v := .int .i64 (k + min k (n - k) : Nat)) (by kernel_rfl) (by kernel_rfl) (by kernel_rfl) hQp (fun o ho w => by simp [execOp, ho, eval_put, hs, size_put]) ?_
  refine wpAny_done (by kernel_rfl) ?_ _
  refine hQ _ (by simp [size_put, hs]) (by simp [defers_put]) (fun t h1 h2 => ?_) ?_
  · simp [eval_put, hs, size_put, h1, show t ≠ 38 by omega, show t ≠ 39 by omega, show t ≠ 40 by omega, show t ≠ 41 by omega, show t ≠ 42 by omega, show t ≠ 43 by omega, show t ≠ 44 by omega, show t ≠ 45 by omega, show t ≠ 46 by omega]
  · simp [eval_put, hs, size_put]
end Go.Proofs.Avx

set_option linter.unusedVariables false
set_option linter.unusedSimpArgs false
set_option maxRecDepth 20000
namespace Go.Proofs.Avx
theorem Mul64_spec (n : Nat) (hn : n < 33) : AFp Try.prog 351 [U 1, U n] (.tup [U 0, U n]) := by
  refine AF_body okG0 Try.func351 rfl rfl (by simp [Try.ntmps351]) (by simp) ?_; simp only [Try.ntmps351]
  refine aw_seq_k fun K0 hK0 => aw_region okG0 ?_; simp only [push_cast, Nat.reduceLT, Nat.reduceLeDiff, Nat.reduceEqDiff, reduceIte, reduceCtorEq, Nat.reduceAdd, Nat.reduceMul, Nat.reduceMod, Nat.reduceBEq, Nat.reduceBNe, List.reduceReplicate, Int.reduceLE, Int.reduceLT, Int.reduceNe]
  apply hK0; clear hK0
  refine aw_seq_k fun K1 hK1 => aw_region okG0 ?_; simp only [push_cast, Nat.reduceLT, Nat.reduceLeDiff, Nat.reduceEqDiff, reduceIte, reduceCtorEq, Nat.reduceAdd, Nat.reduceMul, Nat.reduceMod, Nat.reduceBEq, Nat.reduceBNe, List.reduceReplicate, Int.reduceLE, Int.reduceLT, Int.reduceNe]
  apply hK1; clear hK1
  refine aw_seq_k fun K2 hK2 => aw_region okG0 ?_; simp only [push_cast, Nat.reduceLT, Nat.reduceLeDiff, Nat.reduceEqDiff, reduceIte, reduceCtorEq, Nat.reduceAdd, Nat.reduceMul, Nat.reduceMod, Nat.reduceBEq, Nat.reduceBNe, List.reduceReplicate, Int.reduceLE, Int.reduceLT, Int.reduceNe]
  apply hK2; clear hK2
  refine aw_seq_k fun K3 hK3 => aw_region okG0 ?_; simp only [push_cast, Nat.reduceLT, Nat.reduceLeDiff, Nat.reduceEqDiff, reduceIte, reduceCtorEq, Nat.reduceAdd, Nat.reduceMul, Nat.reduceMod, Nat.reduceBEq, Nat.reduceBNe, List.reduceReplicate, Int.reduceLE, Int.reduceLT, Int.reduceNe]
  apply hK3; clear hK3
  refine aw_seq_k fun K4 hK4 => aw_region okG0 ?_; simp only [push_cast, Nat.reduceLT, Nat.reduceLeDiff, Nat.reduceEqDiff, reduceIte, reduceCtorEq, Nat.reduceAdd, Nat.reduceMul, Nat.reduceMod, Nat.reduceBEq, Nat.reduceBNe, List.reduceReplicate, Int.reduceLE, Int.reduceLT, Int.reduceNe]
  apply hK4; clear hK4
  refine aw_seq_k fun K5 hK5 => aw_region okG0 ?_; simp only [push_cast, Nat.reduceLT, Nat.reduceLeDiff, Nat.reduceEqDiff, reduceIte, reduceCtorEq, Nat.reduceAdd, Nat.reduceMul, Nat.reduceMod, Nat.reduceBEq, Nat.reduceBNe, List.reduceReplicate, Int.reduceLE, Int.reduceLT, Int.reduceNe]
  apply hK5; clear hK5
  refine aw_seq_k fun K6 hK6 => aw_region okG0 ?_; simp only [push_cast, Nat.reduceLT, Nat.reduceLeDiff, Nat.reduceEqDiff, reduceIte, reduceCtorEq, Nat.reduceAdd, Nat.reduceMul, Nat.reduceMod, Nat.reduceBEq, Nat.reduceBNe, List.reduceReplicate, Int.reduceLE, Int.reduceLT, Int.reduceNe]
  apply hK6; clear hK6
  refine aw_seq_k fun K7 hK7 => aw_region okG0 ?_; simp only [push_cast, Nat.reduceLT, Nat.reduceLeDiff, Nat.reduceEqDiff, reduceIte, reduceCtorEq, Nat.reduceAdd, Nat.reduceMul, Nat.reduceMod, Nat.reduceBEq, Nat.reduceBNe, List.reduceReplicate, Int.reduceLE, Int.reduceLT, Int.reduceNe]
  apply hK7; clear hK7
  refine aw_seq_k fun K8 hK8 => aw_region okG0 ?_; simp only [push_cast, Nat.reduceLT, Nat.reduceLeDiff, Nat.reduceEqDiff, reduceIte, reduceCtorEq, Nat.reduceAdd, Nat.reduceMul, Nat.reduceMod, Nat.reduceBEq, Nat.reduceBNe, List.reduceReplicate, Int.reduceLE, Int.reduceLT, Int.reduceNe]
  apply hK8; clear hK8
  refine aw_seq_k fun K9 hK9 => aw_region okG0 ?_; simp only [push_cast, Nat.reduceLT, Nat.reduceLeDiff, Nat.reduceEqDiff, reduceIte, reduceCtorEq, Nat.reduceAdd, Nat.reduceMul, Nat.reduceMod, Nat.reduceBEq, Nat.reduceBNe, List.reduceReplicate, Int.reduceLE, Int.reduceLT, Int.reduceNe]
  apply hK9; clear hK9
  refine aw_seq_k fun K10 hK10 => aw_region okG0 ?_; simp only [push_cast, Nat.reduceLT, Nat.reduceLeDiff, Nat.reduceEqDiff, reduceIte, reduceCtorEq, Nat.reduceAdd, Nat.reduceMul, Nat.reduceMod, Nat.reduceBEq, Nat.reduceBNe, List.reduceReplicate, Int.reduceLE, Int.reduceLT, Int.reduceNe]
  apply hK10; clear hK10
  refine aw_seq_k fun K11 hK11 => aw_region okG0 ?_; simp only [push_cast, Nat.reduceLT, Nat.reduceLeDiff, Nat.reduceEqDiff, reduceIte, reduceCtorEq, Nat.reduceAdd, Nat.reduceMul, Nat.reduceMod, Nat.reduceBEq, Nat.reduceBNe, List.reduceReplicate, Int.reduceLE, Int.reduceLT, Int.reduceNe]
  apply hK11; clear hK11
  refine aw_ret (ret_p rfl ?_ rfl (by simp))
  simp only [push_cast]
  have e1 : ∀ {a b : Int}, a = 0 → b = n → AV.tup [AV.dat (Ty.int .u64) a, AV.dat (Ty.int .u64) b] = AV.tup [U 0, U n] := fun h1 h2 => by rw [h1, h2]
  refine e1 ?_ ?_
  · clear e1; revert n; decide +kernel
  · clear e1; revert n; decide +kernel
theorem Mul_spec (n : Nat) (hn : n < 33) : AFp Try.prog 330 [U 1, U n] (.tup [U 0, U n]) := by
  refine AF_body okG0 Try.func330 rfl rfl (by simp [Try.ntmps330]) (by simp) ?_; simp only [Try.ntmps330]
  refine aw_seq_k fun K0 hK0 => aw_region okG0 ?_; simp only [push_cast, Nat.reduceLT, Nat.reduceLeDiff, Nat.reduceEqDiff, reduceIte, reduceCtorEq, Nat.reduceAdd, Nat.reduceMul, Nat.reduceMod, Nat.reduceBEq, Nat.reduceBNe, List.reduceReplicate, Int.reduceLE, Int.reduceLT, Int.reduceNe]
  apply hK0; clear hK0
  refine aw_seq_k fun K1 hK1 => ?_
  refine aw_cond (b := false) rfl (fun hc => ?_) (fun hc => ?_)
  · simp at hc
  · refine aw_skip ?_
    simp only [push_cast, Nat.reduceLT, Nat.reduceLeDiff, Nat.reduceEqDiff, reduceIte, reduceCtorEq, Nat.reduceAdd, Nat.reduceMul, Nat.reduceMod, Nat.reduceBEq, Nat.reduceBNe, List.reduceReplicate, Int.reduceLE, Int.reduceLT, Int.reduceNe]
    apply hK1; clear hK1
    refine aw_seq_k fun K2 hK2 => aw_region okG0 ?_; simp only [push_cast, Nat.reduceLT, Nat.reduceLeDiff, Nat.reduceEqDiff, reduceIte, reduceCtorEq, Nat.reduceAdd, Nat.reduceMul, Nat.reduceMod, Nat.reduceBEq, Nat.reduceBNe, List.reduceReplicate, Int.reduceLE, Int.reduceLT, Int.reduceNe]
    refine call_pure (Mul64_spec n hn) (fits_of rfl) (by decide) rfl (by simp [idsV, idsVs]) ?_; simp only [push_cast, Nat.reduceLT, Nat.reduceLeDiff, Nat.reduceEqDiff, reduceIte, reduceCtorEq, Nat.reduceAdd, Nat.reduceMul, Nat.reduceMod, Nat.reduceBEq, Nat.reduceBNe, List.reduceReplicate, Int.reduceLE, Int.reduceLT, Int.reduceNe]
    apply hK2; clear hK2
    refine aw_seq_k fun K3 hK3 => aw_region okG0 ?_; simp only [push_cast, Nat.reduceLT, Nat.reduceLeDiff, Nat.reduceEqDiff, reduceIte, reduceCtorEq, Nat.reduceAdd, Nat.reduceMul, Nat.reduceMod, Nat.reduceBEq, Nat.reduceBNe, List.reduceReplicate, Int.reduceLE, Int.reduceLT, Int.reduceNe]
    apply hK3; clear hK3
    exact aw_ret (ret_p rfl rfl rfl (by simp))
end Go.Proofs.Avx

set_option linter.unusedVariables false
set_option linter.unusedSimpArgs false
set_option maxRecDepth 20000
namespace Go.Proofs.Avx
theorem getD_eval (a : Act) (t : Nat) : a.tmps.getD t undef = a.eval (.tmp t) := by simp [Act.eval]
/-- A row of numbers is turned as a whole. -/
theorem rel_setRow {B : Ctx} {S : St} {β : Nat → Nat} {Y : Nat → Prop} {a a' : Act} {w : World} (hC : RelC B S β Y a w) {p cap : Nat} (hl : S.live = [p]) {cur : Array Value} (hh : w.heap[β p]? = some (.cells cur 2 (0, 0)))
    {new : List Value} {l' : List Int} {k : Int} (hsz : new.length = cur.size) (hcap : cur.size = cap) (hm : cap ≤ maxLen) (hlc : l'.length ≤ cap) (htake : new.take l'.length = l'.map (Value.int .i64))
    (h7 : a'.eval (.tmp 7) = .slice (some ⟨β p, 0, none⟩) l'.length cap) (h8 : a'.eval (.tmp 8) = .int .i64 k) (hts : a'.tmps.size = B.n) (hd : a'.defers = []) :
    RelC B ⟨[(7, .own p 2 (.int .i64) l'), (8, I k)], [], [p]⟩ β Y a' (w.setRow (β p) new.toArray) := by
  have hp : p ∈ S.live := by rw [hl]; simp
  have hlv := hC.wr.lv p hp
  have hw : ∀ k, k ≠ β p → (w.setRow (β p) new.toArray).heap[k]? = w.heap[k]? := fun k hk => setRow_other w _ k _ hk
  have hsize : (w.setRow (β p) new.toArray).heap.size = w.heap.size := by simp [World.setRow]
  have hnewh := setRow_heap w (β p) cur new.toArray 2 (0, 0) hh
  have hwr := hC.wr
  rw [hl] at hwr
  refine ⟨⟨⟨hwr.fr.os, hwr.fr.tape, hwr.fr.output, by rw [hsize]; exact hwr.fr.size, fun k hk hn => ?_⟩, fun g hg => by rw [hsize]; exact hwr.yb g hg, hwr.yo, fun q hq => by rw [hsize]; exact hwr.lv q hq, hwr.inj, hwr.ib, fun c hc => ?_⟩, fun k' => ?_, fun c ds hc => ?_, hd, hts⟩
  · rw [hw k (fun e => by subst e; rcases hlv.2.2 with h | h; exact hn h; omega)]
    exact hwr.fr.block k hk hn
  · rw [← hwr.cp c hc]
    by_cases hcb : β c = β p
    · rw [hcb]
      simp only [szB, hnewh, hh, Option.some.injEq, Prod.mk.injEq, and_true, List.size_toArray]
      omega
    · exact szB_of (hw _ hcb)
  · simp only [getE]
    split
    · rename_i e; subst e
      simp only [relV]
      refine ⟨by simp, l'.map (Value.int .i64), ?_, by rw [getD_eval, h7]; rfl, ints_relL l'⟩
      refine ⟨by simp [Ty.size], .inr ⟨β p, cap, new.toArray, by rw [getD_eval]; exact h7, Nat.zero_le _, hnewh, hlc, hm, by simp [Ty.size]; omega, ?_⟩⟩
      simpa [Ty.size] using htake
    · split
      · rename_i e; subst e
        simp only [relV, relT]
        rw [getD_eval, h8]
      · simp [relV]
  · simp [getB] at hc
/-- What an owned row of numbers is, in memory. -/
theorem own_row {B : Ctx} {S : St} {β : Nat → Nat} {Y : Nat → Prop} {a : Act} {w : World} (hC : RelC B S β Y a w) {p t : Nat} {l : List Int} (he : getE S.env t = .own p 2 (.int .i64) l) :
    ∃ cap cur, a.eval (.tmp t) = .slice (some ⟨β p, 0, none⟩) l.length cap ∧ w.heap[β p]? = some (.cells cur 2 (0, 0)) ∧ l.length ≤ cap ∧ cap ≤ maxLen ∧ cur.size = cap ∧ cur.toList.take l.length = l.map (Value.int .i64) := by
  have h := hC.env t
  rw [he] at h
  simp only [relV] at h
  obtain ⟨hp, xs, h1, h2, h3⟩ := h
  rcases h1.2 with ⟨e, _⟩ | ⟨g, cap, cur, e, _, hh, k1, k2, k3, k4⟩
  · rw [e] at h2; simp [Value.ownBlock] at h2
  · rw [e] at h2
    have : g = β p := by simpa [Value.ownBlock] using h2
    subst this
    rw [relL_ints h3] at k4
    exact ⟨cap, cur, by rw [← getD_eval]; exact e, hh, k1, k2, by simpa [Ty.size] using k3, by simpa [Ty.size] using k4⟩
end Go.Proofs.Avx

set_option linter.unusedVariables false
set_option linter.unusedSimpArgs false
set_option maxRecDepth 20000
namespace Go.Proofs.Avx
def fil (n k : Nat) : List Int := List.replicate k (-1) ++ List.replicate (n - k) 0
theorem fil_len {n k : Nat} (h : k ≤ n) : (fil n k).length = n := by simp [fil]; omega
theorem take_over {α : Type} (cur : List α) {k m n : Nat} (h : k + m ≤ n) (hn : n ≤ cur.length) : (cur.take k ++ cur.take m ++ cur.drop (k + m)).take n = (cur.take n).take k ++ (cur.take n).take m ++ (cur.take n).drop (k + m) := by
  have hl : (cur.take k ++ cur.take m).length = k + m := by simp; omega
  rw [List.take_append, List.take_of_length_le (by omega), hl, List.take_take, List.take_take, Nat.min_eq_left (by omega), Nat.min_eq_left (by omega), ← List.drop_take]
theorem fil_over {n k m : Nat} (hk : k ≤ n) (hm : m ≤ k) (h : k + m ≤ n) : (fil n k).take k ++ (fil n k).take m ++ (fil n k).drop (k + m) = fil n (k + m) := by
  unfold fil
  rw [List.take_left' (by simp), List.take_append_of_le_length (by simpa using hm), List.take_replicate, Nat.min_eq_left hm, List.drop_append, List.drop_eq_nil_of_le (by simp), List.nil_append, List.drop_replicate, List.length_replicate, List.replicate_append_replicate]
  congr 2
  omega
theorem rep9_aw {n k : Nat} (hk : 1 ≤ k) (hkn : k < n) (hn : n ≤ 32) {Q : Exit → St → Prop} (hQ : Q .normal ⟨[(7, .own 3000 2 (.int .i64) (fil n (k + min k (n - k)))), (8, I (k + min k (n - k) : Nat))], [], [3000]⟩)
    (hQp : ∀ c S, ¬ Q (.panic c) S) : AW Try.prog 48 (.region 9 rep9 true) ⟨[(7, .own 3000 2 (.int .i64) (fil n k)), (8, I k)], [], [3000]⟩ Q := by
  rintro B a w hB ⟨β, Y, hC⟩
  obtain ⟨cap, cur, h7, hh, hlc, hm, hcs, htk⟩ := own_row hC (t := 7) rfl
  have h8 := hC.env 8
  simp only [getE, Nat.reduceEqDiff, if_false, if_true, relV, relT, List.cons.injEq, and_true, getD_eval] at h8
  rw [fil_len (by omega)] at h7 hlc htk
  refine rep9_run (by rw [hC.size, hB]) h7 h8 hh hcs hlc hk hkn (by omega) (fun v hv => ?_) (fun c a w ⟨S, _, hq⟩ => hQp c S hq) (fun a' hs' hd' ht' h8' => ?_)
  · rw [htk] at hv
    obtain ⟨x, _, rfl⟩ := List.mem_map.1 hv
    rfl
  · refine ⟨_, ⟨β, Y, ?_⟩, hQ⟩
    have hC' := hC.ext (Ext.drew w)
    refine rel_setRow hC' rfl (cur := cur) hh ?_ hcs hm ?_ ?_ ?_ h8' (by rw [hs', hB]) (by rw [hd', hC.defers])
    · simp; omega
    · rw [fil_len (by omega)]; exact hlc
    · rw [fil_len (by omega), take_over _ (by omega) (by simpa using by omega), htk, ← List.map_take, ← List.map_take, ← List.map_drop, ← List.map_append, ← List.map_append, fil_over (by omega) (by omega) (by omega)]
    · rw [fil_len (by omega), ht' 7 (by omega) (by omega)]; exact h7
end Go.Proofs.Avx

set_option linter.unusedVariables false
set_option linter.unusedSimpArgs false
set_option maxRecDepth 20000
namespace Go.Proofs.Avx
/-- The region of slices.Repeat that copies what came in. -/
noncomputable def rep7 : Array Oper := match Try.f254.body with
  | some c => find c
  | none => #[]
where find : Code → Array Oper
  | .region i ops _ => if i = 7 then ops else #[]
  | .seq x y => find x ++ find y
  | .block _ c => find c
  | .loop c => find c
  | .cond _ x y => find x ++ find y
  | _ => #[]
theorem list_take {ops : Array Oper} {Q : Exit → Act → World → Prop} {o : Oper} {rest : List Oper} {a : Act} {w w' : World} {v : Value} {d : Nat} {op : Op} (h : (o.dst, o.op, o.guard) = (some d, op, none)) (hy : ∀ o : Oper, o.op = op → (execOp a.eval o).run Try.prog w = .ok (.value v) w')
    (hk : wpList Try.prog ops Q rest (a.put (some d) v) w') : wpList Try.prog ops Q (o :: rest) a w := by
  simp only [Prod.mk.injEq] at h
  refine wpList_step fun K hK => ?_
  rw [if_pos (by simp [Region.wanted, h.2.2])]
  refine wp_value (hy o h.2.1) ?_
  rw [h.1]
  exact hK _ _ hk
theorem map4 {α β : Type} {f : α → β} {l : List α} {a b c d : β} (h : l.map f = [a, b, c, d]) : ∃ x y z t, l = [x, y, z, t] ∧ f x = a ∧ f y = b ∧ f z = c ∧ f t = d := by
  match l, h with
  | [x, y, z, t], h => simp only [List.map_cons, List.map_nil, List.cons.injEq, and_true] at h; exact ⟨x, y, z, t, rfl, h.1, h.2.1, h.2.2.1, h.2.2.2⟩
theorem rep7_aw {n : Nat} (hk : 1 ≤ n) (hn : n ≤ 32) {Q : Exit → St → Prop} (hQ : Q .normal ⟨[(7, .own 3000 2 (.int .i64) (fil n 1)), (8, I 1)], [], [3000]⟩) :
    AW Try.prog 48 (.region 7 rep7 false) ⟨[(7, .own 3000 2 (.int .i64) (List.replicate n 0)), (0, Is [-1])], [], [3000]⟩ Q := by
  rintro B a w hB ⟨β, Y, hC⟩
  obtain ⟨cap, cur, h7, hh, hlc, hm, hcs, htk⟩ := own_row hC (t := 7) rfl
  have h0 := hC.env 0
  simp only [getE, Nat.reduceEqDiff, if_false, if_true, relV, relT, getD_eval, show ¬ ((0:Nat) = 7) from by decide] at h0
  obtain ⟨A, c0, xs, h0, hc0, hxs, hM⟩ := h0
  have hxs' := relL_ints (Y := Y) (w := w) hxs
  subst hxs'
  simp only [List.cons.injEq, and_true] at h0
  rcases hM with hM | ⟨g, o, rfl, hg, hcell⟩
  · simp at hM
  have hsz := hC.size
  simp only [List.length_replicate] at h7 hlc htk
  obtain ⟨o0, o1, o2, o3, hl, e0, e1, e2, e3⟩ := map4 (f := fun o : Oper => (o.dst, o.op, o.guard)) (l := rep7.toList) (a := (some 31, .move (.tmp 7), none)) (b := (some 32, .move (.tmp 0), none))
    (c := (some 33, .call { callee := .builtin .copy, args := #[.tmp 31, .tmp 32], argTypes := #[25, 25] }, none)) (d := (some 8, .assign (.tmp 33), none)) (by kernel_rfl)
  refine wp_region_list ?_
  rw [hl]
  have hs : a.tmps.size = 48 := by rw [hsz, hB]
  refine list_take e0 (v := .slice (some ⟨β 3000, 0, none⟩) n cap) (w' := w) (fun o ho => by simp [execOp, ho, h7]) ?_
  refine list_take e1 (v := .slice (some ⟨g, o, none⟩) 1 c0) (w' := w) (fun o' ho => by simpa [execOp, ho, eval_put, hs, size_put] using h0) ?_
  have hone : ∀ v ∈ [Value.int .i64 (-1)], v.oneCell' = true := by intro v hv; rw [List.mem_singleton.1 hv]; rfl
  have hrun : ∀ ty, (Builtin.copy_ #[25, 25] ty #[.slice (some ⟨β 3000, 0, none⟩) n cap, .slice (some ⟨g, o, none⟩) 1 c0]).run Try.prog w = .ok (goInt (1 : Nat)) (w.setRow (β 3000) (cur.toList.take 0 ++ [Value.int .i64 (-1)] ++ cur.toList.drop (0 + 1)).toArray) := fun ty =>
    run_copy_row Try.prog w 25 25 ty 2 (β 3000) 0 n cap ⟨g, o, none⟩ 1 c0 cur 2 [Value.int .i64 (-1)] und25 (by have := i2; simp only [Option.map_eq_some_iff] at this ⊢; obtain ⟨x, h1, h2⟩ := this; exact ⟨x, h1, by simp at h2; exact h2.1⟩) hh
      (by show 1 = min 1 n; omega) (fun j v hj => by rw [add_spot]; exact hcell j v hj) (by simp; omega) hone
  refine list_take e2 (v := goInt (1 : Nat)) (w' := w.setRow (β 3000) (cur.toList.take 0 ++ [Value.int .i64 (-1)] ++ cur.toList.drop (0 + 1)).toArray) (fun o' ho => by
    simp only [execOp, ho, resolve, invoke, builtin, Sem.run_bind, Sem.run_pure, Result.andThen_ok]
    simp only [List.map_toArray, List.map_cons, List.map_nil, eval_put _ _ _ _ (show 31 < (a.put _ _).tmps.size by simp [size_put, hs])]
    simp [eval_put, hs, size_put, hrun]) ?_
  refine list_take e3 (v := .int .i64 1) (w' := w.setRow (β 3000) (cur.toList.take 0 ++ [Value.int .i64 (-1)] ++ cur.toList.drop (0 + 1)).toArray) (fun o' ho => by simp [execOp, ho, eval_put, hs, size_put, goInt]) ?_
  refine wpList_nil ⟨_, ⟨β, Y, ?_⟩, hQ⟩
  refine rel_setRow hC rfl (cur := cur) hh ?_ hcs hm ?_ ?_ ?_ ?_ (by simp [size_put, hsz]) (by simp [defers_put, hC.defers])
  · simp; omega
  · rw [fil_len hk]; exact hlc
  · rw [fil_len hk]
    have := take_over (k := 0) (m := 0) (n := n) cur.toList (by omega) (by simp; omega)
    have e : (cur.toList.take 0 ++ [Value.int .i64 (-1)] ++ cur.toList.drop (0 + 1)).take n = [Value.int .i64 (-1)] ++ (cur.toList.take n).drop 1 := by
      obtain ⟨m, rfl⟩ : ∃ m, n = m + 1 := ⟨n - 1, by omega⟩
      simp [List.drop_take]
    rw [e, htk, ← List.map_drop]
    simp [fil]
  · rw [fil_len hk]; simp [eval_put, hs, size_put, h7]
  · simp [eval_put, hs, size_put]
end Go.Proofs.Avx

set_option linter.unusedVariables false
set_option linter.unusedSimpArgs false
set_option maxRecDepth 20000
namespace Go.Proofs.Avx
theorem Repeat_spec (n : Nat) (h1 : 1 ≤ n) (h32 : n ≤ 32) : AFp Try.prog 254 [Is [-1], I n] (.own 0 2 (.int .i64) (List.replicate n (-1))) := by
  refine AF_body okG0 Try.func254 rfl rfl (by simp [Try.ntmps254]) (by simp) ?_; simp only [Try.ntmps254]
  refine aw_seq_k fun K0 hK0 => aw_region okG0 ?_; simp only [push_cast, Nat.reduceLT, Nat.reduceLeDiff, Nat.reduceEqDiff, reduceIte, reduceCtorEq, Nat.reduceAdd, Nat.reduceMul, Nat.reduceMod, Nat.reduceBEq, Nat.reduceBNe, List.reduceReplicate, Int.reduceLE, Int.reduceLT, Int.reduceNe]
  apply hK0; clear hK0
  refine aw_seq_k fun K1 hK1 => ?_
  refine aw_seq_k fun K2 hK2 => aw_region okG0 ?_; simp only [push_cast, Nat.reduceLT, Nat.reduceLeDiff, Nat.reduceEqDiff, reduceIte, reduceCtorEq, Nat.reduceAdd, Nat.reduceMul, Nat.reduceMod, Nat.reduceBEq, Nat.reduceBNe, List.reduceReplicate, Int.reduceLE, Int.reduceLT, Int.reduceNe]
  apply hK2; clear hK2
  refine aw_cond rfl (fun hc => ?_) (fun hc => ?_)
  · simp at hc; omega
  · refine aw_skip ?_
    simp only [push_cast, Nat.reduceLT, Nat.reduceLeDiff, Nat.reduceEqDiff, reduceIte, reduceCtorEq, Nat.reduceAdd, Nat.reduceMul, Nat.reduceMod, Nat.reduceBEq, Nat.reduceBNe, List.reduceReplicate, Int.reduceLE, Int.reduceLT, Int.reduceNe]
    apply hK1; clear hK1
    refine aw_seq_k fun K3 hK3 => aw_region okG0 ?_; simp only [push_cast, Nat.reduceLT, Nat.reduceLeDiff, Nat.reduceEqDiff, reduceIte, reduceCtorEq, Nat.reduceAdd, Nat.reduceMul, Nat.reduceMod, Nat.reduceBEq, Nat.reduceBNe, List.reduceReplicate, Int.reduceLE, Int.reduceLT, Int.reduceNe]
    rw [show IntKind.u64.wrap (0 + 1 : Int) = 1 by decide, show IntKind.u64.wrap (n : Int) = n by rw [IntKind.wrap_u64]; omega]
    refine call_pure (Mul_spec n (by omega)) (fits_of rfl) (by decide) rfl (by simp [idsV, idsVs]) ?_; simp only [push_cast, Nat.reduceLT, Nat.reduceLeDiff, Nat.reduceEqDiff, reduceIte, reduceCtorEq, Nat.reduceAdd, Nat.reduceMul, Nat.reduceMod, Nat.reduceBEq, Nat.reduceBNe, List.reduceReplicate, Int.reduceLE, Int.reduceLT, Int.reduceNe]
    apply hK3; clear hK3
    refine aw_seq_k fun K4 hK4 => ?_
    refine aw_seq_k fun K5 hK5 => aw_region okG0 ?_; simp only [push_cast, Nat.reduceLT, Nat.reduceLeDiff, Nat.reduceEqDiff, reduceIte, reduceCtorEq, Nat.reduceAdd, Nat.reduceMul, Nat.reduceMod, Nat.reduceBEq, Nat.reduceBNe, List.reduceReplicate, Int.reduceLE, Int.reduceLT, Int.reduceNe]
    apply hK5; clear hK5
    refine aw_cond rfl (fun hc => ?_) (fun hc => ?_)
    · simp at hc; omega
    · refine aw_skip ?_
      simp only [push_cast, Nat.reduceLT, Nat.reduceLeDiff, Nat.reduceEqDiff, reduceIte, reduceCtorEq, Nat.reduceAdd, Nat.reduceMul, Nat.reduceMod, Nat.reduceBEq, Nat.reduceBNe, List.reduceReplicate, Int.reduceLE, Int.reduceLT, Int.reduceNe]
      apply hK4; clear hK4
      refine aw_seq_k fun K6 hK6 => aw_region okG0 ?_; simp only [push_cast, Nat.reduceLT, Nat.reduceLeDiff, Nat.reduceEqDiff, reduceIte, reduceCtorEq, Nat.reduceAdd, Nat.reduceMul, Nat.reduceMod, Nat.reduceBEq, Nat.reduceBNe, List.reduceReplicate, Int.reduceLE, Int.reduceLT, Int.reduceNe]
      rw [show IntKind.i64.wrap (n : Int) = n by rw [IntKind.wrap_i64]; omega]
      simp only [Int.toNat_natCast]
      refine ⟨by show (0 : Int) ≤ (n : Int); omega, by omega, by show (n : Int) ≤ 9223372036854775807; omega, ?_⟩
      apply hK6; clear hK6
      refine aw_seq_k fun K7 hK7 => ?_
      refine AW.sub (S' := ⟨[(7, .own 3000 2 (.int .i64) (List.replicate n 0)), (0, Is [-1])], [], [3000]⟩) (sub_to (by simp [allE, getE] <;> rfl) (by simp [allB, getB] <;> rfl) rfl rfl rfl) ?_
      refine rep7_aw h1 h32 ?_
      apply hK7; clear hK7
      refine aw_seq_k fun K8 hK8 => ?_
      refine aw_block ?_
      refine aw_loop (fun k : {k : Nat // 1 ≤ k ∧ k ≤ n} => ⟨[(7, .own 3000 2 (.int .i64) (fil n k.1)), (8, I k.1)], [], [3000]⟩) (fun k => n - k.1) ⟨1, by omega, h1⟩ (sub_to (by simp [allE, getE] <;> rfl) (by simp [allB, getB] <;> rfl) rfl rfl rfl) ?_
      rintro ⟨k, hk1, hk2⟩
      refine aw_seq_k fun K9 hK9 => ?_
      refine aw_seq_k fun K10 hK10 => aw_region okG0 ?_; simp only [push_cast, Nat.reduceLT, Nat.reduceLeDiff, Nat.reduceEqDiff, reduceIte, reduceCtorEq, Nat.reduceAdd, Nat.reduceMul, Nat.reduceMod, Nat.reduceBEq, Nat.reduceBNe, List.reduceReplicate, Int.reduceLE, Int.reduceLT, Int.reduceNe]
      rw [fil_len hk2]
      apply hK10; clear hK10
      refine aw_cond rfl (fun hc => ?_) (fun hc => ?_)
      · have hlt : k < n := by simpa using hc
        refine aw_skip ?_
        simp only [push_cast, Nat.reduceLT, Nat.reduceLeDiff, Nat.reduceEqDiff, reduceIte, reduceCtorEq, Nat.reduceAdd, Nat.reduceMul, Nat.reduceMod, Nat.reduceBEq, Nat.reduceBNe, List.reduceReplicate, Int.reduceLE, Int.reduceLT, Int.reduceNe]
        apply hK9; clear hK9
        refine aw_block ?_
        refine AW.sub (S' := ⟨[(7, .own 3000 2 (.int .i64) (fil n k)), (8, I k)], [], [3000]⟩) (sub_to (by simp [allE, getE] <;> rfl) (by simp [allB, getB] <;> rfl) rfl rfl rfl) ?_
        refine rep9_aw hk1 hlt h32 ?_ (fun c S h => h.elim)
        refine ⟨⟨k + min k (n - k), by omega, by omega⟩, Sub.refl _, ?_⟩
        show n - (k + min k (n - k)) < n - k
        omega
      · have hlt : k = n := by have : ¬ (k : Int) < n := by simpa using hc
                               omega
        subst hlt
        refine aw_exit ?_
        simp only [push_cast, Nat.reduceLT, Nat.reduceLeDiff, Nat.reduceEqDiff, reduceIte, reduceCtorEq, Nat.reduceAdd, Nat.reduceMul, Nat.reduceMod, Nat.reduceBEq, Nat.reduceBNe, List.reduceReplicate, Int.reduceLE, Int.reduceLT, Int.reduceNe]
        apply hK8; clear hK8
        refine aw_seq_k fun K11 hK11 => aw_region okG0 ?_; simp only [push_cast, Nat.reduceLT, Nat.reduceLeDiff, Nat.reduceEqDiff, reduceIte, reduceCtorEq, Nat.reduceAdd, Nat.reduceMul, Nat.reduceMod, Nat.reduceBEq, Nat.reduceBNe, List.reduceReplicate, Int.reduceLE, Int.reduceLT, Int.reduceNe]
        apply hK11; clear hK11
        refine aw_ret (ret_o [(3000, 0)] rfl ?_ (by simp) rfl)
        simp only [push_cast]
        simp [fil, renN, renV]
end Go.Proofs.Avx
