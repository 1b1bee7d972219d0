/- What small functions of flows compute, and what the program's relax computes: conditions stand in each statement. -/
import Derived.Test.YtgbkecenhbcihaaProg
import Derived.Test.YtgbkecenhbcihaaAvxB
set_option linter.unusedVariables false
set_option linter.unusedSimpArgs false
namespace Go.Proofs.Avx
instance kn : Kn := ⟨fun _ _ => True, fun _ _ _ => trivial⟩
abbrev I (n : Int) : AV := .dat (.int .i64) n
abbrev Bo (b : Bool) : AV := .dat .bool b
abbrev F (x : Nat) : AV := .dat (.flt .f32) x
abbrev D (x : Nat) : AV := .dat (.flt .f64) x
abbrev Is (l : List Int) : AV := .dat (.sl (.int .i64)) l
abbrev Fs (l : List Nat) : AV := .dat (.sl (.flt .f32)) l
abbrev Bs (l : List Bool) : AV := .dat (.sl .bool) l
theorem flB_eq (op : BinOp) (k : FloatKind) (a b : Nat) : flB op k a b = match floatBits op k a b with | some r => canon k r | none => flN k := rfl
theorem flO_eq (k : FloatKind) (a b : Nat) : flO k a b = k.format.order a b := rfl
theorem fol : Try.prog.follows .mixedOrders = true := by kernel_rfl
theorem w64 {n : Int} (h1 : -9223372036854775808 ≤ n) (h2 : n ≤ 9223372036854775807) : IntKind.i64.wrap n = n := by rw [IntKind.wrap_i64]; omega
def G0 : List (TypeId × TI) := [(2, ⟨.int .i64, 1, 8, .int .i64 0⟩),
  (3, ⟨.int .i64, 1, 8, .int .i64 0⟩),
  (4, ⟨.bool, 1, 1, .bool false⟩),
  (25, ⟨.sl 2, 1, 24, .slice none 0 0⟩),
  (26, ⟨.sl 4, 1, 24, .slice none 0 0⟩),
  (68, ⟨.sl 71, 1, 24, .slice none 0 0⟩),
  (70, ⟨.struct [(2, 0), (2, 1), (68, 2), (26, 3)], 4, 64, .agg #[.int .i64 0, .int .i64 0, .slice none 0 0, .slice none 0 0]⟩),
  (71, ⟨.flt .f32, 1, 4, .float .f32 0⟩),
  (73, ⟨.struct [(2, 0), (2, 1), (68, 2), (26, 3)], 4, 64, .agg #[.int .i64 0, .int .i64 0, .slice none 0 0, .slice none 0 0]⟩),
  (86, ⟨.flt .f64, 1, 8, .float .f64 0⟩),
  (108, ⟨.sl 3, 1, 24, .slice none 0 0⟩),
  (120, ⟨.sl 70, 1, 24, .slice none 0 0⟩),
  (124, ⟨.sl 73, 1, 24, .slice none 0 0⟩),
  (258, ⟨.arr 9 3, 9, 72, .agg #[.int .i64 0, .int .i64 0, .int .i64 0, .int .i64 0, .int .i64 0, .int .i64 0, .int .i64 0, .int .i64 0, .int .i64 0]⟩),
  (306, ⟨.arr 9 2, 9, 72, .agg #[.int .i64 0, .int .i64 0, .int .i64 0, .int .i64 0, .int .i64 0, .int .i64 0, .int .i64 0, .int .i64 0, .int .i64 0]⟩)]
theorem i2 : (Try.prog.info? 2).map (fun i => (i.size, i.bytes, i.zero)) = some (1, 8, some (.int .i64 0)) := by kernel_rfl
theorem i3 : (Try.prog.info? 3).map (fun i => (i.size, i.bytes, i.zero)) = some (1, 8, some (.int .i64 0)) := by kernel_rfl
theorem i4 : (Try.prog.info? 4).map (fun i => (i.size, i.bytes, i.zero)) = some (1, 1, some (.bool false)) := by kernel_rfl
theorem i25 : (Try.prog.info? 25).map (fun i => (i.size, i.bytes, i.zero)) = some (1, 24, some (.slice none 0 0)) := by kernel_rfl
theorem i26 : (Try.prog.info? 26).map (fun i => (i.size, i.bytes, i.zero)) = some (1, 24, some (.slice none 0 0)) := by kernel_rfl
theorem i68 : (Try.prog.info? 68).map (fun i => (i.size, i.bytes, i.zero)) = some (1, 24, some (.slice none 0 0)) := by kernel_rfl
theorem i70 : (Try.prog.info? 70).map (fun i => (i.size, i.bytes, i.zero)) = some (4, 64, some (.agg #[.int .i64 0, .int .i64 0, .slice none 0 0, .slice none 0 0])) := by kernel_rfl
theorem i71 : (Try.prog.info? 71).map (fun i => (i.size, i.bytes, i.zero)) = some (1, 4, some (.float .f32 0)) := by kernel_rfl
theorem i73 : (Try.prog.info? 73).map (fun i => (i.size, i.bytes, i.zero)) = some (4, 64, some (.agg #[.int .i64 0, .int .i64 0, .slice none 0 0, .slice none 0 0])) := by kernel_rfl
theorem i86 : (Try.prog.info? 86).map (fun i => (i.size, i.bytes, i.zero)) = some (1, 8, some (.float .f64 0)) := by kernel_rfl
theorem i108 : (Try.prog.info? 108).map (fun i => (i.size, i.bytes, i.zero)) = some (1, 24, some (.slice none 0 0)) := by kernel_rfl
theorem i120 : (Try.prog.info? 120).map (fun i => (i.size, i.bytes, i.zero)) = some (1, 24, some (.slice none 0 0)) := by kernel_rfl
theorem i124 : (Try.prog.info? 124).map (fun i => (i.size, i.bytes, i.zero)) = some (1, 24, some (.slice none 0 0)) := by kernel_rfl
theorem i258 : (Try.prog.info? 258).map (fun i => (i.size, i.bytes, i.zero)) = some (9, 72, some (.agg #[.int .i64 0, .int .i64 0, .int .i64 0, .int .i64 0, .int .i64 0, .int .i64 0, .int .i64 0, .int .i64 0, .int .i64 0])) := by kernel_rfl
theorem i306 : (Try.prog.info? 306).map (fun i => (i.size, i.bytes, i.zero)) = some (9, 72, some (.agg #[.int .i64 0, .int .i64 0, .int .i64 0, .int .i64 0, .int .i64 0, .int .i64 0, .int .i64 0, .int .i64 0, .int .i64 0])) := by kernel_rfl
theorem okG0 : okTab Try.prog G0 := by
  simp only [okTab, G0, List.mem_cons, List.not_mem_nil, or_false, forall_eq_or_imp, forall_eq]
  exact ⟨⟨i2, Try.underlying2, rfl⟩,
    ⟨i3, Try.underlying3, rfl⟩,
    ⟨i4, Try.underlying4, rfl⟩,
    ⟨i25, Try.underlying25, rfl⟩,
    ⟨i26, Try.underlying26, rfl⟩,
    ⟨i68, Try.underlying68, rfl⟩,
    ⟨i70, ⟨_, Try.underlying70, rfl⟩, rfl⟩,
    ⟨i71, Try.underlying71, rfl⟩,
    ⟨i73, ⟨_, Try.underlying73, rfl⟩, rfl⟩,
    ⟨i86, Try.underlying86, rfl⟩,
    ⟨i108, Try.underlying108, rfl⟩,
    ⟨i120, Try.underlying120, rfl⟩,
    ⟨i124, Try.underlying124, rfl⟩,
    ⟨i258, Try.underlying258, rfl⟩,
    ⟨i306, Try.underlying306, rfl⟩⟩
theorem tgG0_2 : Tab.get G0 2 = some ⟨.int .i64, 1, 8, .int .i64 0⟩ := rfl
theorem tgG0_3 : Tab.get G0 3 = some ⟨.int .i64, 1, 8, .int .i64 0⟩ := rfl
theorem tgG0_4 : Tab.get G0 4 = some ⟨.bool, 1, 1, .bool false⟩ := rfl
theorem tgG0_25 : Tab.get G0 25 = some ⟨.sl 2, 1, 24, .slice none 0 0⟩ := rfl
theorem tgG0_26 : Tab.get G0 26 = some ⟨.sl 4, 1, 24, .slice none 0 0⟩ := rfl
theorem tgG0_68 : Tab.get G0 68 = some ⟨.sl 71, 1, 24, .slice none 0 0⟩ := rfl
theorem tgG0_70 : Tab.get G0 70 = some ⟨.struct [(2, 0), (2, 1), (68, 2), (26, 3)], 4, 64, .agg #[.int .i64 0, .int .i64 0, .slice none 0 0, .slice none 0 0]⟩ := rfl
theorem tgG0_71 : Tab.get G0 71 = some ⟨.flt .f32, 1, 4, .float .f32 0⟩ := rfl
theorem tgG0_73 : Tab.get G0 73 = some ⟨.struct [(2, 0), (2, 1), (68, 2), (26, 3)], 4, 64, .agg #[.int .i64 0, .int .i64 0, .slice none 0 0, .slice none 0 0]⟩ := rfl
theorem tgG0_86 : Tab.get G0 86 = some ⟨.flt .f64, 1, 8, .float .f64 0⟩ := rfl
theorem tgG0_108 : Tab.get G0 108 = some ⟨.sl 3, 1, 24, .slice none 0 0⟩ := rfl
theorem tgG0_120 : Tab.get G0 120 = some ⟨.sl 70, 1, 24, .slice none 0 0⟩ := rfl
theorem tgG0_124 : Tab.get G0 124 = some ⟨.sl 73, 1, 24, .slice none 0 0⟩ := rfl
theorem tgG0_258 : Tab.get G0 258 = some ⟨.arr 9 3, 9, 72, .agg #[.int .i64 0, .int .i64 0, .int .i64 0, .int .i64 0, .int .i64 0, .int .i64 0, .int .i64 0, .int .i64 0, .int .i64 0]⟩ := rfl
theorem tgG0_306 : Tab.get G0 306 = some ⟨.arr 9 2, 9, 72, .agg #[.int .i64 0, .int .i64 0, .int .i64 0, .int .i64 0, .int .i64 0, .int .i64 0, .int .i64 0, .int .i64 0, .int .i64 0]⟩ := rfl
attribute [push_cast] tgG0_2 tgG0_3 tgG0_4 tgG0_25 tgG0_26 tgG0_68 tgG0_70 tgG0_71 tgG0_73 tgG0_86 tgG0_108 tgG0_120 tgG0_124 tgG0_258 tgG0_306

end Go.Proofs.Avx

set_option linter.unusedVariables false
set_option linter.unusedSimpArgs false
namespace Go.Proofs.Avx
attribute [local irreducible] canon flB flO flW floatOfInt
def inB (n lo hi : Int) : Bool := decide (lo ≤ n) && decide (n ≤ hi)
theorem within_spec (n lo hi : Int) : AFp Try.prog 125 [I n, I lo, I hi] (Bo (inB n lo hi)) := by
  refine AF_body okG0 Try.func125 rfl rfl (by simp [Try.ntmps125]) (by simp) ?_; simp only [Try.ntmps125]
  refine aw_seq_k fun K hK => aw_region okG0 ?_; simp only [push_cast, Nat.reduceLT, Nat.reduceLeDiff, Nat.reduceEqDiff, reduceIte, reduceCtorEq, Nat.reduceAdd, Nat.reduceMul, Nat.reduceMod, Nat.reduceBEq, Nat.reduceBNe, List.reduceReplicate, Int.reduceLE, Int.reduceLT, Int.reduceNe]
  apply hK; clear hK
  refine aw_seq_k fun K hK => aw_region okG0 ?_; simp only [push_cast, Nat.reduceLT, Nat.reduceLeDiff, Nat.reduceEqDiff, reduceIte, reduceCtorEq, Nat.reduceAdd, Nat.reduceMul, Nat.reduceMod, Nat.reduceBEq, Nat.reduceBNe, List.reduceReplicate, Int.reduceLE, Int.reduceLT, Int.reduceNe]
  apply hK; clear hK
  exact aw_ret (ret_p rfl rfl rfl (by simp))
theorem l00In_spec (n lo hi : Int) : AFp Try.prog 180 [I n, I lo, I hi] (Bo (inB n lo hi)) := by
  refine AF_body okG0 Try.func180 rfl rfl (by simp [Try.ntmps180]) (by simp) ?_; simp only [Try.ntmps180]
  refine aw_seq_k fun K hK => aw_region okG0 ?_; simp only [push_cast, Nat.reduceLT, Nat.reduceLeDiff, Nat.reduceEqDiff, reduceIte, reduceCtorEq, Nat.reduceAdd, Nat.reduceMul, Nat.reduceMod, Nat.reduceBEq, Nat.reduceBNe, List.reduceReplicate, Int.reduceLE, Int.reduceLT, Int.reduceNe]
  apply hK; clear hK
  refine aw_seq_k fun K hK => aw_region okG0 ?_; simp only [push_cast, Nat.reduceLT, Nat.reduceLeDiff, Nat.reduceEqDiff, reduceIte, reduceCtorEq, Nat.reduceAdd, Nat.reduceMul, Nat.reduceMod, Nat.reduceBEq, Nat.reduceBNe, List.reduceReplicate, Int.reduceLE, Int.reduceLT, Int.reduceNe]
  apply hK; clear hK
  exact aw_ret (ret_p rfl rfl rfl (by simp))
def sides (r c : Int) : Bool := inB r 1 16 && inB c 1 16
theorem l06Sides_spec (r c : Int) : AFp Try.prog 268 [I r, I c] (Bo (sides r c)) := by
  refine AF_body okG0 Try.func268 rfl rfl (by simp [Try.ntmps268]) (by simp) ?_; simp only [Try.ntmps268]
  refine aw_seq_k fun K1 hK1 => aw_region okG0 ?_; simp only [push_cast, Nat.reduceLT, Nat.reduceLeDiff, Nat.reduceEqDiff, reduceIte, reduceCtorEq, Nat.reduceAdd, Nat.reduceMul, Nat.reduceMod, Nat.reduceBEq, Nat.reduceBNe, List.reduceReplicate, Int.reduceLE, Int.reduceLT, Int.reduceNe]
  apply hK1; clear hK1
  refine aw_seq_k fun K2 hK2 => aw_region okG0 ?_; simp only [push_cast, Nat.reduceLT, Nat.reduceLeDiff, Nat.reduceEqDiff, reduceIte, reduceCtorEq, Nat.reduceAdd, Nat.reduceMul, Nat.reduceMod, Nat.reduceBEq, Nat.reduceBNe, List.reduceReplicate, Int.reduceLE, Int.reduceLT, Int.reduceNe]
  refine call_pure (l00In_spec _ _ _) (fits_of rfl) (by decide) rfl (by simp [idsV, idsVs]) ?_; simp only [push_cast, Nat.reduceLT, Nat.reduceLeDiff, Nat.reduceEqDiff, reduceIte, reduceCtorEq, Nat.reduceAdd, Nat.reduceMul, Nat.reduceMod, Nat.reduceBEq, Nat.reduceBNe, List.reduceReplicate, Int.reduceLE, Int.reduceLT, Int.reduceNe]
  refine gcall_pure (fun _ => l00In_spec _ _ _) (fun _ => fits_of rfl) (by decide) rfl rfl ?_; simp only [push_cast, Nat.reduceLT, Nat.reduceLeDiff, Nat.reduceEqDiff, reduceIte, reduceCtorEq, Nat.reduceAdd, Nat.reduceMul, Nat.reduceMod, Nat.reduceBEq, Nat.reduceBNe, List.reduceReplicate, Int.reduceLE, Int.reduceLT, Int.reduceNe]
  apply hK2; clear hK2
  refine aw_ret (ret_p rfl ?_ rfl (by simp))
  unfold sides
  cases inB r 1 16 <;> rfl
theorem areSides_spec (r c : Int) : AFp Try.prog 121 [I r, I c] (Bo (sides r c)) := by
  refine AF_body okG0 Try.func121 rfl rfl (by simp [Try.ntmps121]) (by simp) ?_; simp only [Try.ntmps121]
  refine aw_seq_k fun K1 hK1 => aw_region okG0 ?_; simp only [push_cast, Nat.reduceLT, Nat.reduceLeDiff, Nat.reduceEqDiff, reduceIte, reduceCtorEq, Nat.reduceAdd, Nat.reduceMul, Nat.reduceMod, Nat.reduceBEq, Nat.reduceBNe, List.reduceReplicate, Int.reduceLE, Int.reduceLT, Int.reduceNe]
  apply hK1; clear hK1
  refine aw_seq_k fun K2 hK2 => aw_region okG0 ?_; simp only [push_cast, Nat.reduceLT, Nat.reduceLeDiff, Nat.reduceEqDiff, reduceIte, reduceCtorEq, Nat.reduceAdd, Nat.reduceMul, Nat.reduceMod, Nat.reduceBEq, Nat.reduceBNe, List.reduceReplicate, Int.reduceLE, Int.reduceLT, Int.reduceNe]
  refine call_pure (within_spec _ _ _) (fits_of rfl) (by decide) rfl (by simp [idsV, idsVs]) ?_; simp only [push_cast, Nat.reduceLT, Nat.reduceLeDiff, Nat.reduceEqDiff, reduceIte, reduceCtorEq, Nat.reduceAdd, Nat.reduceMul, Nat.reduceMod, Nat.reduceBEq, Nat.reduceBNe, List.reduceReplicate, Int.reduceLE, Int.reduceLT, Int.reduceNe]
  refine gcall_pure (fun _ => within_spec _ _ _) (fun _ => fits_of rfl) (by decide) rfl rfl ?_; simp only [push_cast, Nat.reduceLT, Nat.reduceLeDiff, Nat.reduceEqDiff, reduceIte, reduceCtorEq, Nat.reduceAdd, Nat.reduceMul, Nat.reduceMod, Nat.reduceBEq, Nat.reduceBNe, List.reduceReplicate, Int.reduceLE, Int.reduceLT, Int.reduceNe]
  apply hK2; clear hK2
  refine aw_ret (ret_p rfl ?_ rfl (by simp))
  unfold sides
  cases inB r 1 16 <;> rfl
/-! ### Numbers that are finite -/
def fin (x : Nat) : Bool := flO .f32 (flB .sub .f32 x x) (canon .f32 0) == some .eq
theorem isFinite_spec (x : Nat) : AFp Try.prog 284 [F x] (Bo (fin x)) := by
  refine AF_body okG0 Try.func284 rfl rfl (by simp [Try.ntmps284]) (by simp) ?_; simp only [Try.ntmps284]
  refine aw_seq_k fun K1 hK1 => aw_region okG0 ?_; simp only [push_cast, Nat.reduceLT, Nat.reduceLeDiff, Nat.reduceEqDiff, reduceIte, reduceCtorEq, Nat.reduceAdd, Nat.reduceMul, Nat.reduceMod, Nat.reduceBEq, Nat.reduceBNe, List.reduceReplicate, Int.reduceLE, Int.reduceLT, Int.reduceNe]
  apply hK1; clear hK1
  refine aw_seq_k fun K2 hK2 => aw_region okG0 ?_; simp only [push_cast, Nat.reduceLT, Nat.reduceLeDiff, Nat.reduceEqDiff, reduceIte, reduceCtorEq, Nat.reduceAdd, Nat.reduceMul, Nat.reduceMod, Nat.reduceBEq, Nat.reduceBNe, List.reduceReplicate, Int.reduceLE, Int.reduceLT, Int.reduceNe]
  apply hK2; clear hK2
  exact aw_ret (ret_p rfl rfl rfl (by simp))
theorem l01Finite_spec (x : Nat) : AFp Try.prog 172 [F x] (Bo (fin x)) := by
  refine AF_body okG0 Try.func172 rfl rfl (by simp [Try.ntmps172]) (by simp) ?_; simp only [Try.ntmps172]
  refine aw_seq_k fun K1 hK1 => aw_region okG0 ?_; simp only [push_cast, Nat.reduceLT, Nat.reduceLeDiff, Nat.reduceEqDiff, reduceIte, reduceCtorEq, Nat.reduceAdd, Nat.reduceMul, Nat.reduceMod, Nat.reduceBEq, Nat.reduceBNe, List.reduceReplicate, Int.reduceLE, Int.reduceLT, Int.reduceNe]
  apply hK1; clear hK1
  refine aw_seq_k fun K2 hK2 => aw_region okG0 ?_; simp only [push_cast, Nat.reduceLT, Nat.reduceLeDiff, Nat.reduceEqDiff, reduceIte, reduceCtorEq, Nat.reduceAdd, Nat.reduceMul, Nat.reduceMod, Nat.reduceBEq, Nat.reduceBNe, List.reduceReplicate, Int.reduceLE, Int.reduceLT, Int.reduceNe]
  apply hK2; clear hK2
  exact aw_ret (ret_p rfl rfl rfl (by simp))
theorem notFinite_spec (x : Nat) : AFp Try.prog 283 [F x] (Bo (!fin x)) := by
  refine AF_body okG0 Try.func283 rfl rfl (by simp [Try.ntmps283]) (by simp) ?_; simp only [Try.ntmps283]
  refine aw_seq_k fun K1 hK1 => aw_region okG0 ?_; simp only [push_cast, Nat.reduceLT, Nat.reduceLeDiff, Nat.reduceEqDiff, reduceIte, reduceCtorEq, Nat.reduceAdd, Nat.reduceMul, Nat.reduceMod, Nat.reduceBEq, Nat.reduceBNe, List.reduceReplicate, Int.reduceLE, Int.reduceLT, Int.reduceNe]
  apply hK1; clear hK1
  refine aw_seq_k fun K2 hK2 => aw_region okG0 ?_; simp only [push_cast, Nat.reduceLT, Nat.reduceLeDiff, Nat.reduceEqDiff, reduceIte, reduceCtorEq, Nat.reduceAdd, Nat.reduceMul, Nat.reduceMod, Nat.reduceBEq, Nat.reduceBNe, List.reduceReplicate, Int.reduceLE, Int.reduceLT, Int.reduceNe]
  refine call_pure (isFinite_spec x) (fits_of rfl) (by decide) rfl (by simp [idsV, idsVs]) ?_; simp only [push_cast, Nat.reduceLT, Nat.reduceLeDiff, Nat.reduceEqDiff, reduceIte, reduceCtorEq, Nat.reduceAdd, Nat.reduceMul, Nat.reduceMod, Nat.reduceBEq, Nat.reduceBNe, List.reduceReplicate, Int.reduceLE, Int.reduceLT, Int.reduceNe]
  apply hK2; clear hK2
  exact aw_ret (ret_p rfl rfl rfl (by simp))
def idxN (l : List Nat) : Int := match l.findIdx? (fun x => !fin x) with | some i => (i : Int) | none => -1
theorem idxN_some {l : List Nat} {k : Nat} (hk : k < l.length) (h : ∀ j, j < k → fin (l.getD j 0) = true) (hn : fin (l.getD k 0) = false) : idxN l = k := by
  have : l.findIdx? (fun x => !fin x) = some k := by
    rw [List.findIdx?_eq_some_iff_getElem]
    refine ⟨hk, ?_, fun j hj => ?_⟩
    · rw [List.getD_eq_getElem?_getD, List.getElem?_eq_getElem hk] at hn; simpa using hn
    · have := h j hj
      rw [List.getD_eq_getElem?_getD, List.getElem?_eq_getElem (by omega)] at this; simpa using this
  unfold idxN; rw [this]
theorem idxN_none {l : List Nat} (h : ∀ j, j < l.length → fin (l.getD j 0) = true) : idxN l = -1 := by
  have : l.findIdx? (fun x => !fin x) = none := by
    rw [List.findIdx?_eq_none_iff]
    intro x hx
    obtain ⟨j, hj, rfl⟩ := List.getElem_of_mem hx
    have := h j hj
    rw [List.getD_eq_getElem?_getD, List.getElem?_eq_getElem hj] at this; simpa using this
  unfold idxN; rw [this]
theorem idxN_all (l : List Nat) : decide (0 ≤ idxN l) = !l.all fin := by
  unfold idxN
  cases h : l.findIdx? (fun x => !fin x) with
  | none =>
    rw [List.findIdx?_eq_none_iff] at h
    have : l.all fin = true := by rw [List.all_eq_true]; intro x hx; simpa using h x hx
    rw [this]; rfl
  | some i =>
    rw [List.findIdx?_eq_some_iff_getElem] at h
    obtain ⟨hi, hn, _⟩ := h
    have : l.all fin = false := by
      rw [List.all_eq_false]
      exact ⟨l[i], List.getElem_mem hi, by simpa using hn⟩
    rw [this]; simp
theorem indexFunc_spec (l : List Nat) (hl : l.length ≤ 4611686018427387904) : AFp Try.prog 336 [Fs l, .clo 283 []] (I (idxN l)) := by
  refine AF_body okG0 Try.func336 rfl rfl (by simp [Try.ntmps336]) (by simp) ?_; simp only [Try.ntmps336]
  refine aw_seq_k fun K1 hK1 => aw_region okG0 ?_; simp only [push_cast, Nat.reduceLT, Nat.reduceLeDiff, Nat.reduceEqDiff, reduceIte, reduceCtorEq, Nat.reduceAdd, Nat.reduceMul, Nat.reduceMod, Nat.reduceBEq, Nat.reduceBNe, List.reduceReplicate, Int.reduceLE, Int.reduceLT, Int.reduceNe]
  apply hK1; clear hK1
  refine aw_seq_k fun K2 hK2 => ?_
  refine aw_seq_k fun K3 hK3 => aw_region okG0 ?_; simp only [push_cast, Nat.reduceLT, Nat.reduceLeDiff, Nat.reduceEqDiff, reduceIte, reduceCtorEq, Nat.reduceAdd, Nat.reduceMul, Nat.reduceMod, Nat.reduceBEq, Nat.reduceBNe, List.reduceReplicate, Int.reduceLE, Int.reduceLT, Int.reduceNe]
  apply hK3; clear hK3
  refine aw_block ?_
  refine aw_loop (fun k : {k : Nat // k ≤ l.length ∧ ∀ j, j < k → fin (l.getD j 0) = true} => ⟨[(0, Fs l), (1, .clo 283 []), (7, I l.length), (8, I k.1)], [], []⟩) (fun k => l.length - k.1) ⟨0, Nat.zero_le _, fun j hj => absurd hj (Nat.not_lt_zero j)⟩ (sub_to (by simp [allE, getE] <;> (repeat' apply And.intro) <;> rfl) (by simp [allB, getB] <;> rfl) rfl rfl rfl) ?_
  rintro ⟨k, hk, hf⟩
  refine aw_seq_k fun K4 hK4 => aw_region okG0 ?_; simp only [push_cast, Nat.reduceLT, Nat.reduceLeDiff, Nat.reduceEqDiff, reduceIte, reduceCtorEq, Nat.reduceAdd, Nat.reduceMul, Nat.reduceMod, Nat.reduceBEq, Nat.reduceBNe, List.reduceReplicate, Int.reduceLE, Int.reduceLT, Int.reduceNe]
  apply hK4; clear hK4
  refine aw_seq_k fun K5 hK5 => ?_
  refine aw_cond rfl (fun hc => ?_) (fun hc => ?_)
  · have hlt : k < l.length := by simpa using hc
    refine aw_skip ?_
    simp only [push_cast, Nat.reduceLT, Nat.reduceLeDiff, Nat.reduceEqDiff, reduceIte, reduceCtorEq, Nat.reduceAdd, Nat.reduceMul, Nat.reduceMod, Nat.reduceBEq, Nat.reduceBNe, List.reduceReplicate, Int.reduceLE, Int.reduceLT, Int.reduceNe]
    apply hK5; clear hK5
    refine aw_seq_k fun K6 hK6 => ?_
    refine aw_block ?_
    refine aw_seq_k fun K7 hK7 => aw_region okG0 ?_; simp only [push_cast, Nat.reduceLT, Nat.reduceLeDiff, Nat.reduceEqDiff, reduceIte, reduceCtorEq, Nat.reduceAdd, Nat.reduceMul, Nat.reduceMod, Nat.reduceBEq, Nat.reduceBNe, List.reduceReplicate, Int.reduceLE, Int.reduceLT, Int.reduceNe]
    apply hK7; clear hK7
    refine aw_seq_k fun K8 hK8 => aw_region okG0 ?_; simp only [push_cast, Nat.reduceLT, Nat.reduceLeDiff, Nat.reduceEqDiff, reduceIte, reduceCtorEq, Nat.reduceAdd, Nat.reduceMul, Nat.reduceMod, Nat.reduceBEq, Nat.reduceBNe, List.reduceReplicate, Int.reduceLE, Int.reduceLT, Int.reduceNe]
    refine ⟨⟨by omega, by omega⟩, ?_⟩
    refine call_pure (notFinite_spec (l.getD k 0)) (fits_of rfl) (by decide) rfl (by simp [idsV, idsVs]) ?_; simp only [push_cast, Nat.reduceLT, Nat.reduceLeDiff, Nat.reduceEqDiff, reduceIte, reduceCtorEq, Nat.reduceAdd, Nat.reduceMul, Nat.reduceMod, Nat.reduceBEq, Nat.reduceBNe, List.reduceReplicate, Int.reduceLE, Int.reduceLT, Int.reduceNe]
    apply hK8; clear hK8
    refine aw_cond rfl (fun hc => ?_) (fun hc => ?_)
    · refine aw_seq_k fun K9 hK9 => aw_region okG0 ?_; simp only [push_cast, Nat.reduceLT, Nat.reduceLeDiff, Nat.reduceEqDiff, reduceIte, reduceCtorEq, Nat.reduceAdd, Nat.reduceMul, Nat.reduceMod, Nat.reduceBEq, Nat.reduceBNe, List.reduceReplicate, Int.reduceLE, Int.reduceLT, Int.reduceNe]
      apply hK9; clear hK9
      refine aw_ret (ret_p rfl ?_ rfl (by simp))
      rw [idxN_some hlt hf (by simpa using hc)]
      rfl
    · refine aw_skip ?_
      simp only [push_cast, Nat.reduceLT, Nat.reduceLeDiff, Nat.reduceEqDiff, reduceIte, reduceCtorEq, Nat.reduceAdd, Nat.reduceMul, Nat.reduceMod, Nat.reduceBEq, Nat.reduceBNe, List.reduceReplicate, Int.reduceLE, Int.reduceLT, Int.reduceNe]
      apply hK6; clear hK6
      refine aw_region okG0 ?_
      simp only [push_cast, Nat.reduceLT, Nat.reduceLeDiff, Nat.reduceEqDiff, reduceIte, reduceCtorEq, Nat.reduceAdd, Nat.reduceMul, Nat.reduceMod, Nat.reduceBEq, Nat.reduceBNe, List.reduceReplicate, Int.reduceLE, Int.reduceLT, Int.reduceNe]
      refine ⟨⟨k + 1, by omega, fun j hj => ?_⟩, ?_, by show l.length - (k + 1) < l.length - k; omega⟩
      · by_cases hjk : j < k
        · exact hf j hjk
        · have : j = k := by omega
          subst this; simpa using hc
      · rw [w64 (n := (k : Int) + 1) (by omega) (by omega)]
        exact sub_to (by simp [allE, getE] <;> (repeat' apply And.intro) <;> rfl) (by simp [allB, getB] <;> rfl) rfl rfl rfl
  · have hlt : k = l.length := by have : ¬ (k : Int) < l.length := by simpa using hc
                                  omega
    refine aw_exit ?_
    simp only [push_cast, Nat.reduceLT, Nat.reduceLeDiff, Nat.reduceEqDiff, reduceIte, reduceCtorEq, Nat.reduceAdd, Nat.reduceMul, Nat.reduceMod, Nat.reduceBEq, Nat.reduceBNe, List.reduceReplicate, Int.reduceLE, Int.reduceLT, Int.reduceNe]
    apply hK2; clear hK2
    refine aw_seq_k fun K10 hK10 => aw_region okG0 ?_; simp only [push_cast, Nat.reduceLT, Nat.reduceLeDiff, Nat.reduceEqDiff, reduceIte, reduceCtorEq, Nat.reduceAdd, Nat.reduceMul, Nat.reduceMod, Nat.reduceBEq, Nat.reduceBNe, List.reduceReplicate, Int.reduceLE, Int.reduceLT, Int.reduceNe]
    apply hK10; clear hK10
    refine aw_ret (ret_p rfl ?_ rfl (by simp))
    rw [idxN_none (by rw [← hlt]; exact hf)]
    rfl
theorem containsFunc_spec (l : List Nat) (hl : l.length ≤ 4611686018427387904) : AFp Try.prog 282 [Fs l, .clo 283 []] (Bo (!l.all fin)) := by
  refine AF_body okG0 Try.func282 rfl rfl (by simp [Try.ntmps282]) (by simp) ?_; simp only [Try.ntmps282]
  refine aw_seq_k fun K1 hK1 => aw_region okG0 ?_; simp only [push_cast, Nat.reduceLT, Nat.reduceLeDiff, Nat.reduceEqDiff, reduceIte, reduceCtorEq, Nat.reduceAdd, Nat.reduceMul, Nat.reduceMod, Nat.reduceBEq, Nat.reduceBNe, List.reduceReplicate, Int.reduceLE, Int.reduceLT, Int.reduceNe]
  apply hK1; clear hK1
  refine aw_seq_k fun K2 hK2 => aw_region okG0 ?_; simp only [push_cast, Nat.reduceLT, Nat.reduceLeDiff, Nat.reduceEqDiff, reduceIte, reduceCtorEq, Nat.reduceAdd, Nat.reduceMul, Nat.reduceMod, Nat.reduceBEq, Nat.reduceBNe, List.reduceReplicate, Int.reduceLE, Int.reduceLT, Int.reduceNe]
  refine call_pure (indexFunc_spec l hl) (fits_of rfl) (by decide) rfl (by simp [idsV, idsVs]) ?_; simp only [push_cast, Nat.reduceLT, Nat.reduceLeDiff, Nat.reduceEqDiff, reduceIte, reduceCtorEq, Nat.reduceAdd, Nat.reduceMul, Nat.reduceMod, Nat.reduceBEq, Nat.reduceBNe, List.reduceReplicate, Int.reduceLE, Int.reduceLT, Int.reduceNe]
  apply hK2; clear hK2
  refine aw_ret (ret_p rfl ?_ rfl (by simp))
  rw [← idxN_all]
  rfl
theorem areFinite_spec (l : List Nat) (hl : l.length ≤ 4611686018427387904) : AFp Try.prog 163 [Fs l] (Bo (l.all fin)) := by
  refine AF_body okG0 Try.func163 rfl rfl (by simp [Try.ntmps163]) (by simp) ?_; simp only [Try.ntmps163]
  refine aw_seq_k fun K1 hK1 => aw_region okG0 ?_; simp only [push_cast, Nat.reduceLT, Nat.reduceLeDiff, Nat.reduceEqDiff, reduceIte, reduceCtorEq, Nat.reduceAdd, Nat.reduceMul, Nat.reduceMod, Nat.reduceBEq, Nat.reduceBNe, List.reduceReplicate, Int.reduceLE, Int.reduceLT, Int.reduceNe]
  apply hK1; clear hK1
  refine aw_seq_k fun K2 hK2 => aw_region okG0 ?_; simp only [push_cast, Nat.reduceLT, Nat.reduceLeDiff, Nat.reduceEqDiff, reduceIte, reduceCtorEq, Nat.reduceAdd, Nat.reduceMul, Nat.reduceMod, Nat.reduceBEq, Nat.reduceBNe, List.reduceReplicate, Int.reduceLE, Int.reduceLT, Int.reduceNe]
  refine call_pure (containsFunc_spec l hl) (fits_of rfl) (by decide) rfl (by simp [idsV, idsVs]) ?_; simp only [push_cast, Nat.reduceLT, Nat.reduceLeDiff, Nat.reduceEqDiff, reduceIte, reduceCtorEq, Nat.reduceAdd, Nat.reduceMul, Nat.reduceMod, Nat.reduceBEq, Nat.reduceBNe, List.reduceReplicate, Int.reduceLE, Int.reduceLT, Int.reduceNe]
  apply hK2; clear hK2
  refine aw_ret (ret_p rfl ?_ rfl (by simp))
  cases l.all fin <;> rfl
theorem all_of {l : List Nat} (h : ∀ j, j < l.length → fin (l.getD j 0) = true) : l.all fin = true := by
  rw [List.all_eq_true]
  intro x hx
  obtain ⟨j, hj, rfl⟩ := List.getElem_of_mem hx
  have := h j hj
  rw [List.getD_eq_getElem?_getD, List.getElem?_eq_getElem hj] at this; simpa using this
theorem all_not {l : List Nat} {k : Nat} (hk : k < l.length) (h : fin (l.getD k 0) = false) : l.all fin = false := by
  rw [List.all_eq_false]
  refine ⟨l[k], List.getElem_mem hk, ?_⟩
  rw [List.getD_eq_getElem?_getD, List.getElem?_eq_getElem hk] at h; simpa using h
theorem l02Finite_spec (l : List Nat) (hl : l.length ≤ 4611686018427387904) : AFp Try.prog 269 [Fs l] (Bo (l.all fin)) := by
  refine AF_body okG0 Try.func269 rfl rfl (by simp [Try.ntmps269]) (by simp) ?_; simp only [Try.ntmps269]
  refine aw_seq_k fun K1 hK1 => aw_region okG0 ?_; simp only [push_cast, Nat.reduceLT, Nat.reduceLeDiff, Nat.reduceEqDiff, reduceIte, reduceCtorEq, Nat.reduceAdd, Nat.reduceMul, Nat.reduceMod, Nat.reduceBEq, Nat.reduceBNe, List.reduceReplicate, Int.reduceLE, Int.reduceLT, Int.reduceNe]
  apply hK1; clear hK1
  refine aw_seq_k fun K2 hK2 => ?_
  refine aw_seq_k fun K3 hK3 => aw_region okG0 ?_; simp only [push_cast, Nat.reduceLT, Nat.reduceLeDiff, Nat.reduceEqDiff, reduceIte, reduceCtorEq, Nat.reduceAdd, Nat.reduceMul, Nat.reduceMod, Nat.reduceBEq, Nat.reduceBNe, List.reduceReplicate, Int.reduceLE, Int.reduceLT, Int.reduceNe]
  apply hK3; clear hK3
  refine aw_block ?_
  refine aw_loop (fun k : {k : Nat // k ≤ l.length ∧ ∀ j, j < k → fin (l.getD j 0) = true} => ⟨[(0, Fs l), (3, I k.1)], [], []⟩) (fun k => l.length - k.1) ⟨0, Nat.zero_le _, fun j hj => absurd hj (Nat.not_lt_zero j)⟩ (sub_to (by simp [allE, getE] <;> (repeat' apply And.intro) <;> rfl) (by simp [allB, getB] <;> rfl) rfl rfl rfl) ?_
  rintro ⟨k, hk, hf⟩
  refine aw_seq_k fun K4 hK4 => ?_
  refine aw_seq_k fun K5 hK5 => aw_region okG0 ?_; simp only [push_cast, Nat.reduceLT, Nat.reduceLeDiff, Nat.reduceEqDiff, reduceIte, reduceCtorEq, Nat.reduceAdd, Nat.reduceMul, Nat.reduceMod, Nat.reduceBEq, Nat.reduceBNe, List.reduceReplicate, Int.reduceLE, Int.reduceLT, Int.reduceNe]
  apply hK5; clear hK5
  refine aw_cond rfl (fun hc => ?_) (fun hc => ?_)
  · have hlt : k < l.length := by simpa using hc
    refine aw_skip ?_
    simp only [push_cast, Nat.reduceLT, Nat.reduceLeDiff, Nat.reduceEqDiff, reduceIte, reduceCtorEq, Nat.reduceAdd, Nat.reduceMul, Nat.reduceMod, Nat.reduceBEq, Nat.reduceBNe, List.reduceReplicate, Int.reduceLE, Int.reduceLT, Int.reduceNe]
    apply hK4; clear hK4
    refine aw_seq_k fun K6 hK6 => ?_
    refine aw_block ?_
    refine aw_seq_k fun K7 hK7 => aw_region okG0 ?_; simp only [push_cast, Nat.reduceLT, Nat.reduceLeDiff, Nat.reduceEqDiff, reduceIte, reduceCtorEq, Nat.reduceAdd, Nat.reduceMul, Nat.reduceMod, Nat.reduceBEq, Nat.reduceBNe, List.reduceReplicate, Int.reduceLE, Int.reduceLT, Int.reduceNe]
    refine ⟨⟨by omega, by omega⟩, ?_⟩
    refine call_pure (l01Finite_spec (l.getD k 0)) (fits_of rfl) (by decide) rfl (by simp [idsV, idsVs]) ?_; simp only [push_cast, Nat.reduceLT, Nat.reduceLeDiff, Nat.reduceEqDiff, reduceIte, reduceCtorEq, Nat.reduceAdd, Nat.reduceMul, Nat.reduceMod, Nat.reduceBEq, Nat.reduceBNe, List.reduceReplicate, Int.reduceLE, Int.reduceLT, Int.reduceNe]
    apply hK7; clear hK7
    refine aw_cond rfl (fun hc => ?_) (fun hc => ?_)
    · refine aw_seq_k fun K8 hK8 => aw_region okG0 ?_; simp only [push_cast, Nat.reduceLT, Nat.reduceLeDiff, Nat.reduceEqDiff, reduceIte, reduceCtorEq, Nat.reduceAdd, Nat.reduceMul, Nat.reduceMod, Nat.reduceBEq, Nat.reduceBNe, List.reduceReplicate, Int.reduceLE, Int.reduceLT, Int.reduceNe]
      apply hK8; clear hK8
      refine aw_ret (ret_p rfl ?_ rfl (by simp))
      rw [all_not hlt (by simpa using hc)]
      rfl
    · refine aw_skip ?_
      simp only [push_cast, Nat.reduceLT, Nat.reduceLeDiff, Nat.reduceEqDiff, reduceIte, reduceCtorEq, Nat.reduceAdd, Nat.reduceMul, Nat.reduceMod, Nat.reduceBEq, Nat.reduceBNe, List.reduceReplicate, Int.reduceLE, Int.reduceLT, Int.reduceNe]
      apply hK6; clear hK6
      refine aw_region okG0 ?_
      simp only [push_cast, Nat.reduceLT, Nat.reduceLeDiff, Nat.reduceEqDiff, reduceIte, reduceCtorEq, Nat.reduceAdd, Nat.reduceMul, Nat.reduceMod, Nat.reduceBEq, Nat.reduceBNe, List.reduceReplicate, Int.reduceLE, Int.reduceLT, Int.reduceNe]
      refine ⟨⟨k + 1, by omega, fun j hj => ?_⟩, ?_, by show l.length - (k + 1) < l.length - k; omega⟩
      · by_cases hjk : j < k
        · exact hf j hjk
        · have : j = k := by omega
          subst this; simpa using hc
      · rw [w64 (n := (k : Int) + 1) (by omega) (by omega)]
        exact sub_to (by simp [allE, getE] <;> (repeat' apply And.intro) <;> rfl) (by simp [allB, getB] <;> rfl) rfl rfl rfl
  · have hlt : k = l.length := by have : ¬ (k : Int) < l.length := by simpa using hc
                                  omega
    refine aw_exit ?_
    simp only [push_cast, Nat.reduceLT, Nat.reduceLeDiff, Nat.reduceEqDiff, reduceIte, reduceCtorEq, Nat.reduceAdd, Nat.reduceMul, Nat.reduceMod, Nat.reduceBEq, Nat.reduceBNe, List.reduceReplicate, Int.reduceLE, Int.reduceLT, Int.reduceNe]
    apply hK2; clear hK2
    refine aw_seq_k fun K9 hK9 => aw_region okG0 ?_; simp only [push_cast, Nat.reduceLT, Nat.reduceLeDiff, Nat.reduceEqDiff, reduceIte, reduceCtorEq, Nat.reduceAdd, Nat.reduceMul, Nat.reduceMod, Nat.reduceBEq, Nat.reduceBNe, List.reduceReplicate, Int.reduceLE, Int.reduceLT, Int.reduceNe]
    apply hK9; clear hK9
    refine aw_ret (ret_p rfl ?_ rfl (by simp))
    rw [all_of (by rw [← hlt]; exact hf)]
    rfl
def gt0 (x : Nat) : Bool := flO .f32 x (canon .f32 0) == some .gt
theorem l02Above_spec (x : Nat) : AFp Try.prog 272 [F x] (Bo (fin x && gt0 x)) := by
  refine AF_body okG0 Try.func272 rfl rfl (by simp [Try.ntmps272]) (by simp) ?_; simp only [Try.ntmps272]
  refine aw_seq_k fun K1 hK1 => aw_region okG0 ?_; simp only [push_cast, Nat.reduceLT, Nat.reduceLeDiff, Nat.reduceEqDiff, reduceIte, reduceCtorEq, Nat.reduceAdd, Nat.reduceMul, Nat.reduceMod, Nat.reduceBEq, Nat.reduceBNe, List.reduceReplicate, Int.reduceLE, Int.reduceLT, Int.reduceNe]
  apply hK1; clear hK1
  refine aw_seq_k fun K2 hK2 => aw_region okG0 ?_; simp only [push_cast, Nat.reduceLT, Nat.reduceLeDiff, Nat.reduceEqDiff, reduceIte, reduceCtorEq, Nat.reduceAdd, Nat.reduceMul, Nat.reduceMod, Nat.reduceBEq, Nat.reduceBNe, List.reduceReplicate, Int.reduceLE, Int.reduceLT, Int.reduceNe]
  refine call_pure (l01Finite_spec _) (fits_of rfl) (by decide) rfl (by simp [idsV, idsVs]) ?_; simp only [push_cast, Nat.reduceLT, Nat.reduceLeDiff, Nat.reduceEqDiff, reduceIte, reduceCtorEq, Nat.reduceAdd, Nat.reduceMul, Nat.reduceMod, Nat.reduceBEq, Nat.reduceBNe, List.reduceReplicate, Int.reduceLE, Int.reduceLT, Int.reduceNe]
  apply hK2; clear hK2
  refine aw_ret (ret_p rfl ?_ rfl (by simp))
  cases fin x <;> rfl
def two (x : Nat) : Bool := (flO .f32 x (canon .f32 0) == some .gt || flO .f32 x (canon .f32 0) == some .eq) && (flO .f32 x (canon .f32 1073741824) == some .lt || flO .f32 x (canon .f32 1073741824) == some .eq)
theorem l06Two_spec (x : Nat) : AFp Try.prog 152 [F x] (Bo (two x)) := by
  refine AF_body okG0 Try.func152 rfl rfl (by simp [Try.ntmps152]) (by simp) ?_; simp only [Try.ntmps152]
  refine aw_seq_k fun K1 hK1 => aw_region okG0 ?_; simp only [push_cast, Nat.reduceLT, Nat.reduceLeDiff, Nat.reduceEqDiff, reduceIte, reduceCtorEq, Nat.reduceAdd, Nat.reduceMul, Nat.reduceMod, Nat.reduceBEq, Nat.reduceBNe, List.reduceReplicate, Int.reduceLE, Int.reduceLT, Int.reduceNe]
  apply hK1; clear hK1
  refine aw_seq_k fun K2 hK2 => aw_region okG0 ?_; simp only [push_cast, Nat.reduceLT, Nat.reduceLeDiff, Nat.reduceEqDiff, reduceIte, reduceCtorEq, Nat.reduceAdd, Nat.reduceMul, Nat.reduceMod, Nat.reduceBEq, Nat.reduceBNe, List.reduceReplicate, Int.reduceLE, Int.reduceLT, Int.reduceNe]
  apply hK2; clear hK2
  exact aw_ret (ret_p rfl rfl rfl (by simp))
theorem isCalming_spec (x : Nat) : AFp Try.prog 157 [F x] (Bo (two x)) := by
  refine AF_body okG0 Try.func157 rfl rfl (by simp [Try.ntmps157]) (by simp) ?_; simp only [Try.ntmps157]
  refine aw_seq_k fun K1 hK1 => aw_region okG0 ?_; simp only [push_cast, Nat.reduceLT, Nat.reduceLeDiff, Nat.reduceEqDiff, reduceIte, reduceCtorEq, Nat.reduceAdd, Nat.reduceMul, Nat.reduceMod, Nat.reduceBEq, Nat.reduceBNe, List.reduceReplicate, Int.reduceLE, Int.reduceLT, Int.reduceNe]
  apply hK1; clear hK1
  refine aw_seq_k fun K2 hK2 => aw_region okG0 ?_; simp only [push_cast, Nat.reduceLT, Nat.reduceLeDiff, Nat.reduceEqDiff, reduceIte, reduceCtorEq, Nat.reduceAdd, Nat.reduceMul, Nat.reduceMod, Nat.reduceBEq, Nat.reduceBNe, List.reduceReplicate, Int.reduceLE, Int.reduceLT, Int.reduceNe]
  apply hK2; clear hK2
  exact aw_ret (ret_p rfl rfl rfl (by simp))
end Go.Proofs.Avx

set_option linter.unusedVariables false
set_option linter.unusedSimpArgs false
namespace Go.Proofs.Avx
attribute [local irreducible] canon flB flO flW floatOfInt
/-! ### Where parts go, masses, speeds, calm parts -/
def pd (q : Nat) : Int := [0, 0, 1, 0, -1, 1, 1, -1, -1].getD q 0
def pr (q : Nat) : Int := [0, 1, 0, -1, 0, 1, -1, -1, 1].getD q 0
theorem l06Part_spec (q : Nat) (hq : q < 9) : AFp Try.prog 296 [I q] (.tup [I (pd q), I (pr q)]) := by
  refine AF_body okG0 Try.func296 rfl rfl (by simp [Try.ntmps296]) (by simp) ?_; simp only [Try.ntmps296]
  refine aw_seq_k fun K1 hK1 => aw_region okG0 ?_; simp only [push_cast, Nat.reduceLT, Nat.reduceLeDiff, Nat.reduceEqDiff, reduceIte, reduceCtorEq, Nat.reduceAdd, Nat.reduceMul, Nat.reduceMod, Nat.reduceBEq, Nat.reduceBNe, List.reduceReplicate, Int.reduceLE, Int.reduceLT, Int.reduceNe]
  apply hK1; clear hK1
  refine aw_seq_k fun K2 hK2 => aw_draw fol okG0 9 (by kernel_rfl) ?_; simp only [push_cast, Nat.reduceLT, Nat.reduceLeDiff, Nat.reduceEqDiff, reduceIte, reduceCtorEq, Nat.reduceAdd, Nat.reduceMul, Nat.reduceMod, Nat.reduceBEq, Nat.reduceBNe, List.reduceReplicate, Int.reduceLE, Int.reduceLT, Int.reduceNe]
  refine ⟨⟨by omega, by show (q : Int) < 9; omega⟩, hq, ⟨by omega, by show (q : Int) < 9; omega⟩, hq, ?_⟩
  apply hK2; clear hK2
  exact aw_ret (ret_p rfl rfl rfl (by simp))
theorem partGoes_int (n : Int) (hn : 0 ≤ n) (h : n < 9) : AFp Try.prog 298 [I n] (.tup [I (pd n.toNat), I (pr n.toNat)]) := by
  have h9 : n = 0 ∨ n = 1 ∨ n = 2 ∨ n = 3 ∨ n = 4 ∨ n = 5 ∨ n = 6 ∨ n = 7 ∨ n = 8 := by omega
  rcases h9 with rfl | rfl | rfl | rfl | rfl | rfl | rfl | rfl | rfl
  all_goals
    refine AF_body okG0 Try.func298 rfl rfl (by simp [Try.ntmps298]) (by simp) ?_; simp only [Try.ntmps298]
    refine aw_seq_k fun K1 hK1 => aw_region okG0 ?_; simp only [push_cast, Nat.reduceLT, Nat.reduceLeDiff, Nat.reduceEqDiff, reduceIte, reduceCtorEq, Nat.reduceAdd, Nat.reduceMul, Nat.reduceMod, Nat.reduceBEq, Nat.reduceBNe, List.reduceReplicate, Int.reduceLE, Int.reduceLT, Int.reduceNe]
    apply hK1; clear hK1
    refine aw_seq_k fun K2 hK2 => aw_region okG0 ?_; simp only [push_cast, Nat.reduceLT, Nat.reduceLeDiff, Nat.reduceEqDiff, reduceIte, reduceCtorEq, Nat.reduceAdd, Nat.reduceMul, Nat.reduceMod, Nat.reduceBEq, Nat.reduceBNe, List.reduceReplicate, Int.reduceLE, Int.reduceLT, Int.reduceNe]
    apply hK2; clear hK2
    refine aw_seq_k fun K3 hK3 => aw_region okG0 ?_; simp only [push_cast, Nat.reduceLT, Nat.reduceLeDiff, Nat.reduceEqDiff, reduceIte, reduceCtorEq, Nat.reduceAdd, Nat.reduceMul, Nat.reduceMod, Nat.reduceBEq, Nat.reduceBNe, List.reduceReplicate, Int.reduceLE, Int.reduceLT, Int.reduceNe]
    apply hK3; clear hK3
    refine aw_seq_k fun K4 hK4 => aw_draw fol okG0 7 (by kernel_rfl) ?_; simp only [push_cast, Nat.reduceLT, Nat.reduceLeDiff, Nat.reduceEqDiff, reduceIte, reduceCtorEq, Nat.reduceAdd, Nat.reduceMul, Nat.reduceMod, Nat.reduceBEq, Nat.reduceBNe, List.reduceReplicate, Int.reduceLE, Int.reduceLT, Int.reduceNe]
    refine ⟨⟨by omega, by omega⟩, ?_⟩
    simp only [Int.reduceToNat, Nat.reduceMul, Nat.reduceAdd, List.drop_succ_cons, List.drop_zero, List.head?_cons, Option.map_some, true_and]
    refine ⟨⟨by omega, by omega⟩, ?_⟩
    apply hK4; clear hK4
    exact aw_ret (ret_p rfl rfl rfl (by simp))
theorem partGoes_spec (q : Nat) (hq : q < 9) : AFp Try.prog 298 [I q] (.tup [I (pd q), I (pr q)]) := partGoes_int q (by omega) (by omega)
def fi (n : Int) : Nat := canon .f32 (floatOfInt .f32 n)
def mTo (l : List Nat) : Nat → Nat
  | 0 => canon .f32 0
  | k + 1 => flB .add .f32 (mTo l k) (l.getD k 0)
def uTo (p : Nat → Int) (l : List Nat) : Nat → Nat
  | 0 => canon .f32 0
  | k + 1 => flB .add .f32 (uTo p l k) (flB .mul .f32 (fi (p k)) (l.getD k 0))
theorem massOf_spec (l : List Nat) (hl : l.length ≤ 4611686018427387904) : AFp Try.prog 276 [Fs l] (F (mTo l l.length)) := by
  refine AF_body okG0 Try.func276 rfl rfl (by simp [Try.ntmps276]) (by simp) ?_; simp only [Try.ntmps276]
  refine aw_seq_k fun K1 hK1 => aw_region okG0 ?_; simp only [push_cast, Nat.reduceLT, Nat.reduceLeDiff, Nat.reduceEqDiff, reduceIte, reduceCtorEq, Nat.reduceAdd, Nat.reduceMul, Nat.reduceMod, Nat.reduceBEq, Nat.reduceBNe, List.reduceReplicate, Int.reduceLE, Int.reduceLT, Int.reduceNe]
  apply hK1; clear hK1
  refine aw_seq_k fun K2 hK2 => aw_region okG0 ?_; simp only [push_cast, Nat.reduceLT, Nat.reduceLeDiff, Nat.reduceEqDiff, reduceIte, reduceCtorEq, Nat.reduceAdd, Nat.reduceMul, Nat.reduceMod, Nat.reduceBEq, Nat.reduceBNe, List.reduceReplicate, Int.reduceLE, Int.reduceLT, Int.reduceNe]
  apply hK2; clear hK2
  refine aw_seq_k fun K3 hK3 => ?_
  refine aw_seq_k fun K4 hK4 => aw_region okG0 ?_; simp only [push_cast, Nat.reduceLT, Nat.reduceLeDiff, Nat.reduceEqDiff, reduceIte, reduceCtorEq, Nat.reduceAdd, Nat.reduceMul, Nat.reduceMod, Nat.reduceBEq, Nat.reduceBNe, List.reduceReplicate, Int.reduceLE, Int.reduceLT, Int.reduceNe]
  apply hK4; clear hK4
  refine aw_block ?_
  refine aw_loop (fun k : {k : Nat // k ≤ l.length} => ⟨[(6, Fs l), (7, I l.length), (3, F (mTo l k.1)), (8, I k.1)], [], []⟩) (fun k => l.length - k.1) ⟨0, Nat.zero_le _⟩ (sub_to (by simp [allE, getE] <;> (repeat' apply And.intro) <;> rfl) (by simp [allB, getB] <;> rfl) rfl rfl rfl) ?_
  rintro ⟨k, hk⟩
  refine aw_seq_k fun K5 hK5 => aw_region okG0 ?_; simp only [push_cast, Nat.reduceLT, Nat.reduceLeDiff, Nat.reduceEqDiff, reduceIte, reduceCtorEq, Nat.reduceAdd, Nat.reduceMul, Nat.reduceMod, Nat.reduceBEq, Nat.reduceBNe, List.reduceReplicate, Int.reduceLE, Int.reduceLT, Int.reduceNe]
  apply hK5; clear hK5
  refine aw_seq_k fun K6 hK6 => ?_
  refine aw_cond rfl (fun hc => ?_) (fun hc => ?_)
  · have hlt : k < l.length := by simpa using hc
    refine aw_skip ?_
    simp only [push_cast, Nat.reduceLT, Nat.reduceLeDiff, Nat.reduceEqDiff, reduceIte, reduceCtorEq, Nat.reduceAdd, Nat.reduceMul, Nat.reduceMod, Nat.reduceBEq, Nat.reduceBNe, List.reduceReplicate, Int.reduceLE, Int.reduceLT, Int.reduceNe]
    apply hK6; clear hK6
    refine aw_seq_k fun K7 hK7 => ?_
    refine aw_block ?_
    refine aw_seq_k fun K8 hK8 => aw_region okG0 ?_; simp only [push_cast, Nat.reduceLT, Nat.reduceLeDiff, Nat.reduceEqDiff, reduceIte, reduceCtorEq, Nat.reduceAdd, Nat.reduceMul, Nat.reduceMod, Nat.reduceBEq, Nat.reduceBNe, List.reduceReplicate, Int.reduceLE, Int.reduceLT, Int.reduceNe]
    refine ⟨⟨by omega, by omega⟩, ?_⟩
    apply hK8; clear hK8
    refine aw_region okG0 ?_
    simp only [push_cast, Nat.reduceLT, Nat.reduceLeDiff, Nat.reduceEqDiff, reduceIte, reduceCtorEq, Nat.reduceAdd, Nat.reduceMul, Nat.reduceMod, Nat.reduceBEq, Nat.reduceBNe, List.reduceReplicate, Int.reduceLE, Int.reduceLT, Int.reduceNe]
    apply hK7; clear hK7
    refine aw_region okG0 ?_
    simp only [push_cast, Nat.reduceLT, Nat.reduceLeDiff, Nat.reduceEqDiff, reduceIte, reduceCtorEq, Nat.reduceAdd, Nat.reduceMul, Nat.reduceMod, Nat.reduceBEq, Nat.reduceBNe, List.reduceReplicate, Int.reduceLE, Int.reduceLT, Int.reduceNe]
    refine ⟨⟨k + 1, by omega⟩, ?_, by show l.length - (k + 1) < l.length - k; omega⟩
    rw [w64 (n := (k : Int) + 1) (by omega) (by omega)]
    exact sub_to (by simp [allE, getE] <;> (repeat' apply And.intro) <;> rfl) (by simp [allB, getB] <;> rfl) rfl rfl rfl
  · have hlt : k = l.length := by have : ¬ (k : Int) < l.length := by simpa using hc
                                  omega
    subst hlt
    refine aw_exit ?_
    simp only [push_cast, Nat.reduceLT, Nat.reduceLeDiff, Nat.reduceEqDiff, reduceIte, reduceCtorEq, Nat.reduceAdd, Nat.reduceMul, Nat.reduceMod, Nat.reduceBEq, Nat.reduceBNe, List.reduceReplicate, Int.reduceLE, Int.reduceLT, Int.reduceNe]
    apply hK3; clear hK3
    refine aw_seq_k fun K9 hK9 => aw_region okG0 ?_; simp only [push_cast, Nat.reduceLT, Nat.reduceLeDiff, Nat.reduceEqDiff, reduceIte, reduceCtorEq, Nat.reduceAdd, Nat.reduceMul, Nat.reduceMod, Nat.reduceBEq, Nat.reduceBNe, List.reduceReplicate, Int.reduceLE, Int.reduceLT, Int.reduceNe]
    apply hK9; clear hK9
    exact aw_ret (ret_p rfl rfl rfl (by simp))
def spd (p : Nat → Int) (l : List Nat) : Nat := flB .quo .f32 (uTo p l l.length) (mTo l l.length)
theorem speeds_spec (l : List Nat) (hl : l.length ≤ 9) : AFp Try.prog 277 [Fs l] (.tup [F (spd pd l), F (spd pr l)]) := by
  refine AF_body okG0 Try.func277 rfl rfl (by simp [Try.ntmps277]) (by simp) ?_; simp only [Try.ntmps277]
  refine aw_seq_k fun K1 hK1 => aw_region okG0 ?_; simp only [push_cast, Nat.reduceLT, Nat.reduceLeDiff, Nat.reduceEqDiff, reduceIte, reduceCtorEq, Nat.reduceAdd, Nat.reduceMul, Nat.reduceMod, Nat.reduceBEq, Nat.reduceBNe, List.reduceReplicate, Int.reduceLE, Int.reduceLT, Int.reduceNe]
  apply hK1; clear hK1
  refine aw_seq_k fun K2 hK2 => aw_region okG0 ?_; simp only [push_cast, Nat.reduceLT, Nat.reduceLeDiff, Nat.reduceEqDiff, reduceIte, reduceCtorEq, Nat.reduceAdd, Nat.reduceMul, Nat.reduceMod, Nat.reduceBEq, Nat.reduceBNe, List.reduceReplicate, Int.reduceLE, Int.reduceLT, Int.reduceNe]
  refine call_pure (massOf_spec l (by omega)) (fits_of rfl) (by decide) rfl (by simp [idsV, idsVs]) ?_; simp only [push_cast, Nat.reduceLT, Nat.reduceLeDiff, Nat.reduceEqDiff, reduceIte, reduceCtorEq, Nat.reduceAdd, Nat.reduceMul, Nat.reduceMod, Nat.reduceBEq, Nat.reduceBNe, List.reduceReplicate, Int.reduceLE, Int.reduceLT, Int.reduceNe]
  apply hK2; clear hK2
  refine aw_seq_k fun K3 hK3 => aw_region okG0 ?_; simp only [push_cast, Nat.reduceLT, Nat.reduceLeDiff, Nat.reduceEqDiff, reduceIte, reduceCtorEq, Nat.reduceAdd, Nat.reduceMul, Nat.reduceMod, Nat.reduceBEq, Nat.reduceBNe, List.reduceReplicate, Int.reduceLE, Int.reduceLT, Int.reduceNe]
  apply hK3; clear hK3
  refine aw_seq_k fun K4 hK4 => ?_
  refine aw_seq_k fun K5 hK5 => aw_region okG0 ?_; simp only [push_cast, Nat.reduceLT, Nat.reduceLeDiff, Nat.reduceEqDiff, reduceIte, reduceCtorEq, Nat.reduceAdd, Nat.reduceMul, Nat.reduceMod, Nat.reduceBEq, Nat.reduceBNe, List.reduceReplicate, Int.reduceLE, Int.reduceLT, Int.reduceNe]
  apply hK5; clear hK5
  refine aw_block ?_
  refine aw_loop (fun k : {k : Nat // k ≤ l.length} => ⟨[(13, Fs l), (14, I l.length), (4, F (mTo l l.length)), (5, F (uTo pd l k.1)), (6, F (uTo pr l k.1)), (15, I k.1)], [], []⟩) (fun k => l.length - k.1) ⟨0, Nat.zero_le _⟩ (sub_to (by simp [allE, getE] <;> (repeat' apply And.intro) <;> rfl) (by simp [allB, getB] <;> rfl) rfl rfl rfl) ?_
  rintro ⟨k, hk⟩
  refine aw_seq_k fun K6 hK6 => aw_region okG0 ?_; simp only [push_cast, Nat.reduceLT, Nat.reduceLeDiff, Nat.reduceEqDiff, reduceIte, reduceCtorEq, Nat.reduceAdd, Nat.reduceMul, Nat.reduceMod, Nat.reduceBEq, Nat.reduceBNe, List.reduceReplicate, Int.reduceLE, Int.reduceLT, Int.reduceNe]
  apply hK6; clear hK6
  refine aw_seq_k fun K7 hK7 => ?_
  refine aw_cond rfl (fun hc => ?_) (fun hc => ?_)
  · have hlt : k < l.length := by simpa using hc
    refine aw_skip ?_
    simp only [push_cast, Nat.reduceLT, Nat.reduceLeDiff, Nat.reduceEqDiff, reduceIte, reduceCtorEq, Nat.reduceAdd, Nat.reduceMul, Nat.reduceMod, Nat.reduceBEq, Nat.reduceBNe, List.reduceReplicate, Int.reduceLE, Int.reduceLT, Int.reduceNe]
    apply hK7; clear hK7
    refine aw_seq_k fun K8 hK8 => ?_
    refine aw_block ?_
    refine aw_seq_k fun K9 hK9 => aw_region okG0 ?_; simp only [push_cast, Nat.reduceLT, Nat.reduceLeDiff, Nat.reduceEqDiff, reduceIte, reduceCtorEq, Nat.reduceAdd, Nat.reduceMul, Nat.reduceMod, Nat.reduceBEq, Nat.reduceBNe, List.reduceReplicate, Int.reduceLE, Int.reduceLT, Int.reduceNe]
    refine ⟨⟨by omega, by omega⟩, ?_⟩
    apply hK9; clear hK9
    refine aw_seq_k fun K10 hK10 => aw_region okG0 ?_; simp only [push_cast, Nat.reduceLT, Nat.reduceLeDiff, Nat.reduceEqDiff, reduceIte, reduceCtorEq, Nat.reduceAdd, Nat.reduceMul, Nat.reduceMod, Nat.reduceBEq, Nat.reduceBNe, List.reduceReplicate, Int.reduceLE, Int.reduceLT, Int.reduceNe]
    refine call_pure (partGoes_spec k (by omega)) (fits_of rfl) (by decide) rfl (by simp [idsV, idsVs]) ?_; simp only [push_cast, Nat.reduceLT, Nat.reduceLeDiff, Nat.reduceEqDiff, reduceIte, reduceCtorEq, Nat.reduceAdd, Nat.reduceMul, Nat.reduceMod, Nat.reduceBEq, Nat.reduceBNe, List.reduceReplicate, Int.reduceLE, Int.reduceLT, Int.reduceNe]
    apply hK10; clear hK10
    refine aw_seq_k fun K11 hK11 => aw_region okG0 ?_; simp only [push_cast, Nat.reduceLT, Nat.reduceLeDiff, Nat.reduceEqDiff, reduceIte, reduceCtorEq, Nat.reduceAdd, Nat.reduceMul, Nat.reduceMod, Nat.reduceBEq, Nat.reduceBNe, List.reduceReplicate, Int.reduceLE, Int.reduceLT, Int.reduceNe]
    apply hK11; clear hK11
    refine aw_region okG0 ?_
    simp only [push_cast, Nat.reduceLT, Nat.reduceLeDiff, Nat.reduceEqDiff, reduceIte, reduceCtorEq, Nat.reduceAdd, Nat.reduceMul, Nat.reduceMod, Nat.reduceBEq, Nat.reduceBNe, List.reduceReplicate, Int.reduceLE, Int.reduceLT, Int.reduceNe]
    apply hK8; clear hK8
    refine aw_region okG0 ?_
    simp only [push_cast, Nat.reduceLT, Nat.reduceLeDiff, Nat.reduceEqDiff, reduceIte, reduceCtorEq, Nat.reduceAdd, Nat.reduceMul, Nat.reduceMod, Nat.reduceBEq, Nat.reduceBNe, List.reduceReplicate, Int.reduceLE, Int.reduceLT, Int.reduceNe]
    refine ⟨⟨k + 1, by omega⟩, ?_, by show l.length - (k + 1) < l.length - k; omega⟩
    rw [w64 (n := (k : Int) + 1) (by omega) (by omega)]
    exact sub_to (by simp [allE, getE] <;> (repeat' apply And.intro) <;> rfl) (by simp [allB, getB] <;> rfl) rfl rfl rfl
  · have hlt : k = l.length := by have : ¬ (k : Int) < l.length := by simpa using hc
                                  omega
    subst hlt
    refine aw_exit ?_
    simp only [push_cast, Nat.reduceLT, Nat.reduceLeDiff, Nat.reduceEqDiff, reduceIte, reduceCtorEq, Nat.reduceAdd, Nat.reduceMul, Nat.reduceMod, Nat.reduceBEq, Nat.reduceBNe, List.reduceReplicate, Int.reduceLE, Int.reduceLT, Int.reduceNe]
    apply hK4; clear hK4
    refine aw_seq_k fun K12 hK12 => aw_region okG0 ?_; simp only [push_cast, Nat.reduceLT, Nat.reduceLeDiff, Nat.reduceEqDiff, reduceIte, reduceCtorEq, Nat.reduceAdd, Nat.reduceMul, Nat.reduceMod, Nat.reduceBEq, Nat.reduceBNe, List.reduceReplicate, Int.reduceLE, Int.reduceLT, Int.reduceNe]
    apply hK12; clear hK12
    exact aw_ret (ret_p rfl rfl rfl (by simp))
theorem l06Mass_spec (l : List Nat) (hl : l.length = 9) : AFp Try.prog 271 [Fs l] (.tup [F (mTo l l.length), F (spd pd l), F (spd pr l)]) := by
  refine AF_body okG0 Try.func271 rfl rfl (by simp [Try.ntmps271]) (by simp) ?_; simp only [Try.ntmps271]
  refine aw_seq_k fun K1 hK1 => aw_region okG0 ?_; simp only [push_cast, Nat.reduceLT, Nat.reduceLeDiff, Nat.reduceEqDiff, reduceIte, reduceCtorEq, Nat.reduceAdd, Nat.reduceMul, Nat.reduceMod, Nat.reduceBEq, Nat.reduceBNe, List.reduceReplicate, Int.reduceLE, Int.reduceLT, Int.reduceNe]
  apply hK1; clear hK1
  refine aw_seq_k fun K2 hK2 => aw_region okG0 ?_; simp only [push_cast, Nat.reduceLT, Nat.reduceLeDiff, Nat.reduceEqDiff, reduceIte, reduceCtorEq, Nat.reduceAdd, Nat.reduceMul, Nat.reduceMod, Nat.reduceBEq, Nat.reduceBNe, List.reduceReplicate, Int.reduceLE, Int.reduceLT, Int.reduceNe]
  apply hK2; clear hK2
  refine aw_seq_k fun K3 hK3 => aw_region okG0 ?_; simp only [push_cast, Nat.reduceLT, Nat.reduceLeDiff, Nat.reduceEqDiff, reduceIte, reduceCtorEq, Nat.reduceAdd, Nat.reduceMul, Nat.reduceMod, Nat.reduceBEq, Nat.reduceBNe, List.reduceReplicate, Int.reduceLE, Int.reduceLT, Int.reduceNe]
  apply hK3; clear hK3
  refine aw_seq_k fun K4 hK4 => aw_region okG0 ?_; simp only [push_cast, Nat.reduceLT, Nat.reduceLeDiff, Nat.reduceEqDiff, reduceIte, reduceCtorEq, Nat.reduceAdd, Nat.reduceMul, Nat.reduceMod, Nat.reduceBEq, Nat.reduceBNe, List.reduceReplicate, Int.reduceLE, Int.reduceLT, Int.reduceNe]
  apply hK4; clear hK4
  refine aw_seq_k fun K5 hK5 => ?_
  refine aw_seq_k fun K6 hK6 => aw_region okG0 ?_; simp only [push_cast, Nat.reduceLT, Nat.reduceLeDiff, Nat.reduceEqDiff, reduceIte, reduceCtorEq, Nat.reduceAdd, Nat.reduceMul, Nat.reduceMod, Nat.reduceBEq, Nat.reduceBNe, List.reduceReplicate, Int.reduceLE, Int.reduceLT, Int.reduceNe]
  apply hK6; clear hK6
  refine aw_block ?_
  refine aw_loop (fun k : {k : Nat // k ≤ 9} => ⟨[(0, Fs l), (5, F (mTo l k.1)), (6, F (uTo pd l k.1)), (7, F (uTo pr l k.1)), (8, I k.1)], [], []⟩) (fun k => 9 - k.1) ⟨0, Nat.zero_le _⟩ (sub_to (by simp [allE, getE] <;> (repeat' apply And.intro) <;> rfl) (by simp [allB, getB] <;> rfl) rfl rfl rfl) ?_
  rintro ⟨k, hk⟩
  refine aw_seq_k fun K7 hK7 => ?_
  refine aw_seq_k fun K8 hK8 => aw_region okG0 ?_; simp only [push_cast, Nat.reduceLT, Nat.reduceLeDiff, Nat.reduceEqDiff, reduceIte, reduceCtorEq, Nat.reduceAdd, Nat.reduceMul, Nat.reduceMod, Nat.reduceBEq, Nat.reduceBNe, List.reduceReplicate, Int.reduceLE, Int.reduceLT, Int.reduceNe]
  apply hK8; clear hK8
  refine aw_cond rfl (fun hc => ?_) (fun hc => ?_)
  · have hlt : k < 9 := by have : (k : Int) < 9 := by simpa using hc
                           omega
    refine aw_skip ?_
    simp only [push_cast, Nat.reduceLT, Nat.reduceLeDiff, Nat.reduceEqDiff, reduceIte, reduceCtorEq, Nat.reduceAdd, Nat.reduceMul, Nat.reduceMod, Nat.reduceBEq, Nat.reduceBNe, List.reduceReplicate, Int.reduceLE, Int.reduceLT, Int.reduceNe]
    apply hK7; clear hK7
    refine aw_seq_k fun K9 hK9 => ?_
    refine aw_block ?_
    refine aw_seq_k fun K10 hK10 => aw_region okG0 ?_; simp only [push_cast, Nat.reduceLT, Nat.reduceLeDiff, Nat.reduceEqDiff, reduceIte, reduceCtorEq, Nat.reduceAdd, Nat.reduceMul, Nat.reduceMod, Nat.reduceBEq, Nat.reduceBNe, List.reduceReplicate, Int.reduceLE, Int.reduceLT, Int.reduceNe]
    refine call_pure (l06Part_spec k hlt) (fits_of rfl) (by decide) rfl (by simp [idsV, idsVs]) ?_; simp only [push_cast, Nat.reduceLT, Nat.reduceLeDiff, Nat.reduceEqDiff, reduceIte, reduceCtorEq, Nat.reduceAdd, Nat.reduceMul, Nat.reduceMod, Nat.reduceBEq, Nat.reduceBNe, List.reduceReplicate, Int.reduceLE, Int.reduceLT, Int.reduceNe]
    apply hK10; clear hK10
    refine aw_seq_k fun K11 hK11 => aw_region okG0 ?_; simp only [push_cast, Nat.reduceLT, Nat.reduceLeDiff, Nat.reduceEqDiff, reduceIte, reduceCtorEq, Nat.reduceAdd, Nat.reduceMul, Nat.reduceMod, Nat.reduceBEq, Nat.reduceBNe, List.reduceReplicate, Int.reduceLE, Int.reduceLT, Int.reduceNe]
    refine ⟨⟨by omega, by omega⟩, ?_⟩
    apply hK11; clear hK11
    refine aw_seq_k fun K12 hK12 => aw_region okG0 ?_; simp only [push_cast, Nat.reduceLT, Nat.reduceLeDiff, Nat.reduceEqDiff, reduceIte, reduceCtorEq, Nat.reduceAdd, Nat.reduceMul, Nat.reduceMod, Nat.reduceBEq, Nat.reduceBNe, List.reduceReplicate, Int.reduceLE, Int.reduceLT, Int.reduceNe]
    refine ⟨⟨by omega, by omega⟩, ?_⟩
    apply hK12; clear hK12
    refine aw_region okG0 ?_
    simp only [push_cast, Nat.reduceLT, Nat.reduceLeDiff, Nat.reduceEqDiff, reduceIte, reduceCtorEq, Nat.reduceAdd, Nat.reduceMul, Nat.reduceMod, Nat.reduceBEq, Nat.reduceBNe, List.reduceReplicate, Int.reduceLE, Int.reduceLT, Int.reduceNe]
    refine ⟨⟨by omega, by omega⟩, ?_⟩
    apply hK9; clear hK9
    refine aw_region okG0 ?_
    simp only [push_cast, Nat.reduceLT, Nat.reduceLeDiff, Nat.reduceEqDiff, reduceIte, reduceCtorEq, Nat.reduceAdd, Nat.reduceMul, Nat.reduceMod, Nat.reduceBEq, Nat.reduceBNe, List.reduceReplicate, Int.reduceLE, Int.reduceLT, Int.reduceNe]
    refine ⟨⟨k + 1, by omega⟩, ?_, by show 9 - (k + 1) < 9 - k; omega⟩
    rw [w64 (n := (k : Int) + 1) (by omega) (by omega)]
    exact sub_to (by simp [allE, getE] <;> (repeat' apply And.intro) <;> rfl) (by simp [allB, getB] <;> rfl) rfl rfl rfl
  · have hlt : k = 9 := by have : ¬ (k : Int) < 9 := by simpa using hc
                           omega
    subst hlt
    refine aw_exit ?_
    simp only [push_cast, Nat.reduceLT, Nat.reduceLeDiff, Nat.reduceEqDiff, reduceIte, reduceCtorEq, Nat.reduceAdd, Nat.reduceMul, Nat.reduceMod, Nat.reduceBEq, Nat.reduceBNe, List.reduceReplicate, Int.reduceLE, Int.reduceLT, Int.reduceNe]
    apply hK5; clear hK5
    refine aw_seq_k fun K13 hK13 => aw_region okG0 ?_; simp only [push_cast, Nat.reduceLT, Nat.reduceLeDiff, Nat.reduceEqDiff, reduceIte, reduceCtorEq, Nat.reduceAdd, Nat.reduceMul, Nat.reduceMod, Nat.reduceBEq, Nat.reduceBNe, List.reduceReplicate, Int.reduceLE, Int.reduceLT, Int.reduceNe]
    apply hK13; clear hK13
    refine aw_ret (ret_p rfl ?_ rfl (by simp))
    unfold spd
    rw [hl]
    rfl
def wt (q : Nat) : Nat := if q = 0 then canon .f32 1055100473 else if q ≤ 4 then canon .f32 1038323257 else canon .f32 1021546041
theorem weightOf_spec (q : Nat) (hq : q < 9) : AFp Try.prog 334 [I q] (F (wt q)) := by
  refine AF_body okG0 Try.func334 rfl rfl (by simp [Try.ntmps334]) (by simp) ?_; simp only [Try.ntmps334]
  refine aw_seq_k fun K1 hK1 => aw_region okG0 ?_; simp only [push_cast, Nat.reduceLT, Nat.reduceLeDiff, Nat.reduceEqDiff, reduceIte, reduceCtorEq, Nat.reduceAdd, Nat.reduceMul, Nat.reduceMod, Nat.reduceBEq, Nat.reduceBNe, List.reduceReplicate, Int.reduceLE, Int.reduceLT, Int.reduceNe]
  apply hK1; clear hK1
  refine aw_seq_k fun K2 hK2 => ?_
  refine aw_block ?_
  refine aw_seq_k fun K3 hK3 => aw_region okG0 ?_; simp only [push_cast, Nat.reduceLT, Nat.reduceLeDiff, Nat.reduceEqDiff, reduceIte, reduceCtorEq, Nat.reduceAdd, Nat.reduceMul, Nat.reduceMod, Nat.reduceBEq, Nat.reduceBNe, List.reduceReplicate, Int.reduceLE, Int.reduceLT, Int.reduceNe]
  apply hK3; clear hK3
  refine aw_cond rfl (fun hc => ?_) (fun hc => ?_)
  · have h0 : q = 0 := by simpa using hc
    subst h0
    refine aw_seq_k fun K4 hK4 => aw_region okG0 ?_; simp only [push_cast, Nat.reduceLT, Nat.reduceLeDiff, Nat.reduceEqDiff, reduceIte, reduceCtorEq, Nat.reduceAdd, Nat.reduceMul, Nat.reduceMod, Nat.reduceBEq, Nat.reduceBNe, List.reduceReplicate, Int.reduceLE, Int.reduceLT, Int.reduceNe]
    apply hK4; clear hK4
    exact aw_ret (ret_p rfl rfl rfl (by simp))
  · have h0 : ¬ q = 0 := by simpa using hc
    refine aw_seq_k fun K5 hK5 => aw_region okG0 ?_; simp only [push_cast, Nat.reduceLT, Nat.reduceLeDiff, Nat.reduceEqDiff, reduceIte, reduceCtorEq, Nat.reduceAdd, Nat.reduceMul, Nat.reduceMod, Nat.reduceBEq, Nat.reduceBNe, List.reduceReplicate, Int.reduceLE, Int.reduceLT, Int.reduceNe]
    apply hK5; clear hK5
    refine aw_cond rfl (fun hd => ?_) (fun hd => ?_)
    · have h4 : q ≤ 4 := by have : (q : Int) ≤ 4 := by simpa using hd
                            omega
      refine aw_seq_k fun K6 hK6 => aw_region okG0 ?_; simp only [push_cast, Nat.reduceLT, Nat.reduceLeDiff, Nat.reduceEqDiff, reduceIte, reduceCtorEq, Nat.reduceAdd, Nat.reduceMul, Nat.reduceMod, Nat.reduceBEq, Nat.reduceBNe, List.reduceReplicate, Int.reduceLE, Int.reduceLT, Int.reduceNe]
      apply hK6; clear hK6
      refine aw_ret (ret_p rfl ?_ rfl (by simp))
      unfold wt
      rw [if_neg h0, if_pos h4]
      rfl
    · have h4 : ¬ q ≤ 4 := by have : ¬ (q : Int) ≤ 4 := by simpa using hd
                              omega
      refine aw_skip ?_
      simp only [push_cast, Nat.reduceLT, Nat.reduceLeDiff, Nat.reduceEqDiff, reduceIte, reduceCtorEq, Nat.reduceAdd, Nat.reduceMul, Nat.reduceMod, Nat.reduceBEq, Nat.reduceBNe, List.reduceReplicate, Int.reduceLE, Int.reduceLT, Int.reduceNe]
      apply hK2; clear hK2
      refine aw_seq_k fun K7 hK7 => aw_region okG0 ?_; simp only [push_cast, Nat.reduceLT, Nat.reduceLeDiff, Nat.reduceEqDiff, reduceIte, reduceCtorEq, Nat.reduceAdd, Nat.reduceMul, Nat.reduceMod, Nat.reduceBEq, Nat.reduceBNe, List.reduceReplicate, Int.reduceLE, Int.reduceLT, Int.reduceNe]
      apply hK7; clear hK7
      refine aw_ret (ret_p rfl ?_ rfl (by simp))
      unfold wt
      rw [if_neg h0, if_neg h4]
      rfl
/-- The calm part. -/
def ee (u v : Nat) (q : Nat) : Nat := flB .add .f32 (flB .mul .f32 (fi (pd q)) u) (flB .mul .f32 (fi (pr q)) v)
def xx (u v : Nat) (q : Nat) : Nat :=
  flB .sub .f32 (flB .add .f32 (flB .add .f32 (canon .f32 1065353216) (flB .mul .f32 (canon .f32 1077936128) (ee u v q))) (flB .mul .f32 (flB .mul .f32 (canon .f32 1083179008) (ee u v q)) (ee u v q)))
    (flB .mul .f32 (canon .f32 1069547520) (flB .add .f32 (flB .mul .f32 u u) (flB .mul .f32 v v)))
def clm (m u v : Nat) (q : Nat) : Nat := flB .mul .f32 (flB .mul .f32 (wt q) m) (xx u v q)
theorem calm_spec (q m u v : Nat) (hq : q < 9) : AFp Try.prog 278 [I q, F m, F u, F v] (F (clm m u v q)) := by
  refine AF_body okG0 Try.func278 rfl rfl (by simp [Try.ntmps278]) (by simp) ?_; simp only [Try.ntmps278]
  refine aw_seq_k fun K1 hK1 => aw_region okG0 ?_; simp only [push_cast, Nat.reduceLT, Nat.reduceLeDiff, Nat.reduceEqDiff, reduceIte, reduceCtorEq, Nat.reduceAdd, Nat.reduceMul, Nat.reduceMod, Nat.reduceBEq, Nat.reduceBNe, List.reduceReplicate, Int.reduceLE, Int.reduceLT, Int.reduceNe]
  apply hK1; clear hK1
  refine aw_seq_k fun K2 hK2 => aw_region okG0 ?_; simp only [push_cast, Nat.reduceLT, Nat.reduceLeDiff, Nat.reduceEqDiff, reduceIte, reduceCtorEq, Nat.reduceAdd, Nat.reduceMul, Nat.reduceMod, Nat.reduceBEq, Nat.reduceBNe, List.reduceReplicate, Int.reduceLE, Int.reduceLT, Int.reduceNe]
  refine call_pure (partGoes_spec q hq) (fits_of rfl) (by decide) rfl (by simp [idsV, idsVs]) ?_; simp only [push_cast, Nat.reduceLT, Nat.reduceLeDiff, Nat.reduceEqDiff, reduceIte, reduceCtorEq, Nat.reduceAdd, Nat.reduceMul, Nat.reduceMod, Nat.reduceBEq, Nat.reduceBNe, List.reduceReplicate, Int.reduceLE, Int.reduceLT, Int.reduceNe]
  apply hK2; clear hK2
  refine aw_seq_k fun K3 hK3 => aw_region okG0 ?_; simp only [push_cast, Nat.reduceLT, Nat.reduceLeDiff, Nat.reduceEqDiff, reduceIte, reduceCtorEq, Nat.reduceAdd, Nat.reduceMul, Nat.reduceMod, Nat.reduceBEq, Nat.reduceBNe, List.reduceReplicate, Int.reduceLE, Int.reduceLT, Int.reduceNe]
  apply hK3; clear hK3
  refine aw_seq_k fun K4 hK4 => aw_region okG0 ?_; simp only [push_cast, Nat.reduceLT, Nat.reduceLeDiff, Nat.reduceEqDiff, reduceIte, reduceCtorEq, Nat.reduceAdd, Nat.reduceMul, Nat.reduceMod, Nat.reduceBEq, Nat.reduceBNe, List.reduceReplicate, Int.reduceLE, Int.reduceLT, Int.reduceNe]
  apply hK4; clear hK4
  refine aw_seq_k fun K5 hK5 => aw_region okG0 ?_; simp only [push_cast, Nat.reduceLT, Nat.reduceLeDiff, Nat.reduceEqDiff, reduceIte, reduceCtorEq, Nat.reduceAdd, Nat.reduceMul, Nat.reduceMod, Nat.reduceBEq, Nat.reduceBNe, List.reduceReplicate, Int.reduceLE, Int.reduceLT, Int.reduceNe]
  apply hK5; clear hK5
  refine aw_seq_k fun K6 hK6 => aw_region okG0 ?_; simp only [push_cast, Nat.reduceLT, Nat.reduceLeDiff, Nat.reduceEqDiff, reduceIte, reduceCtorEq, Nat.reduceAdd, Nat.reduceMul, Nat.reduceMod, Nat.reduceBEq, Nat.reduceBNe, List.reduceReplicate, Int.reduceLE, Int.reduceLT, Int.reduceNe]
  refine call_pure (weightOf_spec q hq) (fits_of rfl) (by decide) rfl (by simp [idsV, idsVs]) ?_; simp only [push_cast, Nat.reduceLT, Nat.reduceLeDiff, Nat.reduceEqDiff, reduceIte, reduceCtorEq, Nat.reduceAdd, Nat.reduceMul, Nat.reduceMod, Nat.reduceBEq, Nat.reduceBNe, List.reduceReplicate, Int.reduceLE, Int.reduceLT, Int.reduceNe]
  apply hK6; clear hK6
  exact aw_ret (ret_p rfl rfl rfl (by simp))
end Go.Proofs.Avx

set_option linter.unusedVariables false
set_option linter.unusedSimpArgs false
namespace Go.Proofs.Avx
attribute [local irreducible] canon flB flO flW floatOfInt
/-! ### Flows that are valid, flows of their own -/
abbrev Ff (p : Nat) (l : List Nat) : AV := .own p 71 (.flt .f32) l
abbrev Bf (p : Nat) (l : List Bool) : AV := .own p 4 .bool l
abbrev noFlow : AV := .agg [I 0, I 0, .nilsl, .nilsl]
def vf (r c : Int) (p : List Nat) (b : List Bool) : Bool := sides r c && decide ((p.length : Int) = 9 * (r * c)) && decide ((b.length : Int) = r * c) && p.all fin
theorem sides_of {r c : Int} (h : sides r c = true) : 1 ≤ r ∧ r ≤ 16 ∧ 1 ≤ c ∧ c ≤ 16 ∧ 1 ≤ r * c ∧ r * c ≤ 256 := by
  simp only [sides, inB, Bool.and_eq_true, decide_eq_true_eq] at h
  obtain ⟨⟨h1, h2⟩, h3, h4⟩ := h
  refine ⟨h1, h2, h3, h4, ?_, ?_⟩
  · have := Int.mul_le_mul h1 h3 (by omega) (by omega)
    omega
  · have := Int.mul_le_mul h2 h4 (by omega) (by omega)
    omega
theorem ValidFlow_spec (r c : Int) (p : List Nat) (b : List Bool) (hp : p.length ≤ 4611686018427387904) : AFp Try.prog 156 [.agg [I r, I c, Fs p, Bs b]] (Bo (vf r c p b)) := by
  refine AF_body okG0 Try.func156 rfl rfl (by simp [Try.ntmps156]) (by simp) ?_; simp only [Try.ntmps156]
  refine aw_seq_k fun K1 hK1 => aw_region okG0 ?_; simp only [push_cast, Nat.reduceLT, Nat.reduceLeDiff, Nat.reduceEqDiff, reduceIte, reduceCtorEq, Nat.reduceAdd, Nat.reduceMul, Nat.reduceMod, Nat.reduceBEq, Nat.reduceBNe, List.reduceReplicate, Int.reduceLE, Int.reduceLT, Int.reduceNe]
  apply hK1; clear hK1
  refine aw_seq_k fun K2 hK2 => aw_region okG0 ?_; simp only [push_cast, Nat.reduceLT, Nat.reduceLeDiff, Nat.reduceEqDiff, reduceIte, reduceCtorEq, Nat.reduceAdd, Nat.reduceMul, Nat.reduceMod, Nat.reduceBEq, Nat.reduceBNe, List.reduceReplicate, Int.reduceLE, Int.reduceLT, Int.reduceNe]
  apply hK2; clear hK2
  refine aw_seq_k fun K3 hK3 => aw_region okG0 ?_; simp only [push_cast, Nat.reduceLT, Nat.reduceLeDiff, Nat.reduceEqDiff, reduceIte, reduceCtorEq, Nat.reduceAdd, Nat.reduceMul, Nat.reduceMod, Nat.reduceBEq, Nat.reduceBNe, List.reduceReplicate, Int.reduceLE, Int.reduceLT, Int.reduceNe]
  refine call_pure (areSides_spec _ _) (fits_of rfl) (by decide) rfl (by simp [idsV, idsVs]) ?_; simp only [push_cast, Nat.reduceLT, Nat.reduceLeDiff, Nat.reduceEqDiff, reduceIte, reduceCtorEq, Nat.reduceAdd, Nat.reduceMul, Nat.reduceMod, Nat.reduceBEq, Nat.reduceBNe, List.reduceReplicate, Int.reduceLE, Int.reduceLT, Int.reduceNe]
  refine gcall_pure (fun _ => areFinite_spec p hp) (fun _ => fits_of rfl) (by decide) rfl rfl ?_; simp only [push_cast, Nat.reduceLT, Nat.reduceLeDiff, Nat.reduceEqDiff, reduceIte, reduceCtorEq, Nat.reduceAdd, Nat.reduceMul, Nat.reduceMod, Nat.reduceBEq, Nat.reduceBNe, List.reduceReplicate, Int.reduceLE, Int.reduceLT, Int.reduceNe]
  apply hK3; clear hK3
  refine aw_ret (ret_p rfl ?_ rfl (by simp))
  show Bo _ = Bo _
  congr 1
  unfold vf
  cases h : sides r c
  · rfl
  · obtain ⟨h1, h2, h3, h4, h5, h6⟩ := sides_of h
    rw [w64 (n := r * c) (by omega) (by omega), w64 (n := 9 * (r * c)) (by omega) (by omega)]
    simp only [cond_true, Bool.true_and]
    by_cases e1 : (p.length : Int) = 9 * (r * c)
    · by_cases e2 : (b.length : Int) = r * c
      · simp [e1, e2]
      · simp [e1, e2]
    · simp [e1]
theorem l06Flow_spec (r c : Int) (p : List Nat) (b : List Bool) (hp : p.length ≤ 4611686018427387904) : AFp Try.prog 151 [.rptr [I r, I c, Fs p, Bs b]] (Bo (vf r c p b)) := by
  refine AF_body okG0 Try.func151 rfl rfl (by simp [Try.ntmps151]) (by simp) ?_; simp only [Try.ntmps151]
  refine aw_seq_k fun K1 hK1 => aw_region okG0 ?_; simp only [push_cast, Nat.reduceLT, Nat.reduceLeDiff, Nat.reduceEqDiff, reduceIte, reduceCtorEq, Nat.reduceAdd, Nat.reduceMul, Nat.reduceMod, Nat.reduceBEq, Nat.reduceBNe, List.reduceReplicate, Int.reduceLE, Int.reduceLT, Int.reduceNe]
  apply hK1; clear hK1
  refine aw_seq_k fun K2 hK2 => aw_draw fol okG0 49 (by kernel_rfl) ?_; simp only [push_cast, Nat.reduceLT, Nat.reduceLeDiff, Nat.reduceEqDiff, reduceIte, reduceCtorEq, Nat.reduceAdd, Nat.reduceMul, Nat.reduceMod, Nat.reduceBEq, Nat.reduceBNe, List.reduceReplicate, Int.reduceLE, Int.reduceLT, Int.reduceNe]
  refine ⟨_, _, l06Sides_spec _ _, .inl ⟨fits_of rfl, rfl⟩, ?_⟩; simp only [push_cast, Nat.reduceLT, Nat.reduceLeDiff, Nat.reduceEqDiff, reduceIte, reduceCtorEq, Nat.reduceAdd, Nat.reduceMul, Nat.reduceMod, Nat.reduceBEq, Nat.reduceBNe, List.reduceReplicate, Int.reduceLE, Int.reduceLT, Int.reduceNe]
  refine ⟨_, _, fun _ => l02Finite_spec p hp, fun _ => fits_of rfl, rfl, rfl, ?_⟩; simp only [push_cast, Nat.reduceLT, Nat.reduceLeDiff, Nat.reduceEqDiff, reduceIte, reduceCtorEq, Nat.reduceAdd, Nat.reduceMul, Nat.reduceMod, Nat.reduceBEq, Nat.reduceBNe, List.reduceReplicate, Int.reduceLE, Int.reduceLT, Int.reduceNe]
  apply hK2; clear hK2
  refine aw_ret (ret_p rfl ?_ rfl (by simp))
  show Bo _ = Bo _
  congr 1
  unfold vf
  cases h : sides r c
  · rfl
  · obtain ⟨h1, h2, h3, h4, h5, h6⟩ := sides_of h
    rw [w64 (n := r * c) (by omega) (by omega), w64 (n := 9 * r) (by omega) (by omega), w64 (n := 9 * r * c) (by rw [Int.mul_assoc]; omega) (by rw [Int.mul_assoc]; omega), Int.mul_assoc]
    simp only [cond_true, Bool.true_and]
    by_cases e1 : (p.length : Int) = 9 * (r * c)
    · by_cases e2 : (b.length : Int) = r * c
      · simp [e1, e2]
      · simp [e1, e2]
    · simp [e1]
def cel (p : List Nat) (k : Nat) : List Nat := (p.take (9 * k + 9)).drop (9 * k)
theorem cel_len {p : List Nat} {k : Nat} (hk : 9 * k + 9 ≤ p.length) : (cel p k).length = 9 := by simp [cel]; omega
theorem nine {k : Nat} (h : 9 * k + 9 ≤ 4611686018427387904) : IntKind.i64.wrap (9 * (k : Int)) = ((9 * k : Nat) : Int) ∧ IntKind.i64.wrap (((9 * k : Nat) : Int) + 9) = ((9 * k + 9 : Nat) : Int) := by
  rw [w64 (by omega) (by omega), w64 (by omega) (by omega)]
  omega
theorem cell_spec (r c : Int) (p : List Nat) (b : List Bool) (k : Nat) (hk : 9 * k + 9 ≤ p.length) (hp : p.length ≤ 4611686018427387904) : AFp Try.prog 275 [.agg [I r, I c, Fs p, Bs b], I k] (Fs (cel p k)) := by
  refine AF_body okG0 Try.func275 rfl rfl (by simp [Try.ntmps275]) (by simp) ?_; simp only [Try.ntmps275]
  refine aw_seq_k fun K1 hK1 => aw_region okG0 ?_; simp only [push_cast, Nat.reduceLT, Nat.reduceLeDiff, Nat.reduceEqDiff, reduceIte, reduceCtorEq, Nat.reduceAdd, Nat.reduceMul, Nat.reduceMod, Nat.reduceBEq, Nat.reduceBNe, List.reduceReplicate, Int.reduceLE, Int.reduceLT, Int.reduceNe]
  apply hK1; clear hK1
  refine aw_seq_k fun K2 hK2 => aw_region okG0 ?_; simp only [push_cast, Nat.reduceLT, Nat.reduceLeDiff, Nat.reduceEqDiff, reduceIte, reduceCtorEq, Nat.reduceAdd, Nat.reduceMul, Nat.reduceMod, Nat.reduceBEq, Nat.reduceBNe, List.reduceReplicate, Int.reduceLE, Int.reduceLT, Int.reduceNe]
  have h9 := nine (k := k) (by omega)
  rw [h9.1, h9.2]
  refine ⟨⟨rfl, by unfold SlR; omega⟩, ?_⟩
  apply hK2; clear hK2
  exact aw_ret (ret_p rfl rfl rfl (by simp))
theorem l06Cell_spec (r c : Int) (p : List Nat) (b : List Bool) (k : Nat) (hk : 9 * k + 9 ≤ p.length) (hp : p.length ≤ 4611686018427387904) : AFp Try.prog 270 [.rptr [I r, I c, Fs p, Bs b], I k] (Fs (cel p k)) := by
  refine AF_body okG0 Try.func270 rfl rfl (by simp [Try.ntmps270]) (by simp) ?_; simp only [Try.ntmps270]
  refine aw_seq_k fun K1 hK1 => aw_region okG0 ?_; simp only [push_cast, Nat.reduceLT, Nat.reduceLeDiff, Nat.reduceEqDiff, reduceIte, reduceCtorEq, Nat.reduceAdd, Nat.reduceMul, Nat.reduceMod, Nat.reduceBEq, Nat.reduceBNe, List.reduceReplicate, Int.reduceLE, Int.reduceLT, Int.reduceNe]
  apply hK1; clear hK1
  refine aw_seq_k fun K2 hK2 => aw_region okG0 ?_; simp only [push_cast, Nat.reduceLT, Nat.reduceLeDiff, Nat.reduceEqDiff, reduceIte, reduceCtorEq, Nat.reduceAdd, Nat.reduceMul, Nat.reduceMod, Nat.reduceBEq, Nat.reduceBNe, List.reduceReplicate, Int.reduceLE, Int.reduceLT, Int.reduceNe]
  have h9 := nine (k := k) (by omega)
  rw [h9.1, h9.2]
  refine ⟨⟨rfl, by unfold SlR; omega⟩, ?_⟩
  apply hK2; clear hK2
  exact aw_ret (ret_p rfl rfl rfl (by simp))
theorem l06OwnFlow_spec (r c : Int) (p : List Nat) (b : List Bool) (h0 : p ≠ []) (hp : p.length ≤ 1152921504606) (hb : b.length ≤ 1152921504606) : AFp Try.prog 181 [.rptr [I r, I c, Fs p, Bs b]] (.agg [I r, I c, Ff 0 p, Bf 1 b]) := by
  cases p with
  | nil => exact absurd rfl h0
  | cons y p =>
    simp only [List.length_cons] at hp
    refine AF_body okG0 Try.func181 rfl rfl (by simp [Try.ntmps181]) (by simp) ?_; simp only [Try.ntmps181]
    refine aw_seq_k fun K1 hK1 => aw_region okG0 ?_; simp only [push_cast, Nat.reduceLT, Nat.reduceLeDiff, Nat.reduceEqDiff, reduceIte, reduceCtorEq, Nat.reduceAdd, Nat.reduceMul, Nat.reduceMod, Nat.reduceBEq, Nat.reduceBNe, List.reduceReplicate, Int.reduceLE, Int.reduceLT, Int.reduceNe]
    apply hK1; clear hK1
    refine aw_seq_k fun K2 hK2 => aw_draw fol okG0 16 (by kernel_rfl) ?_; simp only [push_cast, Nat.reduceLT, Nat.reduceLeDiff, Nat.reduceEqDiff, reduceIte, reduceCtorEq, Nat.reduceAdd, Nat.reduceMul, Nat.reduceMod, Nat.reduceBEq, Nat.reduceBNe, List.reduceReplicate, Int.reduceLE, Int.reduceLT, Int.reduceNe]
    refine ⟨by omega, by omega, ?_⟩
    apply hK2; clear hK2
    refine aw_seq_k fun K3 hK3 => aw_region okG0 ?_; simp only [push_cast, Nat.reduceLT, Nat.reduceLeDiff, Nat.reduceEqDiff, reduceIte, reduceCtorEq, Nat.reduceAdd, Nat.reduceMul, Nat.reduceMod, Nat.reduceBEq, Nat.reduceBNe, List.reduceReplicate, Int.reduceLE, Int.reduceLT, Int.reduceNe]
    refine ⟨by omega, by omega, ?_⟩
    apply hK3; clear hK3
    refine aw_seq_k fun K4 hK4 => aw_region okG0 ?_; simp only [push_cast, Nat.reduceLT, Nat.reduceLeDiff, Nat.reduceEqDiff, reduceIte, reduceCtorEq, Nat.reduceAdd, Nat.reduceMul, Nat.reduceMod, Nat.reduceBEq, Nat.reduceBNe, List.reduceReplicate, Int.reduceLE, Int.reduceLT, Int.reduceNe]
    apply hK4; clear hK4
    exact aw_ret (ret_o [(1700, 0), (2400, 1)] rfl rfl (by simp [renN]) rfl)
theorem cloneB_spec (b : List Bool) (h0 : b ≠ []) (hb : b.length ≤ 1152921504606) : AFp Try.prog 184 [Bs b] (Bf 0 b) := by
  refine AF_body okG0 Try.func184 rfl rfl (by simp [Try.ntmps184]) (by simp) ?_; simp only [Try.ntmps184]
  refine aw_seq_k fun K1 hK1 => aw_region okG0 ?_; simp only [push_cast, Nat.reduceLT, Nat.reduceLeDiff, Nat.reduceEqDiff, reduceIte, reduceCtorEq, Nat.reduceAdd, Nat.reduceMul, Nat.reduceMod, Nat.reduceBEq, Nat.reduceBNe, List.reduceReplicate, Int.reduceLE, Int.reduceLT, Int.reduceNe]
  apply hK1; clear hK1
  refine aw_seq_k fun K2 hK2 => ?_
  refine aw_seq_k fun K3 hK3 => aw_region okG0 ?_; simp only [push_cast, Nat.reduceLT, Nat.reduceLeDiff, Nat.reduceEqDiff, reduceIte, reduceCtorEq, Nat.reduceAdd, Nat.reduceMul, Nat.reduceMod, Nat.reduceBEq, Nat.reduceBNe, List.reduceReplicate, Int.reduceLE, Int.reduceLT, Int.reduceNe]
  refine ⟨h0, ?_⟩
  apply hK3; clear hK3
  refine aw_cond rfl (fun hc => ?_) (fun hc => ?_)
  · simp at hc
  · refine aw_skip ?_
    simp only [push_cast, Nat.reduceLT, Nat.reduceLeDiff, Nat.reduceEqDiff, reduceIte, reduceCtorEq, Nat.reduceAdd, Nat.reduceMul, Nat.reduceMod, Nat.reduceBEq, Nat.reduceBNe, List.reduceReplicate, Int.reduceLE, Int.reduceLT, Int.reduceNe]
    apply hK2; clear hK2
    refine aw_seq_k fun K5 hK5 => aw_region okG0 ?_; simp only [push_cast, Nat.reduceLT, Nat.reduceLeDiff, Nat.reduceEqDiff, reduceIte, reduceCtorEq, Nat.reduceAdd, Nat.reduceMul, Nat.reduceMod, Nat.reduceBEq, Nat.reduceBNe, List.reduceReplicate, Int.reduceLE, Int.reduceLT, Int.reduceNe]
    refine ⟨by omega, by omega, ?_⟩
    apply hK5; clear hK5
    exact aw_ret (ret_o [(700, 0)] rfl rfl (by simp [renN]) rfl)
theorem giveFlow_spec (r c : Int) (p : List Nat) (b : List Bool) (hp : p.length ≤ 4611686018427387904) (h : vf r c p b = true) :
    AF Try.prog 274 [.agg [I r, I c, Ff 98 p, Bf 198 b]] [98, 198] [] (.tup [.agg [I r, I c, Ff 98 p, Bf 198 b], Bo true]) [] [] := by
  refine AF_body okG0 Try.func274 rfl rfl (by simp [Try.ntmps274]) (by simp) ?_; simp only [Try.ntmps274]
  refine aw_seq_k fun K1 hK1 => aw_region okG0 ?_; simp only [push_cast, Nat.reduceLT, Nat.reduceLeDiff, Nat.reduceEqDiff, reduceIte, reduceCtorEq, Nat.reduceAdd, Nat.reduceMul, Nat.reduceMod, Nat.reduceBEq, Nat.reduceBNe, List.reduceReplicate, Int.reduceLE, Int.reduceLT, Int.reduceNe]
  apply hK1; clear hK1
  refine aw_seq_k fun K2 hK2 => ?_
  refine aw_seq_k fun K3 hK3 => aw_region okG0 ?_; simp only [push_cast, Nat.reduceLT, Nat.reduceLeDiff, Nat.reduceEqDiff, reduceIte, reduceCtorEq, Nat.reduceAdd, Nat.reduceMul, Nat.reduceMod, Nat.reduceBEq, Nat.reduceBNe, List.reduceReplicate, Int.reduceLE, Int.reduceLT, Int.reduceNe]
  refine call_pure (l06Flow_spec r c p b hp) (fits_of rfl) (by decide) rfl (by simp [idsV, idsVs]) ?_; simp only [push_cast, Nat.reduceLT, Nat.reduceLeDiff, Nat.reduceEqDiff, reduceIte, reduceCtorEq, Nat.reduceAdd, Nat.reduceMul, Nat.reduceMod, Nat.reduceBEq, Nat.reduceBNe, List.reduceReplicate, Int.reduceLE, Int.reduceLT, Int.reduceNe]
  apply hK3; clear hK3
  refine aw_cond rfl (fun hc => ?_) (fun hc => ?_)
  · simp [h] at hc
  · refine aw_skip ?_
    simp only [push_cast, Nat.reduceLT, Nat.reduceLeDiff, Nat.reduceEqDiff, reduceIte, reduceCtorEq, Nat.reduceAdd, Nat.reduceMul, Nat.reduceMod, Nat.reduceBEq, Nat.reduceBNe, List.reduceReplicate, Int.reduceLE, Int.reduceLT, Int.reduceNe]
    apply hK2; clear hK2
    refine aw_seq_k fun K5 hK5 => aw_region okG0 ?_; simp only [push_cast, Nat.reduceLT, Nat.reduceLeDiff, Nat.reduceEqDiff, reduceIte, reduceCtorEq, Nat.reduceAdd, Nat.reduceMul, Nat.reduceMod, Nat.reduceBEq, Nat.reduceBNe, List.reduceReplicate, Int.reduceLE, Int.reduceLT, Int.reduceNe]
    apply hK5; clear hK5
    refine aw_ret ?_
    refine ret_io [] [] rfl ?_ (by simp [renN]) rfl ?_ (by simp [rsEnd, getE, renV, renN]) rfl (by simp [renN]) <;> (try simp only [push_cast, reduceIte, Nat.reduceEqDiff])
theorem giveFlow_no (r c : Int) (p : List Nat) (b : List Bool) (hp : p.length ≤ 4611686018427387904) (h : vf r c p b = false) :
    AF Try.prog 274 [.agg [I r, I c, Ff 98 p, Bf 198 b]] [98, 198] [] (.tup [noFlow, Bo false]) [] [] := by
  refine AF_body okG0 Try.func274 rfl rfl (by simp [Try.ntmps274]) (by simp) ?_; simp only [Try.ntmps274]
  refine aw_seq_k fun K1 hK1 => aw_region okG0 ?_; simp only [push_cast, Nat.reduceLT, Nat.reduceLeDiff, Nat.reduceEqDiff, reduceIte, reduceCtorEq, Nat.reduceAdd, Nat.reduceMul, Nat.reduceMod, Nat.reduceBEq, Nat.reduceBNe, List.reduceReplicate, Int.reduceLE, Int.reduceLT, Int.reduceNe]
  apply hK1; clear hK1
  refine aw_seq_k fun K2 hK2 => ?_
  refine aw_seq_k fun K3 hK3 => aw_region okG0 ?_; simp only [push_cast, Nat.reduceLT, Nat.reduceLeDiff, Nat.reduceEqDiff, reduceIte, reduceCtorEq, Nat.reduceAdd, Nat.reduceMul, Nat.reduceMod, Nat.reduceBEq, Nat.reduceBNe, List.reduceReplicate, Int.reduceLE, Int.reduceLT, Int.reduceNe]
  refine call_pure (l06Flow_spec r c p b hp) (fits_of rfl) (by decide) rfl (by simp [idsV, idsVs]) ?_; simp only [push_cast, Nat.reduceLT, Nat.reduceLeDiff, Nat.reduceEqDiff, reduceIte, reduceCtorEq, Nat.reduceAdd, Nat.reduceMul, Nat.reduceMod, Nat.reduceBEq, Nat.reduceBNe, List.reduceReplicate, Int.reduceLE, Int.reduceLT, Int.reduceNe]
  apply hK3; clear hK3
  refine aw_cond rfl (fun hc => ?_) (fun hc => ?_)
  · refine aw_seq_k fun K4 hK4 => aw_region okG0 ?_; simp only [push_cast, Nat.reduceLT, Nat.reduceLeDiff, Nat.reduceEqDiff, reduceIte, reduceCtorEq, Nat.reduceAdd, Nat.reduceMul, Nat.reduceMod, Nat.reduceBEq, Nat.reduceBNe, List.reduceReplicate, Int.reduceLE, Int.reduceLT, Int.reduceNe]
    apply hK4; clear hK4
    refine aw_ret ?_
    refine ret_io [] [] rfl ?_ (by simp [renN]) rfl ?_ (by simp [rsEnd, getE, renV, renN]) rfl (by simp [renN]) <;> (try simp only [push_cast, reduceIte, Nat.reduceEqDiff])
  · simp [h] at hc
end Go.Proofs.Avx

set_option linter.unusedVariables false
set_option linter.unusedSimpArgs false
namespace Go.Proofs.Avx
/-! ### A float beside itself -/
theorem order_self (d : Ieee.Datum) : d.order d = none ∨ d.order d = some .eq := by
  cases d with
  | nan s t => left; simp [Ieee.Datum.order]
  | infinity s => right; simp [Ieee.Datum.order, Ieee.Datum.order, compare, compareOfLessAndEq]
  | number s m e => right; simp [Ieee.Datum.order, compare, compareOfLessAndEq]
theorem order_num {d : Ieee.Datum} (h : d.isNaN = false) : d.order d = some .eq := by
  cases d with
  | nan s t => simp [Ieee.Datum.isNaN] at h
  | infinity s => simp [Ieee.Datum.order, compare, compareOfLessAndEq]
  | number s m e => simp [Ieee.Datum.order, compare, compareOfLessAndEq]
theorem flO_self (k : FloatKind) (x : Nat) : flO k x x = none ∨ flO k x x = some .eq := by rw [flO_eq]; exact order_self _
theorem flO_num {k : FloatKind} {x : Nat} (h : (k.decode x).isNaN = false) : flO k x x = some .eq := by rw [flO_eq]; exact order_num h
theorem read_word (f : Ieee.Format) (s : Bool) (g : Nat) (hg : g ≤ f.infRung) : (f.read (f.word s g)).isNaN = false := by
  have h := f.infRung_lt
  have hr : f.word s g % f.signWeight = g := by
    unfold Ieee.Format.word
    split
    · rw [Nat.add_mod_left]; exact Nat.mod_eq_of_lt (by omega)
    · exact Nat.mod_eq_of_lt (by omega)
  unfold Ieee.Format.read
  simp only [hr]
  split
  · rfl
  · split
    · rfl
    · rw [if_pos (by omega)]; rfl
theorem near_num (f : Ieee.Format) (s : Bool) (m : Nat) (e : Int) : (f.read (f.nearest s m e)).isNaN = false := by
  unfold Ieee.Format.nearest
  split
  · exact read_word f s 0 (Nat.zero_le _)
  · exact read_word f s _ (Nat.min_le_right _ _)
theorem fi_num (n : Int) : (FloatKind.f32.decode (canon .f32 (floatOfInt .f32 n))).isNaN = false := by
  rw [dec_canon]
  exact near_num _ _ _ _
theorem fi_self (n : Int) : flO .f32 (canon .f32 (floatOfInt .f32 n)) (canon .f32 (floatOfInt .f32 n)) = some .eq := flO_num (fi_num n)
end Go.Proofs.Avx

set_option linter.unusedVariables false
set_option linter.unusedSimpArgs false
namespace Go.Proofs.Avx
attribute [local irreducible] canon flB flO flW floatOfInt
/-! ### What the law does with flows -/
theorem sameFloat_spec (x : Nat) : AFp Try.prog 217 [D x, D x] (Bo true) := by
  refine AF_body okG0 Try.func217 rfl rfl (by simp [Try.ntmps217]) (by simp) ?_; simp only [Try.ntmps217]
  refine aw_seq_k fun K1 hK1 => aw_region okG0 ?_; simp only [push_cast, Nat.reduceLT, Nat.reduceLeDiff, Nat.reduceEqDiff, reduceIte, reduceCtorEq, Nat.reduceAdd, Nat.reduceMul, Nat.reduceMod, Nat.reduceBEq, Nat.reduceBNe, List.reduceReplicate, Int.reduceLE, Int.reduceLT, Int.reduceNe]
  apply hK1; clear hK1
  refine aw_seq_k fun K2 hK2 => ?_
  refine aw_seq_k fun K3 hK3 => aw_region okG0 ?_; simp only [push_cast, Nat.reduceLT, Nat.reduceLeDiff, Nat.reduceEqDiff, reduceIte, reduceCtorEq, Nat.reduceAdd, Nat.reduceMul, Nat.reduceMod, Nat.reduceBEq, Nat.reduceBNe, List.reduceReplicate, Int.reduceLE, Int.reduceLT, Int.reduceNe]
  apply hK3; clear hK3
  refine aw_cond rfl (fun hc => ?_) (fun hc => ?_)
  · have hn : flO .f64 x x = none := by
      rcases flO_self .f64 x with h | h
      · exact h
      · simp [h] at hc
    refine aw_seq_k fun K4 hK4 => aw_region okG0 ?_; simp only [push_cast, Nat.reduceLT, Nat.reduceLeDiff, Nat.reduceEqDiff, reduceIte, reduceCtorEq, Nat.reduceAdd, Nat.reduceMul, Nat.reduceMod, Nat.reduceBEq, Nat.reduceBNe, List.reduceReplicate, Int.reduceLE, Int.reduceLT, Int.reduceNe]
    apply hK4; clear hK4
    refine aw_ret (ret_p rfl ?_ rfl (by simp))
    show Bo _ = Bo _
    rw [hn]
    rfl
  · have hn : flO .f64 x x = some .eq := by
      rcases flO_self .f64 x with h | h
      · simp [h] at hc
      · exact h
    refine aw_skip ?_
    simp only [push_cast, Nat.reduceLT, Nat.reduceLeDiff, Nat.reduceEqDiff, reduceIte, reduceCtorEq, Nat.reduceAdd, Nat.reduceMul, Nat.reduceMod, Nat.reduceBEq, Nat.reduceBNe, List.reduceReplicate, Int.reduceLE, Int.reduceLT, Int.reduceNe]
    apply hK2; clear hK2
    refine aw_seq_k fun K5 hK5 => ?_
    refine aw_seq_k fun K6 hK6 => aw_region okG0 ?_; simp only [push_cast, Nat.reduceLT, Nat.reduceLeDiff, Nat.reduceEqDiff, reduceIte, reduceCtorEq, Nat.reduceAdd, Nat.reduceMul, Nat.reduceMod, Nat.reduceBEq, Nat.reduceBNe, List.reduceReplicate, Int.reduceLE, Int.reduceLT, Int.reduceNe]
    apply hK6; clear hK6
    refine aw_cond rfl (fun hc => ?_) (fun hc => ?_)
    · refine aw_seq_k fun K7 hK7 => aw_region okG0 ?_; simp only [push_cast, Nat.reduceLT, Nat.reduceLeDiff, Nat.reduceEqDiff, reduceIte, reduceCtorEq, Nat.reduceAdd, Nat.reduceMul, Nat.reduceMod, Nat.reduceBEq, Nat.reduceBNe, List.reduceReplicate, Int.reduceLE, Int.reduceLT, Int.reduceNe]
      apply hK7; clear hK7
      refine aw_ret (ret_p rfl ?_ rfl (by simp))
      show Bo _ = Bo _
      simp
    · refine aw_skip ?_
      simp only [push_cast, Nat.reduceLT, Nat.reduceLeDiff, Nat.reduceEqDiff, reduceIte, reduceCtorEq, Nat.reduceAdd, Nat.reduceMul, Nat.reduceMod, Nat.reduceBEq, Nat.reduceBNe, List.reduceReplicate, Int.reduceLE, Int.reduceLT, Int.reduceNe]
      apply hK5; clear hK5
      refine aw_seq_k fun K8 hK8 => aw_region okG0 ?_; simp only [push_cast, Nat.reduceLT, Nat.reduceLeDiff, Nat.reduceEqDiff, reduceIte, reduceCtorEq, Nat.reduceAdd, Nat.reduceMul, Nat.reduceMod, Nat.reduceBEq, Nat.reduceBNe, List.reduceReplicate, Int.reduceLE, Int.reduceLT, Int.reduceNe]
      apply hK8; clear hK8
      refine aw_ret (ret_p rfl ?_ rfl (by simp))
      show Bo _ = Bo _
      rw [hn]
      rfl
theorem szF_spec (l : List Nat) (n : Int) (h1 : 0 ≤ n) (h2 : n ≤ 4611686018427387904) (hl : l.length ≤ 9223372036854775807) : AFp Try.prog 149 [Fs l, I n] (I (if n - l.length < 0 then -1 else n - l.length)) := by
  refine AF_body okG0 Try.func149 rfl rfl (by simp [Try.ntmps149]) (by simp) ?_; simp only [Try.ntmps149]
  refine aw_seq_k fun K1 hK1 => aw_region okG0 ?_; simp only [push_cast, Nat.reduceLT, Nat.reduceLeDiff, Nat.reduceEqDiff, reduceIte, reduceCtorEq, Nat.reduceAdd, Nat.reduceMul, Nat.reduceMod, Nat.reduceBEq, Nat.reduceBNe, List.reduceReplicate, Int.reduceLE, Int.reduceLT, Int.reduceNe]
  apply hK1; clear hK1
  refine aw_seq_k fun K2 hK2 => aw_region okG0 ?_; simp only [push_cast, Nat.reduceLT, Nat.reduceLeDiff, Nat.reduceEqDiff, reduceIte, reduceCtorEq, Nat.reduceAdd, Nat.reduceMul, Nat.reduceMod, Nat.reduceBEq, Nat.reduceBNe, List.reduceReplicate, Int.reduceLE, Int.reduceLT, Int.reduceNe]
  apply hK2; clear hK2
  rw [w64 (n := n - l.length) (by omega) (by omega)]
  refine aw_seq_k fun K3 hK3 => ?_
  refine aw_seq_k fun K4 hK4 => aw_region okG0 ?_; simp only [push_cast, Nat.reduceLT, Nat.reduceLeDiff, Nat.reduceEqDiff, reduceIte, reduceCtorEq, Nat.reduceAdd, Nat.reduceMul, Nat.reduceMod, Nat.reduceBEq, Nat.reduceBNe, List.reduceReplicate, Int.reduceLE, Int.reduceLT, Int.reduceNe]
  apply hK4; clear hK4
  refine aw_cond rfl (fun hc => ?_) (fun hc => ?_)
  · refine aw_seq_k fun K5 hK5 => aw_region okG0 ?_; simp only [push_cast, Nat.reduceLT, Nat.reduceLeDiff, Nat.reduceEqDiff, reduceIte, reduceCtorEq, Nat.reduceAdd, Nat.reduceMul, Nat.reduceMod, Nat.reduceBEq, Nat.reduceBNe, List.reduceReplicate, Int.reduceLE, Int.reduceLT, Int.reduceNe]
    apply hK5; clear hK5
    refine aw_ret (ret_p rfl ?_ rfl (by simp))
    rw [if_pos (by simpa using hc)]; rfl
  · refine aw_skip ?_
    simp only [push_cast, Nat.reduceLT, Nat.reduceLeDiff, Nat.reduceEqDiff, reduceIte, reduceCtorEq, Nat.reduceAdd, Nat.reduceMul, Nat.reduceMod, Nat.reduceBEq, Nat.reduceBNe, List.reduceReplicate, Int.reduceLE, Int.reduceLT, Int.reduceNe]
    apply hK3; clear hK3
    refine aw_seq_k fun K6 hK6 => aw_region okG0 ?_; simp only [push_cast, Nat.reduceLT, Nat.reduceLeDiff, Nat.reduceEqDiff, reduceIte, reduceCtorEq, Nat.reduceAdd, Nat.reduceMul, Nat.reduceMod, Nat.reduceBEq, Nat.reduceBNe, List.reduceReplicate, Int.reduceLE, Int.reduceLT, Int.reduceNe]
    apply hK6; clear hK6
    refine aw_ret (ret_p rfl ?_ rfl (by simp))
    rw [if_neg (by simpa using hc)]; rfl
theorem szB_spec (l : List Bool) (n : Int) (h1 : 0 ≤ n) (h2 : n ≤ 4611686018427387904) (hl : l.length ≤ 9223372036854775807) : AFp Try.prog 150 [Bs l, I n] (I (if n - l.length < 0 then -1 else n - l.length)) := by
  refine AF_body okG0 Try.func150 rfl rfl (by simp [Try.ntmps150]) (by simp) ?_; simp only [Try.ntmps150]
  refine aw_seq_k fun K1 hK1 => aw_region okG0 ?_; simp only [push_cast, Nat.reduceLT, Nat.reduceLeDiff, Nat.reduceEqDiff, reduceIte, reduceCtorEq, Nat.reduceAdd, Nat.reduceMul, Nat.reduceMod, Nat.reduceBEq, Nat.reduceBNe, List.reduceReplicate, Int.reduceLE, Int.reduceLT, Int.reduceNe]
  apply hK1; clear hK1
  refine aw_seq_k fun K2 hK2 => aw_region okG0 ?_; simp only [push_cast, Nat.reduceLT, Nat.reduceLeDiff, Nat.reduceEqDiff, reduceIte, reduceCtorEq, Nat.reduceAdd, Nat.reduceMul, Nat.reduceMod, Nat.reduceBEq, Nat.reduceBNe, List.reduceReplicate, Int.reduceLE, Int.reduceLT, Int.reduceNe]
  apply hK2; clear hK2
  rw [w64 (n := n - l.length) (by omega) (by omega)]
  refine aw_seq_k fun K3 hK3 => ?_
  refine aw_seq_k fun K4 hK4 => aw_region okG0 ?_; simp only [push_cast, Nat.reduceLT, Nat.reduceLeDiff, Nat.reduceEqDiff, reduceIte, reduceCtorEq, Nat.reduceAdd, Nat.reduceMul, Nat.reduceMod, Nat.reduceBEq, Nat.reduceBNe, List.reduceReplicate, Int.reduceLE, Int.reduceLT, Int.reduceNe]
  apply hK4; clear hK4
  refine aw_cond rfl (fun hc => ?_) (fun hc => ?_)
  · refine aw_seq_k fun K5 hK5 => aw_region okG0 ?_; simp only [push_cast, Nat.reduceLT, Nat.reduceLeDiff, Nat.reduceEqDiff, reduceIte, reduceCtorEq, Nat.reduceAdd, Nat.reduceMul, Nat.reduceMod, Nat.reduceBEq, Nat.reduceBNe, List.reduceReplicate, Int.reduceLE, Int.reduceLT, Int.reduceNe]
    apply hK5; clear hK5
    refine aw_ret (ret_p rfl ?_ rfl (by simp))
    rw [if_pos (by simpa using hc)]; rfl
  · refine aw_skip ?_
    simp only [push_cast, Nat.reduceLT, Nat.reduceLeDiff, Nat.reduceEqDiff, reduceIte, reduceCtorEq, Nat.reduceAdd, Nat.reduceMul, Nat.reduceMod, Nat.reduceBEq, Nat.reduceBNe, List.reduceReplicate, Int.reduceLE, Int.reduceLT, Int.reduceNe]
    apply hK3; clear hK3
    refine aw_seq_k fun K6 hK6 => aw_region okG0 ?_; simp only [push_cast, Nat.reduceLT, Nat.reduceLeDiff, Nat.reduceEqDiff, reduceIte, reduceCtorEq, Nat.reduceAdd, Nat.reduceMul, Nat.reduceMod, Nat.reduceBEq, Nat.reduceBNe, List.reduceReplicate, Int.reduceLE, Int.reduceLT, Int.reduceNe]
    apply hK6; clear hK6
    refine aw_ret (ret_p rfl ?_ rfl (by simp))
    rw [if_neg (by simpa using hc)]; rfl
/-- What is left of a size. -/
def szL (p : List Nat) (b : List Bool) (n : Int) : Int := if n - p.length < 0 then -1 else if n - p.length - b.length < 0 then -1 else n - p.length - b.length
theorem szFlow_spec (r c : Int) (p : List Nat) (b : List Bool) (n : Int) (h1 : 0 ≤ n) (h2 : n ≤ 1048576) (hp : p.length ≤ 9223372036854775807) (hb : b.length ≤ 9223372036854775807) : AFp Try.prog 46 [.agg [I r, I c, Fs p, Bs b], I n] (I (szL p b n)) := by
  refine AF_body okG0 Try.func46 rfl rfl (by simp [Try.ntmps46]) (by simp) ?_; simp only [Try.ntmps46]
  refine aw_seq_k fun K1 hK1 => aw_region okG0 ?_; simp only [push_cast, Nat.reduceLT, Nat.reduceLeDiff, Nat.reduceEqDiff, reduceIte, reduceCtorEq, Nat.reduceAdd, Nat.reduceMul, Nat.reduceMod, Nat.reduceBEq, Nat.reduceBNe, List.reduceReplicate, Int.reduceLE, Int.reduceLT, Int.reduceNe]
  apply hK1; clear hK1
  refine aw_seq_k fun K2 hK2 => aw_region okG0 ?_; simp only [push_cast, Nat.reduceLT, Nat.reduceLeDiff, Nat.reduceEqDiff, reduceIte, reduceCtorEq, Nat.reduceAdd, Nat.reduceMul, Nat.reduceMod, Nat.reduceBEq, Nat.reduceBNe, List.reduceReplicate, Int.reduceLE, Int.reduceLT, Int.reduceNe]
  refine call_pure (szF_spec p n (by omega) (by omega) hp) (fits_of rfl) (by decide) rfl (by simp [idsV, idsVs]) ?_; simp only [push_cast, Nat.reduceLT, Nat.reduceLeDiff, Nat.reduceEqDiff, reduceIte, reduceCtorEq, Nat.reduceAdd, Nat.reduceMul, Nat.reduceMod, Nat.reduceBEq, Nat.reduceBNe, List.reduceReplicate, Int.reduceLE, Int.reduceLT, Int.reduceNe]
  apply hK2; clear hK2
  refine aw_seq_k fun K3 hK3 => ?_
  refine aw_seq_k fun K4 hK4 => aw_region okG0 ?_; simp only [push_cast, Nat.reduceLT, Nat.reduceLeDiff, Nat.reduceEqDiff, reduceIte, reduceCtorEq, Nat.reduceAdd, Nat.reduceMul, Nat.reduceMod, Nat.reduceBEq, Nat.reduceBNe, List.reduceReplicate, Int.reduceLE, Int.reduceLT, Int.reduceNe]
  apply hK4; clear hK4
  by_cases hl : n - (p.length : Int) < 0
  · rw [if_pos hl]
    refine aw_cond rfl (fun hc => ?_) (fun hc => ?_)
    · refine aw_seq_k fun K5 hK5 => aw_region okG0 ?_; simp only [push_cast, Nat.reduceLT, Nat.reduceLeDiff, Nat.reduceEqDiff, reduceIte, reduceCtorEq, Nat.reduceAdd, Nat.reduceMul, Nat.reduceMod, Nat.reduceBEq, Nat.reduceBNe, List.reduceReplicate, Int.reduceLE, Int.reduceLT, Int.reduceNe]
      apply hK5; clear hK5
      refine aw_ret (ret_p rfl ?_ rfl (by simp))
      unfold szL; rw [if_pos hl]; rfl
    · simp at hc
  · rw [if_neg hl]
    refine aw_cond rfl (fun hc => ?_) (fun hc => ?_)
    · exact absurd (by simpa using hc) hl
    · refine aw_skip ?_
      simp only [push_cast, Nat.reduceLT, Nat.reduceLeDiff, Nat.reduceEqDiff, reduceIte, reduceCtorEq, Nat.reduceAdd, Nat.reduceMul, Nat.reduceMod, Nat.reduceBEq, Nat.reduceBNe, List.reduceReplicate, Int.reduceLE, Int.reduceLT, Int.reduceNe]
      apply hK3; clear hK3
      refine aw_seq_k fun K6 hK6 => aw_region okG0 ?_; simp only [push_cast, Nat.reduceLT, Nat.reduceLeDiff, Nat.reduceEqDiff, reduceIte, reduceCtorEq, Nat.reduceAdd, Nat.reduceMul, Nat.reduceMod, Nat.reduceBEq, Nat.reduceBNe, List.reduceReplicate, Int.reduceLE, Int.reduceLT, Int.reduceNe]
      refine call_pure (szB_spec b (n - p.length) (by omega) (by omega) hb) (fits_of rfl) (by decide) rfl (by simp [idsV, idsVs]) ?_; simp only [push_cast, Nat.reduceLT, Nat.reduceLeDiff, Nat.reduceEqDiff, reduceIte, reduceCtorEq, Nat.reduceAdd, Nat.reduceMul, Nat.reduceMod, Nat.reduceBEq, Nat.reduceBNe, List.reduceReplicate, Int.reduceLE, Int.reduceLT, Int.reduceNe]
      apply hK6; clear hK6
      refine aw_seq_k fun K7 hK7 => ?_
      refine aw_seq_k fun K8 hK8 => aw_region okG0 ?_; simp only [push_cast, Nat.reduceLT, Nat.reduceLeDiff, Nat.reduceEqDiff, reduceIte, reduceCtorEq, Nat.reduceAdd, Nat.reduceMul, Nat.reduceMod, Nat.reduceBEq, Nat.reduceBNe, List.reduceReplicate, Int.reduceLE, Int.reduceLT, Int.reduceNe]
      apply hK8; clear hK8
      by_cases hm : n - (p.length : Int) - (b.length : Int) < 0
      · rw [if_pos hm]
        refine aw_cond rfl (fun hc => ?_) (fun hc => ?_)
        · refine aw_seq_k fun K9 hK9 => aw_region okG0 ?_; simp only [push_cast, Nat.reduceLT, Nat.reduceLeDiff, Nat.reduceEqDiff, reduceIte, reduceCtorEq, Nat.reduceAdd, Nat.reduceMul, Nat.reduceMod, Nat.reduceBEq, Nat.reduceBNe, List.reduceReplicate, Int.reduceLE, Int.reduceLT, Int.reduceNe]
          apply hK9; clear hK9
          refine aw_ret (ret_p rfl ?_ rfl (by simp))
          unfold szL; rw [if_neg hl, if_pos hm]; rfl
        · simp at hc
      · rw [if_neg hm]
        refine aw_cond rfl (fun hc => ?_) (fun hc => ?_)
        · exact absurd (by simpa using hc) hm
        · refine aw_skip ?_
          simp only [push_cast, Nat.reduceLT, Nat.reduceLeDiff, Nat.reduceEqDiff, reduceIte, reduceCtorEq, Nat.reduceAdd, Nat.reduceMul, Nat.reduceMod, Nat.reduceBEq, Nat.reduceBNe, List.reduceReplicate, Int.reduceLE, Int.reduceLT, Int.reduceNe]
          apply hK7; clear hK7
          refine aw_seq_k fun K10 hK10 => aw_region okG0 ?_; simp only [push_cast, Nat.reduceLT, Nat.reduceLeDiff, Nat.reduceEqDiff, reduceIte, reduceCtorEq, Nat.reduceAdd, Nat.reduceMul, Nat.reduceMod, Nat.reduceBEq, Nat.reduceBNe, List.reduceReplicate, Int.reduceLE, Int.reduceLT, Int.reduceNe]
          apply hK10; clear hK10
          refine aw_ret (ret_p rfl ?_ rfl (by simp))
          unfold szL; rw [if_neg hl, if_neg hm]; rfl
/-- A list that is copied. -/
def cpy {α : Type} (l : List α) (z : α) (k : Nat) : List α := l.take k ++ List.replicate (l.length - k) z
theorem cpy_len {α : Type} {l : List α} {z : α} {k : Nat} (h : k ≤ l.length) : (cpy l z k).length = l.length := by simp [cpy]; omega
theorem cpy_set {α : Type} {l : List α} {z w : α} {k : Nat} (h : k < l.length) : (cpy l z k).set k (l.getD k w) = cpy l z (k + 1) := by
  have hg : l.getD k w = l[k] := by simp [List.getD, h]
  unfold cpy
  rw [List.set_append, if_neg (by simp; omega), show l.length - k = (l.length - (k + 1)) + 1 by omega, List.replicate_succ, show k - (l.take k).length = 0 by simp; omega, List.set_cons_zero, List.take_succ_eq_append_getElem h, hg, List.append_assoc]
  rfl
theorem cpy_zero {α : Type} (l : List α) (z : α) : cpy l z 0 = List.replicate l.length z := by simp [cpy]
theorem cpy_all {α : Type} (l : List α) (z : α) : cpy l z l.length = l := by simp [cpy]
theorem toF_spec (l : List Nat) (hl : l.length ≤ 1048576) : AFp Try.prog 154 [Fs l] (Ff 0 l) := by
  refine AF_body okG0 Try.func154 rfl rfl (by simp [Try.ntmps154]) (by simp) ?_; simp only [Try.ntmps154]
  refine aw_seq_k fun K1 hK1 => aw_region okG0 ?_; simp only [push_cast, Nat.reduceLT, Nat.reduceLeDiff, Nat.reduceEqDiff, reduceIte, reduceCtorEq, Nat.reduceAdd, Nat.reduceMul, Nat.reduceMod, Nat.reduceBEq, Nat.reduceBNe, List.reduceReplicate, Int.reduceLE, Int.reduceLT, Int.reduceNe]
  apply hK1; clear hK1
  refine aw_seq_k fun K2 hK2 => aw_region okG0 ?_; simp only [push_cast, Nat.reduceLT, Nat.reduceLeDiff, Nat.reduceEqDiff, reduceIte, reduceCtorEq, Nat.reduceAdd, Nat.reduceMul, Nat.reduceMod, Nat.reduceBEq, Nat.reduceBNe, List.reduceReplicate, Int.reduceLE, Int.reduceLT, Int.reduceNe]
  refine ⟨Int.natCast_nonneg _, by omega, by show (l.length : Int) ≤ 9223372036854775807; omega, ?_⟩
  apply hK2; clear hK2
  refine aw_seq_k fun K3 hK3 => ?_
  refine aw_seq_k fun K4 hK4 => aw_region okG0 ?_; simp only [push_cast, Nat.reduceLT, Nat.reduceLeDiff, Nat.reduceEqDiff, reduceIte, reduceCtorEq, Nat.reduceAdd, Nat.reduceMul, Nat.reduceMod, Nat.reduceBEq, Nat.reduceBNe, List.reduceReplicate, Int.reduceLE, Int.reduceLT, Int.reduceNe]
  apply hK4; clear hK4
  refine aw_block ?_
  rw [← cpy_zero]
  refine aw_loop (fun k : {k : Nat // k ≤ l.length} => ⟨[(0, Fs l), (3, Ff 700 (cpy l (canon .f32 0) k.1)), (4, I k.1)], [], [700]⟩) (fun k => l.length - k.1) ⟨0, Nat.zero_le _⟩ (sub_to (by simp [allE, getE] <;> (repeat' apply And.intro) <;> rfl) (by simp [allB, getB] <;> rfl) rfl rfl rfl) ?_
  rintro ⟨k, hk⟩
  have hlen := cpy_len (l := l) (z := (canon .f32 0)) hk
  refine aw_seq_k fun K5 hK5 => ?_
  refine aw_seq_k fun K6 hK6 => aw_region okG0 ?_; simp only [push_cast, Nat.reduceLT, Nat.reduceLeDiff, Nat.reduceEqDiff, reduceIte, reduceCtorEq, Nat.reduceAdd, Nat.reduceMul, Nat.reduceMod, Nat.reduceBEq, Nat.reduceBNe, List.reduceReplicate, Int.reduceLE, Int.reduceLT, Int.reduceNe]
  apply hK6; clear hK6
  refine aw_cond rfl (fun hc => ?_) (fun hc => ?_)
  · have hlt : k < l.length := by simpa using hc
    refine aw_skip ?_
    simp only [push_cast, Nat.reduceLT, Nat.reduceLeDiff, Nat.reduceEqDiff, reduceIte, reduceCtorEq, Nat.reduceAdd, Nat.reduceMul, Nat.reduceMod, Nat.reduceBEq, Nat.reduceBNe, List.reduceReplicate, Int.reduceLE, Int.reduceLT, Int.reduceNe]
    apply hK5; clear hK5
    refine aw_seq_k fun K7 hK7 => ?_
    refine aw_block ?_
    refine aw_region okG0 ?_
    simp only [push_cast, Nat.reduceLT, Nat.reduceLeDiff, Nat.reduceEqDiff, reduceIte, reduceCtorEq, Nat.reduceAdd, Nat.reduceMul, Nat.reduceMod, Nat.reduceBEq, Nat.reduceBNe, List.reduceReplicate, Int.reduceLE, Int.reduceLT, Int.reduceNe]
    refine ⟨⟨by omega, by omega⟩, ⟨by omega, by omega⟩, by omega, ?_⟩
    rw [cpy_set hlt]
    apply hK7; clear hK7
    refine aw_region okG0 ?_
    simp only [push_cast, Nat.reduceLT, Nat.reduceLeDiff, Nat.reduceEqDiff, reduceIte, reduceCtorEq, Nat.reduceAdd, Nat.reduceMul, Nat.reduceMod, Nat.reduceBEq, Nat.reduceBNe, List.reduceReplicate, Int.reduceLE, Int.reduceLT, Int.reduceNe]
    refine ⟨⟨k + 1, by omega⟩, ?_, by show l.length - (k + 1) < l.length - k; omega⟩
    rw [w64 (n := (k : Int) + 1) (by omega) (by omega)]
    exact sub_to (by simp [allE, getE] <;> (repeat' apply And.intro) <;> rfl) (by simp [allB, getB] <;> rfl) rfl rfl rfl
  · have hlt : k = l.length := by have : ¬ (k : Int) < l.length := by simpa using hc
                                  omega
    subst hlt
    refine aw_exit ?_
    simp only [push_cast, Nat.reduceLT, Nat.reduceLeDiff, Nat.reduceEqDiff, reduceIte, reduceCtorEq, Nat.reduceAdd, Nat.reduceMul, Nat.reduceMod, Nat.reduceBEq, Nat.reduceBNe, List.reduceReplicate, Int.reduceLE, Int.reduceLT, Int.reduceNe]
    apply hK3; clear hK3
    refine aw_seq_k fun K8 hK8 => aw_region okG0 ?_; simp only [push_cast, Nat.reduceLT, Nat.reduceLeDiff, Nat.reduceEqDiff, reduceIte, reduceCtorEq, Nat.reduceAdd, Nat.reduceMul, Nat.reduceMod, Nat.reduceBEq, Nat.reduceBNe, List.reduceReplicate, Int.reduceLE, Int.reduceLT, Int.reduceNe]
    apply hK8; clear hK8
    rw [cpy_all]
    exact aw_ret (ret_o [(700, 0)] rfl rfl (by simp [renN]) rfl)
theorem toB_spec (l : List Bool) (hl : l.length ≤ 1048576) : AFp Try.prog 155 [Bs l] (Bf 0 l) := by
  refine AF_body okG0 Try.func155 rfl rfl (by simp [Try.ntmps155]) (by simp) ?_; simp only [Try.ntmps155]
  refine aw_seq_k fun K1 hK1 => aw_region okG0 ?_; simp only [push_cast, Nat.reduceLT, Nat.reduceLeDiff, Nat.reduceEqDiff, reduceIte, reduceCtorEq, Nat.reduceAdd, Nat.reduceMul, Nat.reduceMod, Nat.reduceBEq, Nat.reduceBNe, List.reduceReplicate, Int.reduceLE, Int.reduceLT, Int.reduceNe]
  apply hK1; clear hK1
  refine aw_seq_k fun K2 hK2 => aw_region okG0 ?_; simp only [push_cast, Nat.reduceLT, Nat.reduceLeDiff, Nat.reduceEqDiff, reduceIte, reduceCtorEq, Nat.reduceAdd, Nat.reduceMul, Nat.reduceMod, Nat.reduceBEq, Nat.reduceBNe, List.reduceReplicate, Int.reduceLE, Int.reduceLT, Int.reduceNe]
  refine ⟨Int.natCast_nonneg _, by omega, by show (l.length : Int) ≤ 9223372036854775807; omega, ?_⟩
  apply hK2; clear hK2
  refine aw_seq_k fun K3 hK3 => ?_
  refine aw_seq_k fun K4 hK4 => aw_region okG0 ?_; simp only [push_cast, Nat.reduceLT, Nat.reduceLeDiff, Nat.reduceEqDiff, reduceIte, reduceCtorEq, Nat.reduceAdd, Nat.reduceMul, Nat.reduceMod, Nat.reduceBEq, Nat.reduceBNe, List.reduceReplicate, Int.reduceLE, Int.reduceLT, Int.reduceNe]
  apply hK4; clear hK4
  refine aw_block ?_
  rw [← cpy_zero]
  refine aw_loop (fun k : {k : Nat // k ≤ l.length} => ⟨[(0, Bs l), (3, Bf 700 (cpy l false k.1)), (4, I k.1)], [], [700]⟩) (fun k => l.length - k.1) ⟨0, Nat.zero_le _⟩ (sub_to (by simp [allE, getE] <;> (repeat' apply And.intro) <;> rfl) (by simp [allB, getB] <;> rfl) rfl rfl rfl) ?_
  rintro ⟨k, hk⟩
  have hlen := cpy_len (l := l) (z := false) hk
  refine aw_seq_k fun K5 hK5 => ?_
  refine aw_seq_k fun K6 hK6 => aw_region okG0 ?_; simp only [push_cast, Nat.reduceLT, Nat.reduceLeDiff, Nat.reduceEqDiff, reduceIte, reduceCtorEq, Nat.reduceAdd, Nat.reduceMul, Nat.reduceMod, Nat.reduceBEq, Nat.reduceBNe, List.reduceReplicate, Int.reduceLE, Int.reduceLT, Int.reduceNe]
  apply hK6; clear hK6
  refine aw_cond rfl (fun hc => ?_) (fun hc => ?_)
  · have hlt : k < l.length := by simpa using hc
    refine aw_skip ?_
    simp only [push_cast, Nat.reduceLT, Nat.reduceLeDiff, Nat.reduceEqDiff, reduceIte, reduceCtorEq, Nat.reduceAdd, Nat.reduceMul, Nat.reduceMod, Nat.reduceBEq, Nat.reduceBNe, List.reduceReplicate, Int.reduceLE, Int.reduceLT, Int.reduceNe]
    apply hK5; clear hK5
    refine aw_seq_k fun K7 hK7 => ?_
    refine aw_block ?_
    refine aw_region okG0 ?_
    simp only [push_cast, Nat.reduceLT, Nat.reduceLeDiff, Nat.reduceEqDiff, reduceIte, reduceCtorEq, Nat.reduceAdd, Nat.reduceMul, Nat.reduceMod, Nat.reduceBEq, Nat.reduceBNe, List.reduceReplicate, Int.reduceLE, Int.reduceLT, Int.reduceNe]
    refine ⟨⟨by omega, by omega⟩, ⟨by omega, by omega⟩, by omega, ?_⟩
    rw [cpy_set hlt]
    apply hK7; clear hK7
    refine aw_region okG0 ?_
    simp only [push_cast, Nat.reduceLT, Nat.reduceLeDiff, Nat.reduceEqDiff, reduceIte, reduceCtorEq, Nat.reduceAdd, Nat.reduceMul, Nat.reduceMod, Nat.reduceBEq, Nat.reduceBNe, List.reduceReplicate, Int.reduceLE, Int.reduceLT, Int.reduceNe]
    refine ⟨⟨k + 1, by omega⟩, ?_, by show l.length - (k + 1) < l.length - k; omega⟩
    rw [w64 (n := (k : Int) + 1) (by omega) (by omega)]
    exact sub_to (by simp [allE, getE] <;> (repeat' apply And.intro) <;> rfl) (by simp [allB, getB] <;> rfl) rfl rfl rfl
  · have hlt : k = l.length := by have : ¬ (k : Int) < l.length := by simpa using hc
                                  omega
    subst hlt
    refine aw_exit ?_
    simp only [push_cast, Nat.reduceLT, Nat.reduceLeDiff, Nat.reduceEqDiff, reduceIte, reduceCtorEq, Nat.reduceAdd, Nat.reduceMul, Nat.reduceMod, Nat.reduceBEq, Nat.reduceBNe, List.reduceReplicate, Int.reduceLE, Int.reduceLT, Int.reduceNe]
    apply hK3; clear hK3
    refine aw_seq_k fun K8 hK8 => aw_region okG0 ?_; simp only [push_cast, Nat.reduceLT, Nat.reduceLeDiff, Nat.reduceEqDiff, reduceIte, reduceCtorEq, Nat.reduceAdd, Nat.reduceMul, Nat.reduceMod, Nat.reduceBEq, Nat.reduceBNe, List.reduceReplicate, Int.reduceLE, Int.reduceLT, Int.reduceNe]
    apply hK8; clear hK8
    rw [cpy_all]
    exact aw_ret (ret_o [(700, 0)] rfl rfl (by simp [renN]) rfl)
theorem eqF_spec (l : List Nat) (hl : l.length ≤ 4611686018427387904) : AFp Try.prog 93 [Fs l, Fs l] (Bo true) := by
  refine AF_body okG0 Try.func93 rfl rfl (by simp [Try.ntmps93]) (by simp) ?_; simp only [Try.ntmps93]
  refine aw_seq_k fun K1 hK1 => aw_region okG0 ?_; simp only [push_cast, Nat.reduceLT, Nat.reduceLeDiff, Nat.reduceEqDiff, reduceIte, reduceCtorEq, Nat.reduceAdd, Nat.reduceMul, Nat.reduceMod, Nat.reduceBEq, Nat.reduceBNe, List.reduceReplicate, Int.reduceLE, Int.reduceLT, Int.reduceNe]
  apply hK1; clear hK1
  refine aw_seq_k fun K2 hK2 => ?_
  refine aw_seq_k fun K3 hK3 => aw_region okG0 ?_; simp only [push_cast, Nat.reduceLT, Nat.reduceLeDiff, Nat.reduceEqDiff, reduceIte, reduceCtorEq, Nat.reduceAdd, Nat.reduceMul, Nat.reduceMod, Nat.reduceBEq, Nat.reduceBNe, List.reduceReplicate, Int.reduceLE, Int.reduceLT, Int.reduceNe]
  apply hK3; clear hK3
  refine aw_cond rfl (fun hc => ?_) (fun hc => ?_)
  · simp at hc
  · refine aw_skip ?_
    simp only [push_cast, Nat.reduceLT, Nat.reduceLeDiff, Nat.reduceEqDiff, reduceIte, reduceCtorEq, Nat.reduceAdd, Nat.reduceMul, Nat.reduceMod, Nat.reduceBEq, Nat.reduceBNe, List.reduceReplicate, Int.reduceLE, Int.reduceLT, Int.reduceNe]
    apply hK2; clear hK2
    refine aw_seq_k fun K5 hK5 => ?_
    refine aw_seq_k fun K6 hK6 => aw_region okG0 ?_; simp only [push_cast, Nat.reduceLT, Nat.reduceLeDiff, Nat.reduceEqDiff, reduceIte, reduceCtorEq, Nat.reduceAdd, Nat.reduceMul, Nat.reduceMod, Nat.reduceBEq, Nat.reduceBNe, List.reduceReplicate, Int.reduceLE, Int.reduceLT, Int.reduceNe]
    apply hK6; clear hK6
    refine aw_block ?_
    refine aw_loop (fun k : {k : Nat // k ≤ l.length} => ⟨[(0, Fs l), (1, Fs l), (5, I k.1)], [], []⟩) (fun k => l.length - k.1) ⟨0, Nat.zero_le _⟩ (sub_to (by simp [allE, getE] <;> (repeat' apply And.intro) <;> rfl) (by simp [allB, getB] <;> rfl) rfl rfl rfl) ?_
    rintro ⟨k, hk⟩
    refine aw_seq_k fun K7 hK7 => ?_
    refine aw_seq_k fun K8 hK8 => aw_region okG0 ?_; simp only [push_cast, Nat.reduceLT, Nat.reduceLeDiff, Nat.reduceEqDiff, reduceIte, reduceCtorEq, Nat.reduceAdd, Nat.reduceMul, Nat.reduceMod, Nat.reduceBEq, Nat.reduceBNe, List.reduceReplicate, Int.reduceLE, Int.reduceLT, Int.reduceNe]
    apply hK8; clear hK8
    refine aw_cond rfl (fun hc => ?_) (fun hc => ?_)
    · have hlt : k < l.length := by simpa using hc
      refine aw_skip ?_
      simp only [push_cast, Nat.reduceLT, Nat.reduceLeDiff, Nat.reduceEqDiff, reduceIte, reduceCtorEq, Nat.reduceAdd, Nat.reduceMul, Nat.reduceMod, Nat.reduceBEq, Nat.reduceBNe, List.reduceReplicate, Int.reduceLE, Int.reduceLT, Int.reduceNe]
      apply hK7; clear hK7
      refine aw_seq_k fun K9 hK9 => ?_
      refine aw_block ?_
      refine aw_seq_k fun K10 hK10 => aw_draw fol okG0 10 (by kernel_rfl) ?_; simp only [push_cast, Nat.reduceLT, Nat.reduceLeDiff, Nat.reduceEqDiff, reduceIte, reduceCtorEq, Nat.reduceAdd, Nat.reduceMul, Nat.reduceMod, Nat.reduceBEq, Nat.reduceBNe, List.reduceReplicate, Int.reduceLE, Int.reduceLT, Int.reduceNe]
      refine ⟨⟨by omega, by omega⟩, ⟨by omega, by omega⟩, ?_⟩
      refine call_pure (sameFloat_spec (flW (l.getD k 0))) (fits_of rfl) (by decide) rfl (by simp [idsV, idsVs]) ?_; simp only [push_cast, Nat.reduceLT, Nat.reduceLeDiff, Nat.reduceEqDiff, reduceIte, reduceCtorEq, Nat.reduceAdd, Nat.reduceMul, Nat.reduceMod, Nat.reduceBEq, Nat.reduceBNe, List.reduceReplicate, Int.reduceLE, Int.reduceLT, Int.reduceNe]
      apply hK10; clear hK10
      refine aw_cond rfl (fun hc => ?_) (fun hc => ?_)
      · simp at hc
      · refine aw_skip ?_
        simp only [push_cast, Nat.reduceLT, Nat.reduceLeDiff, Nat.reduceEqDiff, reduceIte, reduceCtorEq, Nat.reduceAdd, Nat.reduceMul, Nat.reduceMod, Nat.reduceBEq, Nat.reduceBNe, List.reduceReplicate, Int.reduceLE, Int.reduceLT, Int.reduceNe]
        apply hK9; clear hK9
        refine aw_region okG0 ?_
        simp only [push_cast, Nat.reduceLT, Nat.reduceLeDiff, Nat.reduceEqDiff, reduceIte, reduceCtorEq, Nat.reduceAdd, Nat.reduceMul, Nat.reduceMod, Nat.reduceBEq, Nat.reduceBNe, List.reduceReplicate, Int.reduceLE, Int.reduceLT, Int.reduceNe]
        refine ⟨⟨k + 1, by omega⟩, ?_, by show l.length - (k + 1) < l.length - k; omega⟩
        rw [w64 (n := (k : Int) + 1) (by omega) (by omega)]
        exact sub_to (by simp [allE, getE] <;> (repeat' apply And.intro) <;> rfl) (by simp [allB, getB] <;> rfl) rfl rfl rfl
    · refine aw_exit ?_
      simp only [push_cast, Nat.reduceLT, Nat.reduceLeDiff, Nat.reduceEqDiff, reduceIte, reduceCtorEq, Nat.reduceAdd, Nat.reduceMul, Nat.reduceMod, Nat.reduceBEq, Nat.reduceBNe, List.reduceReplicate, Int.reduceLE, Int.reduceLT, Int.reduceNe]
      apply hK5; clear hK5
      refine aw_seq_k fun K12 hK12 => aw_region okG0 ?_; simp only [push_cast, Nat.reduceLT, Nat.reduceLeDiff, Nat.reduceEqDiff, reduceIte, reduceCtorEq, Nat.reduceAdd, Nat.reduceMul, Nat.reduceMod, Nat.reduceBEq, Nat.reduceBNe, List.reduceReplicate, Int.reduceLE, Int.reduceLT, Int.reduceNe]
      apply hK12; clear hK12
      exact aw_ret (ret_p rfl rfl rfl (by simp))
theorem eqB_spec (l : List Bool) (hl : l.length ≤ 4611686018427387904) : AFp Try.prog 159 [Bs l, Bs l] (Bo true) := by
  refine AF_body okG0 Try.func159 rfl rfl (by simp [Try.ntmps159]) (by simp) ?_; simp only [Try.ntmps159]
  refine aw_seq_k fun K1 hK1 => aw_region okG0 ?_; simp only [push_cast, Nat.reduceLT, Nat.reduceLeDiff, Nat.reduceEqDiff, reduceIte, reduceCtorEq, Nat.reduceAdd, Nat.reduceMul, Nat.reduceMod, Nat.reduceBEq, Nat.reduceBNe, List.reduceReplicate, Int.reduceLE, Int.reduceLT, Int.reduceNe]
  apply hK1; clear hK1
  refine aw_seq_k fun K2 hK2 => ?_
  refine aw_seq_k fun K3 hK3 => aw_region okG0 ?_; simp only [push_cast, Nat.reduceLT, Nat.reduceLeDiff, Nat.reduceEqDiff, reduceIte, reduceCtorEq, Nat.reduceAdd, Nat.reduceMul, Nat.reduceMod, Nat.reduceBEq, Nat.reduceBNe, List.reduceReplicate, Int.reduceLE, Int.reduceLT, Int.reduceNe]
  apply hK3; clear hK3
  refine aw_cond rfl (fun hc => ?_) (fun hc => ?_)
  · simp at hc
  · refine aw_skip ?_
    simp only [push_cast, Nat.reduceLT, Nat.reduceLeDiff, Nat.reduceEqDiff, reduceIte, reduceCtorEq, Nat.reduceAdd, Nat.reduceMul, Nat.reduceMod, Nat.reduceBEq, Nat.reduceBNe, List.reduceReplicate, Int.reduceLE, Int.reduceLT, Int.reduceNe]
    apply hK2; clear hK2
    refine aw_seq_k fun K5 hK5 => ?_
    refine aw_seq_k fun K6 hK6 => aw_region okG0 ?_; simp only [push_cast, Nat.reduceLT, Nat.reduceLeDiff, Nat.reduceEqDiff, reduceIte, reduceCtorEq, Nat.reduceAdd, Nat.reduceMul, Nat.reduceMod, Nat.reduceBEq, Nat.reduceBNe, List.reduceReplicate, Int.reduceLE, Int.reduceLT, Int.reduceNe]
    apply hK6; clear hK6
    refine aw_block ?_
    refine aw_loop (fun k : {k : Nat // k ≤ l.length} => ⟨[(0, Bs l), (1, Bs l), (5, I k.1)], [], []⟩) (fun k => l.length - k.1) ⟨0, Nat.zero_le _⟩ (sub_to (by simp [allE, getE] <;> (repeat' apply And.intro) <;> rfl) (by simp [allB, getB] <;> rfl) rfl rfl rfl) ?_
    rintro ⟨k, hk⟩
    refine aw_seq_k fun K7 hK7 => ?_
    refine aw_seq_k fun K8 hK8 => aw_region okG0 ?_; simp only [push_cast, Nat.reduceLT, Nat.reduceLeDiff, Nat.reduceEqDiff, reduceIte, reduceCtorEq, Nat.reduceAdd, Nat.reduceMul, Nat.reduceMod, Nat.reduceBEq, Nat.reduceBNe, List.reduceReplicate, Int.reduceLE, Int.reduceLT, Int.reduceNe]
    apply hK8; clear hK8
    refine aw_cond rfl (fun hc => ?_) (fun hc => ?_)
    · have hlt : k < l.length := by simpa using hc
      refine aw_skip ?_
      simp only [push_cast, Nat.reduceLT, Nat.reduceLeDiff, Nat.reduceEqDiff, reduceIte, reduceCtorEq, Nat.reduceAdd, Nat.reduceMul, Nat.reduceMod, Nat.reduceBEq, Nat.reduceBNe, List.reduceReplicate, Int.reduceLE, Int.reduceLT, Int.reduceNe]
      apply hK7; clear hK7
      refine aw_seq_k fun K9 hK9 => ?_
      refine aw_block ?_
      refine aw_seq_k fun K10 hK10 => aw_draw fol okG0 8 (by kernel_rfl) ?_; simp only [push_cast, Nat.reduceLT, Nat.reduceLeDiff, Nat.reduceEqDiff, reduceIte, reduceCtorEq, Nat.reduceAdd, Nat.reduceMul, Nat.reduceMod, Nat.reduceBEq, Nat.reduceBNe, List.reduceReplicate, Int.reduceLE, Int.reduceLT, Int.reduceNe]
      refine ⟨⟨by omega, by omega⟩, ⟨by omega, by omega⟩, ?_⟩
      apply hK10; clear hK10
      refine aw_cond rfl (fun hc => ?_) (fun hc => ?_)
      · simp at hc
      · refine aw_skip ?_
        simp only [push_cast, Nat.reduceLT, Nat.reduceLeDiff, Nat.reduceEqDiff, reduceIte, reduceCtorEq, Nat.reduceAdd, Nat.reduceMul, Nat.reduceMod, Nat.reduceBEq, Nat.reduceBNe, List.reduceReplicate, Int.reduceLE, Int.reduceLT, Int.reduceNe]
        apply hK9; clear hK9
        refine aw_region okG0 ?_
        simp only [push_cast, Nat.reduceLT, Nat.reduceLeDiff, Nat.reduceEqDiff, reduceIte, reduceCtorEq, Nat.reduceAdd, Nat.reduceMul, Nat.reduceMod, Nat.reduceBEq, Nat.reduceBNe, List.reduceReplicate, Int.reduceLE, Int.reduceLT, Int.reduceNe]
        refine ⟨⟨k + 1, by omega⟩, ?_, by show l.length - (k + 1) < l.length - k; omega⟩
        rw [w64 (n := (k : Int) + 1) (by omega) (by omega)]
        exact sub_to (by simp [allE, getE] <;> (repeat' apply And.intro) <;> rfl) (by simp [allB, getB] <;> rfl) rfl rfl rfl
    · refine aw_exit ?_
      simp only [push_cast, Nat.reduceLT, Nat.reduceLeDiff, Nat.reduceEqDiff, reduceIte, reduceCtorEq, Nat.reduceAdd, Nat.reduceMul, Nat.reduceMod, Nat.reduceBEq, Nat.reduceBNe, List.reduceReplicate, Int.reduceLE, Int.reduceLT, Int.reduceNe]
      apply hK5; clear hK5
      refine aw_seq_k fun K12 hK12 => aw_region okG0 ?_; simp only [push_cast, Nat.reduceLT, Nat.reduceLeDiff, Nat.reduceEqDiff, reduceIte, reduceCtorEq, Nat.reduceAdd, Nat.reduceMul, Nat.reduceMod, Nat.reduceBEq, Nat.reduceBNe, List.reduceReplicate, Int.reduceLE, Int.reduceLT, Int.reduceNe]
      apply hK12; clear hK12
      exact aw_ret (ret_p rfl rfl rfl (by simp))
theorem toFlow_spec (r c : Int) (p : List Nat) (b : List Bool) (hp : p.length ≤ 1048576) (hb : b.length ≤ 1048576) : AFp Try.prog 48 [.agg [I r, I c, Fs p, Bs b]] (.agg [I r, I c, Ff 0 p, Bf 1 b]) := by
  refine AF_body okG0 Try.func48 rfl rfl (by simp [Try.ntmps48]) (by simp) ?_; simp only [Try.ntmps48]
  refine aw_seq_k fun K1 hK1 => aw_region okG0 ?_; simp only [push_cast, Nat.reduceLT, Nat.reduceLeDiff, Nat.reduceEqDiff, reduceIte, reduceCtorEq, Nat.reduceAdd, Nat.reduceMul, Nat.reduceMod, Nat.reduceBEq, Nat.reduceBNe, List.reduceReplicate, Int.reduceLE, Int.reduceLT, Int.reduceNe]
  apply hK1; clear hK1
  refine aw_seq_k fun K2 hK2 => aw_region okG0 ?_; simp only [push_cast, Nat.reduceLT, Nat.reduceLeDiff, Nat.reduceEqDiff, reduceIte, reduceCtorEq, Nat.reduceAdd, Nat.reduceMul, Nat.reduceMod, Nat.reduceBEq, Nat.reduceBNe, List.reduceReplicate, Int.reduceLE, Int.reduceLT, Int.reduceNe]
  apply hK2; clear hK2
  refine aw_seq_k fun K3 hK3 => aw_region okG0 ?_; simp only [push_cast, Nat.reduceLT, Nat.reduceLeDiff, Nat.reduceEqDiff, reduceIte, reduceCtorEq, Nat.reduceAdd, Nat.reduceMul, Nat.reduceMod, Nat.reduceBEq, Nat.reduceBNe, List.reduceReplicate, Int.reduceLE, Int.reduceLT, Int.reduceNe]
  apply hK3; clear hK3
  refine aw_seq_k fun K4 hK4 => aw_region okG0 ?_; simp only [push_cast, Nat.reduceLT, Nat.reduceLeDiff, Nat.reduceEqDiff, reduceIte, reduceCtorEq, Nat.reduceAdd, Nat.reduceMul, Nat.reduceMod, Nat.reduceBEq, Nat.reduceBNe, List.reduceReplicate, Int.reduceLE, Int.reduceLT, Int.reduceNe]
  apply hK4; clear hK4
  refine aw_seq_k fun K5 hK5 => aw_region okG0 ?_; simp only [push_cast, Nat.reduceLT, Nat.reduceLeDiff, Nat.reduceEqDiff, reduceIte, reduceCtorEq, Nat.reduceAdd, Nat.reduceMul, Nat.reduceMod, Nat.reduceBEq, Nat.reduceBNe, List.reduceReplicate, Int.reduceLE, Int.reduceLT, Int.reduceNe]
  refine call_pure (toF_spec p hp) (fits_of rfl) (by decide) rfl (by simp [idsV, idsVs]) ?_; simp only [push_cast, Nat.reduceLT, Nat.reduceLeDiff, Nat.reduceEqDiff, reduceIte, reduceCtorEq, Nat.reduceAdd, Nat.reduceMul, Nat.reduceMod, Nat.reduceBEq, Nat.reduceBNe, List.reduceReplicate, Int.reduceLE, Int.reduceLT, Int.reduceNe]
  apply hK5; clear hK5
  refine aw_seq_k fun K6 hK6 => aw_region okG0 ?_; simp only [push_cast, Nat.reduceLT, Nat.reduceLeDiff, Nat.reduceEqDiff, reduceIte, reduceCtorEq, Nat.reduceAdd, Nat.reduceMul, Nat.reduceMod, Nat.reduceBEq, Nat.reduceBNe, List.reduceReplicate, Int.reduceLE, Int.reduceLT, Int.reduceNe]
  refine call_pure (toB_spec b hb) (fits_of rfl) (by decide) rfl (by simp [idsV, idsVs]) ?_; simp only [push_cast, Nat.reduceLT, Nat.reduceLeDiff, Nat.reduceEqDiff, reduceIte, reduceCtorEq, Nat.reduceAdd, Nat.reduceMul, Nat.reduceMod, Nat.reduceBEq, Nat.reduceBNe, List.reduceReplicate, Int.reduceLE, Int.reduceLT, Int.reduceNe]
  apply hK6; clear hK6
  refine aw_seq_k fun K7 hK7 => aw_region okG0 ?_; simp only [push_cast, Nat.reduceLT, Nat.reduceLeDiff, Nat.reduceEqDiff, reduceIte, reduceCtorEq, Nat.reduceAdd, Nat.reduceMul, Nat.reduceMod, Nat.reduceBEq, Nat.reduceBNe, List.reduceReplicate, Int.reduceLE, Int.reduceLT, Int.reduceNe]
  apply hK7; clear hK7
  exact aw_ret (ret_o [(1200, 0), (1600, 1)] rfl rfl (by simp [renN]) rfl)
theorem eqFlow_spec (r c : Int) (p : List Nat) (b : List Bool) (hp : p.length ≤ 4611686018427387904) (hb : b.length ≤ 4611686018427387904) : AFp Try.prog 50 [.agg [I r, I c, Fs p, Bs b], .agg [I r, I c, Fs p, Bs b]] (Bo true) := by
  refine AF_body okG0 Try.func50 rfl rfl (by simp [Try.ntmps50]) (by simp) ?_; simp only [Try.ntmps50]
  refine aw_seq_k fun K1 hK1 => aw_region okG0 ?_; simp only [push_cast, Nat.reduceLT, Nat.reduceLeDiff, Nat.reduceEqDiff, reduceIte, reduceCtorEq, Nat.reduceAdd, Nat.reduceMul, Nat.reduceMod, Nat.reduceBEq, Nat.reduceBNe, List.reduceReplicate, Int.reduceLE, Int.reduceLT, Int.reduceNe]
  apply hK1; clear hK1
  refine aw_seq_k fun K2 hK2 => ?_
  refine aw_seq_k fun K3 hK3 => aw_region okG0 ?_; simp only [push_cast, Nat.reduceLT, Nat.reduceLeDiff, Nat.reduceEqDiff, reduceIte, reduceCtorEq, Nat.reduceAdd, Nat.reduceMul, Nat.reduceMod, Nat.reduceBEq, Nat.reduceBNe, List.reduceReplicate, Int.reduceLE, Int.reduceLT, Int.reduceNe]
  apply hK3; clear hK3
  refine aw_cond rfl (fun hc => ?_) (fun hc => ?_)
  · simp at hc
  · refine aw_skip ?_
    simp only [push_cast, Nat.reduceLT, Nat.reduceLeDiff, Nat.reduceEqDiff, reduceIte, reduceCtorEq, Nat.reduceAdd, Nat.reduceMul, Nat.reduceMod, Nat.reduceBEq, Nat.reduceBNe, List.reduceReplicate, Int.reduceLE, Int.reduceLT, Int.reduceNe]
    apply hK2; clear hK2
    refine aw_seq_k fun K5 hK5 => ?_
    refine aw_seq_k fun K6 hK6 => aw_region okG0 ?_; simp only [push_cast, Nat.reduceLT, Nat.reduceLeDiff, Nat.reduceEqDiff, reduceIte, reduceCtorEq, Nat.reduceAdd, Nat.reduceMul, Nat.reduceMod, Nat.reduceBEq, Nat.reduceBNe, List.reduceReplicate, Int.reduceLE, Int.reduceLT, Int.reduceNe]
    apply hK6; clear hK6
    refine aw_cond rfl (fun hc => ?_) (fun hc => ?_)
    · simp at hc
    · refine aw_skip ?_
      simp only [push_cast, Nat.reduceLT, Nat.reduceLeDiff, Nat.reduceEqDiff, reduceIte, reduceCtorEq, Nat.reduceAdd, Nat.reduceMul, Nat.reduceMod, Nat.reduceBEq, Nat.reduceBNe, List.reduceReplicate, Int.reduceLE, Int.reduceLT, Int.reduceNe]
      apply hK5; clear hK5
      refine aw_seq_k fun K8 hK8 => ?_
      refine aw_seq_k fun K9 hK9 => aw_region okG0 ?_; simp only [push_cast, Nat.reduceLT, Nat.reduceLeDiff, Nat.reduceEqDiff, reduceIte, reduceCtorEq, Nat.reduceAdd, Nat.reduceMul, Nat.reduceMod, Nat.reduceBEq, Nat.reduceBNe, List.reduceReplicate, Int.reduceLE, Int.reduceLT, Int.reduceNe]
      refine call_pure (eqF_spec p hp) (fits_of rfl) (by decide) rfl (by simp [idsV, idsVs]) ?_; simp only [push_cast, Nat.reduceLT, Nat.reduceLeDiff, Nat.reduceEqDiff, reduceIte, reduceCtorEq, Nat.reduceAdd, Nat.reduceMul, Nat.reduceMod, Nat.reduceBEq, Nat.reduceBNe, List.reduceReplicate, Int.reduceLE, Int.reduceLT, Int.reduceNe]
      apply hK9; clear hK9
      refine aw_cond rfl (fun hc => ?_) (fun hc => ?_)
      · simp at hc
      · refine aw_skip ?_
        simp only [push_cast, Nat.reduceLT, Nat.reduceLeDiff, Nat.reduceEqDiff, reduceIte, reduceCtorEq, Nat.reduceAdd, Nat.reduceMul, Nat.reduceMod, Nat.reduceBEq, Nat.reduceBNe, List.reduceReplicate, Int.reduceLE, Int.reduceLT, Int.reduceNe]
        apply hK8; clear hK8
        refine aw_seq_k fun K11 hK11 => ?_
        refine aw_seq_k fun K12 hK12 => aw_region okG0 ?_; simp only [push_cast, Nat.reduceLT, Nat.reduceLeDiff, Nat.reduceEqDiff, reduceIte, reduceCtorEq, Nat.reduceAdd, Nat.reduceMul, Nat.reduceMod, Nat.reduceBEq, Nat.reduceBNe, List.reduceReplicate, Int.reduceLE, Int.reduceLT, Int.reduceNe]
        refine call_pure (eqB_spec b hb) (fits_of rfl) (by decide) rfl (by simp [idsV, idsVs]) ?_; simp only [push_cast, Nat.reduceLT, Nat.reduceLeDiff, Nat.reduceEqDiff, reduceIte, reduceCtorEq, Nat.reduceAdd, Nat.reduceMul, Nat.reduceMod, Nat.reduceBEq, Nat.reduceBNe, List.reduceReplicate, Int.reduceLE, Int.reduceLT, Int.reduceNe]
        apply hK12; clear hK12
        refine aw_cond rfl (fun hc => ?_) (fun hc => ?_)
        · simp at hc
        · refine aw_skip ?_
          simp only [push_cast, Nat.reduceLT, Nat.reduceLeDiff, Nat.reduceEqDiff, reduceIte, reduceCtorEq, Nat.reduceAdd, Nat.reduceMul, Nat.reduceMod, Nat.reduceBEq, Nat.reduceBNe, List.reduceReplicate, Int.reduceLE, Int.reduceLT, Int.reduceNe]
          apply hK11; clear hK11
          refine aw_seq_k fun K14 hK14 => aw_region okG0 ?_; simp only [push_cast, Nat.reduceLT, Nat.reduceLeDiff, Nat.reduceEqDiff, reduceIte, reduceCtorEq, Nat.reduceAdd, Nat.reduceMul, Nat.reduceMod, Nat.reduceBEq, Nat.reduceBNe, List.reduceReplicate, Int.reduceLE, Int.reduceLT, Int.reduceNe]
          apply hK14; clear hK14
          exact aw_ret (ret_p rfl rfl rfl (by simp))
end Go.Proofs.Avx

set_option linter.unusedVariables false
set_option linter.unusedSimpArgs false
namespace Go.Proofs.Avx
attribute [local irreducible] canon flB flO flW floatOfInt
/-! ### Flows that become calmer -/
def ord (q : Nat) : Nat := [0, 3, 4, 1, 2, 7, 8, 5, 6].getD q 0
theorem ord_lt {q : Nat} (h : q < 9) : ord q < 9 := by
  have h9 : q = 0 ∨ q = 1 ∨ q = 2 ∨ q = 3 ∨ q = 4 ∨ q = 5 ∨ q = 6 ∨ q = 7 ∨ q = 8 := by omega
  rcases h9 with rfl | rfl | rfl | rfl | rfl | rfl | rfl | rfl | rfl <;> decide
def mas (c : List Nat) : Nat := mTo c c.length
def rel1 (s : Nat) (c : List Nat) (q : Nat) : Nat := flB .add .f32 (c.getD q 0) (flB .mul .f32 s (flB .sub .f32 (clm (mas c) (spd pd c) (spd pr c) q) (c.getD q 0)))
/-- A part of a cell that becomes calmer; wall: turned back. -/
def rcq (s : Nat) (w : Bool) (c : List Nat) (q : Nat) : Nat := if w then c.getD (ord q) 0 else rel1 s c q
/-- The first parts of the new flow. -/
def rPart (s : Nat) (p : List Nat) (b : List Bool) (i : Nat) : Nat := rcq s (b.getD (i / 9) false) (cel p (i / 9)) (i % 9)
def rTo (s : Nat) (p : List Nat) (b : List Bool) (n : Nat) : List Nat := (List.range n).map (rPart s p b)
theorem rTo_len {s : Nat} {p : List Nat} {b : List Bool} {n : Nat} : (rTo s p b n).length = n := by simp [rTo]
theorem rTo_succ (s : Nat) (p : List Nat) (b : List Bool) (k q : Nat) (hq : q < 9) : rTo s p b (9 * k + q) ++ [rcq s (b.getD k false) (cel p k) q] = rTo s p b (9 * k + (q + 1)) := by
  unfold rTo
  rw [show 9 * k + (q + 1) = (9 * k + q) + 1 by omega, List.range_succ, List.map_append]
  simp only [List.map_cons, List.map_nil, rPart]
  rw [show (9 * k + q) / 9 = k by omega, show (9 * k + q) % 9 = q by omega]
/-- All cells before k can be calmed. -/
def okTo (p : List Nat) (b : List Bool) (k : Nat) : Prop := ∀ j, j < k → b.getD j false = true ∨ gt0 (mas (cel p j)) = true
instance (p : List Nat) (b : List Bool) (k : Nat) : Decidable (okTo p b k) := by unfold okTo; exact inferInstance
/-- What comes of a flow that is calmed. -/
def relaxF (r c : Int) (s : Nat) (p : List Nat) (b : List Bool) : Option (List Nat) := if okTo p b b.length ∧ vf r c (rTo s p b (9 * b.length)) b = true then some (rTo s p b (9 * b.length)) else none
def Z0 : List AV := [I 0, I 0, .nilsl, .nilsl]
theorem order_at (q : Nat) (h : q < 9) : [I 0, I 3, I 4, I 1, I 2, I 7, I 8, I 5, I 6].getD q .any = I (ord q) := by
  have h9 : q = 0 ∨ q = 1 ∨ q = 2 ∨ q = 3 ∨ q = 4 ∨ q = 5 ∨ q = 6 ∨ q = 7 ∨ q = 8 := by omega
  rcases h9 with rfl | rfl | rfl | rfl | rfl | rfl | rfl | rfl | rfl <;> rfl
/-- The state of the outer loop. -/
def stO (r c : Int) (s : Nat) (p : List Nat) (b : List Bool) (k : Nat) : St := if k = 0 then ⟨[(1, F s), (2, .ptr 299 0), (4, .ptr 499 0), (6, .ptr 699 0), (26, Bs b), (27, I b.length), (28, I k)], [(699, [I r, I c, .nilsl, Bf 2300 b]), (499, [I 0, I 0, .nilsl, .nilsl]), (299, [I r, I c, Fs p, Bs b])], [699, 2300, 499, 299]⟩ else ⟨[(1, F s), (2, .ptr 299 0), (4, .ptr 499 0), (6, .ptr 699 0), (26, Bs b), (27, I b.length), (28, I k)], [(699, [I r, I c, Ff 8300 (rTo s p b (9 * k)), Bf 2300 b]), (499, [I 0, I 0, .nilsl, .nilsl]), (299, [I r, I c, Fs p, Bs b])], [8300, 699, 2300, 499, 299]⟩
def stW (r c : Int) (s : Nat) (p : List Nat) (b : List Bool) (k q : Nat) : St := if 9 * k + q = 0 then ⟨[(1, F s), (2, .ptr 299 0), (4, .ptr 499 0), (6, .ptr 699 0), (26, Bs b), (27, I b.length), (28, I k), (9, Fs (cel p k)), (37, .agg [I 0, I 3, I 4, I 1, I 2, I 7, I 8, I 5, I 6]), (38, I q)], [(699, [I r, I c, .nilsl, Bf 2300 b]), (499, [I 0, I 0, .nilsl, .nilsl]), (299, [I r, I c, Fs p, Bs b])], [699, 2300, 499, 299]⟩ else ⟨[(1, F s), (2, .ptr 299 0), (4, .ptr 499 0), (6, .ptr 699 0), (26, Bs b), (27, I b.length), (28, I k), (9, Fs (cel p k)), (37, .agg [I 0, I 3, I 4, I 1, I 2, I 7, I 8, I 5, I 6]), (38, I q)], [(699, [I r, I c, Ff 8300 (rTo s p b (9 * k + q)), Bf 2300 b]), (499, [I 0, I 0, .nilsl, .nilsl]), (299, [I r, I c, Fs p, Bs b])], [8300, 699, 2300, 499, 299]⟩
def stN (r c : Int) (s : Nat) (p : List Nat) (b : List Bool) (k q : Nat) : St := if 9 * k + q = 0 then ⟨[(1, F s), (2, .ptr 299 0), (4, .ptr 499 0), (6, .ptr 699 0), (26, Bs b), (27, I b.length), (28, I k), (62, Fs (cel p k)), (63, I 9), (12, F (mas (cel p k))), (13, F (spd pd (cel p k))), (14, F (spd pr (cel p k))), (64, I q)], [(699, [I r, I c, .nilsl, Bf 2300 b]), (499, [I 0, I 0, .nilsl, .nilsl]), (299, [I r, I c, Fs p, Bs b])], [699, 2300, 499, 299]⟩ else ⟨[(1, F s), (2, .ptr 299 0), (4, .ptr 499 0), (6, .ptr 699 0), (26, Bs b), (27, I b.length), (28, I k), (62, Fs (cel p k)), (63, I 9), (12, F (mas (cel p k))), (13, F (spd pd (cel p k))), (14, F (spd pr (cel p k))), (64, I q)], [(699, [I r, I c, Ff 8300 (rTo s p b (9 * k + q)), Bf 2300 b]), (499, [I 0, I 0, .nilsl, .nilsl]), (299, [I r, I c, Fs p, Bs b])], [8300, 699, 2300, 499, 299]⟩
def resF (r c : Int) (b : List Bool) : Option (List Nat) → AV
  | some R => .tup [.agg [I r, I c, Ff 0 R, Bf 1 b], Bo true]
  | none => .tup [.agg [I 0, I 0, .nilsl, .nilsl], Bo false]
set_option maxHeartbeats 4000000 in
theorem relax_spec (r c : Int) (s : Nat) (p : List Nat) (b : List Bool) (hs : sides r c = true) (hp : p.length = 9 * b.length) (hb : (b.length : Int) = r * c) :
    AFp Try.prog 158 [.agg [I r, I c, Fs p, Bs b], F s] (resF r c b (relaxF r c s p b)) := by
  obtain ⟨h1, h2, h3, h4, h5, h6⟩ := sides_of hs
  have hb1 : b.length ≤ 256 := by omega
  have hb0 : b ≠ [] := by intro h; subst h; simp at hb; omega
  refine AF_body okG0 Try.func158 rfl rfl (by simp [Try.ntmps158]) (by simp) ?_; simp only [Try.ntmps158]
  refine aw_seq_k fun K1 hK1 => aw_region okG0 ?_; simp only [push_cast, Nat.reduceLT, Nat.reduceLeDiff, Nat.reduceEqDiff, reduceIte, reduceCtorEq, Nat.reduceAdd, Nat.reduceMul, Nat.reduceMod, Nat.reduceBEq, Nat.reduceBNe, List.reduceReplicate, Int.reduceLE, Int.reduceLT, Int.reduceNe]
  apply hK1; clear hK1
  refine aw_seq_k fun K2 hK2 => aw_draw fol okG0 9 (by kernel_rfl) ?_; simp only [push_cast, Nat.reduceLT, Nat.reduceLeDiff, Nat.reduceEqDiff, reduceIte, reduceCtorEq, Nat.reduceAdd, Nat.reduceMul, Nat.reduceMod, Nat.reduceBEq, Nat.reduceBNe, List.reduceReplicate, Int.reduceLE, Int.reduceLT, Int.reduceNe]
  refine ⟨_, _, cloneB_spec b hb0 (by omega), .inl ⟨fits_of rfl, rfl⟩, ?_⟩; simp only [push_cast, Nat.reduceLT, Nat.reduceLeDiff, Nat.reduceEqDiff, reduceIte, reduceCtorEq, Nat.reduceAdd, Nat.reduceMul, Nat.reduceMod, Nat.reduceBEq, Nat.reduceBNe, List.reduceReplicate, Int.reduceLE, Int.reduceLT, Int.reduceNe]
  apply hK2; clear hK2
  refine aw_seq_k fun K3 hK3 => ?_
  refine aw_seq_k fun K4 hK4 => aw_region okG0 ?_; simp only [push_cast, Nat.reduceLT, Nat.reduceLeDiff, Nat.reduceEqDiff, reduceIte, reduceCtorEq, Nat.reduceAdd, Nat.reduceMul, Nat.reduceMod, Nat.reduceBEq, Nat.reduceBNe, List.reduceReplicate, Int.reduceLE, Int.reduceLT, Int.reduceNe]
  apply hK4; clear hK4
  refine aw_block ?_
  refine aw_loop (fun k : {k : Nat // k ≤ b.length ∧ okTo p b k} => stO r c s p b k.1) (fun k => b.length - k.1) ⟨0, Nat.zero_le _, fun j hj => absurd hj (Nat.not_lt_zero j)⟩ (by unfold stO; rw [if_pos rfl]; exact sub_to (by simp [allE, getE] <;> (repeat' apply And.intro) <;> rfl) (by simp [allB, getB] <;> rfl) rfl rfl rfl) ?_
  rintro ⟨k, hk, hok⟩
  show AW _ _ _ (stO r c s p b k) _
  unfold stO
  by_cases hk0 : k = 0
  · rw [if_pos hk0]
    refine aw_seq_k fun K5 hK5 => aw_region okG0 ?_; simp only [push_cast, Nat.reduceLT, Nat.reduceLeDiff, Nat.reduceEqDiff, reduceIte, reduceCtorEq, Nat.reduceAdd, Nat.reduceMul, Nat.reduceMod, Nat.reduceBEq, Nat.reduceBNe, List.reduceReplicate, Int.reduceLE, Int.reduceLT, Int.reduceNe]
    apply hK5; clear hK5
    refine aw_seq_k fun K6 hK6 => ?_
    refine aw_cond rfl (fun hc => ?_) (fun hc => ?_)
    · have hlt : k < b.length := by simpa using hc
      have hcl : (cel p k).length = 9 := cel_len (by omega)
      refine aw_skip ?_
      simp only [push_cast, Nat.reduceLT, Nat.reduceLeDiff, Nat.reduceEqDiff, reduceIte, reduceCtorEq, Nat.reduceAdd, Nat.reduceMul, Nat.reduceMod, Nat.reduceBEq, Nat.reduceBNe, List.reduceReplicate, Int.reduceLE, Int.reduceLT, Int.reduceNe]
      apply hK6; clear hK6
      refine aw_seq_k fun K7 hK7 => ?_
      refine aw_block ?_
      refine aw_seq_k fun K8 hK8 => aw_region okG0 ?_; simp only [push_cast, Nat.reduceLT, Nat.reduceLeDiff, Nat.reduceEqDiff, reduceIte, reduceCtorEq, Nat.reduceAdd, Nat.reduceMul, Nat.reduceMod, Nat.reduceBEq, Nat.reduceBNe, List.reduceReplicate, Int.reduceLE, Int.reduceLT, Int.reduceNe]
      refine ⟨⟨by omega, by omega⟩, ?_⟩
      apply hK8; clear hK8
      refine aw_seq_k fun K9 hK9 => aw_region okG0 ?_; simp only [push_cast, Nat.reduceLT, Nat.reduceLeDiff, Nat.reduceEqDiff, reduceIte, reduceCtorEq, Nat.reduceAdd, Nat.reduceMul, Nat.reduceMod, Nat.reduceBEq, Nat.reduceBNe, List.reduceReplicate, Int.reduceLE, Int.reduceLT, Int.reduceNe]
      refine call_ro (cell_spec r c p b k (by omega) (by omega)) (fits_of rfl) rfl (by decide) (by simp [idsV, idsVs]) ?_; simp only [push_cast, Nat.reduceLT, Nat.reduceLeDiff, Nat.reduceEqDiff, reduceIte, reduceCtorEq, Nat.reduceAdd, Nat.reduceMul, Nat.reduceMod, Nat.reduceBEq, Nat.reduceBNe, List.reduceReplicate, Int.reduceLE, Int.reduceLT, Int.reduceNe]
      apply hK9; clear hK9
      refine aw_seq_k fun K10 hK10 => ?_
      refine aw_seq_k fun K11 hK11 => aw_region okG0 ?_; simp only [push_cast, Nat.reduceLT, Nat.reduceLeDiff, Nat.reduceEqDiff, reduceIte, reduceCtorEq, Nat.reduceAdd, Nat.reduceMul, Nat.reduceMod, Nat.reduceBEq, Nat.reduceBNe, List.reduceReplicate, Int.reduceLE, Int.reduceLT, Int.reduceNe]
      apply hK11; clear hK11
      refine aw_cond rfl (fun hw => ?_) (fun hw => ?_)
      · have okS : okTo p b (k + 1) := fun j hj => by
          by_cases hjk : j < k
          · exact hok j hjk
          · have : j = k := by omega
            subst this; exact .inl hw
        refine aw_seq_k fun K12 hK12 => ?_
        refine aw_seq_k fun K13 hK13 => aw_region okG0 ?_; simp only [push_cast, Nat.reduceLT, Nat.reduceLeDiff, Nat.reduceEqDiff, reduceIte, reduceCtorEq, Nat.reduceAdd, Nat.reduceMul, Nat.reduceMod, Nat.reduceBEq, Nat.reduceBNe, List.reduceReplicate, Int.reduceLE, Int.reduceLT, Int.reduceNe]
        apply hK13; clear hK13
        refine aw_block ?_
        refine aw_loop (fun q : {q : Nat // q ≤ 9} => stW r c s p b k q.1) (fun q => 9 - q.1) ⟨0, Nat.zero_le _⟩ (by show Sub _ (stW r c s p b k 0); unfold stW; rw [if_pos (show  9 * k + 0 = 0 by omega)]; exact sub_to (by simp [allE, getE] <;> (repeat' apply And.intro) <;> rfl) (by simp [allB, getB] <;> rfl) rfl rfl rfl) ?_
        rintro ⟨q, hq⟩
        show AW _ _ _ (stW r c s p b k q) _
        unfold stW
        by_cases hq0 : 9 * k + q = 0
        · rw [if_pos hq0]
          refine aw_seq_k fun K14 hK14 => aw_region okG0 ?_; simp only [push_cast, Nat.reduceLT, Nat.reduceLeDiff, Nat.reduceEqDiff, reduceIte, reduceCtorEq, Nat.reduceAdd, Nat.reduceMul, Nat.reduceMod, Nat.reduceBEq, Nat.reduceBNe, List.reduceReplicate, Int.reduceLE, Int.reduceLT, Int.reduceNe]
          apply hK14; clear hK14
          refine aw_seq_k fun K15 hK15 => ?_
          refine aw_cond rfl (fun hc => ?_) (fun hc => ?_)
          · have hlt : q < 9 := by have : (q : Int) < 9 := by simpa using hc
                                   omega
            refine aw_skip ?_
            simp only [push_cast, Nat.reduceLT, Nat.reduceLeDiff, Nat.reduceEqDiff, reduceIte, reduceCtorEq, Nat.reduceAdd, Nat.reduceMul, Nat.reduceMod, Nat.reduceBEq, Nat.reduceBNe, List.reduceReplicate, Int.reduceLE, Int.reduceLT, Int.reduceNe]
            apply hK15; clear hK15
            refine aw_seq_k fun K16 hK16 => ?_
            refine aw_block ?_
            refine aw_seq_k fun K17 hK17 => aw_region okG0 ?_; simp only [push_cast, Nat.reduceLT, Nat.reduceLeDiff, Nat.reduceEqDiff, reduceIte, reduceCtorEq, Nat.reduceAdd, Nat.reduceMul, Nat.reduceMod, Nat.reduceBEq, Nat.reduceBNe, List.reduceReplicate, Int.reduceLE, Int.reduceLT, Int.reduceNe]
            rw [Nat.mul_one, if_pos hlt, order_at q hlt]; simp only [push_cast, Nat.reduceLT, Nat.reduceLeDiff, Nat.reduceEqDiff, reduceIte, reduceCtorEq, Nat.reduceAdd, Nat.reduceMul, Nat.reduceMod, Nat.reduceBEq, Nat.reduceBNe, List.reduceReplicate, Int.reduceLE, Int.reduceLT, Int.reduceNe]; refine ⟨⟨by omega, by omega⟩, ?_⟩
            apply hK17; clear hK17
            refine aw_draw fol okG0 7 (by kernel_rfl) ?_
            simp only [push_cast, Nat.reduceLT, Nat.reduceLeDiff, Nat.reduceEqDiff, reduceIte, reduceCtorEq, Nat.reduceAdd, Nat.reduceMul, Nat.reduceMod, Nat.reduceBEq, Nat.reduceBNe, List.reduceReplicate, Int.reduceLE, Int.reduceLT, Int.reduceNe]
            have e1 : rcq s (b.getD k false) (cel p k) q = (cel p k).getD (ord q) 0 := by rw [hw]; rfl
            have ho := ord_lt hlt
            have hin : InR ((ord q : Nat) : Int) (cel p k).length := ⟨by omega, by omega⟩
            refine ⟨hin, ?_⟩
            have e2 : [(cel p k).getD (ord q) 0] = rTo s p b (9 * k + (q + 1)) := by rw [← rTo_succ s p b k q hlt, e1, hq0]; rfl
            rw [e2]
            apply hK16; clear hK16
            refine aw_region okG0 ?_
            simp only [push_cast, Nat.reduceLT, Nat.reduceLeDiff, Nat.reduceEqDiff, reduceIte, reduceCtorEq, Nat.reduceAdd, Nat.reduceMul, Nat.reduceMod, Nat.reduceBEq, Nat.reduceBNe, List.reduceReplicate, Int.reduceLE, Int.reduceLT, Int.reduceNe]
            refine ⟨⟨q + 1, by omega⟩, ?_, by show 9 - (q + 1) < 9 - q; omega⟩
            show Sub _ (stW r c s p b k (q + 1))
            unfold stW
            rw [if_neg (by omega), w64 (n := (q : Int) + 1) (by omega) (by omega)]
            exact sub_ren_to [(4800, 8300)] (by simp [renN]) rfl (by simp [allE, getE, renE, renV, renVs, renN]) (by simp [allB, getB, renB, renVs, renV, renN]) rfl rfl rfl
          · exact absurd (by simpa using hc : ¬ (q : Int) < 9) (by omega)
        · rw [if_neg hq0]
          refine aw_seq_k fun K14 hK14 => aw_region okG0 ?_; simp only [push_cast, Nat.reduceLT, Nat.reduceLeDiff, Nat.reduceEqDiff, reduceIte, reduceCtorEq, Nat.reduceAdd, Nat.reduceMul, Nat.reduceMod, Nat.reduceBEq, Nat.reduceBNe, List.reduceReplicate, Int.reduceLE, Int.reduceLT, Int.reduceNe]
          apply hK14; clear hK14
          refine aw_seq_k fun K15 hK15 => ?_
          refine aw_cond rfl (fun hc => ?_) (fun hc => ?_)
          · have hlt : q < 9 := by have : (q : Int) < 9 := by simpa using hc
                                   omega
            refine aw_skip ?_
            simp only [push_cast, Nat.reduceLT, Nat.reduceLeDiff, Nat.reduceEqDiff, reduceIte, reduceCtorEq, Nat.reduceAdd, Nat.reduceMul, Nat.reduceMod, Nat.reduceBEq, Nat.reduceBNe, List.reduceReplicate, Int.reduceLE, Int.reduceLT, Int.reduceNe]
            apply hK15; clear hK15
            refine aw_seq_k fun K16 hK16 => ?_
            refine aw_block ?_
            refine aw_seq_k fun K17 hK17 => aw_region okG0 ?_; simp only [push_cast, Nat.reduceLT, Nat.reduceLeDiff, Nat.reduceEqDiff, reduceIte, reduceCtorEq, Nat.reduceAdd, Nat.reduceMul, Nat.reduceMod, Nat.reduceBEq, Nat.reduceBNe, List.reduceReplicate, Int.reduceLE, Int.reduceLT, Int.reduceNe]
            rw [Nat.mul_one, if_pos hlt, order_at q hlt]; simp only [push_cast, Nat.reduceLT, Nat.reduceLeDiff, Nat.reduceEqDiff, reduceIte, reduceCtorEq, Nat.reduceAdd, Nat.reduceMul, Nat.reduceMod, Nat.reduceBEq, Nat.reduceBNe, List.reduceReplicate, Int.reduceLE, Int.reduceLT, Int.reduceNe]; refine ⟨⟨by omega, by omega⟩, ?_⟩
            apply hK17; clear hK17
            refine aw_draw fol okG0 7 (by kernel_rfl) ?_
            simp only [push_cast, Nat.reduceLT, Nat.reduceLeDiff, Nat.reduceEqDiff, reduceIte, reduceCtorEq, Nat.reduceAdd, Nat.reduceMul, Nat.reduceMod, Nat.reduceBEq, Nat.reduceBNe, List.reduceReplicate, Int.reduceLE, Int.reduceLT, Int.reduceNe]
            have e1 : rcq s (b.getD k false) (cel p k) q = (cel p k).getD (ord q) 0 := by rw [hw]; rfl
            have ho := ord_lt hlt
            have hin : InR ((ord q : Nat) : Int) (cel p k).length := ⟨by omega, by omega⟩
            refine ⟨hin, by rw [rTo_len]; omega, by rw [rTo_len]; omega, ?_⟩
            rw [← e1, rTo_succ s p b k q hlt]
            apply hK16; clear hK16
            refine aw_region okG0 ?_
            simp only [push_cast, Nat.reduceLT, Nat.reduceLeDiff, Nat.reduceEqDiff, reduceIte, reduceCtorEq, Nat.reduceAdd, Nat.reduceMul, Nat.reduceMod, Nat.reduceBEq, Nat.reduceBNe, List.reduceReplicate, Int.reduceLE, Int.reduceLT, Int.reduceNe]
            refine ⟨⟨q + 1, by omega⟩, ?_, by show 9 - (q + 1) < 9 - q; omega⟩
            show Sub _ (stW r c s p b k (q + 1))
            unfold stW
            rw [if_neg (by omega), w64 (n := (q : Int) + 1) (by omega) (by omega)]
            exact sub_ren_to [(4800, 8300)] (by simp [renN]) rfl (by simp [allE, getE, renE, renV, renVs, renN]) (by simp [allB, getB, renB, renVs, renV, renN]) rfl rfl rfl
          · have hlt : q = 9 := by have : ¬ (q : Int) < 9 := by simpa using hc
                                   omega
            subst hlt
            refine aw_exit ?_
            simp only [push_cast, Nat.reduceLT, Nat.reduceLeDiff, Nat.reduceEqDiff, reduceIte, reduceCtorEq, Nat.reduceAdd, Nat.reduceMul, Nat.reduceMod, Nat.reduceBEq, Nat.reduceBNe, List.reduceReplicate, Int.reduceLE, Int.reduceLT, Int.reduceNe]
            apply hK12; clear hK12
            refine aw_exit ?_
            simp only [push_cast, Nat.reduceLT, Nat.reduceLeDiff, Nat.reduceEqDiff, reduceIte, reduceCtorEq, Nat.reduceAdd, Nat.reduceMul, Nat.reduceMod, Nat.reduceBEq, Nat.reduceBNe, List.reduceReplicate, Int.reduceLE, Int.reduceLT, Int.reduceNe]
            apply hK7; clear hK7
            refine aw_region okG0 ?_
            simp only [push_cast, Nat.reduceLT, Nat.reduceLeDiff, Nat.reduceEqDiff, reduceIte, reduceCtorEq, Nat.reduceAdd, Nat.reduceMul, Nat.reduceMod, Nat.reduceBEq, Nat.reduceBNe, List.reduceReplicate, Int.reduceLE, Int.reduceLT, Int.reduceNe]
            refine ⟨⟨k + 1, by omega, okS⟩, ?_, by show b.length - (k + 1) < b.length - k; omega⟩
            show Sub _ (stO r c s p b (k + 1))
            unfold stO
            rw [if_neg (by omega), w64 (n := (k : Int) + 1) (by omega) (by omega), show 9 * (k + 1) = 9 * k + 9 by omega]
            exact sub_to (by simp [allE, getE] <;> (repeat' apply And.intro) <;> rfl) (by simp [allB, getB] <;> rfl) rfl rfl rfl
      · refine aw_skip ?_
        simp only [push_cast, Nat.reduceLT, Nat.reduceLeDiff, Nat.reduceEqDiff, reduceIte, reduceCtorEq, Nat.reduceAdd, Nat.reduceMul, Nat.reduceMod, Nat.reduceBEq, Nat.reduceBNe, List.reduceReplicate, Int.reduceLE, Int.reduceLT, Int.reduceNe]
        apply hK10; clear hK10
        refine aw_seq_k fun K18 hK18 => aw_region okG0 ?_; simp only [push_cast, Nat.reduceLT, Nat.reduceLeDiff, Nat.reduceEqDiff, reduceIte, reduceCtorEq, Nat.reduceAdd, Nat.reduceMul, Nat.reduceMod, Nat.reduceBEq, Nat.reduceBNe, List.reduceReplicate, Int.reduceLE, Int.reduceLT, Int.reduceNe]
        refine call_pure (massOf_spec (cel p k) (by omega)) (fits_of rfl) (by decide) rfl (by simp [idsV, idsVs]) ?_; simp only [push_cast, Nat.reduceLT, Nat.reduceLeDiff, Nat.reduceEqDiff, reduceIte, reduceCtorEq, Nat.reduceAdd, Nat.reduceMul, Nat.reduceMod, Nat.reduceBEq, Nat.reduceBNe, List.reduceReplicate, Int.reduceLE, Int.reduceLT, Int.reduceNe]
        apply hK18; clear hK18
        refine aw_seq_k fun K19 hK19 => ?_
        refine aw_seq_k fun K20 hK20 => aw_region okG0 ?_; simp only [push_cast, Nat.reduceLT, Nat.reduceLeDiff, Nat.reduceEqDiff, reduceIte, reduceCtorEq, Nat.reduceAdd, Nat.reduceMul, Nat.reduceMod, Nat.reduceBEq, Nat.reduceBNe, List.reduceReplicate, Int.reduceLE, Int.reduceLT, Int.reduceNe]
        apply hK20; clear hK20
        refine aw_cond rfl (fun hm => ?_) (fun hm => ?_)
        · have hno : relaxF r c s p b = none := by
            unfold relaxF
            rw [if_neg]
            intro h
            rcases h.1 k hlt with h | h
            · rw [h] at hw; exact absurd hw (by simp)
            · have : gt0 (mas (cel p k)) = false := by simpa [gt0, mas] using hm
              rw [this] at h; exact absurd h (by simp)
          rw [hno]
          refine aw_seq_k fun K21 hK21 => aw_region okG0 ?_; simp only [push_cast, Nat.reduceLT, Nat.reduceLeDiff, Nat.reduceEqDiff, reduceIte, reduceCtorEq, Nat.reduceAdd, Nat.reduceMul, Nat.reduceMod, Nat.reduceBEq, Nat.reduceBNe, List.reduceReplicate, Int.reduceLE, Int.reduceLT, Int.reduceNe]
          apply hK21; clear hK21
          exact aw_ret (ret_p rfl rfl rfl (by simp))
        · have okS : okTo p b (k + 1) := fun j hj => by
            by_cases hjk : j < k
            · exact hok j hjk
            · have : j = k := by omega
              subst this; exact .inr (by simpa [gt0, mas] using hm)
          refine aw_skip ?_
          simp only [push_cast, Nat.reduceLT, Nat.reduceLeDiff, Nat.reduceEqDiff, reduceIte, reduceCtorEq, Nat.reduceAdd, Nat.reduceMul, Nat.reduceMod, Nat.reduceBEq, Nat.reduceBNe, List.reduceReplicate, Int.reduceLE, Int.reduceLT, Int.reduceNe]
          apply hK19; clear hK19
          refine aw_seq_k fun K22 hK22 => aw_region okG0 ?_; simp only [push_cast, Nat.reduceLT, Nat.reduceLeDiff, Nat.reduceEqDiff, reduceIte, reduceCtorEq, Nat.reduceAdd, Nat.reduceMul, Nat.reduceMod, Nat.reduceBEq, Nat.reduceBNe, List.reduceReplicate, Int.reduceLE, Int.reduceLT, Int.reduceNe]
          refine call_pure (speeds_spec (cel p k) (by omega)) (fits_of rfl) (by decide) rfl (by simp [idsV, idsVs]) ?_; simp only [push_cast, Nat.reduceLT, Nat.reduceLeDiff, Nat.reduceEqDiff, reduceIte, reduceCtorEq, Nat.reduceAdd, Nat.reduceMul, Nat.reduceMod, Nat.reduceBEq, Nat.reduceBNe, List.reduceReplicate, Int.reduceLE, Int.reduceLT, Int.reduceNe]
          apply hK22; clear hK22
          refine aw_seq_k fun K23 hK23 => aw_region okG0 ?_; simp only [push_cast, Nat.reduceLT, Nat.reduceLeDiff, Nat.reduceEqDiff, reduceIte, reduceCtorEq, Nat.reduceAdd, Nat.reduceMul, Nat.reduceMod, Nat.reduceBEq, Nat.reduceBNe, List.reduceReplicate, Int.reduceLE, Int.reduceLT, Int.reduceNe]
          apply hK23; clear hK23
          rw [show mTo (cel p k) (cel p k).length = mas (cel p k) from rfl, hcl]
          refine aw_block ?_
          refine aw_loop (fun q : {q : Nat // q ≤ 9} => stN r c s p b k q.1) (fun q => 9 - q.1) ⟨0, Nat.zero_le _⟩ (by show Sub _ (stN r c s p b k 0); unfold stN; rw [if_pos (show  9 * k + 0 = 0 by omega)]; exact sub_to (by simp [allE, getE] <;> (repeat' apply And.intro) <;> rfl) (by simp [allB, getB] <;> rfl) rfl rfl rfl) ?_
          rintro ⟨q, hq⟩
          show AW _ _ _ (stN r c s p b k q) _
          unfold stN
          by_cases hq0 : 9 * k + q = 0
          · rw [if_pos hq0]
            refine aw_seq_k fun K24 hK24 => aw_region okG0 ?_; simp only [push_cast, Nat.reduceLT, Nat.reduceLeDiff, Nat.reduceEqDiff, reduceIte, reduceCtorEq, Nat.reduceAdd, Nat.reduceMul, Nat.reduceMod, Nat.reduceBEq, Nat.reduceBNe, List.reduceReplicate, Int.reduceLE, Int.reduceLT, Int.reduceNe]
            apply hK24; clear hK24
            refine aw_seq_k fun K25 hK25 => ?_
            refine aw_cond rfl (fun hc => ?_) (fun hc => ?_)
            · have hlt : q < 9 := by have : (q : Int) < 9 := by simpa using hc
                                     omega
              refine aw_skip ?_
              simp only [push_cast, Nat.reduceLT, Nat.reduceLeDiff, Nat.reduceEqDiff, reduceIte, reduceCtorEq, Nat.reduceAdd, Nat.reduceMul, Nat.reduceMod, Nat.reduceBEq, Nat.reduceBNe, List.reduceReplicate, Int.reduceLE, Int.reduceLT, Int.reduceNe]
              apply hK25; clear hK25
              refine aw_seq_k fun K26 hK26 => ?_
              refine aw_block ?_
              refine aw_seq_k fun K27 hK27 => aw_region okG0 ?_; simp only [push_cast, Nat.reduceLT, Nat.reduceLeDiff, Nat.reduceEqDiff, reduceIte, reduceCtorEq, Nat.reduceAdd, Nat.reduceMul, Nat.reduceMod, Nat.reduceBEq, Nat.reduceBNe, List.reduceReplicate, Int.reduceLE, Int.reduceLT, Int.reduceNe]
              refine ⟨⟨by omega, by omega⟩, ?_⟩
              apply hK27; clear hK27
              refine aw_draw fol okG0 14 (by kernel_rfl) ?_
              simp only [push_cast, Nat.reduceLT, Nat.reduceLeDiff, Nat.reduceEqDiff, reduceIte, reduceCtorEq, Nat.reduceAdd, Nat.reduceMul, Nat.reduceMod, Nat.reduceBEq, Nat.reduceBNe, List.reduceReplicate, Int.reduceLE, Int.reduceLT, Int.reduceNe]
              have hwf : b.getD k false = false := by simpa using hw
              have e1 : rcq s (b.getD k false) (cel p k) q = rel1 s (cel p k) q := by rw [hwf]; rfl
              refine ⟨_, _, calm_spec q (mas (cel p k)) (spd pd (cel p k)) (spd pr (cel p k)) hlt, .inl ⟨fits_of rfl, rfl⟩, ?_⟩; simp only [push_cast, Nat.reduceLT, Nat.reduceLeDiff, Nat.reduceEqDiff, reduceIte, reduceCtorEq, Nat.reduceAdd, Nat.reduceMul, Nat.reduceMod, Nat.reduceBEq, Nat.reduceBNe, List.reduceReplicate, Int.reduceLE, Int.reduceLT, Int.reduceNe]
              rw [show flB .add .f32 ((cel p k).getD q 0) (flB .mul .f32 s (flB .sub .f32 (clm (mas (cel p k)) (spd pd (cel p k)) (spd pr (cel p k)) q) ((cel p k).getD q 0))) = rel1 s (cel p k) q from rfl]
              have e2 : [rel1 s (cel p k) q] = rTo s p b (9 * k + (q + 1)) := by rw [← rTo_succ s p b k q hlt, e1, hq0]; rfl
              rw [e2]
              apply hK26; clear hK26
              refine aw_region okG0 ?_
              simp only [push_cast, Nat.reduceLT, Nat.reduceLeDiff, Nat.reduceEqDiff, reduceIte, reduceCtorEq, Nat.reduceAdd, Nat.reduceMul, Nat.reduceMod, Nat.reduceBEq, Nat.reduceBNe, List.reduceReplicate, Int.reduceLE, Int.reduceLT, Int.reduceNe]
              refine ⟨⟨q + 1, by omega⟩, ?_, by show 9 - (q + 1) < 9 - q; omega⟩
              show Sub _ (stN r c s p b k (q + 1))
              unfold stN
              rw [if_neg (by omega), w64 (n := (q : Int) + 1) (by omega) (by omega)]
              exact sub_to (by simp [allE, getE] <;> (repeat' apply And.intro) <;> rfl) (by simp [allB, getB] <;> rfl) rfl rfl rfl
            · exact absurd (by simpa using hc : ¬ (q : Int) < 9) (by omega)
          · rw [if_neg hq0]
            refine aw_seq_k fun K24 hK24 => aw_region okG0 ?_; simp only [push_cast, Nat.reduceLT, Nat.reduceLeDiff, Nat.reduceEqDiff, reduceIte, reduceCtorEq, Nat.reduceAdd, Nat.reduceMul, Nat.reduceMod, Nat.reduceBEq, Nat.reduceBNe, List.reduceReplicate, Int.reduceLE, Int.reduceLT, Int.reduceNe]
            apply hK24; clear hK24
            refine aw_seq_k fun K25 hK25 => ?_
            refine aw_cond rfl (fun hc => ?_) (fun hc => ?_)
            · have hlt : q < 9 := by have : (q : Int) < 9 := by simpa using hc
                                     omega
              refine aw_skip ?_
              simp only [push_cast, Nat.reduceLT, Nat.reduceLeDiff, Nat.reduceEqDiff, reduceIte, reduceCtorEq, Nat.reduceAdd, Nat.reduceMul, Nat.reduceMod, Nat.reduceBEq, Nat.reduceBNe, List.reduceReplicate, Int.reduceLE, Int.reduceLT, Int.reduceNe]
              apply hK25; clear hK25
              refine aw_seq_k fun K26 hK26 => ?_
              refine aw_block ?_
              refine aw_seq_k fun K27 hK27 => aw_region okG0 ?_; simp only [push_cast, Nat.reduceLT, Nat.reduceLeDiff, Nat.reduceEqDiff, reduceIte, reduceCtorEq, Nat.reduceAdd, Nat.reduceMul, Nat.reduceMod, Nat.reduceBEq, Nat.reduceBNe, List.reduceReplicate, Int.reduceLE, Int.reduceLT, Int.reduceNe]
              refine ⟨⟨by omega, by omega⟩, ?_⟩
              apply hK27; clear hK27
              refine aw_draw fol okG0 14 (by kernel_rfl) ?_
              simp only [push_cast, Nat.reduceLT, Nat.reduceLeDiff, Nat.reduceEqDiff, reduceIte, reduceCtorEq, Nat.reduceAdd, Nat.reduceMul, Nat.reduceMod, Nat.reduceBEq, Nat.reduceBNe, List.reduceReplicate, Int.reduceLE, Int.reduceLT, Int.reduceNe]
              have hwf : b.getD k false = false := by simpa using hw
              have e1 : rcq s (b.getD k false) (cel p k) q = rel1 s (cel p k) q := by rw [hwf]; rfl
              refine ⟨_, _, calm_spec q (mas (cel p k)) (spd pd (cel p k)) (spd pr (cel p k)) hlt, .inl ⟨fits_of rfl, rfl⟩, ?_⟩; simp only [push_cast, Nat.reduceLT, Nat.reduceLeDiff, Nat.reduceEqDiff, reduceIte, reduceCtorEq, Nat.reduceAdd, Nat.reduceMul, Nat.reduceMod, Nat.reduceBEq, Nat.reduceBNe, List.reduceReplicate, Int.reduceLE, Int.reduceLT, Int.reduceNe]
              rw [show flB .add .f32 ((cel p k).getD q 0) (flB .mul .f32 s (flB .sub .f32 (clm (mas (cel p k)) (spd pd (cel p k)) (spd pr (cel p k)) q) ((cel p k).getD q 0))) = rel1 s (cel p k) q from rfl]
              refine ⟨by rw [rTo_len]; omega, by rw [rTo_len]; omega, ?_⟩
              rw [← e1, rTo_succ s p b k q hlt]
              apply hK26; clear hK26
              refine aw_region okG0 ?_
              simp only [push_cast, Nat.reduceLT, Nat.reduceLeDiff, Nat.reduceEqDiff, reduceIte, reduceCtorEq, Nat.reduceAdd, Nat.reduceMul, Nat.reduceMod, Nat.reduceBEq, Nat.reduceBNe, List.reduceReplicate, Int.reduceLE, Int.reduceLT, Int.reduceNe]
              refine ⟨⟨q + 1, by omega⟩, ?_, by show 9 - (q + 1) < 9 - q; omega⟩
              show Sub _ (stN r c s p b k (q + 1))
              unfold stN
              rw [if_neg (by omega), w64 (n := (q : Int) + 1) (by omega) (by omega)]
              exact sub_to (by simp [allE, getE] <;> (repeat' apply And.intro) <;> rfl) (by simp [allB, getB] <;> rfl) rfl rfl rfl
            · have hlt : q = 9 := by have : ¬ (q : Int) < 9 := by simpa using hc
                                     omega
              subst hlt
              refine aw_exit ?_
              simp only [push_cast, Nat.reduceLT, Nat.reduceLeDiff, Nat.reduceEqDiff, reduceIte, reduceCtorEq, Nat.reduceAdd, Nat.reduceMul, Nat.reduceMod, Nat.reduceBEq, Nat.reduceBNe, List.reduceReplicate, Int.reduceLE, Int.reduceLT, Int.reduceNe]
              apply hK7; clear hK7
              refine aw_region okG0 ?_
              simp only [push_cast, Nat.reduceLT, Nat.reduceLeDiff, Nat.reduceEqDiff, reduceIte, reduceCtorEq, Nat.reduceAdd, Nat.reduceMul, Nat.reduceMod, Nat.reduceBEq, Nat.reduceBNe, List.reduceReplicate, Int.reduceLE, Int.reduceLT, Int.reduceNe]
              refine ⟨⟨k + 1, by omega, okS⟩, ?_, by show b.length - (k + 1) < b.length - k; omega⟩
              show Sub _ (stO r c s p b (k + 1))
              unfold stO
              rw [if_neg (by omega), w64 (n := (k : Int) + 1) (by omega) (by omega), show 9 * (k + 1) = 9 * k + 9 by omega]
              exact sub_to (by simp [allE, getE] <;> (repeat' apply And.intro) <;> rfl) (by simp [allB, getB] <;> rfl) rfl rfl rfl
    · exact absurd (by simpa using hc : ¬ (k : Int) < b.length) (by have := List.length_pos_iff.2 hb0; omega)
  · rw [if_neg hk0]
    refine aw_seq_k fun K5 hK5 => aw_region okG0 ?_; simp only [push_cast, Nat.reduceLT, Nat.reduceLeDiff, Nat.reduceEqDiff, reduceIte, reduceCtorEq, Nat.reduceAdd, Nat.reduceMul, Nat.reduceMod, Nat.reduceBEq, Nat.reduceBNe, List.reduceReplicate, Int.reduceLE, Int.reduceLT, Int.reduceNe]
    apply hK5; clear hK5
    refine aw_seq_k fun K6 hK6 => ?_
    refine aw_cond rfl (fun hc => ?_) (fun hc => ?_)
    · have hlt : k < b.length := by simpa using hc
      have hcl : (cel p k).length = 9 := cel_len (by omega)
      refine aw_skip ?_
      simp only [push_cast, Nat.reduceLT, Nat.reduceLeDiff, Nat.reduceEqDiff, reduceIte, reduceCtorEq, Nat.reduceAdd, Nat.reduceMul, Nat.reduceMod, Nat.reduceBEq, Nat.reduceBNe, List.reduceReplicate, Int.reduceLE, Int.reduceLT, Int.reduceNe]
      apply hK6; clear hK6
      refine aw_seq_k fun K7 hK7 => ?_
      refine aw_block ?_
      refine aw_seq_k fun K8 hK8 => aw_region okG0 ?_; simp only [push_cast, Nat.reduceLT, Nat.reduceLeDiff, Nat.reduceEqDiff, reduceIte, reduceCtorEq, Nat.reduceAdd, Nat.reduceMul, Nat.reduceMod, Nat.reduceBEq, Nat.reduceBNe, List.reduceReplicate, Int.reduceLE, Int.reduceLT, Int.reduceNe]
      refine ⟨⟨by omega, by omega⟩, ?_⟩
      apply hK8; clear hK8
      refine aw_seq_k fun K9 hK9 => aw_region okG0 ?_; simp only [push_cast, Nat.reduceLT, Nat.reduceLeDiff, Nat.reduceEqDiff, reduceIte, reduceCtorEq, Nat.reduceAdd, Nat.reduceMul, Nat.reduceMod, Nat.reduceBEq, Nat.reduceBNe, List.reduceReplicate, Int.reduceLE, Int.reduceLT, Int.reduceNe]
      refine call_ro (cell_spec r c p b k (by omega) (by omega)) (fits_of rfl) rfl (by decide) (by simp [idsV, idsVs]) ?_; simp only [push_cast, Nat.reduceLT, Nat.reduceLeDiff, Nat.reduceEqDiff, reduceIte, reduceCtorEq, Nat.reduceAdd, Nat.reduceMul, Nat.reduceMod, Nat.reduceBEq, Nat.reduceBNe, List.reduceReplicate, Int.reduceLE, Int.reduceLT, Int.reduceNe]
      apply hK9; clear hK9
      refine aw_seq_k fun K10 hK10 => ?_
      refine aw_seq_k fun K11 hK11 => aw_region okG0 ?_; simp only [push_cast, Nat.reduceLT, Nat.reduceLeDiff, Nat.reduceEqDiff, reduceIte, reduceCtorEq, Nat.reduceAdd, Nat.reduceMul, Nat.reduceMod, Nat.reduceBEq, Nat.reduceBNe, List.reduceReplicate, Int.reduceLE, Int.reduceLT, Int.reduceNe]
      apply hK11; clear hK11
      refine aw_cond rfl (fun hw => ?_) (fun hw => ?_)
      · have okS : okTo p b (k + 1) := fun j hj => by
          by_cases hjk : j < k
          · exact hok j hjk
          · have : j = k := by omega
            subst this; exact .inl hw
        refine aw_seq_k fun K12 hK12 => ?_
        refine aw_seq_k fun K13 hK13 => aw_region okG0 ?_; simp only [push_cast, Nat.reduceLT, Nat.reduceLeDiff, Nat.reduceEqDiff, reduceIte, reduceCtorEq, Nat.reduceAdd, Nat.reduceMul, Nat.reduceMod, Nat.reduceBEq, Nat.reduceBNe, List.reduceReplicate, Int.reduceLE, Int.reduceLT, Int.reduceNe]
        apply hK13; clear hK13
        refine aw_block ?_
        refine aw_loop (fun q : {q : Nat // q ≤ 9} => stW r c s p b k q.1) (fun q => 9 - q.1) ⟨0, Nat.zero_le _⟩ (by show Sub _ (stW r c s p b k 0); unfold stW; rw [if_neg (show ¬ 9 * k + 0 = 0 by omega)]; exact sub_to (by simp [allE, getE] <;> (repeat' apply And.intro) <;> rfl) (by simp [allB, getB] <;> rfl) rfl rfl rfl) ?_
        rintro ⟨q, hq⟩
        show AW _ _ _ (stW r c s p b k q) _
        unfold stW
        by_cases hq0 : 9 * k + q = 0
        · rw [if_pos hq0]
          refine aw_seq_k fun K14 hK14 => aw_region okG0 ?_; simp only [push_cast, Nat.reduceLT, Nat.reduceLeDiff, Nat.reduceEqDiff, reduceIte, reduceCtorEq, Nat.reduceAdd, Nat.reduceMul, Nat.reduceMod, Nat.reduceBEq, Nat.reduceBNe, List.reduceReplicate, Int.reduceLE, Int.reduceLT, Int.reduceNe]
          apply hK14; clear hK14
          refine aw_seq_k fun K15 hK15 => ?_
          refine aw_cond rfl (fun hc => ?_) (fun hc => ?_)
          · have hlt : q < 9 := by have : (q : Int) < 9 := by simpa using hc
                                   omega
            refine aw_skip ?_
            simp only [push_cast, Nat.reduceLT, Nat.reduceLeDiff, Nat.reduceEqDiff, reduceIte, reduceCtorEq, Nat.reduceAdd, Nat.reduceMul, Nat.reduceMod, Nat.reduceBEq, Nat.reduceBNe, List.reduceReplicate, Int.reduceLE, Int.reduceLT, Int.reduceNe]
            apply hK15; clear hK15
            refine aw_seq_k fun K16 hK16 => ?_
            refine aw_block ?_
            refine aw_seq_k fun K17 hK17 => aw_region okG0 ?_; simp only [push_cast, Nat.reduceLT, Nat.reduceLeDiff, Nat.reduceEqDiff, reduceIte, reduceCtorEq, Nat.reduceAdd, Nat.reduceMul, Nat.reduceMod, Nat.reduceBEq, Nat.reduceBNe, List.reduceReplicate, Int.reduceLE, Int.reduceLT, Int.reduceNe]
            rw [Nat.mul_one, if_pos hlt, order_at q hlt]; simp only [push_cast, Nat.reduceLT, Nat.reduceLeDiff, Nat.reduceEqDiff, reduceIte, reduceCtorEq, Nat.reduceAdd, Nat.reduceMul, Nat.reduceMod, Nat.reduceBEq, Nat.reduceBNe, List.reduceReplicate, Int.reduceLE, Int.reduceLT, Int.reduceNe]; refine ⟨⟨by omega, by omega⟩, ?_⟩
            apply hK17; clear hK17
            refine aw_draw fol okG0 7 (by kernel_rfl) ?_
            simp only [push_cast, Nat.reduceLT, Nat.reduceLeDiff, Nat.reduceEqDiff, reduceIte, reduceCtorEq, Nat.reduceAdd, Nat.reduceMul, Nat.reduceMod, Nat.reduceBEq, Nat.reduceBNe, List.reduceReplicate, Int.reduceLE, Int.reduceLT, Int.reduceNe]
            have e1 : rcq s (b.getD k false) (cel p k) q = (cel p k).getD (ord q) 0 := by rw [hw]; rfl
            have ho := ord_lt hlt
            have hin : InR ((ord q : Nat) : Int) (cel p k).length := ⟨by omega, by omega⟩
            refine ⟨hin, ?_⟩
            have e2 : [(cel p k).getD (ord q) 0] = rTo s p b (9 * k + (q + 1)) := by rw [← rTo_succ s p b k q hlt, e1, hq0]; rfl
            rw [e2]
            apply hK16; clear hK16
            refine aw_region okG0 ?_
            simp only [push_cast, Nat.reduceLT, Nat.reduceLeDiff, Nat.reduceEqDiff, reduceIte, reduceCtorEq, Nat.reduceAdd, Nat.reduceMul, Nat.reduceMod, Nat.reduceBEq, Nat.reduceBNe, List.reduceReplicate, Int.reduceLE, Int.reduceLT, Int.reduceNe]
            refine ⟨⟨q + 1, by omega⟩, ?_, by show 9 - (q + 1) < 9 - q; omega⟩
            show Sub _ (stW r c s p b k (q + 1))
            unfold stW
            rw [if_neg (by omega), w64 (n := (q : Int) + 1) (by omega) (by omega)]
            exact sub_ren_to [(4800, 8300)] (by simp [renN]) rfl (by simp [allE, getE, renE, renV, renVs, renN]) (by simp [allB, getB, renB, renVs, renV, renN]) rfl rfl rfl
          · exact absurd (by simpa using hc : ¬ (q : Int) < 9) (by omega)
        · rw [if_neg hq0]
          refine aw_seq_k fun K14 hK14 => aw_region okG0 ?_; simp only [push_cast, Nat.reduceLT, Nat.reduceLeDiff, Nat.reduceEqDiff, reduceIte, reduceCtorEq, Nat.reduceAdd, Nat.reduceMul, Nat.reduceMod, Nat.reduceBEq, Nat.reduceBNe, List.reduceReplicate, Int.reduceLE, Int.reduceLT, Int.reduceNe]
          apply hK14; clear hK14
          refine aw_seq_k fun K15 hK15 => ?_
          refine aw_cond rfl (fun hc => ?_) (fun hc => ?_)
          · have hlt : q < 9 := by have : (q : Int) < 9 := by simpa using hc
                                   omega
            refine aw_skip ?_
            simp only [push_cast, Nat.reduceLT, Nat.reduceLeDiff, Nat.reduceEqDiff, reduceIte, reduceCtorEq, Nat.reduceAdd, Nat.reduceMul, Nat.reduceMod, Nat.reduceBEq, Nat.reduceBNe, List.reduceReplicate, Int.reduceLE, Int.reduceLT, Int.reduceNe]
            apply hK15; clear hK15
            refine aw_seq_k fun K16 hK16 => ?_
            refine aw_block ?_
            refine aw_seq_k fun K17 hK17 => aw_region okG0 ?_; simp only [push_cast, Nat.reduceLT, Nat.reduceLeDiff, Nat.reduceEqDiff, reduceIte, reduceCtorEq, Nat.reduceAdd, Nat.reduceMul, Nat.reduceMod, Nat.reduceBEq, Nat.reduceBNe, List.reduceReplicate, Int.reduceLE, Int.reduceLT, Int.reduceNe]
            rw [Nat.mul_one, if_pos hlt, order_at q hlt]; simp only [push_cast, Nat.reduceLT, Nat.reduceLeDiff, Nat.reduceEqDiff, reduceIte, reduceCtorEq, Nat.reduceAdd, Nat.reduceMul, Nat.reduceMod, Nat.reduceBEq, Nat.reduceBNe, List.reduceReplicate, Int.reduceLE, Int.reduceLT, Int.reduceNe]; refine ⟨⟨by omega, by omega⟩, ?_⟩
            apply hK17; clear hK17
            refine aw_draw fol okG0 7 (by kernel_rfl) ?_
            simp only [push_cast, Nat.reduceLT, Nat.reduceLeDiff, Nat.reduceEqDiff, reduceIte, reduceCtorEq, Nat.reduceAdd, Nat.reduceMul, Nat.reduceMod, Nat.reduceBEq, Nat.reduceBNe, List.reduceReplicate, Int.reduceLE, Int.reduceLT, Int.reduceNe]
            have e1 : rcq s (b.getD k false) (cel p k) q = (cel p k).getD (ord q) 0 := by rw [hw]; rfl
            have ho := ord_lt hlt
            have hin : InR ((ord q : Nat) : Int) (cel p k).length := ⟨by omega, by omega⟩
            refine ⟨hin, by rw [rTo_len]; omega, by rw [rTo_len]; omega, ?_⟩
            rw [← e1, rTo_succ s p b k q hlt]
            apply hK16; clear hK16
            refine aw_region okG0 ?_
            simp only [push_cast, Nat.reduceLT, Nat.reduceLeDiff, Nat.reduceEqDiff, reduceIte, reduceCtorEq, Nat.reduceAdd, Nat.reduceMul, Nat.reduceMod, Nat.reduceBEq, Nat.reduceBNe, List.reduceReplicate, Int.reduceLE, Int.reduceLT, Int.reduceNe]
            refine ⟨⟨q + 1, by omega⟩, ?_, by show 9 - (q + 1) < 9 - q; omega⟩
            show Sub _ (stW r c s p b k (q + 1))
            unfold stW
            rw [if_neg (by omega), w64 (n := (q : Int) + 1) (by omega) (by omega)]
            exact sub_ren_to [(4800, 8300)] (by simp [renN]) rfl (by simp [allE, getE, renE, renV, renVs, renN]) (by simp [allB, getB, renB, renVs, renV, renN]) rfl rfl rfl
          · have hlt : q = 9 := by have : ¬ (q : Int) < 9 := by simpa using hc
                                   omega
            subst hlt
            refine aw_exit ?_
            simp only [push_cast, Nat.reduceLT, Nat.reduceLeDiff, Nat.reduceEqDiff, reduceIte, reduceCtorEq, Nat.reduceAdd, Nat.reduceMul, Nat.reduceMod, Nat.reduceBEq, Nat.reduceBNe, List.reduceReplicate, Int.reduceLE, Int.reduceLT, Int.reduceNe]
            apply hK12; clear hK12
            refine aw_exit ?_
            simp only [push_cast, Nat.reduceLT, Nat.reduceLeDiff, Nat.reduceEqDiff, reduceIte, reduceCtorEq, Nat.reduceAdd, Nat.reduceMul, Nat.reduceMod, Nat.reduceBEq, Nat.reduceBNe, List.reduceReplicate, Int.reduceLE, Int.reduceLT, Int.reduceNe]
            apply hK7; clear hK7
            refine aw_region okG0 ?_
            simp only [push_cast, Nat.reduceLT, Nat.reduceLeDiff, Nat.reduceEqDiff, reduceIte, reduceCtorEq, Nat.reduceAdd, Nat.reduceMul, Nat.reduceMod, Nat.reduceBEq, Nat.reduceBNe, List.reduceReplicate, Int.reduceLE, Int.reduceLT, Int.reduceNe]
            refine ⟨⟨k + 1, by omega, okS⟩, ?_, by show b.length - (k + 1) < b.length - k; omega⟩
            show Sub _ (stO r c s p b (k + 1))
            unfold stO
            rw [if_neg (by omega), w64 (n := (k : Int) + 1) (by omega) (by omega), show 9 * (k + 1) = 9 * k + 9 by omega]
            exact sub_to (by simp [allE, getE] <;> (repeat' apply And.intro) <;> rfl) (by simp [allB, getB] <;> rfl) rfl rfl rfl
      · refine aw_skip ?_
        simp only [push_cast, Nat.reduceLT, Nat.reduceLeDiff, Nat.reduceEqDiff, reduceIte, reduceCtorEq, Nat.reduceAdd, Nat.reduceMul, Nat.reduceMod, Nat.reduceBEq, Nat.reduceBNe, List.reduceReplicate, Int.reduceLE, Int.reduceLT, Int.reduceNe]
        apply hK10; clear hK10
        refine aw_seq_k fun K18 hK18 => aw_region okG0 ?_; simp only [push_cast, Nat.reduceLT, Nat.reduceLeDiff, Nat.reduceEqDiff, reduceIte, reduceCtorEq, Nat.reduceAdd, Nat.reduceMul, Nat.reduceMod, Nat.reduceBEq, Nat.reduceBNe, List.reduceReplicate, Int.reduceLE, Int.reduceLT, Int.reduceNe]
        refine call_pure (massOf_spec (cel p k) (by omega)) (fits_of rfl) (by decide) rfl (by simp [idsV, idsVs]) ?_; simp only [push_cast, Nat.reduceLT, Nat.reduceLeDiff, Nat.reduceEqDiff, reduceIte, reduceCtorEq, Nat.reduceAdd, Nat.reduceMul, Nat.reduceMod, Nat.reduceBEq, Nat.reduceBNe, List.reduceReplicate, Int.reduceLE, Int.reduceLT, Int.reduceNe]
        apply hK18; clear hK18
        refine aw_seq_k fun K19 hK19 => ?_
        refine aw_seq_k fun K20 hK20 => aw_region okG0 ?_; simp only [push_cast, Nat.reduceLT, Nat.reduceLeDiff, Nat.reduceEqDiff, reduceIte, reduceCtorEq, Nat.reduceAdd, Nat.reduceMul, Nat.reduceMod, Nat.reduceBEq, Nat.reduceBNe, List.reduceReplicate, Int.reduceLE, Int.reduceLT, Int.reduceNe]
        apply hK20; clear hK20
        refine aw_cond rfl (fun hm => ?_) (fun hm => ?_)
        · have hno : relaxF r c s p b = none := by
            unfold relaxF
            rw [if_neg]
            intro h
            rcases h.1 k hlt with h | h
            · rw [h] at hw; exact absurd hw (by simp)
            · have : gt0 (mas (cel p k)) = false := by simpa [gt0, mas] using hm
              rw [this] at h; exact absurd h (by simp)
          rw [hno]
          refine aw_seq_k fun K21 hK21 => aw_region okG0 ?_; simp only [push_cast, Nat.reduceLT, Nat.reduceLeDiff, Nat.reduceEqDiff, reduceIte, reduceCtorEq, Nat.reduceAdd, Nat.reduceMul, Nat.reduceMod, Nat.reduceBEq, Nat.reduceBNe, List.reduceReplicate, Int.reduceLE, Int.reduceLT, Int.reduceNe]
          apply hK21; clear hK21
          exact aw_ret (ret_p rfl rfl rfl (by simp))
        · have okS : okTo p b (k + 1) := fun j hj => by
            by_cases hjk : j < k
            · exact hok j hjk
            · have : j = k := by omega
              subst this; exact .inr (by simpa [gt0, mas] using hm)
          refine aw_skip ?_
          simp only [push_cast, Nat.reduceLT, Nat.reduceLeDiff, Nat.reduceEqDiff, reduceIte, reduceCtorEq, Nat.reduceAdd, Nat.reduceMul, Nat.reduceMod, Nat.reduceBEq, Nat.reduceBNe, List.reduceReplicate, Int.reduceLE, Int.reduceLT, Int.reduceNe]
          apply hK19; clear hK19
          refine aw_seq_k fun K22 hK22 => aw_region okG0 ?_; simp only [push_cast, Nat.reduceLT, Nat.reduceLeDiff, Nat.reduceEqDiff, reduceIte, reduceCtorEq, Nat.reduceAdd, Nat.reduceMul, Nat.reduceMod, Nat.reduceBEq, Nat.reduceBNe, List.reduceReplicate, Int.reduceLE, Int.reduceLT, Int.reduceNe]
          refine call_pure (speeds_spec (cel p k) (by omega)) (fits_of rfl) (by decide) rfl (by simp [idsV, idsVs]) ?_; simp only [push_cast, Nat.reduceLT, Nat.reduceLeDiff, Nat.reduceEqDiff, reduceIte, reduceCtorEq, Nat.reduceAdd, Nat.reduceMul, Nat.reduceMod, Nat.reduceBEq, Nat.reduceBNe, List.reduceReplicate, Int.reduceLE, Int.reduceLT, Int.reduceNe]
          apply hK22; clear hK22
          refine aw_seq_k fun K23 hK23 => aw_region okG0 ?_; simp only [push_cast, Nat.reduceLT, Nat.reduceLeDiff, Nat.reduceEqDiff, reduceIte, reduceCtorEq, Nat.reduceAdd, Nat.reduceMul, Nat.reduceMod, Nat.reduceBEq, Nat.reduceBNe, List.reduceReplicate, Int.reduceLE, Int.reduceLT, Int.reduceNe]
          apply hK23; clear hK23
          rw [show mTo (cel p k) (cel p k).length = mas (cel p k) from rfl, hcl]
          refine aw_block ?_
          refine aw_loop (fun q : {q : Nat // q ≤ 9} => stN r c s p b k q.1) (fun q => 9 - q.1) ⟨0, Nat.zero_le _⟩ (by show Sub _ (stN r c s p b k 0); unfold stN; rw [if_neg (show ¬ 9 * k + 0 = 0 by omega)]; exact sub_to (by simp [allE, getE] <;> (repeat' apply And.intro) <;> rfl) (by simp [allB, getB] <;> rfl) rfl rfl rfl) ?_
          rintro ⟨q, hq⟩
          show AW _ _ _ (stN r c s p b k q) _
          unfold stN
          by_cases hq0 : 9 * k + q = 0
          · rw [if_pos hq0]
            refine aw_seq_k fun K24 hK24 => aw_region okG0 ?_; simp only [push_cast, Nat.reduceLT, Nat.reduceLeDiff, Nat.reduceEqDiff, reduceIte, reduceCtorEq, Nat.reduceAdd, Nat.reduceMul, Nat.reduceMod, Nat.reduceBEq, Nat.reduceBNe, List.reduceReplicate, Int.reduceLE, Int.reduceLT, Int.reduceNe]
            apply hK24; clear hK24
            refine aw_seq_k fun K25 hK25 => ?_
            refine aw_cond rfl (fun hc => ?_) (fun hc => ?_)
            · have hlt : q < 9 := by have : (q : Int) < 9 := by simpa using hc
                                     omega
              refine aw_skip ?_
              simp only [push_cast, Nat.reduceLT, Nat.reduceLeDiff, Nat.reduceEqDiff, reduceIte, reduceCtorEq, Nat.reduceAdd, Nat.reduceMul, Nat.reduceMod, Nat.reduceBEq, Nat.reduceBNe, List.reduceReplicate, Int.reduceLE, Int.reduceLT, Int.reduceNe]
              apply hK25; clear hK25
              refine aw_seq_k fun K26 hK26 => ?_
              refine aw_block ?_
              refine aw_seq_k fun K27 hK27 => aw_region okG0 ?_; simp only [push_cast, Nat.reduceLT, Nat.reduceLeDiff, Nat.reduceEqDiff, reduceIte, reduceCtorEq, Nat.reduceAdd, Nat.reduceMul, Nat.reduceMod, Nat.reduceBEq, Nat.reduceBNe, List.reduceReplicate, Int.reduceLE, Int.reduceLT, Int.reduceNe]
              refine ⟨⟨by omega, by omega⟩, ?_⟩
              apply hK27; clear hK27
              refine aw_draw fol okG0 14 (by kernel_rfl) ?_
              simp only [push_cast, Nat.reduceLT, Nat.reduceLeDiff, Nat.reduceEqDiff, reduceIte, reduceCtorEq, Nat.reduceAdd, Nat.reduceMul, Nat.reduceMod, Nat.reduceBEq, Nat.reduceBNe, List.reduceReplicate, Int.reduceLE, Int.reduceLT, Int.reduceNe]
              have hwf : b.getD k false = false := by simpa using hw
              have e1 : rcq s (b.getD k false) (cel p k) q = rel1 s (cel p k) q := by rw [hwf]; rfl
              refine ⟨_, _, calm_spec q (mas (cel p k)) (spd pd (cel p k)) (spd pr (cel p k)) hlt, .inl ⟨fits_of rfl, rfl⟩, ?_⟩; simp only [push_cast, Nat.reduceLT, Nat.reduceLeDiff, Nat.reduceEqDiff, reduceIte, reduceCtorEq, Nat.reduceAdd, Nat.reduceMul, Nat.reduceMod, Nat.reduceBEq, Nat.reduceBNe, List.reduceReplicate, Int.reduceLE, Int.reduceLT, Int.reduceNe]
              rw [show flB .add .f32 ((cel p k).getD q 0) (flB .mul .f32 s (flB .sub .f32 (clm (mas (cel p k)) (spd pd (cel p k)) (spd pr (cel p k)) q) ((cel p k).getD q 0))) = rel1 s (cel p k) q from rfl]
              have e2 : [rel1 s (cel p k) q] = rTo s p b (9 * k + (q + 1)) := by rw [← rTo_succ s p b k q hlt, e1, hq0]; rfl
              rw [e2]
              apply hK26; clear hK26
              refine aw_region okG0 ?_
              simp only [push_cast, Nat.reduceLT, Nat.reduceLeDiff, Nat.reduceEqDiff, reduceIte, reduceCtorEq, Nat.reduceAdd, Nat.reduceMul, Nat.reduceMod, Nat.reduceBEq, Nat.reduceBNe, List.reduceReplicate, Int.reduceLE, Int.reduceLT, Int.reduceNe]
              refine ⟨⟨q + 1, by omega⟩, ?_, by show 9 - (q + 1) < 9 - q; omega⟩
              show Sub _ (stN r c s p b k (q + 1))
              unfold stN
              rw [if_neg (by omega), w64 (n := (q : Int) + 1) (by omega) (by omega)]
              exact sub_to (by simp [allE, getE] <;> (repeat' apply And.intro) <;> rfl) (by simp [allB, getB] <;> rfl) rfl rfl rfl
            · exact absurd (by simpa using hc : ¬ (q : Int) < 9) (by omega)
          · rw [if_neg hq0]
            refine aw_seq_k fun K24 hK24 => aw_region okG0 ?_; simp only [push_cast, Nat.reduceLT, Nat.reduceLeDiff, Nat.reduceEqDiff, reduceIte, reduceCtorEq, Nat.reduceAdd, Nat.reduceMul, Nat.reduceMod, Nat.reduceBEq, Nat.reduceBNe, List.reduceReplicate, Int.reduceLE, Int.reduceLT, Int.reduceNe]
            apply hK24; clear hK24
            refine aw_seq_k fun K25 hK25 => ?_
            refine aw_cond rfl (fun hc => ?_) (fun hc => ?_)
            · have hlt : q < 9 := by have : (q : Int) < 9 := by simpa using hc
                                     omega
              refine aw_skip ?_
              simp only [push_cast, Nat.reduceLT, Nat.reduceLeDiff, Nat.reduceEqDiff, reduceIte, reduceCtorEq, Nat.reduceAdd, Nat.reduceMul, Nat.reduceMod, Nat.reduceBEq, Nat.reduceBNe, List.reduceReplicate, Int.reduceLE, Int.reduceLT, Int.reduceNe]
              apply hK25; clear hK25
              refine aw_seq_k fun K26 hK26 => ?_
              refine aw_block ?_
              refine aw_seq_k fun K27 hK27 => aw_region okG0 ?_; simp only [push_cast, Nat.reduceLT, Nat.reduceLeDiff, Nat.reduceEqDiff, reduceIte, reduceCtorEq, Nat.reduceAdd, Nat.reduceMul, Nat.reduceMod, Nat.reduceBEq, Nat.reduceBNe, List.reduceReplicate, Int.reduceLE, Int.reduceLT, Int.reduceNe]
              refine ⟨⟨by omega, by omega⟩, ?_⟩
              apply hK27; clear hK27
              refine aw_draw fol okG0 14 (by kernel_rfl) ?_
              simp only [push_cast, Nat.reduceLT, Nat.reduceLeDiff, Nat.reduceEqDiff, reduceIte, reduceCtorEq, Nat.reduceAdd, Nat.reduceMul, Nat.reduceMod, Nat.reduceBEq, Nat.reduceBNe, List.reduceReplicate, Int.reduceLE, Int.reduceLT, Int.reduceNe]
              have hwf : b.getD k false = false := by simpa using hw
              have e1 : rcq s (b.getD k false) (cel p k) q = rel1 s (cel p k) q := by rw [hwf]; rfl
              refine ⟨_, _, calm_spec q (mas (cel p k)) (spd pd (cel p k)) (spd pr (cel p k)) hlt, .inl ⟨fits_of rfl, rfl⟩, ?_⟩; simp only [push_cast, Nat.reduceLT, Nat.reduceLeDiff, Nat.reduceEqDiff, reduceIte, reduceCtorEq, Nat.reduceAdd, Nat.reduceMul, Nat.reduceMod, Nat.reduceBEq, Nat.reduceBNe, List.reduceReplicate, Int.reduceLE, Int.reduceLT, Int.reduceNe]
              rw [show flB .add .f32 ((cel p k).getD q 0) (flB .mul .f32 s (flB .sub .f32 (clm (mas (cel p k)) (spd pd (cel p k)) (spd pr (cel p k)) q) ((cel p k).getD q 0))) = rel1 s (cel p k) q from rfl]
              refine ⟨by rw [rTo_len]; omega, by rw [rTo_len]; omega, ?_⟩
              rw [← e1, rTo_succ s p b k q hlt]
              apply hK26; clear hK26
              refine aw_region okG0 ?_
              simp only [push_cast, Nat.reduceLT, Nat.reduceLeDiff, Nat.reduceEqDiff, reduceIte, reduceCtorEq, Nat.reduceAdd, Nat.reduceMul, Nat.reduceMod, Nat.reduceBEq, Nat.reduceBNe, List.reduceReplicate, Int.reduceLE, Int.reduceLT, Int.reduceNe]
              refine ⟨⟨q + 1, by omega⟩, ?_, by show 9 - (q + 1) < 9 - q; omega⟩
              show Sub _ (stN r c s p b k (q + 1))
              unfold stN
              rw [if_neg (by omega), w64 (n := (q : Int) + 1) (by omega) (by omega)]
              exact sub_to (by simp [allE, getE] <;> (repeat' apply And.intro) <;> rfl) (by simp [allB, getB] <;> rfl) rfl rfl rfl
            · have hlt : q = 9 := by have : ¬ (q : Int) < 9 := by simpa using hc
                                     omega
              subst hlt
              refine aw_exit ?_
              simp only [push_cast, Nat.reduceLT, Nat.reduceLeDiff, Nat.reduceEqDiff, reduceIte, reduceCtorEq, Nat.reduceAdd, Nat.reduceMul, Nat.reduceMod, Nat.reduceBEq, Nat.reduceBNe, List.reduceReplicate, Int.reduceLE, Int.reduceLT, Int.reduceNe]
              apply hK7; clear hK7
              refine aw_region okG0 ?_
              simp only [push_cast, Nat.reduceLT, Nat.reduceLeDiff, Nat.reduceEqDiff, reduceIte, reduceCtorEq, Nat.reduceAdd, Nat.reduceMul, Nat.reduceMod, Nat.reduceBEq, Nat.reduceBNe, List.reduceReplicate, Int.reduceLE, Int.reduceLT, Int.reduceNe]
              refine ⟨⟨k + 1, by omega, okS⟩, ?_, by show b.length - (k + 1) < b.length - k; omega⟩
              show Sub _ (stO r c s p b (k + 1))
              unfold stO
              rw [if_neg (by omega), w64 (n := (k : Int) + 1) (by omega) (by omega), show 9 * (k + 1) = 9 * k + 9 by omega]
              exact sub_to (by simp [allE, getE] <;> (repeat' apply And.intro) <;> rfl) (by simp [allB, getB] <;> rfl) rfl rfl rfl
    · have hlt : k = b.length := by have : ¬ (k : Int) < b.length := by simpa using hc
                                    omega
      subst hlt
      refine aw_exit ?_
      simp only [push_cast, Nat.reduceLT, Nat.reduceLeDiff, Nat.reduceEqDiff, reduceIte, reduceCtorEq, Nat.reduceAdd, Nat.reduceMul, Nat.reduceMod, Nat.reduceBEq, Nat.reduceBNe, List.reduceReplicate, Int.reduceLE, Int.reduceLT, Int.reduceNe]
      apply hK3; clear hK3
      refine aw_seq_k fun K28 hK28 => ?_
      refine aw_seq_k fun K29 hK29 => aw_region okG0 ?_; simp only [push_cast, Nat.reduceLT, Nat.reduceLeDiff, Nat.reduceEqDiff, reduceIte, reduceCtorEq, Nat.reduceAdd, Nat.reduceMul, Nat.reduceMod, Nat.reduceBEq, Nat.reduceBNe, List.reduceReplicate, Int.reduceLE, Int.reduceLT, Int.reduceNe]
      refine call_pure (ValidFlow_spec r c (rTo s p b (9 * b.length)) b (by rw [rTo_len]; omega)) (fits_of rfl) (by decide) rfl (by simp [idsV, idsVs]) ?_; simp only [push_cast, Nat.reduceLT, Nat.reduceLeDiff, Nat.reduceEqDiff, reduceIte, reduceCtorEq, Nat.reduceAdd, Nat.reduceMul, Nat.reduceMod, Nat.reduceBEq, Nat.reduceBNe, List.reduceReplicate, Int.reduceLE, Int.reduceLT, Int.reduceNe]
      apply hK29; clear hK29
      refine aw_cond rfl (fun hv => ?_) (fun hv => ?_)
      · have hno : relaxF r c s p b = none := by
          unfold relaxF
          rw [if_neg]
          intro h
          rw [h.2] at hv; exact absurd hv (by simp)
        rw [hno]
        refine aw_seq_k fun K30 hK30 => aw_region okG0 ?_; simp only [push_cast, Nat.reduceLT, Nat.reduceLeDiff, Nat.reduceEqDiff, reduceIte, reduceCtorEq, Nat.reduceAdd, Nat.reduceMul, Nat.reduceMod, Nat.reduceBEq, Nat.reduceBNe, List.reduceReplicate, Int.reduceLE, Int.reduceLT, Int.reduceNe]
        apply hK30; clear hK30
        exact aw_ret (ret_p rfl rfl rfl (by simp))
      · have hyes : relaxF r c s p b = some (rTo s p b (9 * b.length)) := by
          unfold relaxF
          rw [if_pos ⟨hok, by simpa using hv⟩]
        refine aw_skip ?_
        simp only [push_cast, Nat.reduceLT, Nat.reduceLeDiff, Nat.reduceEqDiff, reduceIte, reduceCtorEq, Nat.reduceAdd, Nat.reduceMul, Nat.reduceMod, Nat.reduceBEq, Nat.reduceBNe, List.reduceReplicate, Int.reduceLE, Int.reduceLT, Int.reduceNe]
        apply hK28; clear hK28
        refine aw_seq_k fun K31 hK31 => aw_region okG0 ?_; simp only [push_cast, Nat.reduceLT, Nat.reduceLeDiff, Nat.reduceEqDiff, reduceIte, reduceCtorEq, Nat.reduceAdd, Nat.reduceMul, Nat.reduceMod, Nat.reduceBEq, Nat.reduceBNe, List.reduceReplicate, Int.reduceLE, Int.reduceLT, Int.reduceNe]
        apply hK31; clear hK31
        rw [hyes]
        exact aw_ret (ret_o [(8300, 0), (2300, 1)] rfl rfl (by simp [renN]) rfl)
end Go.Proofs.Avx
