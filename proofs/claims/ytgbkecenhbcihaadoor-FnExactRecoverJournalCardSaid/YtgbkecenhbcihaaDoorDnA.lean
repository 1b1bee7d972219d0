/- What cuts of texts, check numbers and decimal texts are, of the program, the reference and the library; conditions stand in each statement. -/
import Derived.Test.YtgbkecenhbcihaaDoorProg
import Derived.Test.YtgbkecenhbcihaaDoorAvxB
import Derived.Lib.LaidTab
import Derived.Shelf.Strconv.Itoa4
import Derived.Shelf.Strings.Split
import Derived.Shelf.Small.Strs
import Derived.Lib.AppendIntMem
set_option linter.unusedVariables false
set_option linter.unusedSimpArgs false
namespace Go.Proofs.Avx
/-- What is known of the package-level tables: the powers of ten are what the library's text lays. -/
instance kn : Kn where
  K Y w := ∀ g, Tryd.prog.globalNamed "internal/strconv.uint64pow10" = some g → Y g ∧ Lib.TabIs Tryd.prog w "internal/strconv.uint64pow10" .u64 Lib.pow10Tab
  mono := by
    intro Y Y' w w' h hY hw g hg
    obtain ⟨h1, h2⟩ := h g hg
    refine ⟨hY g h1, ?_⟩
    unfold Lib.TabIs World.var? at h2 ⊢
    rw [hg] at h2 ⊢
    simp only [Option.bind_some] at h2 ⊢
    rw [hw g h1]
    exact h2
theorem kn_K {Y : Nat → Prop} {w : World} : Kn.K Y w = ∀ g, Tryd.prog.globalNamed "internal/strconv.uint64pow10" = some g → Y g ∧ Lib.TabIs Tryd.prog w "internal/strconv.uint64pow10" .u64 Lib.pow10Tab := rfl
abbrev I (n : Int) : AV := .dat (.int .i64) n
abbrev Bo (b : Bool) : AV := .dat .bool b
abbrev S8 (n : Int) : AV := .dat (.int .u8) n
abbrev St8 (s : List UInt8) : AV := .dat .str s
abbrev Sts (l : List (List UInt8)) : AV := .dat (.sl .str) l
abbrev Is (l : List Int) : AV := .dat (.sl (.int .i64)) l
theorem fol : Tryd.prog.follows .mixedOrders = true := by kernel_rfl
theorem w64 {n : Int} (h1 : -9223372036854775808 ≤ n) (h2 : n ≤ 9223372036854775807) : IntKind.i64.wrap n = n := by rw [IntKind.wrap_i64]; omega
def G0 : List (TypeId × TI) := [(2, ⟨.int .i64, 1, 8, .int .i64 0⟩),
  (3, ⟨.int .i64, 1, 8, .int .i64 0⟩),
  (4, ⟨.bool, 1, 1, .bool false⟩),
  (5, ⟨.int .u8, 1, 1, .int .u8 0⟩),
  (9, ⟨.str, 1, 16, .string ⟨#[]⟩⟩),
  (25, ⟨.sl 9, 1, 24, .slice none 0 0⟩),
  (34, ⟨.sl 2, 1, 24, .slice none 0 0⟩),
  (36, ⟨.struct [(2, 0), (2, 1), (34, 2)], 3, 40, .agg #[.int .i64 0, .int .i64 0, .slice none 0 0]⟩),
  (42, ⟨.struct [(2, 0), (2, 1), (34, 2)], 3, 40, .agg #[.int .i64 0, .int .i64 0, .slice none 0 0]⟩),
  (52, ⟨.ptr 55, 1, 8, .pointer none⟩),
  (53, ⟨.sl 5, 1, 24, .slice none 0 0⟩),
  (55, ⟨.struct [(52, 0), (53, 1)], 2, 32, .agg #[.pointer none, .slice none 0 0]⟩)]
theorem i2 : (Tryd.prog.info? 2).map (fun i => (i.size, i.bytes, i.zero)) = some (1, 8, some (.int .i64 0)) := by kernel_rfl
theorem i3 : (Tryd.prog.info? 3).map (fun i => (i.size, i.bytes, i.zero)) = some (1, 8, some (.int .i64 0)) := by kernel_rfl
theorem i4 : (Tryd.prog.info? 4).map (fun i => (i.size, i.bytes, i.zero)) = some (1, 1, some (.bool false)) := by kernel_rfl
theorem i5 : (Tryd.prog.info? 5).map (fun i => (i.size, i.bytes, i.zero)) = some (1, 1, some (.int .u8 0)) := by kernel_rfl
theorem i9 : (Tryd.prog.info? 9).map (fun i => (i.size, i.bytes, i.zero)) = some (1, 16, some (.string ⟨#[]⟩)) := by kernel_rfl
theorem i25 : (Tryd.prog.info? 25).map (fun i => (i.size, i.bytes, i.zero)) = some (1, 24, some (.slice none 0 0)) := by kernel_rfl
theorem i34 : (Tryd.prog.info? 34).map (fun i => (i.size, i.bytes, i.zero)) = some (1, 24, some (.slice none 0 0)) := by kernel_rfl
theorem i36 : (Tryd.prog.info? 36).map (fun i => (i.size, i.bytes, i.zero)) = some (3, 40, some (.agg #[.int .i64 0, .int .i64 0, .slice none 0 0])) := by kernel_rfl
theorem i42 : (Tryd.prog.info? 42).map (fun i => (i.size, i.bytes, i.zero)) = some (3, 40, some (.agg #[.int .i64 0, .int .i64 0, .slice none 0 0])) := by kernel_rfl
theorem i52 : (Tryd.prog.info? 52).map (fun i => (i.size, i.bytes, i.zero)) = some (1, 8, some (.pointer none)) := by kernel_rfl
theorem i53 : (Tryd.prog.info? 53).map (fun i => (i.size, i.bytes, i.zero)) = some (1, 24, some (.slice none 0 0)) := by kernel_rfl
theorem i55 : (Tryd.prog.info? 55).map (fun i => (i.size, i.bytes, i.zero)) = some (2, 32, some (.agg #[.pointer none, .slice none 0 0])) := by kernel_rfl
theorem okG0 : okTab Tryd.prog G0 := by
  simp only [okTab, G0, List.mem_cons, List.not_mem_nil, or_false, forall_eq_or_imp, forall_eq]
  exact ⟨⟨i2, Tryd.underlying2, rfl⟩,
    ⟨i3, Tryd.underlying3, rfl⟩,
    ⟨i4, Tryd.underlying4, rfl⟩,
    ⟨i5, Tryd.underlying5, rfl⟩,
    ⟨i9, Tryd.underlying9, rfl⟩,
    ⟨i25, Tryd.underlying25, rfl⟩,
    ⟨i34, Tryd.underlying34, rfl⟩,
    ⟨i36, ⟨_, Tryd.underlying36, rfl⟩, rfl⟩,
    ⟨i42, ⟨_, Tryd.underlying42, rfl⟩, rfl⟩,
    ⟨i52, Tryd.underlying52, rfl⟩,
    ⟨i53, Tryd.underlying53, rfl⟩,
    ⟨i55, ⟨_, Tryd.underlying55, rfl⟩, rfl⟩⟩
theorem tgG0_2 : Tab.get G0 2 = some ⟨.int .i64, 1, 8, .int .i64 0⟩ := rfl
theorem tgG0_3 : Tab.get G0 3 = some ⟨.int .i64, 1, 8, .int .i64 0⟩ := rfl
theorem tgG0_4 : Tab.get G0 4 = some ⟨.bool, 1, 1, .bool false⟩ := rfl
theorem tgG0_5 : Tab.get G0 5 = some ⟨.int .u8, 1, 1, .int .u8 0⟩ := rfl
theorem tgG0_9 : Tab.get G0 9 = some ⟨.str, 1, 16, .string ⟨#[]⟩⟩ := rfl
theorem tgG0_25 : Tab.get G0 25 = some ⟨.sl 9, 1, 24, .slice none 0 0⟩ := rfl
theorem tgG0_34 : Tab.get G0 34 = some ⟨.sl 2, 1, 24, .slice none 0 0⟩ := rfl
theorem tgG0_36 : Tab.get G0 36 = some ⟨.struct [(2, 0), (2, 1), (34, 2)], 3, 40, .agg #[.int .i64 0, .int .i64 0, .slice none 0 0]⟩ := rfl
theorem tgG0_42 : Tab.get G0 42 = some ⟨.struct [(2, 0), (2, 1), (34, 2)], 3, 40, .agg #[.int .i64 0, .int .i64 0, .slice none 0 0]⟩ := rfl
theorem tgG0_52 : Tab.get G0 52 = some ⟨.ptr 55, 1, 8, .pointer none⟩ := rfl
theorem tgG0_53 : Tab.get G0 53 = some ⟨.sl 5, 1, 24, .slice none 0 0⟩ := rfl
theorem tgG0_55 : Tab.get G0 55 = some ⟨.struct [(52, 0), (53, 1)], 2, 32, .agg #[.pointer none, .slice none 0 0]⟩ := rfl
attribute [push_cast] tgG0_2 tgG0_3 tgG0_4 tgG0_5 tgG0_9 tgG0_25 tgG0_34 tgG0_36 tgG0_42 tgG0_52 tgG0_53 tgG0_55
end Go.Proofs.Avx

set_option linter.unusedVariables false
set_option linter.unusedSimpArgs false
namespace Go.Proofs.Avx
/-- The pieces of a text between marks. -/
def cuts (c : UInt8) : List UInt8 → List (List UInt8)
  | [] => [[]]
  | b :: l => if b = c then [] :: cuts c l else match cuts c l with
    | [] => [[b]]
    | x :: r => (b :: x) :: r
theorem cuts_ne (c : UInt8) : ∀ l, cuts c l ≠ []
  | [] => by simp [cuts]
  | b :: l => by
    simp only [cuts]
    split
    · simp
    · split <;> simp
theorem cuts_not {c : UInt8} : ∀ {l : List UInt8}, c ∉ l → cuts c l = [l]
  | [], _ => rfl
  | b :: l, h => by
    simp only [List.mem_cons, not_or] at h
    simp only [cuts, if_neg (Ne.symm h.1), cuts_not h.2]
theorem cuts_app {c : UInt8} : ∀ {a : List UInt8} (b : List UInt8), c ∉ a → cuts c (a ++ c :: b) = a :: cuts c b
  | [], b, _ => by simp [cuts]
  | x :: a, b, h => by
    simp only [List.mem_cons, not_or] at h
    simp only [List.cons_append, cuts, if_neg (Ne.symm h.1), cuts_app b h.2]
/-- What the reference's loop holds at a place: the pieces so far, and from where the next one goes. -/
def cutSt (c : UInt8) (s : List UInt8) : Nat → List (List UInt8) × Nat
  | 0 => ([], 0)
  | k + 1 => if k = s.length ∨ s[k]? = some c then ((cutSt c s k).1 ++ [(s.take k).drop (cutSt c s k).2], k + 1) else cutSt c s k
theorem cutSt_inv (c : UInt8) (s : List UInt8) : ∀ k, k ≤ s.length → (cutSt c s k).2 ≤ k ∧ (cutSt c s k).1 ++ cuts c (s.drop (cutSt c s k).2) = cuts c s ∧ c ∉ (s.take k).drop (cutSt c s k).2 ∧ (cutSt c s k).1.length ≤ k
  | 0, _ => by simp [cutSt]
  | k + 1, hk => by
    obtain ⟨h1, h2, h3, h4⟩ := cutSt_inv c s k (by omega)
    have hk' : k < s.length := hk
    have hget : s[k]? = some s[k] := List.getElem?_eq_getElem hk'
    simp only [cutSt]
    by_cases hc : s[k] = c
    · rw [if_pos (.inr (by rw [hget, hc]))]
      have e1 : ∀ m, m ≤ k → s.drop m = (s.take k).drop m ++ s[k] :: s.drop (k + 1) := by
        intro m hm
        rw [← List.drop_eq_getElem_cons hk', ← List.drop_append_of_le_length (by simp; omega), List.take_append_drop]
      refine ⟨Nat.le_refl _, ?_, by simp, by simp; omega⟩
      rw [← h2, e1 _ h1, hc, cuts_app _ h3, List.append_assoc]
      rfl
    · have hno : ¬ (k = s.length ∨ s[k]? = some c) := by
        rw [hget]
        simp only [Option.some.injEq, not_or]
        exact ⟨by omega, hc⟩
      rw [if_neg hno]
      refine ⟨by omega, h2, ?_, by omega⟩
      rw [List.take_add_one, hget, List.drop_append_of_le_length (by simp; omega)]
      simp only [Option.toList_some, List.mem_append, List.mem_singleton, not_or]
      exact ⟨h3, Ne.symm hc⟩
theorem cutSt_end (c : UInt8) (s : List UInt8) : (cutSt c s (s.length + 1)).1 = cuts c s := by
  obtain ⟨h1, h2, h3, _⟩ := cutSt_inv c s s.length (Nat.le_refl _)
  simp only [cutSt, true_or, if_true]
  rw [List.take_length] at h3
  rw [List.take_length, ← h2, cuts_not h3]
theorem cutSt_len (c : UInt8) (s : List UInt8) (k : Nat) (hk : k ≤ s.length + 1) : (cutSt c s k).1.length ≤ k := by
  by_cases h : k ≤ s.length
  · exact (cutSt_inv c s k h).2.2.2
  · have : k = s.length + 1 := by omega
    subst this
    have := (cutSt_inv c s s.length (Nat.le_refl _)).2.2.2
    simp [cutSt]; omega
theorem cuts_len (c : UInt8) (s : List UInt8) : (cuts c s).length ≤ s.length + 1 := by
  rw [← cutSt_end]; exact cutSt_len c s _ (Nat.le_refl _)
theorem l01Cut_spec (s : List UInt8) (c : UInt8) (hs : s.length ≤ 1048576) : AFp Tryd.prog 49 [St8 s, S8 c.toNat] (.own 0 9 .str (cuts c s)) := by
  refine AF_body okG0 Tryd.func49 rfl rfl (by simp [Tryd.ntmps49]) (by simp) ?_; simp only [Tryd.ntmps49]
  refine aw_seq_k fun K0 hK0 => aw_region okG0 ?_; simp only [push_cast, Nat.reduceLT, Nat.reduceLeDiff, Nat.reduceEqDiff, reduceIte, reduceCtorEq, Nat.reduceAdd, Nat.reduceMul, Nat.reduceMod, Nat.reduceBEq, Nat.reduceBNe, List.reduceReplicate, Int.reduceLE, Int.reduceLT, Int.reduceNe]
  apply hK0; clear hK0
  refine aw_seq_k fun K1 hK1 => aw_region okG0 ?_; simp only [push_cast, Nat.reduceLT, Nat.reduceLeDiff, Nat.reduceEqDiff, reduceIte, reduceCtorEq, Nat.reduceAdd, Nat.reduceMul, Nat.reduceMod, Nat.reduceBEq, Nat.reduceBNe, List.reduceReplicate, Int.reduceLE, Int.reduceLT, Int.reduceNe]
  apply hK1; clear hK1
  refine aw_seq_k fun K3 hK3 => aw_region okG0 ?_; simp only [push_cast, Nat.reduceLT, Nat.reduceLeDiff, Nat.reduceEqDiff, reduceIte, reduceCtorEq, Nat.reduceAdd, Nat.reduceMul, Nat.reduceMod, Nat.reduceBEq, Nat.reduceBNe, List.reduceReplicate, Int.reduceLE, Int.reduceLT, Int.reduceNe]
  apply hK3; clear hK3
  refine aw_seq_k fun K4 hK4 => ?_
  refine aw_seq_k fun K5 hK5 => aw_region okG0 ?_; simp only [push_cast, Nat.reduceLT, Nat.reduceLeDiff, Nat.reduceEqDiff, reduceIte, reduceCtorEq, Nat.reduceAdd, Nat.reduceMul, Nat.reduceMod, Nat.reduceBEq, Nat.reduceBNe, List.reduceReplicate, Int.reduceLE, Int.reduceLT, Int.reduceNe]
  apply hK5; clear hK5
  refine aw_block ?_
  refine aw_loop (fun k : {k : Nat // k ≤ s.length + 1} => ⟨[(0, St8 s), (1, S8 c.toNat), (5, .own 800 9 .str (cutSt c s k.1).1), (6, I (cutSt c s k.1).2), (7, I k.1)], [], [800]⟩) (fun k => s.length + 1 - k.1) ⟨0, Nat.zero_le _⟩ ?_ ?_
  · show Sub _ ⟨[(0, St8 s), (1, S8 c.toNat), (5, .own 800 9 .str []), (6, I 0), (7, I 0)], [], [800]⟩
    exact sub_to (by simp [allE, getE] <;> rfl) (by simp [allB, getB] <;> rfl) rfl rfl rfl
  rintro ⟨k, hk⟩
  refine aw_seq_k fun K6 hK6 => ?_
  refine aw_seq_k fun K7 hK7 => aw_region okG0 ?_; simp only [push_cast, Nat.reduceLT, Nat.reduceLeDiff, Nat.reduceEqDiff, reduceIte, reduceCtorEq, Nat.reduceAdd, Nat.reduceMul, Nat.reduceMod, Nat.reduceBEq, Nat.reduceBNe, List.reduceReplicate, Int.reduceLE, Int.reduceLT, Int.reduceNe]
  apply hK7; clear hK7
  refine aw_cond rfl (fun hc => ?_) (fun hc => ?_)
  · have hlt : k ≤ s.length := by simpa using hc
    obtain ⟨i1, i2, i3, i4⟩ := cutSt_inv c s k hlt
    refine aw_skip ?_
    simp only [push_cast, Nat.reduceLT, Nat.reduceLeDiff, Nat.reduceEqDiff, reduceIte, reduceCtorEq, Nat.reduceAdd, Nat.reduceMul, Nat.reduceMod, Nat.reduceBEq, Nat.reduceBNe, List.reduceReplicate, Int.reduceLE, Int.reduceLT, Int.reduceNe]
    apply hK6; clear hK6
    refine aw_seq_k fun K8 hK8 => ?_
    refine aw_block ?_
    refine aw_seq_k fun K9 hK9 => aw_region okG0 ?_; simp only [push_cast, Nat.reduceLT, Nat.reduceLeDiff, Nat.reduceEqDiff, reduceIte, reduceCtorEq, Nat.reduceAdd, Nat.reduceMul, Nat.reduceMod, Nat.reduceBEq, Nat.reduceBNe, List.reduceReplicate, Int.reduceLE, Int.reduceLT, Int.reduceNe]
    refine ⟨fun h => ?_, ?_⟩
    · have hne : k ≠ s.length := by intro e; subst e; simp at h
      exact ⟨by simp [h], by omega, by omega⟩
    apply hK9; clear hK9
    refine aw_cond rfl (fun hc => ?_) (fun hc => ?_)
    · have hyes : k = s.length ∨ s[k]? = some c := by
        simp only [Bool.or_eq_true, beq_iff_eq] at hc
        rcases hc with h | h
        · left; omega
        · by_cases hk2 : k = s.length
          · exact .inl hk2
          · right
            have hk3 : k < s.length := by omega
            rw [List.getElem?_eq_getElem hk3]
            congr 1
            have : s.getD k 0 = s[k] := by simp [List.getD, hk3]
            rw [this] at h
            exact UInt8.toNat_inj.1 (by omega)
      have hst : cutSt c s (k + 1) = ((cutSt c s k).1 ++ [(s.take k).drop (cutSt c s k).2], k + 1) := by simp only [cutSt]; rw [if_pos hyes]
      refine aw_seq_k fun K10 hK10 => aw_region okG0 ?_; simp only [push_cast, Nat.reduceLT, Nat.reduceLeDiff, Nat.reduceEqDiff, reduceIte, reduceCtorEq, Nat.reduceAdd, Nat.reduceMul, Nat.reduceMod, Nat.reduceBEq, Nat.reduceBNe, List.reduceReplicate, Int.reduceLE, Int.reduceLT, Int.reduceNe]
      refine ⟨⟨rfl, by unfold SlR; omega⟩, by omega, by omega, ?_⟩
      apply hK10; clear hK10
      refine aw_region okG0 ?_
      simp only [push_cast, Nat.reduceLT, Nat.reduceLeDiff, Nat.reduceEqDiff, reduceIte, reduceCtorEq, Nat.reduceAdd, Nat.reduceMul, Nat.reduceMod, Nat.reduceBEq, Nat.reduceBNe, List.reduceReplicate, Int.reduceLE, Int.reduceLT, Int.reduceNe]
      apply hK8; clear hK8
      refine aw_region okG0 ?_
      simp only [push_cast, Nat.reduceLT, Nat.reduceLeDiff, Nat.reduceEqDiff, reduceIte, reduceCtorEq, Nat.reduceAdd, Nat.reduceMul, Nat.reduceMod, Nat.reduceBEq, Nat.reduceBNe, List.reduceReplicate, Int.reduceLE, Int.reduceLT, Int.reduceNe]
      refine ⟨⟨k + 1, by omega⟩, ?_, by show s.length + 1 - (k + 1) < s.length + 1 - k; omega⟩
      rw [w64 (n := (k : Int) + 1) (by omega) (by omega), hst]
      exact sub_ren_to [(3200, 800)] (by simp [renN]) rfl (by simp [allE, getE, renE, renV, renVs, renN]) (by simp [allB, getB, renB, renVs, renV, renN]) rfl rfl rfl
    · have hno : ¬ (k = s.length ∨ s[k]? = some c) := by
        simp only [Bool.or_eq_false_iff, beq_eq_false_iff_ne, ne_eq] at hc
        rintro (h | h)
        · exact hc.1 (by rw [h])
        · have hk3 : k < s.length := (List.getElem?_eq_some_iff.1 h).1
          have : s.getD k 0 = c := by simp [List.getD, h]
          exact hc.2 (by rw [this])
      have hst : cutSt c s (k + 1) = cutSt c s k := by simp only [cutSt]; rw [if_neg hno]
      refine aw_skip ?_
      simp only [push_cast, Nat.reduceLT, Nat.reduceLeDiff, Nat.reduceEqDiff, reduceIte, reduceCtorEq, Nat.reduceAdd, Nat.reduceMul, Nat.reduceMod, Nat.reduceBEq, Nat.reduceBNe, List.reduceReplicate, Int.reduceLE, Int.reduceLT, Int.reduceNe]
      apply hK8; clear hK8
      refine aw_region okG0 ?_
      simp only [push_cast, Nat.reduceLT, Nat.reduceLeDiff, Nat.reduceEqDiff, reduceIte, reduceCtorEq, Nat.reduceAdd, Nat.reduceMul, Nat.reduceMod, Nat.reduceBEq, Nat.reduceBNe, List.reduceReplicate, Int.reduceLE, Int.reduceLT, Int.reduceNe]
      refine ⟨⟨k + 1, by omega⟩, ?_, by show s.length + 1 - (k + 1) < s.length + 1 - k; omega⟩
      rw [w64 (n := (k : Int) + 1) (by omega) (by omega), hst]
      exact sub_to (by simp [allE, getE] <;> rfl) (by simp [allB, getB] <;> rfl) rfl rfl rfl
  · have hlt : k = s.length + 1 := by have : ¬ (k : Int) ≤ s.length := by simpa using hc
                                      omega
    subst hlt
    rw [cutSt_end]
    refine aw_exit ?_
    simp only [push_cast, Nat.reduceLT, Nat.reduceLeDiff, Nat.reduceEqDiff, reduceIte, reduceCtorEq, Nat.reduceAdd, Nat.reduceMul, Nat.reduceMod, Nat.reduceBEq, Nat.reduceBNe, List.reduceReplicate, Int.reduceLE, Int.reduceLT, Int.reduceNe]
    apply hK4; clear hK4
    refine aw_seq_k fun K11 hK11 => aw_region okG0 ?_; simp only [push_cast, Nat.reduceLT, Nat.reduceLeDiff, Nat.reduceEqDiff, reduceIte, reduceCtorEq, Nat.reduceAdd, Nat.reduceMul, Nat.reduceMod, Nat.reduceBEq, Nat.reduceBNe, List.reduceReplicate, Int.reduceLE, Int.reduceLT, Int.reduceNe]
    apply hK11; clear hK11
    exact aw_ret (ret_o [(800, 0)] rfl rfl (by simp [renN]) rfl)
end Go.Proofs.Avx

set_option linter.unusedVariables false
set_option linter.unusedSimpArgs false
namespace Go.Proofs.Avx
def lns (s : List UInt8) : List (List UInt8) := (cuts 10 s).take ((cuts 10 s).length - 1)
def rst (s : List UInt8) : List UInt8 := (cuts 10 s).getD ((cuts 10 s).length - 1) []
theorem cuts_pos (c : UInt8) (s : List UInt8) : 0 < (cuts c s).length := List.length_pos_iff.2 (cuts_ne c s)
theorem lns_len (s : List UInt8) : (lns s).length = (cuts 10 s).length - 1 := by simp [lns]
theorem l08Lines_spec (s : List UInt8) (hs : s.length ≤ 1048576) : AFp Tryd.prog 29 [St8 s] (.tup [.own 0 9 .str (lns s), St8 (rst s)]) := by
  have hl := cuts_len 10 s
  have hp := cuts_pos 10 s
  refine AF_body okG0 Tryd.func29 rfl rfl (by simp [Tryd.ntmps29]) (by simp) ?_; simp only [Tryd.ntmps29]
  refine aw_seq_k fun K1 hK1 => aw_region okG0 ?_; simp only [push_cast, Nat.reduceLT, Nat.reduceLeDiff, Nat.reduceEqDiff, reduceIte, reduceCtorEq, Nat.reduceAdd, Nat.reduceMul, Nat.reduceMod, Nat.reduceBEq, Nat.reduceBNe, List.reduceReplicate, Int.reduceLE, Int.reduceLT, Int.reduceNe]
  apply hK1; clear hK1
  refine aw_seq_k fun K2 hK2 => aw_region okG0 ?_; simp only [push_cast, Nat.reduceLT, Nat.reduceLeDiff, Nat.reduceEqDiff, reduceIte, reduceCtorEq, Nat.reduceAdd, Nat.reduceMul, Nat.reduceMod, Nat.reduceBEq, Nat.reduceBNe, List.reduceReplicate, Int.reduceLE, Int.reduceLT, Int.reduceNe]
  refine call_pure (l01Cut_spec s 10 hs) (fits_of rfl) (by decide) rfl (by simp [idsV, idsVs]) ?_; simp only [push_cast, Nat.reduceLT, Nat.reduceLeDiff, Nat.reduceEqDiff, reduceIte, reduceCtorEq, Nat.reduceAdd, Nat.reduceMul, Nat.reduceMod, Nat.reduceBEq, Nat.reduceBNe, List.reduceReplicate, Int.reduceLE, Int.reduceLT, Int.reduceNe]
  apply hK2; clear hK2
  refine aw_seq_k fun K3 hK3 => aw_draw fol okG0 12 (by kernel_rfl) ?_; simp only [push_cast, Nat.reduceLT, Nat.reduceLeDiff, Nat.reduceEqDiff, reduceIte, reduceCtorEq, Nat.reduceAdd, Nat.reduceMul, Nat.reduceMod, Nat.reduceBEq, Nat.reduceBNe, List.reduceReplicate, Int.reduceLE, Int.reduceLT, Int.reduceNe]
  rw [w64 (n := ((cuts 10 s).length : Int) - 1) (by omega) (by omega), show (((cuts 10 s).length : Int) - 1).toNat = (cuts 10 s).length - 1 by omega]
  refine ⟨⟨rfl, by unfold SlR; omega⟩, by unfold InR; omega, by omega, ?_⟩
  apply hK3; clear hK3
  exact aw_ret (ret_o [(600, 0)] rfl rfl (by simp [renN]) rfl)
/-- How many lines tell of something bad. -/
def isBad (l : List UInt8) : Bool := l == [110, 111] || l == [119, 104, 97, 116]
def badN (l : List (List UInt8)) : Nat → Nat
  | 0 => 0
  | k + 1 => badN l k + if isBad (l.getD k []) then 1 else 0
theorem badN_le (l : List (List UInt8)) : ∀ k, badN l k ≤ k
  | 0 => Nat.le_refl _
  | k + 1 => by have := badN_le l k; simp only [badN]; split <;> omega
def outp (s : List UInt8) : Int × Int × Bool := if 16000 < s.length ∨ rst s ≠ [] then (0, 0, false) else ((badN (lns s) (lns s).length : Nat), ((lns s).length : Int) - (badN (lns s) (lns s).length : Nat), true)
theorem outp_ok {s : List UInt8} (h1 : ¬ 16000 < s.length) (h2 : rst s = []) : outp s = (((badN (lns s) (lns s).length : Nat) : Int), ((lns s).length : Int) - (badN (lns s) (lns s).length : Nat), true) := by
  unfold outp
  rw [if_neg]
  rintro (h | h)
  · exact h1 h
  · exact h h2
theorem sCount_spec (s : List UInt8) (hs : s.length ≤ 1048576) : AFp Tryd.prog 8 [St8 s] (.tup [I (outp s).1, I (outp s).2.1, Bo (outp s).2.2]) := by
  have hl := cuts_len 10 s
  have hp := cuts_pos 10 s
  have hll := lns_len s
  refine AF_body okG0 Tryd.func8 rfl rfl (by simp [Tryd.ntmps8]) (by simp) ?_; simp only [Tryd.ntmps8]
  refine aw_seq_k fun K1 hK1 => aw_region okG0 ?_; simp only [push_cast, Nat.reduceLT, Nat.reduceLeDiff, Nat.reduceEqDiff, reduceIte, reduceCtorEq, Nat.reduceAdd, Nat.reduceMul, Nat.reduceMod, Nat.reduceBEq, Nat.reduceBNe, List.reduceReplicate, Int.reduceLE, Int.reduceLT, Int.reduceNe]
  apply hK1; clear hK1
  refine aw_seq_k fun K2 hK2 => ?_
  refine aw_seq_k fun K3 hK3 => aw_region okG0 ?_; simp only [push_cast, Nat.reduceLT, Nat.reduceLeDiff, Nat.reduceEqDiff, reduceIte, reduceCtorEq, Nat.reduceAdd, Nat.reduceMul, Nat.reduceMod, Nat.reduceBEq, Nat.reduceBNe, List.reduceReplicate, Int.reduceLE, Int.reduceLT, Int.reduceNe]
  apply hK3; clear hK3
  refine aw_cond rfl (fun hc => ?_) (fun hc => ?_)
  · refine aw_seq_k fun K4 hK4 => aw_region okG0 ?_; simp only [push_cast, Nat.reduceLT, Nat.reduceLeDiff, Nat.reduceEqDiff, reduceIte, reduceCtorEq, Nat.reduceAdd, Nat.reduceMul, Nat.reduceMod, Nat.reduceBEq, Nat.reduceBNe, List.reduceReplicate, Int.reduceLE, Int.reduceLT, Int.reduceNe]
    apply hK4; clear hK4
    have hbig : 16000 < s.length := by have : (16000 : Int) < s.length := (by simpa using hc); omega
    rw [show outp s = (0, 0, false) from if_pos (.inl hbig)]
    exact aw_ret (ret_p rfl rfl rfl (by simp))
  · have hsm : ¬ 16000 < s.length := by have : ¬ (16000 : Int) < s.length := (by simpa using hc); omega
    refine aw_skip ?_
    simp only [push_cast, Nat.reduceLT, Nat.reduceLeDiff, Nat.reduceEqDiff, reduceIte, reduceCtorEq, Nat.reduceAdd, Nat.reduceMul, Nat.reduceMod, Nat.reduceBEq, Nat.reduceBNe, List.reduceReplicate, Int.reduceLE, Int.reduceLT, Int.reduceNe]
    apply hK2; clear hK2
    refine aw_seq_k fun K5 hK5 => aw_region okG0 ?_; simp only [push_cast, Nat.reduceLT, Nat.reduceLeDiff, Nat.reduceEqDiff, reduceIte, reduceCtorEq, Nat.reduceAdd, Nat.reduceMul, Nat.reduceMod, Nat.reduceBEq, Nat.reduceBNe, List.reduceReplicate, Int.reduceLE, Int.reduceLT, Int.reduceNe]
    refine call_pure (l08Lines_spec s hs) (fits_of rfl) (by decide) rfl (by simp [idsV, idsVs]) ?_; simp only [push_cast, Nat.reduceLT, Nat.reduceLeDiff, Nat.reduceEqDiff, reduceIte, reduceCtorEq, Nat.reduceAdd, Nat.reduceMul, Nat.reduceMod, Nat.reduceBEq, Nat.reduceBNe, List.reduceReplicate, Int.reduceLE, Int.reduceLT, Int.reduceNe]
    apply hK5; clear hK5
    refine aw_seq_k fun K6 hK6 => ?_
    refine aw_seq_k fun K7 hK7 => aw_region okG0 ?_; simp only [push_cast, Nat.reduceLT, Nat.reduceLeDiff, Nat.reduceEqDiff, reduceIte, reduceCtorEq, Nat.reduceAdd, Nat.reduceMul, Nat.reduceMod, Nat.reduceBEq, Nat.reduceBNe, List.reduceReplicate, Int.reduceLE, Int.reduceLT, Int.reduceNe]
    apply hK7; clear hK7
    refine aw_cond rfl (fun hc => ?_) (fun hc => ?_)
    · refine aw_seq_k fun K8 hK8 => aw_region okG0 ?_; simp only [push_cast, Nat.reduceLT, Nat.reduceLeDiff, Nat.reduceEqDiff, reduceIte, reduceCtorEq, Nat.reduceAdd, Nat.reduceMul, Nat.reduceMod, Nat.reduceBEq, Nat.reduceBNe, List.reduceReplicate, Int.reduceLE, Int.reduceLT, Int.reduceNe]
      apply hK8; clear hK8
      have hne : rst s ≠ [] := by simpa using hc
      rw [show outp s = (0, 0, false) from if_pos (.inr hne)]
      exact aw_ret (ret_p rfl rfl rfl (by simp))
    · have he : rst s = [] := by simpa using hc
      refine aw_skip ?_
      simp only [push_cast, Nat.reduceLT, Nat.reduceLeDiff, Nat.reduceEqDiff, reduceIte, reduceCtorEq, Nat.reduceAdd, Nat.reduceMul, Nat.reduceMod, Nat.reduceBEq, Nat.reduceBNe, List.reduceReplicate, Int.reduceLE, Int.reduceLT, Int.reduceNe]
      apply hK6; clear hK6
      refine aw_seq_k fun K9 hK9 => aw_region okG0 ?_; simp only [push_cast, Nat.reduceLT, Nat.reduceLeDiff, Nat.reduceEqDiff, reduceIte, reduceCtorEq, Nat.reduceAdd, Nat.reduceMul, Nat.reduceMod, Nat.reduceBEq, Nat.reduceBNe, List.reduceReplicate, Int.reduceLE, Int.reduceLT, Int.reduceNe]
      apply hK9; clear hK9
      refine aw_seq_k fun K10 hK10 => ?_
      refine aw_seq_k fun K11 hK11 => aw_region okG0 ?_; simp only [push_cast, Nat.reduceLT, Nat.reduceLeDiff, Nat.reduceEqDiff, reduceIte, reduceCtorEq, Nat.reduceAdd, Nat.reduceMul, Nat.reduceMod, Nat.reduceBEq, Nat.reduceBNe, List.reduceReplicate, Int.reduceLE, Int.reduceLT, Int.reduceNe]
      apply hK11; clear hK11
      refine aw_block ?_
      refine aw_loop (fun k : {k : Nat // k ≤ (lns s).length} => ⟨[(5, .own 1400 9 .str (lns s)), (7, I (badN (lns s) k.1)), (8, I k.1)], [], [1400]⟩) (fun k => (lns s).length - k.1) ⟨0, Nat.zero_le _⟩ (sub_to (by simp [allE, getE] <;> rfl) (by simp [allB, getB] <;> rfl) rfl rfl rfl) ?_
      rintro ⟨k, hk⟩
      have hb := badN_le (lns s) k
      refine aw_seq_k fun K12 hK12 => ?_
      refine aw_seq_k fun K13 hK13 => aw_region okG0 ?_; simp only [push_cast, Nat.reduceLT, Nat.reduceLeDiff, Nat.reduceEqDiff, reduceIte, reduceCtorEq, Nat.reduceAdd, Nat.reduceMul, Nat.reduceMod, Nat.reduceBEq, Nat.reduceBNe, List.reduceReplicate, Int.reduceLE, Int.reduceLT, Int.reduceNe]
      apply hK13; clear hK13
      refine aw_cond rfl (fun hc => ?_) (fun hc => ?_)
      · have hlt : k < (lns s).length := by simpa using hc
        refine aw_skip ?_
        simp only [push_cast, Nat.reduceLT, Nat.reduceLeDiff, Nat.reduceEqDiff, reduceIte, reduceCtorEq, Nat.reduceAdd, Nat.reduceMul, Nat.reduceMod, Nat.reduceBEq, Nat.reduceBNe, List.reduceReplicate, Int.reduceLE, Int.reduceLT, Int.reduceNe]
        apply hK12; clear hK12
        refine aw_seq_k fun K14 hK14 => ?_
        refine aw_block ?_
        refine aw_seq_k fun K15 hK15 => aw_region okG0 ?_; simp only [push_cast, Nat.reduceLT, Nat.reduceLeDiff, Nat.reduceEqDiff, reduceIte, reduceCtorEq, Nat.reduceAdd, Nat.reduceMul, Nat.reduceMod, Nat.reduceBEq, Nat.reduceBNe, List.reduceReplicate, Int.reduceLE, Int.reduceLT, Int.reduceNe]
        have hlen : (lns s).length ≤ 1048577 := by omega
        refine ⟨by unfold InR; omega, hlt, ⟨fun h => ⟨by rw [h]; rfl, by unfold InR; omega⟩, fun h => ⟨by rw [h]; rfl, hlt⟩, ?_⟩⟩
        apply hK15; clear hK15
        refine aw_cond rfl (fun hc => ?_) (fun hc => ?_)
        · have hbad : isBad ((lns s).getD k []) = true := hc
          refine aw_region okG0 ?_
          simp only [push_cast, Nat.reduceLT, Nat.reduceLeDiff, Nat.reduceEqDiff, reduceIte, reduceCtorEq, Nat.reduceAdd, Nat.reduceMul, Nat.reduceMod, Nat.reduceBEq, Nat.reduceBNe, List.reduceReplicate, Int.reduceLE, Int.reduceLT, Int.reduceNe]
          apply hK14; clear hK14
          refine aw_region okG0 ?_
          simp only [push_cast, Nat.reduceLT, Nat.reduceLeDiff, Nat.reduceEqDiff, reduceIte, reduceCtorEq, Nat.reduceAdd, Nat.reduceMul, Nat.reduceMod, Nat.reduceBEq, Nat.reduceBNe, List.reduceReplicate, Int.reduceLE, Int.reduceLT, Int.reduceNe]
          refine ⟨⟨k + 1, by omega⟩, ?_, by show (lns s).length - (k + 1) < (lns s).length - k; omega⟩
          rw [w64 (n := (k : Int) + 1) (by omega) (by omega), w64 (n := (badN (lns s) k : Int) + 1) (by omega) (by omega), show badN (lns s) (k + 1) = badN (lns s) k + 1 by simp only [badN]; rw [if_pos hbad]]
          exact sub_to (by simp [allE, getE] <;> rfl) (by simp [allB, getB] <;> rfl) rfl rfl rfl
        · have hbad : ¬ isBad ((lns s).getD k []) = true := by rw [Bool.not_eq_true]; exact hc
          refine aw_skip ?_
          simp only [push_cast, Nat.reduceLT, Nat.reduceLeDiff, Nat.reduceEqDiff, reduceIte, reduceCtorEq, Nat.reduceAdd, Nat.reduceMul, Nat.reduceMod, Nat.reduceBEq, Nat.reduceBNe, List.reduceReplicate, Int.reduceLE, Int.reduceLT, Int.reduceNe]
          apply hK14; clear hK14
          refine aw_region okG0 ?_
          simp only [push_cast, Nat.reduceLT, Nat.reduceLeDiff, Nat.reduceEqDiff, reduceIte, reduceCtorEq, Nat.reduceAdd, Nat.reduceMul, Nat.reduceMod, Nat.reduceBEq, Nat.reduceBNe, List.reduceReplicate, Int.reduceLE, Int.reduceLT, Int.reduceNe]
          refine ⟨⟨k + 1, by omega⟩, ?_, by show (lns s).length - (k + 1) < (lns s).length - k; omega⟩
          rw [w64 (n := (k : Int) + 1) (by omega) (by omega), show badN (lns s) (k + 1) = badN (lns s) k by simp only [badN]; rw [if_neg hbad]; rfl]
          exact sub_to (by simp [allE, getE] <;> rfl) (by simp [allB, getB] <;> rfl) rfl rfl rfl
      · have hlt : k = (lns s).length := by have : ¬ (k : Int) < (lns s).length := by simpa using hc
                                            omega
        subst hlt
        refine aw_exit ?_
        simp only [push_cast, Nat.reduceLT, Nat.reduceLeDiff, Nat.reduceEqDiff, reduceIte, reduceCtorEq, Nat.reduceAdd, Nat.reduceMul, Nat.reduceMod, Nat.reduceBEq, Nat.reduceBNe, List.reduceReplicate, Int.reduceLE, Int.reduceLT, Int.reduceNe]
        apply hK10; clear hK10
        refine aw_seq_k fun K16 hK16 => aw_region okG0 ?_; simp only [push_cast, Nat.reduceLT, Nat.reduceLeDiff, Nat.reduceEqDiff, reduceIte, reduceCtorEq, Nat.reduceAdd, Nat.reduceMul, Nat.reduceMod, Nat.reduceBEq, Nat.reduceBNe, List.reduceReplicate, Int.reduceLE, Int.reduceLT, Int.reduceNe]
        apply hK16; clear hK16
        rw [w64 (n := ((lns s).length : Int) - (badN (lns s) (lns s).length : Nat)) (by omega) (by omega)]
        refine aw_ret (ret_p rfl ?_ rfl (by simp))
        rw [outp_ok hsm he]
        rfl
end Go.Proofs.Avx

set_option linter.unusedVariables false
namespace Go.Proofs
open Go.Shelf
def Tryd.lays137_ren : Go.Shelf.Ren := ⟨fun | 137 => 57 | 217 => 74 | 266 => 91 | n => n, fun | 9 => 9 | 5 => 5 | 3 => 3 | n => n, fun | n => n⟩
theorem Tryd.lays137 : Go.Proofs.Lays.n137 Tryd.prog Tryd.lays137_ren := {
  mixed := by kernel_rfl
  f137 := Tryd.func57.trans (congrArg some (by kernel_rfl))
  f217 := Tryd.func74.trans (congrArg some (by kernel_rfl))
  f266 := Tryd.func91.trans (congrArg some (by kernel_rfl))
  t3 := Tryd.underlying3
  a3 := Tryd.isAgg3
  z3 := Tryd.sizeOf3
  v3 := Tryd.zeroValue3
  t5 := Tryd.underlying5
  a5 := Tryd.isAgg5
  z5 := Tryd.sizeOf5
  v5 := Tryd.zeroValue5
  t9 := Tryd.underlying9
  a9 := Tryd.isAgg9
  z9 := Tryd.sizeOf9
  v9 := Tryd.zeroValue9 }
def Tryd.laysM173_ren : Go.Shelf.Ren := ⟨fun | 173 => 56 | 246 => 73 | 283 => 87 | 284 => 88 | 285 => 89 | 286 => 90 | 129 => 102 | 317 => 101 | 318 => 103 | 319 => 104 | 320 => 105 | 337 => 109 | 338 => 110 | n => n, fun | 2 => 2 | 3 => 3 | 9 => 9 | 4 => 4 | 171 => 106 | 0 => 0 | 53 => 107 | 37 => 53 | 5 => 5 | 173 => 110 | 212 => 121 | 51 => 117 | 20 => 20 | 213 => 122 | 46 => 105 | 232 => 133 | 233 => 134 | n => n, fun | 17 => 1 | 18 => 4 | 19 => 5 | n => n⟩
theorem Tryd.laysM173 : Go.Proofs.LaysM.n173 Tryd.prog Tryd.laysM173_ren := {
  mixed := by kernel_rfl
  f129 := Tryd.func102.trans (congrArg some (by kernel_rfl))
  f173 := Tryd.func56.trans (congrArg some (by kernel_rfl))
  f246 := Tryd.func73.trans (congrArg some (by kernel_rfl))
  f283 := Tryd.func87.trans (congrArg some (by kernel_rfl))
  f284 := Tryd.func88.trans (congrArg some (by kernel_rfl))
  f285 := Tryd.func89.trans (congrArg some (by kernel_rfl))
  f286 := Tryd.func90.trans (congrArg some (by kernel_rfl))
  f317 := Tryd.func101.trans (congrArg some (by kernel_rfl))
  f318 := Tryd.func103.trans (congrArg some (by kernel_rfl))
  f319 := Tryd.func104.trans (congrArg some (by kernel_rfl))
  f320 := Tryd.func105.trans (congrArg some (by kernel_rfl))
  f337 := Tryd.func109.trans (congrArg some (by kernel_rfl))
  f338 := Tryd.func110.trans (congrArg some (by kernel_rfl))
  t0 := Tryd.underlying0
  a0 := Tryd.isAgg0
  z0 := Tryd.sizeOf0
  v0 := Tryd.zeroValue0
  t2 := Tryd.underlying2
  a2 := Tryd.isAgg2
  z2 := Tryd.sizeOf2
  v2 := Tryd.zeroValue2
  t3 := Tryd.underlying3
  a3 := Tryd.isAgg3
  z3 := Tryd.sizeOf3
  v3 := Tryd.zeroValue3
  t4 := Tryd.underlying4
  a4 := Tryd.isAgg4
  z4 := Tryd.sizeOf4
  v4 := Tryd.zeroValue4
  t5 := Tryd.underlying5
  a5 := Tryd.isAgg5
  z5 := Tryd.sizeOf5
  v5 := Tryd.zeroValue5
  t9 := Tryd.underlying9
  a9 := Tryd.isAgg9
  z9 := Tryd.sizeOf9
  v9 := Tryd.zeroValue9
  t20 := Tryd.underlying20
  a20 := Tryd.isAgg20
  z20 := Tryd.sizeOf20
  v20 := Tryd.zeroValue20
  t37 := Tryd.underlying53
  a37 := Tryd.isAgg53
  z37 := Tryd.sizeOf53
  v37 := Tryd.zeroValue53
  t46 := Tryd.underlying105
  a46 := Tryd.isAgg105
  z46 := Tryd.sizeOf105
  v46 := Tryd.zeroValue105
  t51 := Tryd.underlying117
  a51 := Tryd.isAgg117
  z51 := Tryd.sizeOf117
  v51 := Tryd.zeroValue117
  t53 := Tryd.underlying107
  a53 := Tryd.isAgg107
  z53 := Tryd.sizeOf107
  v53 := Tryd.zeroValue107
  t171 := Tryd.underlying106
  a171 := Tryd.isAgg106
  z171 := Tryd.sizeOf106
  v171 := Tryd.zeroValue106
  t173 := Tryd.underlying110
  a173 := Tryd.isAgg110
  z173 := Tryd.sizeOf110
  v173 := Tryd.zeroValue110
  t212 := Tryd.underlying121
  a212 := Tryd.isAgg121
  z212 := Tryd.sizeOf121
  v212 := Tryd.zeroValue121
  t213 := Tryd.underlying122
  a213 := Tryd.isAgg122
  z213 := Tryd.sizeOf122
  t232 := Tryd.underlying133
  a232 := Tryd.isAgg133
  z232 := Tryd.sizeOf133
  v232 := Tryd.zeroValue133
  t233 := Tryd.underlying134
  a233 := Tryd.isAgg134
  z233 := Tryd.sizeOf134
  v233 := Tryd.zeroValue134
  g17 := by kernel_rfl
  g18 := by kernel_rfl
  g19 := by kernel_rfl
  i0 := by kernel_rfl
  i2 := by kernel_rfl
  i3 := by kernel_rfl
  i4 := by kernel_rfl
  i5 := by kernel_rfl
  i9 := by kernel_rfl
  i20 := by kernel_rfl
  i37 := by kernel_rfl
  i46 := by kernel_rfl
  i51 := by kernel_rfl
  i53 := by kernel_rfl
  i171 := by kernel_rfl
  i173 := by kernel_rfl
  i212 := by kernel_rfl
  i232 := by kernel_rfl
  i233 := by kernel_rfl
  m17 := by kernel_rfl
  m18 := by kernel_rfl
  m19 := by kernel_rfl }
def Tryd.lays219_ren : Go.Shelf.Ren := ⟨fun | 219 => 71 | 217 => 74 | 225 => 84 | 224 => 85 | 267 => 86 | 266 => 91 | 314 => 100 | n => n, fun | 9 => 9 | 3 => 3 | 4 => 4 | 5 => 5 | 46 => 105 | 146 => 118 | 51 => 117 | n => n, fun | 1 => 0 | n => n⟩
theorem Tryd.lays219 : Go.Proofs.Lays.n219 Tryd.prog Tryd.lays219_ren := {
  mixed := by kernel_rfl
  f217 := Tryd.func74.trans (congrArg some (by kernel_rfl))
  f219 := Tryd.func71.trans (congrArg some (by kernel_rfl))
  f224 := Tryd.func85.trans (congrArg some (by kernel_rfl))
  f225 := Tryd.func84.trans (congrArg some (by kernel_rfl))
  f266 := Tryd.func91.trans (congrArg some (by kernel_rfl))
  f267 := Tryd.func86.trans (congrArg some (by kernel_rfl))
  f314 := Tryd.func100.trans (congrArg some (by kernel_rfl))
  t3 := Tryd.underlying3
  a3 := Tryd.isAgg3
  z3 := Tryd.sizeOf3
  v3 := Tryd.zeroValue3
  t4 := Tryd.underlying4
  a4 := Tryd.isAgg4
  z4 := Tryd.sizeOf4
  v4 := Tryd.zeroValue4
  t5 := Tryd.underlying5
  a5 := Tryd.isAgg5
  z5 := Tryd.sizeOf5
  v5 := Tryd.zeroValue5
  t9 := Tryd.underlying9
  a9 := Tryd.isAgg9
  z9 := Tryd.sizeOf9
  v9 := Tryd.zeroValue9
  t46 := Tryd.underlying105
  a46 := Tryd.isAgg105
  z46 := Tryd.sizeOf105
  v46 := Tryd.zeroValue105
  t51 := Tryd.underlying117
  a51 := Tryd.isAgg117
  z51 := Tryd.sizeOf117
  v51 := Tryd.zeroValue117
  t146 := Tryd.underlying118
  a146 := Tryd.isAgg118
  z146 := Tryd.sizeOf118
  v146 := Tryd.zeroValue118
  g1 := by kernel_rfl }
def Tryd.lays143_ren : Go.Shelf.Ren := ⟨fun | 143 => 53 | 219 => 71 | 217 => 74 | 225 => 84 | 224 => 85 | 267 => 86 | 266 => 91 | 314 => 100 | n => n, fun | 9 => 9 | 3 => 3 | 4 => 4 | 5 => 5 | 46 => 105 | 146 => 118 | 51 => 117 | n => n, fun | 1 => 0 | n => n⟩
theorem Tryd.lays143 : Go.Proofs.Lays.n143 Tryd.prog Tryd.lays143_ren := {
  mixed := by kernel_rfl
  f143 := Tryd.func53.trans (congrArg some (by kernel_rfl))
  f217 := Tryd.func74.trans (congrArg some (by kernel_rfl))
  f219 := Tryd.func71.trans (congrArg some (by kernel_rfl))
  f224 := Tryd.func85.trans (congrArg some (by kernel_rfl))
  f225 := Tryd.func84.trans (congrArg some (by kernel_rfl))
  f266 := Tryd.func91.trans (congrArg some (by kernel_rfl))
  f267 := Tryd.func86.trans (congrArg some (by kernel_rfl))
  f314 := Tryd.func100.trans (congrArg some (by kernel_rfl))
  t3 := Tryd.underlying3
  a3 := Tryd.isAgg3
  z3 := Tryd.sizeOf3
  v3 := Tryd.zeroValue3
  t4 := Tryd.underlying4
  a4 := Tryd.isAgg4
  z4 := Tryd.sizeOf4
  v4 := Tryd.zeroValue4
  t5 := Tryd.underlying5
  a5 := Tryd.isAgg5
  z5 := Tryd.sizeOf5
  v5 := Tryd.zeroValue5
  t9 := Tryd.underlying9
  a9 := Tryd.isAgg9
  z9 := Tryd.sizeOf9
  v9 := Tryd.zeroValue9
  t46 := Tryd.underlying105
  a46 := Tryd.isAgg105
  z46 := Tryd.sizeOf105
  v46 := Tryd.zeroValue105
  t51 := Tryd.underlying117
  a51 := Tryd.isAgg117
  z51 := Tryd.sizeOf117
  v51 := Tryd.zeroValue117
  t146 := Tryd.underlying118
  a146 := Tryd.isAgg118
  z146 := Tryd.sizeOf118
  v146 := Tryd.zeroValue118
  g1 := by kernel_rfl }
def Tryd.lays138_ren : Go.Shelf.Ren := ⟨fun | 138 => 83 | 195 => 97 | 218 => 99 | 143 => 53 | 219 => 71 | 217 => 74 | 225 => 84 | 224 => 85 | 267 => 86 | 266 => 91 | 314 => 100 | n => n, fun | 9 => 9 | 3 => 3 | 4 => 4 | 5 => 5 | 0 => 0 | 46 => 105 | 146 => 118 | 51 => 117 | n => n, fun | 1 => 0 | n => n⟩
theorem Tryd.lays138 : Go.Proofs.Lays.n138 Tryd.prog Tryd.lays138_ren := {
  mixed := by kernel_rfl
  f138 := Tryd.func83.trans (congrArg some (by kernel_rfl))
  f143 := Tryd.func53.trans (congrArg some (by kernel_rfl))
  f195 := Tryd.func97.trans (congrArg some (by kernel_rfl))
  f217 := Tryd.func74.trans (congrArg some (by kernel_rfl))
  f218 := Tryd.func99.trans (congrArg some (by kernel_rfl))
  f219 := Tryd.func71.trans (congrArg some (by kernel_rfl))
  f224 := Tryd.func85.trans (congrArg some (by kernel_rfl))
  f225 := Tryd.func84.trans (congrArg some (by kernel_rfl))
  f266 := Tryd.func91.trans (congrArg some (by kernel_rfl))
  f267 := Tryd.func86.trans (congrArg some (by kernel_rfl))
  f314 := Tryd.func100.trans (congrArg some (by kernel_rfl))
  t0 := Tryd.underlying0
  a0 := Tryd.isAgg0
  z0 := Tryd.sizeOf0
  v0 := Tryd.zeroValue0
  t3 := Tryd.underlying3
  a3 := Tryd.isAgg3
  z3 := Tryd.sizeOf3
  v3 := Tryd.zeroValue3
  t4 := Tryd.underlying4
  a4 := Tryd.isAgg4
  z4 := Tryd.sizeOf4
  v4 := Tryd.zeroValue4
  t5 := Tryd.underlying5
  a5 := Tryd.isAgg5
  z5 := Tryd.sizeOf5
  v5 := Tryd.zeroValue5
  t9 := Tryd.underlying9
  a9 := Tryd.isAgg9
  z9 := Tryd.sizeOf9
  v9 := Tryd.zeroValue9
  t46 := Tryd.underlying105
  a46 := Tryd.isAgg105
  z46 := Tryd.sizeOf105
  v46 := Tryd.zeroValue105
  t51 := Tryd.underlying117
  a51 := Tryd.isAgg117
  z51 := Tryd.sizeOf117
  v51 := Tryd.zeroValue117
  t146 := Tryd.underlying118
  a146 := Tryd.isAgg118
  z146 := Tryd.sizeOf118
  v146 := Tryd.zeroValue118
  g1 := by kernel_rfl }
def Tryd.lays221_ren : Go.Shelf.Ren := ⟨fun | 221 => 70 | 268 => 82 | 138 => 83 | 143 => 53 | 195 => 97 | 197 => 98 | 218 => 99 | 219 => 71 | 260 => 108 | 217 => 74 | 225 => 84 | 224 => 85 | 267 => 86 | 266 => 91 | 314 => 100 | n => n, fun | 9 => 9 | 3 => 3 | 31 => 25 | 4 => 4 | 0 => 0 | 105 => 115 | 21 => 21 | 5 => 5 | 46 => 105 | 119 => 129 | 139 => 132 | 138 => 131 | 146 => 118 | 51 => 117 | n => n, fun | 1 => 0 | 3 => 2 | 4 => 3 | n => n⟩
theorem Tryd.lays221 : Go.Proofs.Lays.n221 Tryd.prog Tryd.lays221_ren := {
  mixed := by kernel_rfl
  f138 := Tryd.func83.trans (congrArg some (by kernel_rfl))
  f143 := Tryd.func53.trans (congrArg some (by kernel_rfl))
  f195 := Tryd.func97.trans (congrArg some (by kernel_rfl))
  f197 := Tryd.func98.trans (congrArg some (by kernel_rfl))
  f217 := Tryd.func74.trans (congrArg some (by kernel_rfl))
  f218 := Tryd.func99.trans (congrArg some (by kernel_rfl))
  f219 := Tryd.func71.trans (congrArg some (by kernel_rfl))
  f221 := Tryd.func70.trans (congrArg some (by kernel_rfl))
  f224 := Tryd.func85.trans (congrArg some (by kernel_rfl))
  f225 := Tryd.func84.trans (congrArg some (by kernel_rfl))
  f260 := Tryd.func108.trans (congrArg some (by kernel_rfl))
  f266 := Tryd.func91.trans (congrArg some (by kernel_rfl))
  f267 := Tryd.func86.trans (congrArg some (by kernel_rfl))
  f268 := Tryd.func82.trans (congrArg some (by kernel_rfl))
  f314 := Tryd.func100.trans (congrArg some (by kernel_rfl))
  t0 := Tryd.underlying0
  a0 := Tryd.isAgg0
  z0 := Tryd.sizeOf0
  v0 := Tryd.zeroValue0
  t3 := Tryd.underlying3
  a3 := Tryd.isAgg3
  z3 := Tryd.sizeOf3
  v3 := Tryd.zeroValue3
  t4 := Tryd.underlying4
  a4 := Tryd.isAgg4
  z4 := Tryd.sizeOf4
  v4 := Tryd.zeroValue4
  t5 := Tryd.underlying5
  a5 := Tryd.isAgg5
  z5 := Tryd.sizeOf5
  v5 := Tryd.zeroValue5
  t9 := Tryd.underlying9
  a9 := Tryd.isAgg9
  z9 := Tryd.sizeOf9
  v9 := Tryd.zeroValue9
  t21 := Tryd.underlying21
  a21 := Tryd.isAgg21
  z21 := Tryd.sizeOf21
  v21 := Tryd.zeroValue21
  t31 := Tryd.underlying25
  a31 := Tryd.isAgg25
  z31 := Tryd.sizeOf25
  v31 := Tryd.zeroValue25
  t46 := Tryd.underlying105
  a46 := Tryd.isAgg105
  z46 := Tryd.sizeOf105
  v46 := Tryd.zeroValue105
  t51 := Tryd.underlying117
  a51 := Tryd.isAgg117
  z51 := Tryd.sizeOf117
  v51 := Tryd.zeroValue117
  t105 := Tryd.underlying115
  a105 := Tryd.isAgg115
  z105 := Tryd.sizeOf115
  v105 := Tryd.zeroValue115
  t119 := Tryd.underlying129
  a119 := Tryd.isAgg129
  z119 := Tryd.sizeOf129
  t138 := Tryd.underlying131
  a138 := Tryd.isAgg131
  z138 := Tryd.sizeOf131
  v138 := Tryd.zeroValue131
  t139 := Tryd.underlying132
  a139 := Tryd.isAgg132
  z139 := Tryd.sizeOf132
  v139 := Tryd.zeroValue132
  t146 := Tryd.underlying118
  a146 := Tryd.isAgg118
  z146 := Tryd.sizeOf118
  v146 := Tryd.zeroValue118
  g1 := by kernel_rfl
  g3 := by kernel_rfl
  g4 := by kernel_rfl }
end Go.Proofs

set_option linter.unusedVariables false
set_option linter.unusedSimpArgs false
namespace Go.Proofs.Avx
theorem indexByte_spec (c : UInt8) : ∀ l : List UInt8, (c ∉ l ∧ Lib.indexByte l c = -1) ∨ ∃ a b, l = a ++ c :: b ∧ c ∉ a ∧ Lib.indexByte l c = a.length
  | [] => .inl ⟨by simp, rfl⟩
  | x :: l => by
    unfold Lib.indexByte
    by_cases h : x = c
    · subst h
      exact .inr ⟨[], l, rfl, by simp, by simp⟩
    · rw [if_neg (by simpa using h)]
      rcases indexByte_spec c l with ⟨h1, h2⟩ | ⟨a, b, rfl, h1, h2⟩
      · rw [h2]; exact .inl ⟨by simp [h1, Ne.symm h], rfl⟩
      · right
        refine ⟨x :: a, b, rfl, by simp [h1, Ne.symm h], ?_⟩
        rw [h2, if_neg (by simp <;> omega)]
        simp
theorem index_one (c : UInt8) : ∀ l : List UInt8, Lib.index l [c] = Lib.indexByte l c
  | [] => rfl
  | x :: l => by
    unfold Lib.index Lib.indexByte
    rw [index_one c l]
    by_cases h : x = c
    · subst h; simp [List.isPrefixOf]
    · simp [List.isPrefixOf, h, Ne.symm h]
theorem splitK_cuts (c : UInt8) : ∀ (n : Nat) (s : List UInt8), s.count c = n → Lib.splitK [c] 0 n s = cuts c s
  | 0, s, h => by
    rw [cuts_not (List.count_eq_zero.1 h)]; rfl
  | n + 1, s, h => by
    unfold Lib.splitK
    rw [index_one]
    rcases indexByte_spec c s with ⟨h1, h2⟩ | ⟨a, b, rfl, h1, h2⟩
    · rw [List.count_eq_zero.2 h1] at h; simp at h
    · rw [h2, if_neg (by simp <;> omega), cuts_app b h1]
      have ha : (a.length : Int).toNat = a.length := by omega
      rw [ha]
      simp only [Nat.add_zero, List.length_cons, List.length_nil, Nat.zero_add]
      rw [show (a ++ c :: b).drop (a.length + 1) = b by rw [List.drop_append, List.drop_eq_nil_of_le (by omega)]; simp, splitK_cuts c n b (by
        rw [List.count_append, List.count_eq_zero.2 h1, List.count_cons_self] at h; omega)]
      simp
theorem splitB_cuts (c : UInt8) (s : ByteArray) : (Lib.splitB ⟨#[c]⟩ 0 (Lib.countB s ⟨#[c]⟩) s).map (·.data.toList) = cuts c s.data.toList := by
  rw [Lib.splitB_data]
  refine splitK_cuts c _ _ ?_
  show _ = Lib.count s.data.toList [c]
  rw [Lib.count_one]
theorem relL_strs {Y : Nat → Prop} {w : World} : ∀ (l : List (List UInt8)), relL (relT Y w .str) l (l.map fun s => Value.string ⟨s.toArray⟩)
  | [] => rfl
  | a :: l => ⟨[.string ⟨a.toArray⟩], _, rfl, rfl, relL_strs l⟩
theorem genSplit_spec (s : List UInt8) (c : UInt8) (hs : s.length ≤ 1048576) : AFp Tryd.prog 70 [St8 s, St8 [c], I 0, I (-1)] (.own 0 9 .str (cuts c s)) := by
  have hl := cuts_len c s
  refine AF_row (vs := [.string ⟨s.toArray⟩, .string ⟨#[c]⟩, .int .i64 0, .int .i64 (-1)]) ⟨Tryd.f70, Tryd.func70, by kernel_rfl, by kernel_rfl⟩ (fun β Y w us h => ?_) ((cuts c s).map fun s => Value.string ⟨s.toArray⟩) (fun Y w => relL_strs _) (by unfold maxLen; omega) (fun _ w _ _ => ?_)
  · simp only [relVs, relV, relT] at h
    obtain ⟨a, d, rfl, ha, b, e, rfl, hb, f, g, rfl, hf, i, j, rfl, hi, rfl⟩ := h
    simp only [List.cons.injEq, and_true] at ha hb hf hi
    rw [ha, hb, hf, hi]
  · have hsz : (⟨s.toArray⟩ : ByteArray).size = s.length := by simp [ByteArray.size]
    have hle := Lib.countB_le ⟨#[c]⟩ (Nat.le_refl 1) _ (⟨s.toArray⟩ : ByteArray) (Nat.le_refl _)
    have hb := splitB_cuts c ⟨s.toArray⟩
    have hlen := congrArg List.length hb
    have hall := Lib.splitB_all ⟨#[c]⟩ (Nat.le_refl 1) 0 _ (⟨s.toArray⟩ : ByteArray) rfl
    rw [List.length_map, hall] at hlen
    have core := Any.strings_genSplit_core Tryd.lays221 (by kernel_rfl) ⟨s.toArray⟩ ⟨#[c]⟩ 0 (-1) (Lib.countB ⟨s.toArray⟩ ⟨#[c]⟩ + 1) w (by rw [hsz]; omega) (Nat.le_refl 1) (Nat.zero_le _)
      (fun x cs hx => (Any.strings_Index_one Tryd.lays143 x c _).mono fun e w' ⟨he, hw⟩ => ⟨by rw [he, ← index_one] <;> rfl, hw⟩)
      ((Any.strings_Count_one Tryd.lays138 ⟨s.toArray⟩ c w).mono fun e w' ⟨he, hw⟩ => ⟨by rw [he]; show _ = Ending.returned (Value.int .i64 ((Lib.count s [c] : Nat) : Int)); rw [Lib.count_one] <;> rfl, hw⟩)
      (by decide) (by decide) (by rw [if_pos (by decide)]; omega)
    refine core.mono ?_
    rintro e w' ⟨he, hw⟩
    rw [Nat.add_sub_cancel] at he hw
    have hc2 : Lib.cellsOf (Lib.splitB ⟨#[c]⟩ 0 (Lib.countB ⟨s.toArray⟩ ⟨#[c]⟩) ⟨s.toArray⟩) (Lib.countB ⟨s.toArray⟩ ⟨#[c]⟩ + 1) = ((cuts c s).map fun s => Value.string ⟨s.toArray⟩).toArray := by
      rw [← hall, Lib.cellsOf_full, ← hb, List.map_map]
      rfl
    rw [hc2] at hw
    rw [hall, hlen] at he
    exact ⟨he, hw⟩
theorem Split_spec (s : List UInt8) (c : UInt8) (hs : s.length ≤ 1048576) : AFp Tryd.prog 50 [St8 s, St8 [c]] (.own 0 9 .str (cuts c s)) := by
  refine AF_body okG0 Tryd.func50 rfl rfl (by simp [Tryd.ntmps50]) (by simp) ?_; simp only [Tryd.ntmps50]
  refine aw_seq_k fun K1 hK1 => aw_region okG0 ?_; simp only [push_cast, Nat.reduceLT, Nat.reduceLeDiff, Nat.reduceEqDiff, reduceIte, reduceCtorEq, Nat.reduceAdd, Nat.reduceMul, Nat.reduceMod, Nat.reduceBEq, Nat.reduceBNe, List.reduceReplicate, Int.reduceLE, Int.reduceLT, Int.reduceNe]
  apply hK1; clear hK1
  refine aw_seq_k fun K2 hK2 => aw_region okG0 ?_; simp only [push_cast, Nat.reduceLT, Nat.reduceLeDiff, Nat.reduceEqDiff, reduceIte, reduceCtorEq, Nat.reduceAdd, Nat.reduceMul, Nat.reduceMod, Nat.reduceBEq, Nat.reduceBNe, List.reduceReplicate, Int.reduceLE, Int.reduceLT, Int.reduceNe]
  refine call_pure (genSplit_spec s c hs) (fits_of rfl) (by decide) rfl (by simp [idsV, idsVs]) ?_; simp only [push_cast, Nat.reduceLT, Nat.reduceLeDiff, Nat.reduceEqDiff, reduceIte, reduceCtorEq, Nat.reduceAdd, Nat.reduceMul, Nat.reduceMod, Nat.reduceBEq, Nat.reduceBNe, List.reduceReplicate, Int.reduceLE, Int.reduceLT, Int.reduceNe]
  apply hK2; clear hK2
  exact aw_ret (ret_o [(700, 0)] rfl rfl (by simp [renN]) rfl)
end Go.Proofs.Avx

set_option linter.unusedVariables false
set_option linter.unusedSimpArgs false
namespace Go.Proofs.Avx
/-- A text parted at the first mark. -/
def brk (c : UInt8) : List UInt8 → Option (List UInt8 × List UInt8)
  | [] => none
  | b :: l => if b = c then some ([], l) else (brk c l).map fun x => (b :: x.1, x.2)
theorem brk_spec (c : UInt8) : ∀ l : List UInt8, (c ∉ l ∧ brk c l = none) ∨ ∃ a b, l = a ++ c :: b ∧ c ∉ a ∧ brk c l = some (a, b)
  | [] => .inl ⟨by simp, rfl⟩
  | x :: l => by
    unfold brk
    by_cases h : x = c
    · subst h
      rw [if_pos rfl]
      exact .inr ⟨[], l, rfl, by simp, rfl⟩
    · rw [if_neg h]
      rcases brk_spec c l with ⟨h1, h2⟩ | ⟨a, b, rfl, h1, h2⟩
      · rw [h2]; exact .inl ⟨by simp [h1, Ne.symm h], rfl⟩
      · rw [h2]; exact .inr ⟨x :: a, b, rfl, by simp [h1, Ne.symm h], rfl⟩
theorem app_inj {c : UInt8} : ∀ {a a' b b' : List UInt8}, c ∉ a → c ∉ a' → a ++ c :: b = a' ++ c :: b' → a = a' ∧ b = b'
  | [], [], b, b', _, _, h => by simpa using h
  | [], x :: a', b, b', _, h2, h => by
    simp only [List.nil_append, List.cons_append, List.cons.injEq] at h
    exact absurd (by rw [h.1]; simp) h2
  | x :: a, [], b, b', h1, _, h => by
    simp only [List.nil_append, List.cons_append, List.cons.injEq] at h
    exact absurd (by rw [h.1]; simp) h1
  | x :: a, y :: a', b, b', h1, h2, h => by
    simp only [List.cons_append, List.cons.injEq] at h
    have := app_inj (fun hc => h1 (List.mem_cons_of_mem _ hc)) (fun hc => h2 (List.mem_cons_of_mem _ hc)) h.2
    exact ⟨by rw [h.1, this.1], this.2⟩
theorem index_brk (c : UInt8) (l : List UInt8) : (brk c l = none ∧ Lib.indexByte l c = -1) ∨ ∃ a b, l = a ++ c :: b ∧ c ∉ a ∧ brk c l = some (a, b) ∧ Lib.indexByte l c = a.length := by
  rcases brk_spec c l with ⟨h1, h2⟩ | ⟨a, b, rfl, h1, h2⟩
  · rcases indexByte_spec c l with ⟨_, h3⟩ | ⟨a, b, rfl, _⟩
    · exact .inl ⟨h2, h3⟩
    · simp at h1
  · rcases indexByte_spec c (a ++ c :: b) with ⟨h3, _⟩ | ⟨a', b', h3, h4, h5⟩
    · simp at h3
    · obtain ⟨rfl, rfl⟩ := app_inj h1 h4 h3
      exact .inr ⟨a, b, rfl, h1, h2, h5⟩
theorem args2 {s t : List UInt8} : ∀ (β : Nat → Nat) (Y : Nat → Prop) (w : World) (us : List Value), relVs [] β Y w [St8 s, St8 t] us → us = [.string ⟨s.toArray⟩, .string ⟨t.toArray⟩] := fun β Y w us h => by
  simp only [relVs, relV, relT] at h
  obtain ⟨a, d, rfl, ha, b, e, rfl, hb, rfl⟩ := h
  simp only [List.cons.injEq, and_true] at ha hb
  rw [ha, hb]
theorem IndexByte_spec (s : List UInt8) (c : UInt8) : AFp Tryd.prog 57 [St8 s, S8 c.toNat] (I (Lib.indexByte s c)) := by
  refine AF_val (vs := [.string ⟨s.toArray⟩, .int .u8 c.toNat]) (v := .int .i64 (Lib.indexByte s c)) ⟨Tryd.f57, Tryd.func57, by kernel_rfl, by kernel_rfl⟩ (fun β Y w us h => ?_) rfl (fun β Y w => by simp [relV, relT]) (fun Y w _ _ => ?_)
  · simp only [relVs, relV, relT] at h
    obtain ⟨a, d, rfl, ha, b, e, rfl, hb, rfl⟩ := h
    simp only [List.cons.injEq, and_true] at ha hb
    rw [ha, hb]
  · refine (Any.strings_IndexByte Tryd.lays137 ⟨s.toArray⟩ c.toNat w).mono ?_
    rintro e w' ⟨he, hw⟩
    rw [hw]
    refine ⟨?_, Ext.refl _⟩
    rw [he]
    simp
theorem Index_spec (s : List UInt8) (c : UInt8) : AFp Tryd.prog 71 [St8 s, St8 [c]] (I (Lib.indexByte s c)) := by
  refine AF_val (vs := [.string ⟨s.toArray⟩, .string ⟨#[c]⟩]) (v := .int .i64 (Lib.indexByte s c)) ⟨Tryd.f71, Tryd.func71, by kernel_rfl, by kernel_rfl⟩ args2 rfl (fun β Y w => by simp [relV, relT]) (fun Y w _ _ => ?_)
  refine (Any.stringslite_Index_one Tryd.lays219 ⟨s.toArray⟩ c w).mono ?_
  rintro e w' ⟨he, hw⟩
  rw [hw]
  exact ⟨he, Ext.refl _⟩
def cutR (c : UInt8) (s : List UInt8) : List UInt8 × List UInt8 × Bool := match brk c s with
  | some (a, b) => (a, b, true)
  | none => (s, [], false)
theorem lCut_spec (s : List UInt8) (c : UInt8) (hs : s.length ≤ 1048576) : AFp Tryd.prog 75 [St8 s, St8 [c]] (.tup [St8 (cutR c s).1, St8 (cutR c s).2.1, Bo (cutR c s).2.2]) := by
  refine AF_body okG0 Tryd.func75 rfl rfl (by simp [Tryd.ntmps75]) (by simp) ?_; simp only [Tryd.ntmps75]
  refine aw_seq_k fun K1 hK1 => aw_region okG0 ?_; simp only [push_cast, Nat.reduceLT, Nat.reduceLeDiff, Nat.reduceEqDiff, reduceIte, reduceCtorEq, Nat.reduceAdd, Nat.reduceMul, Nat.reduceMod, Nat.reduceBEq, Nat.reduceBNe, List.reduceReplicate, Int.reduceLE, Int.reduceLT, Int.reduceNe]
  apply hK1; clear hK1
  refine aw_seq_k fun K2 hK2 => ?_
  refine aw_seq_k fun K3 hK3 => aw_region okG0 ?_; simp only [push_cast, Nat.reduceLT, Nat.reduceLeDiff, Nat.reduceEqDiff, reduceIte, reduceCtorEq, Nat.reduceAdd, Nat.reduceMul, Nat.reduceMod, Nat.reduceBEq, Nat.reduceBNe, List.reduceReplicate, Int.reduceLE, Int.reduceLT, Int.reduceNe]
  refine call_pure (Index_spec s c) (fits_of rfl) (by decide) rfl (by simp [idsV, idsVs]) ?_; simp only [push_cast, Nat.reduceLT, Nat.reduceLeDiff, Nat.reduceEqDiff, reduceIte, reduceCtorEq, Nat.reduceAdd, Nat.reduceMul, Nat.reduceMod, Nat.reduceBEq, Nat.reduceBNe, List.reduceReplicate, Int.reduceLE, Int.reduceLT, Int.reduceNe]
  apply hK3; clear hK3
  refine aw_seq_k fun K4 hK4 => aw_region okG0 ?_; simp only [push_cast, Nat.reduceLT, Nat.reduceLeDiff, Nat.reduceEqDiff, reduceIte, reduceCtorEq, Nat.reduceAdd, Nat.reduceMul, Nat.reduceMod, Nat.reduceBEq, Nat.reduceBNe, List.reduceReplicate, Int.reduceLE, Int.reduceLT, Int.reduceNe]
  apply hK4; clear hK4
  refine aw_cond rfl (fun hc => ?_) (fun hc => ?_)
  · rcases index_brk c s with ⟨_, h⟩ | ⟨a, b, rfl, h1, h2, h3⟩
    · rw [h] at hc; simp at hc
    · rw [h3]
      have hl : a.length + (b.length + 1) ≤ 1048576 := by simpa using hs
      have hll : (a ++ c :: b).length = a.length + (b.length + 1) := by simp
      refine aw_seq_k fun K5 hK5 => aw_draw fol okG0 10 (by kernel_rfl) ?_; simp only [push_cast, Nat.reduceLT, Nat.reduceLeDiff, Nat.reduceEqDiff, reduceIte, reduceCtorEq, Nat.reduceAdd, Nat.reduceMul, Nat.reduceMod, Nat.reduceBEq, Nat.reduceBNe, List.reduceReplicate, Int.reduceLE, Int.reduceLT, Int.reduceNe]
      rw [w64 (n := (a.length : Int) + (0 + 1)) (by omega) (by omega), show ((a.length : Int) + (0 + 1)).toNat = a.length + 1 by omega]
      refine ⟨⟨rfl, by unfold SlR; omega⟩, ⟨rfl, by unfold SlR; omega⟩, ?_⟩
      rw [List.take_left' rfl, show Int.toNat 0 = 0 from rfl, List.drop_zero, List.take_of_length_le (by omega), show (a ++ c :: b).drop (a.length + 1) = b by rw [List.drop_append, List.drop_eq_nil_of_le (by omega)]; simp]
      apply hK5; clear hK5
      refine aw_ret (ret_p rfl ?_ rfl (by simp))
      unfold cutR
      rw [h2]
      rfl
  · rcases index_brk c s with ⟨h0, h⟩ | ⟨a, b, rfl, h1, h2, h3⟩
    · refine aw_skip ?_
      simp only [push_cast, Nat.reduceLT, Nat.reduceLeDiff, Nat.reduceEqDiff, reduceIte, reduceCtorEq, Nat.reduceAdd, Nat.reduceMul, Nat.reduceMod, Nat.reduceBEq, Nat.reduceBNe, List.reduceReplicate, Int.reduceLE, Int.reduceLT, Int.reduceNe]
      apply hK2; clear hK2
      refine aw_seq_k fun K6 hK6 => aw_region okG0 ?_; simp only [push_cast, Nat.reduceLT, Nat.reduceLeDiff, Nat.reduceEqDiff, reduceIte, reduceCtorEq, Nat.reduceAdd, Nat.reduceMul, Nat.reduceMod, Nat.reduceBEq, Nat.reduceBNe, List.reduceReplicate, Int.reduceLE, Int.reduceLT, Int.reduceNe]
      apply hK6; clear hK6
      refine aw_ret (ret_p rfl ?_ rfl (by simp))
      unfold cutR
      rw [h0]
      rfl
    · rw [h3] at hc; simp at hc
theorem Cut_spec (s : List UInt8) (c : UInt8) (hs : s.length ≤ 1048576) : AFp Tryd.prog 58 [St8 s, St8 [c]] (.tup [St8 (cutR c s).1, St8 (cutR c s).2.1, Bo (cutR c s).2.2]) := by
  refine AF_body okG0 Tryd.func58 rfl rfl (by simp [Tryd.ntmps58]) (by simp) ?_; simp only [Tryd.ntmps58]
  refine aw_seq_k fun K1 hK1 => aw_region okG0 ?_; simp only [push_cast, Nat.reduceLT, Nat.reduceLeDiff, Nat.reduceEqDiff, reduceIte, reduceCtorEq, Nat.reduceAdd, Nat.reduceMul, Nat.reduceMod, Nat.reduceBEq, Nat.reduceBNe, List.reduceReplicate, Int.reduceLE, Int.reduceLT, Int.reduceNe]
  apply hK1; clear hK1
  refine aw_seq_k fun K2 hK2 => aw_region okG0 ?_; simp only [push_cast, Nat.reduceLT, Nat.reduceLeDiff, Nat.reduceEqDiff, reduceIte, reduceCtorEq, Nat.reduceAdd, Nat.reduceMul, Nat.reduceMod, Nat.reduceBEq, Nat.reduceBNe, List.reduceReplicate, Int.reduceLE, Int.reduceLT, Int.reduceNe]
  refine call_pure (lCut_spec s c hs) (fits_of rfl) (by decide) rfl (by simp [idsV, idsVs]) ?_; simp only [push_cast, Nat.reduceLT, Nat.reduceLeDiff, Nat.reduceEqDiff, reduceIte, reduceCtorEq, Nat.reduceAdd, Nat.reduceMul, Nat.reduceMod, Nat.reduceBEq, Nat.reduceBNe, List.reduceReplicate, Int.reduceLE, Int.reduceLT, Int.reduceNe]
  apply hK2; clear hK2
  exact aw_ret (ret_p rfl rfl rfl (by simp))
theorem within_spec (n lo hi : Int) : AFp Tryd.prog 54 [I n, I lo, I hi] (Bo (decide (lo ≤ n) && decide (n ≤ hi))) := by
  refine AF_body okG0 Tryd.func54 rfl rfl (by simp [Tryd.ntmps54]) (by simp) ?_; simp only [Tryd.ntmps54]
  refine aw_seq_k fun K hK => aw_region okG0 ?_; simp only [push_cast, Nat.reduceLT, Nat.reduceLeDiff, Nat.reduceEqDiff, reduceIte, reduceCtorEq, Nat.reduceAdd, Nat.reduceMul, Nat.reduceMod, Nat.reduceBEq, Nat.reduceBNe, List.reduceReplicate, Int.reduceLE, Int.reduceLT, Int.reduceNe]
  apply hK; clear hK
  refine aw_seq_k fun K hK => aw_region okG0 ?_; simp only [push_cast, Nat.reduceLT, Nat.reduceLeDiff, Nat.reduceEqDiff, reduceIte, reduceCtorEq, Nat.reduceAdd, Nat.reduceMul, Nat.reduceMod, Nat.reduceBEq, Nat.reduceBNe, List.reduceReplicate, Int.reduceLE, Int.reduceLT, Int.reduceNe]
  apply hK; clear hK
  exact aw_ret (ret_p rfl rfl rfl (by simp))
/-- The check number of a text. -/
def chk (n : Nat) : List UInt8 → Nat
  | [] => n
  | b :: l => chk ((947 * n + b.toNat + 211) % 65003) l
theorem chk_lt : ∀ (l : List UInt8) (n : Nat), n < 65003 → chk n l < 65003
  | [], n, h => h
  | b :: l, n, h => chk_lt l _ (Nat.mod_lt _ (by decide))
theorem chk_take (n : Nat) (s : List UInt8) {k : Nat} (hk : k < s.length) : chk n (s.take (k + 1)) = (947 * chk n (s.take k) + (s.getD k 0).toNat + 211) % 65003 := by
  have app : ∀ (l : List UInt8) (n : Nat) (b : UInt8), chk n (l ++ [b]) = (947 * chk n l + b.toNat + 211) % 65003 := by
    intro l
    induction l with
    | nil => intro n b; rfl
    | cons x l ih => intro n b; exact ih _ b
  rw [List.take_add_one, List.getElem?_eq_getElem hk, Option.toList_some, app]
  simp [List.getD, hk]
theorem chk_step (c : Nat) (hc : c < 65003) (b : UInt8) : (IntKind.i64.wrap (IntKind.i64.wrap (IntKind.i64.wrap (947 * (c : Int)) + IntKind.i64.wrap (b.toNat : Int)) + 211)).tmod 65003 = (((947 * c + b.toNat + 211) % 65003 : Nat) : Int) := by
  have hb := b.toNat_lt
  rw [w64 (n := 947 * (c : Int)) (by omega) (by omega), w64 (n := (b.toNat : Int)) (by omega) (by omega), w64 (n := 947 * (c : Int) + b.toNat) (by omega) (by omega), w64 (by omega) (by omega), Int.tmod_eq_emod_of_nonneg (by omega)]
  omega
theorem l01Check_spec (n : Nat) (s : List UInt8) (hn : n < 65003) (hs : s.length ≤ 1048576) : AFp Tryd.prog 51 [I n, St8 s] (I (chk n s)) := by
  refine AF_body okG0 Tryd.func51 rfl rfl (by simp [Tryd.ntmps51]) (by simp) ?_; simp only [Tryd.ntmps51]
  refine aw_seq_k fun K1 hK1 => aw_region okG0 ?_; simp only [push_cast, Nat.reduceLT, Nat.reduceLeDiff, Nat.reduceEqDiff, reduceIte, reduceCtorEq, Nat.reduceAdd, Nat.reduceMul, Nat.reduceMod, Nat.reduceBEq, Nat.reduceBNe, List.reduceReplicate, Int.reduceLE, Int.reduceLT, Int.reduceNe]
  apply hK1; clear hK1
  refine aw_seq_k fun K2 hK2 => ?_
  refine aw_seq_k fun K3 hK3 => aw_region okG0 ?_; simp only [push_cast, Nat.reduceLT, Nat.reduceLeDiff, Nat.reduceEqDiff, reduceIte, reduceCtorEq, Nat.reduceAdd, Nat.reduceMul, Nat.reduceMod, Nat.reduceBEq, Nat.reduceBNe, List.reduceReplicate, Int.reduceLE, Int.reduceLT, Int.reduceNe]
  apply hK3; clear hK3
  refine aw_block ?_
  refine aw_loop (fun k : {k : Nat // k ≤ s.length} => ⟨[(0, I (chk n (s.take k.1))), (1, St8 s), (5, I k.1)], [], []⟩) (fun k => s.length - k.1) ⟨0, Nat.zero_le _⟩ (sub_to (by simp [allE, getE] <;> rfl) (by simp [allB, getB] <;> rfl) rfl rfl rfl) ?_
  rintro ⟨k, hk⟩
  have hck := chk_lt (s.take k) n hn
  refine aw_seq_k fun K4 hK4 => ?_
  refine aw_seq_k fun K5 hK5 => aw_region okG0 ?_; simp only [push_cast, Nat.reduceLT, Nat.reduceLeDiff, Nat.reduceEqDiff, reduceIte, reduceCtorEq, Nat.reduceAdd, Nat.reduceMul, Nat.reduceMod, Nat.reduceBEq, Nat.reduceBNe, List.reduceReplicate, Int.reduceLE, Int.reduceLT, Int.reduceNe]
  apply hK5; clear hK5
  refine aw_cond rfl (fun hc => ?_) (fun hc => ?_)
  · have hlt : k < s.length := by simpa using hc
    refine aw_skip ?_
    simp only [push_cast, Nat.reduceLT, Nat.reduceLeDiff, Nat.reduceEqDiff, reduceIte, reduceCtorEq, Nat.reduceAdd, Nat.reduceMul, Nat.reduceMod, Nat.reduceBEq, Nat.reduceBNe, List.reduceReplicate, Int.reduceLE, Int.reduceLT, Int.reduceNe]
    apply hK4; clear hK4
    refine aw_seq_k fun K6 hK6 => ?_
    refine aw_block ?_
    refine aw_region okG0 ?_
    simp only [push_cast, Nat.reduceLT, Nat.reduceLeDiff, Nat.reduceEqDiff, reduceIte, reduceCtorEq, Nat.reduceAdd, Nat.reduceMul, Nat.reduceMod, Nat.reduceBEq, Nat.reduceBNe, List.reduceReplicate, Int.reduceLE, Int.reduceLT, Int.reduceNe]
    refine ⟨by unfold InR; omega, ?_⟩
    rw [chk_step _ hck, ← chk_take n s hlt]
    refine ⟨by decide, ?_⟩
    apply hK6; clear hK6
    refine aw_region okG0 ?_
    simp only [push_cast, Nat.reduceLT, Nat.reduceLeDiff, Nat.reduceEqDiff, reduceIte, reduceCtorEq, Nat.reduceAdd, Nat.reduceMul, Nat.reduceMod, Nat.reduceBEq, Nat.reduceBNe, List.reduceReplicate, Int.reduceLE, Int.reduceLT, Int.reduceNe]
    refine ⟨⟨k + 1, by omega⟩, ?_, by show s.length - (k + 1) < s.length - k; omega⟩
    rw [w64 (n := (k : Int) + 1) (by omega) (by omega)]
    exact sub_to (by simp [allE, getE] <;> rfl) (by simp [allB, getB] <;> rfl) rfl rfl rfl
  · have hlt : k = s.length := by have : ¬ (k : Int) < s.length := by simpa using hc
                                  omega
    subst hlt
    rw [List.take_length]
    refine aw_exit ?_
    simp only [push_cast, Nat.reduceLT, Nat.reduceLeDiff, Nat.reduceEqDiff, reduceIte, reduceCtorEq, Nat.reduceAdd, Nat.reduceMul, Nat.reduceMod, Nat.reduceBEq, Nat.reduceBNe, List.reduceReplicate, Int.reduceLE, Int.reduceLT, Int.reduceNe]
    apply hK2; clear hK2
    refine aw_seq_k fun K7 hK7 => aw_region okG0 ?_; simp only [push_cast, Nat.reduceLT, Nat.reduceLeDiff, Nat.reduceEqDiff, reduceIte, reduceCtorEq, Nat.reduceAdd, Nat.reduceMul, Nat.reduceMod, Nat.reduceBEq, Nat.reduceBNe, List.reduceReplicate, Int.reduceLE, Int.reduceLT, Int.reduceNe]
    apply hK7; clear hK7
    exact aw_ret (ret_p rfl rfl rfl (by simp))
theorem CheckOf_spec (n : Nat) (s : List UInt8) (hn : n < 65003) (hs : s.length ≤ 1048576) : AFp Tryd.prog 33 [I n, St8 s] (.tup [I (chk n s), Bo true]) := by
  refine AF_body okG0 Tryd.func33 rfl rfl (by simp [Tryd.ntmps33]) (by simp) ?_; simp only [Tryd.ntmps33]
  refine aw_seq_k fun K1 hK1 => aw_region okG0 ?_; simp only [push_cast, Nat.reduceLT, Nat.reduceLeDiff, Nat.reduceEqDiff, reduceIte, reduceCtorEq, Nat.reduceAdd, Nat.reduceMul, Nat.reduceMod, Nat.reduceBEq, Nat.reduceBNe, List.reduceReplicate, Int.reduceLE, Int.reduceLT, Int.reduceNe]
  apply hK1; clear hK1
  refine aw_seq_k fun K2 hK2 => ?_
  refine aw_seq_k fun K3 hK3 => aw_region okG0 ?_; simp only [push_cast, Nat.reduceLT, Nat.reduceLeDiff, Nat.reduceEqDiff, reduceIte, reduceCtorEq, Nat.reduceAdd, Nat.reduceMul, Nat.reduceMod, Nat.reduceBEq, Nat.reduceBNe, List.reduceReplicate, Int.reduceLE, Int.reduceLT, Int.reduceNe]
  refine call_pure (within_spec _ _ _) (fits_of rfl) (by decide) rfl (by simp [idsV, idsVs]) ?_; simp only [push_cast, Nat.reduceLT, Nat.reduceLeDiff, Nat.reduceEqDiff, reduceIte, reduceCtorEq, Nat.reduceAdd, Nat.reduceMul, Nat.reduceMod, Nat.reduceBEq, Nat.reduceBNe, List.reduceReplicate, Int.reduceLE, Int.reduceLT, Int.reduceNe]
  apply hK3; clear hK3
  refine aw_cond rfl (fun hc => ?_) (fun hc => ?_)
  · simp at hc; omega
  · refine aw_skip ?_
    simp only [push_cast, Nat.reduceLT, Nat.reduceLeDiff, Nat.reduceEqDiff, reduceIte, reduceCtorEq, Nat.reduceAdd, Nat.reduceMul, Nat.reduceMod, Nat.reduceBEq, Nat.reduceBNe, List.reduceReplicate, Int.reduceLE, Int.reduceLT, Int.reduceNe]
    apply hK2; clear hK2
    refine aw_seq_k fun K5 hK5 => ?_
    refine aw_seq_k fun K6 hK6 => aw_region okG0 ?_; simp only [push_cast, Nat.reduceLT, Nat.reduceLeDiff, Nat.reduceEqDiff, reduceIte, reduceCtorEq, Nat.reduceAdd, Nat.reduceMul, Nat.reduceMod, Nat.reduceBEq, Nat.reduceBNe, List.reduceReplicate, Int.reduceLE, Int.reduceLT, Int.reduceNe]
    apply hK6; clear hK6
    refine aw_block ?_
    refine aw_loop (fun k : {k : Nat // k ≤ s.length} => ⟨[(0, I (chk n (s.take k.1))), (1, St8 s), (11, I s.length), (12, I k.1)], [], []⟩) (fun k => s.length - k.1) ⟨0, Nat.zero_le _⟩ (sub_to (by simp [allE, getE] <;> rfl) (by simp [allB, getB] <;> rfl) rfl rfl rfl) ?_
    rintro ⟨k, hk⟩
    have hck := chk_lt (s.take k) n hn
    refine aw_seq_k fun K7 hK7 => aw_region okG0 ?_; simp only [push_cast, Nat.reduceLT, Nat.reduceLeDiff, Nat.reduceEqDiff, reduceIte, reduceCtorEq, Nat.reduceAdd, Nat.reduceMul, Nat.reduceMod, Nat.reduceBEq, Nat.reduceBNe, List.reduceReplicate, Int.reduceLE, Int.reduceLT, Int.reduceNe]
    apply hK7; clear hK7
    refine aw_seq_k fun K8 hK8 => ?_
    refine aw_cond rfl (fun hc => ?_) (fun hc => ?_)
    · have hlt : k < s.length := by simpa using hc
      refine aw_skip ?_
      simp only [push_cast, Nat.reduceLT, Nat.reduceLeDiff, Nat.reduceEqDiff, reduceIte, reduceCtorEq, Nat.reduceAdd, Nat.reduceMul, Nat.reduceMod, Nat.reduceBEq, Nat.reduceBNe, List.reduceReplicate, Int.reduceLE, Int.reduceLT, Int.reduceNe]
      apply hK8; clear hK8
      refine aw_seq_k fun K9 hK9 => ?_
      refine aw_block ?_
      refine aw_seq_k fun K10 hK10 => aw_region okG0 ?_; simp only [push_cast, Nat.reduceLT, Nat.reduceLeDiff, Nat.reduceEqDiff, reduceIte, reduceCtorEq, Nat.reduceAdd, Nat.reduceMul, Nat.reduceMod, Nat.reduceBEq, Nat.reduceBNe, List.reduceReplicate, Int.reduceLE, Int.reduceLT, Int.reduceNe]
      apply hK10; clear hK10
      refine aw_region okG0 ?_
      simp only [push_cast, Nat.reduceLT, Nat.reduceLeDiff, Nat.reduceEqDiff, reduceIte, reduceCtorEq, Nat.reduceAdd, Nat.reduceMul, Nat.reduceMod, Nat.reduceBEq, Nat.reduceBNe, List.reduceReplicate, Int.reduceLE, Int.reduceLT, Int.reduceNe]
      refine ⟨by unfold InR; omega, ?_⟩
      rw [chk_step _ hck, ← chk_take n s hlt]
      refine ⟨by decide, ?_⟩
      apply hK9; clear hK9
      refine aw_region okG0 ?_
      simp only [push_cast, Nat.reduceLT, Nat.reduceLeDiff, Nat.reduceEqDiff, reduceIte, reduceCtorEq, Nat.reduceAdd, Nat.reduceMul, Nat.reduceMod, Nat.reduceBEq, Nat.reduceBNe, List.reduceReplicate, Int.reduceLE, Int.reduceLT, Int.reduceNe]
      refine ⟨⟨k + 1, by omega⟩, ?_, by show s.length - (k + 1) < s.length - k; omega⟩
      rw [w64 (n := (k : Int) + 1) (by omega) (by omega)]
      exact sub_to (by simp [allE, getE] <;> rfl) (by simp [allB, getB] <;> rfl) rfl rfl rfl
    · have hlt : k = s.length := by have : ¬ (k : Int) < s.length := by simpa using hc
                                    omega
      subst hlt
      rw [List.take_length]
      refine aw_exit ?_
      simp only [push_cast, Nat.reduceLT, Nat.reduceLeDiff, Nat.reduceEqDiff, reduceIte, reduceCtorEq, Nat.reduceAdd, Nat.reduceMul, Nat.reduceMod, Nat.reduceBEq, Nat.reduceBNe, List.reduceReplicate, Int.reduceLE, Int.reduceLT, Int.reduceNe]
      apply hK5; clear hK5
      refine aw_seq_k fun K11 hK11 => aw_region okG0 ?_; simp only [push_cast, Nat.reduceLT, Nat.reduceLeDiff, Nat.reduceEqDiff, reduceIte, reduceCtorEq, Nat.reduceAdd, Nat.reduceMul, Nat.reduceMod, Nat.reduceBEq, Nat.reduceBNe, List.reduceReplicate, Int.reduceLE, Int.reduceLT, Int.reduceNe]
      apply hK11; clear hK11
      exact aw_ret (ret_p rfl rfl rfl (by simp))
end Go.Proofs.Avx

set_option linter.unusedVariables false
set_option linter.unusedSimpArgs false
namespace Go.Proofs.Avx
open Lib (decDigits)
theorem dec_small {u : Nat} (h : u < 10) : decDigits u = [UInt8.ofNat (48 + u)] := by rw [decDigits, dif_pos h]
theorem dec_big {u : Nat} (h : ¬ u < 10) : decDigits u = decDigits (u / 10) ++ [UInt8.ofNat (48 + u % 10)] := by rw [decDigits, dif_neg h]
/-- What is done of a numeral, and what is left. -/
def decSt (n rest : Nat) (out : List UInt8) : Prop := rest ≤ n ∧ rest * 10 ^ out.length ≤ n ∧ if out = [] then rest = n else decDigits n = if rest = 0 then out else decDigits rest ++ out
theorem decSt_step {n rest : Nat} {out : List UInt8} (h : decSt n rest out) (hc : out = [] ∨ rest ≠ 0) : decSt n (rest / 10) (UInt8.ofNat (48 + rest % 10) :: out) := by
  obtain ⟨h1, h2, h3⟩ := h
  refine ⟨by omega, ?_, ?_⟩
  · rw [List.length_cons, Nat.pow_succ]
    refine Nat.le_trans ?_ h2
    rw [Nat.mul_comm (10 ^ out.length) 10, ← Nat.mul_assoc]
    exact Nat.mul_le_mul_right _ (by omega)
  · rw [if_neg (by simp)]
    have key : decDigits rest = if rest / 10 = 0 then [UInt8.ofNat (48 + rest % 10)] else decDigits (rest / 10) ++ [UInt8.ofNat (48 + rest % 10)] := by
      by_cases hr : rest < 10
      · rw [dec_small hr, if_pos (by omega), Nat.mod_eq_of_lt hr]
      · rw [dec_big hr, if_neg (by omega)]
    by_cases ho : out = []
    · subst ho
      rw [if_pos rfl] at h3
      rw [← h3, key]
    · rw [if_neg ho, if_neg (hc.resolve_left ho)] at h3
      rw [h3, key]
      split <;> simp
theorem decSt_len {n rest : Nat} {out : List UInt8} (h : decSt n rest out) (hc : out = [] ∨ rest ≠ 0) (hn : n ≤ 4611686018427387904) : out.length ≤ 18 := by
  rcases hc with rfl | hr
  · simp
  · have h2 := h.2.1
    refine Nat.le_of_not_lt fun hl => ?_
    have h3 : 10 ^ 19 ≤ 10 ^ out.length := Nat.pow_le_pow_right (by decide) hl
    have h4 : 1 * 10 ^ out.length ≤ rest * 10 ^ out.length := Nat.mul_le_mul_right _ (by omega)
    have h5 : (10 : Nat) ^ 19 = 10000000000000000000 := by decide
    omega
theorem decSt_end {n : Nat} {out : List UInt8} (h : decSt n 0 out) (ho : out ≠ []) : decDigits n = out := by
  have := h.2.2
  rwa [if_neg ho, if_pos rfl] at this
abbrev nums (l : List UInt8) : List Int := l.map fun b => (b.toNat : Int)
theorem nums_back (l : List UInt8) : (nums l).map (fun n => UInt8.ofNat n.toNat) = l := by
  rw [List.map_map]
  conv => rhs; rw [← List.map_id l]
  exact List.map_congr_left fun b _ => by simp
theorem digit8 (r : Nat) : IntKind.u8.wrap (IntKind.i64.wrap (48 + (r : Int).tmod 10)) = ((UInt8.ofNat (48 + r % 10)).toNat : Int) := by
  rw [Int.tmod_eq_emod_of_nonneg (by omega), w64 (by omega) (by omega), IntKind.wrap_u8]
  have h1 : (UInt8.ofNat (48 + r % 10)).toNat = 48 + r % 10 := by rw [UInt8.toNat_ofNat']; omega
  rw [h1]
  omega
theorem l01Dec_spec (n : Nat) (hn : n ≤ 4611686018427387904) : AFp Tryd.prog 52 [I n] (St8 (decDigits n)) := by
  refine AF_body okG0 Tryd.func52 rfl rfl (by simp [Tryd.ntmps52]) (by simp) ?_; simp only [Tryd.ntmps52]
  refine aw_seq_k fun K1 hK1 => aw_region okG0 ?_; simp only [push_cast, Nat.reduceLT, Nat.reduceLeDiff, Nat.reduceEqDiff, reduceIte, reduceCtorEq, Nat.reduceAdd, Nat.reduceMul, Nat.reduceMod, Nat.reduceBEq, Nat.reduceBNe, List.reduceReplicate, Int.reduceLE, Int.reduceLT, Int.reduceNe]
  apply hK1; clear hK1
  refine aw_seq_k fun K2 hK2 => aw_region okG0 ?_; simp only [push_cast, Nat.reduceLT, Nat.reduceLeDiff, Nat.reduceEqDiff, reduceIte, reduceCtorEq, Nat.reduceAdd, Nat.reduceMul, Nat.reduceMod, Nat.reduceBEq, Nat.reduceBNe, List.reduceReplicate, Int.reduceLE, Int.reduceLT, Int.reduceNe]
  apply hK2; clear hK2
  refine aw_seq_k fun K3 hK3 => aw_region okG0 ?_; simp only [push_cast, Nat.reduceLT, Nat.reduceLeDiff, Nat.reduceEqDiff, reduceIte, reduceCtorEq, Nat.reduceAdd, Nat.reduceMul, Nat.reduceMod, Nat.reduceBEq, Nat.reduceBNe, List.reduceReplicate, Int.reduceLE, Int.reduceLT, Int.reduceNe]
  apply hK3; clear hK3
  refine aw_seq_k fun K4 hK4 => ?_
  refine aw_block ?_
  refine aw_loop (fun k : {k : Nat × List UInt8 // decSt n k.1 k.2} => ⟨[(0, I n), (3, .own 600 5 (.int .u8) (nums k.1.2)), (4, I k.1.1)], [], [600]⟩) (fun k => k.1.1 + if k.1.2 = [] then 1 else 0) ⟨(n, []), by simp [decSt]⟩ (sub_to (by simp [allE, getE] <;> rfl) (by simp [allB, getB] <;> rfl) rfl rfl rfl) ?_
  rintro ⟨⟨rest, out⟩, hst⟩
  have hr := hst.1
  have hol := hst.2.1
  simp only at hr hol hst
  refine aw_seq_k fun K5 hK5 => ?_
  refine aw_seq_k fun K6 hK6 => aw_region okG0 ?_; simp only [push_cast, Nat.reduceLT, Nat.reduceLeDiff, Nat.reduceEqDiff, reduceIte, reduceCtorEq, Nat.reduceAdd, Nat.reduceMul, Nat.reduceMod, Nat.reduceBEq, Nat.reduceBNe, List.reduceReplicate, Int.reduceLE, Int.reduceLT, Int.reduceNe]
  apply hK6; clear hK6
  refine aw_cond rfl (fun hc => ?_) (fun hc => ?_)
  · have hgo : out = [] ∨ rest ≠ 0 := by
      simp only [Bool.or_eq_true, beq_iff_eq, bne_iff_ne, ne_eq, List.length_map] at hc
      rcases hc with h | h
      · left; exact List.length_eq_zero_iff.1 (by omega)
      · right; omega
    refine aw_skip ?_
    simp only [push_cast, Nat.reduceLT, Nat.reduceLeDiff, Nat.reduceEqDiff, reduceIte, reduceCtorEq, Nat.reduceAdd, Nat.reduceMul, Nat.reduceMod, Nat.reduceBEq, Nat.reduceBNe, List.reduceReplicate, Int.reduceLE, Int.reduceLT, Int.reduceNe]
    apply hK5; clear hK5
    refine aw_block ?_
    refine aw_seq_k fun K7 hK7 => aw_region okG0 ?_; simp only [push_cast, Nat.reduceLT, Nat.reduceLeDiff, Nat.reduceEqDiff, reduceIte, reduceCtorEq, Nat.reduceAdd, Nat.reduceMul, Nat.reduceMod, Nat.reduceBEq, Nat.reduceBNe, List.reduceReplicate, Int.reduceLE, Int.reduceLT, Int.reduceNe]
    refine ⟨by decide, ?_⟩
    apply hK7; clear hK7
    refine aw_seq_k fun K8 hK8 => ?_
    refine aw_seq_k fun K9 hK9 => aw_region okG0 ?_; simp only [push_cast, Nat.reduceLT, Nat.reduceLeDiff, Nat.reduceEqDiff, reduceIte, reduceCtorEq, Nat.reduceAdd, Nat.reduceMul, Nat.reduceMod, Nat.reduceBEq, Nat.reduceBNe, List.reduceReplicate, Int.reduceLE, Int.reduceLT, Int.reduceNe]
    apply hK9; clear hK9
    refine aw_cond rfl (fun hc => ?_) (fun hc => ?_)
    · rw [Int.tmod_eq_emod_of_nonneg (by omega)] at hc
      simp at hc
      omega
    · refine aw_skip ?_
      simp only [push_cast, Nat.reduceLT, Nat.reduceLeDiff, Nat.reduceEqDiff, reduceIte, reduceCtorEq, Nat.reduceAdd, Nat.reduceMul, Nat.reduceMod, Nat.reduceBEq, Nat.reduceBNe, List.reduceReplicate, Int.reduceLE, Int.reduceLT, Int.reduceNe]
      apply hK8; clear hK8
      refine aw_seq_k fun K11 hK11 => aw_region okG0 ?_; simp only [push_cast, Nat.reduceLT, Nat.reduceLeDiff, Nat.reduceEqDiff, reduceIte, reduceCtorEq, Nat.reduceAdd, Nat.reduceMul, Nat.reduceMod, Nat.reduceBEq, Nat.reduceBNe, List.reduceReplicate, Int.reduceLE, Int.reduceLT, Int.reduceNe]
      rw [digit8]
      have hol := decSt_len hst hgo hn
      have hnl : (nums out).length = out.length := by simp
      refine ⟨by omega, by omega, ?_⟩
      apply hK11; clear hK11
      refine aw_region okG0 ?_
      simp only [push_cast, Nat.reduceLT, Nat.reduceLeDiff, Nat.reduceEqDiff, reduceIte, reduceCtorEq, Nat.reduceAdd, Nat.reduceMul, Nat.reduceMod, Nat.reduceBEq, Nat.reduceBNe, List.reduceReplicate, Int.reduceLE, Int.reduceLT, Int.reduceNe]
      refine ⟨by decide, ?_⟩
      rw [Int.tdiv_eq_ediv_of_nonneg (by omega)]
      refine ⟨⟨(rest / 10, UInt8.ofNat (48 + rest % 10) :: out), decSt_step hst hgo⟩, ?_, ?_⟩
      · rw [show (rest : Int) / 10 = ((rest / 10 : Nat) : Int) by omega, w64 (n := ((rest / 10 : Nat) : Int)) (by omega) (by omega)]
        exact sub_ren_to [(2600, 600), (600, 2600)] (by simp [renN]) rfl (by simp [allE, getE, renE, renV, renVs, renN]) (by simp [allB, getB, renB, renVs, renV, renN]) rfl rfl rfl
      · show rest / 10 + (if UInt8.ofNat (48 + rest % 10) :: out = [] then 1 else 0) < rest + if out = [] then 1 else 0
        rw [if_neg (by simp)]
        rcases hgo with h | h
        · rw [if_pos h]; omega
        · split <;> omega
  · simp only [Bool.or_eq_false_iff, beq_eq_false_iff_ne, bne_eq_false_iff_eq, ne_eq, List.length_map] at hc
    have hne : out ≠ [] := fun h => hc.1 (by rw [h]; rfl)
    have hr0 : rest = 0 := by omega
    subst hr0
    refine aw_exit ?_
    simp only [push_cast, Nat.reduceLT, Nat.reduceLeDiff, Nat.reduceEqDiff, reduceIte, reduceCtorEq, Nat.reduceAdd, Nat.reduceMul, Nat.reduceMod, Nat.reduceBEq, Nat.reduceBNe, List.reduceReplicate, Int.reduceLE, Int.reduceLT, Int.reduceNe]
    apply hK4; clear hK4
    refine aw_seq_k fun K12 hK12 => ?_
    refine aw_seq_k fun K13 hK13 => aw_region okG0 ?_; simp only [push_cast, Nat.reduceLT, Nat.reduceLeDiff, Nat.reduceEqDiff, reduceIte, reduceCtorEq, Nat.reduceAdd, Nat.reduceMul, Nat.reduceMod, Nat.reduceBEq, Nat.reduceBNe, List.reduceReplicate, Int.reduceLE, Int.reduceLT, Int.reduceNe]
    apply hK13; clear hK13
    refine aw_cond rfl (fun hc => ?_) (fun hc => ?_)
    · simp at hc; omega
    · refine aw_skip ?_
      simp only [push_cast, Nat.reduceLT, Nat.reduceLeDiff, Nat.reduceEqDiff, reduceIte, reduceCtorEq, Nat.reduceAdd, Nat.reduceMul, Nat.reduceMod, Nat.reduceBEq, Nat.reduceBNe, List.reduceReplicate, Int.reduceLE, Int.reduceLT, Int.reduceNe]
      apply hK12; clear hK12
      refine aw_seq_k fun K15 hK15 => aw_region okG0 ?_; simp only [push_cast, Nat.reduceLT, Nat.reduceLeDiff, Nat.reduceEqDiff, reduceIte, reduceCtorEq, Nat.reduceAdd, Nat.reduceMul, Nat.reduceMod, Nat.reduceBEq, Nat.reduceBNe, List.reduceReplicate, Int.reduceLE, Int.reduceLT, Int.reduceNe]
      rw [nums_back, ← decSt_end hst hne]
      apply hK15; clear hK15
      exact aw_ret (ret_p rfl rfl rfl (by simp))
theorem FormatInt_spec (n : Nat) (hn : n ≤ 4611686018427387904) : AFp Tryd.prog 56 [I n, I 10] (St8 (decDigits n)) := by
  refine AF_val (vs := [.int .i64 n, .int .i64 10]) (v := .string ⟨(decDigits n).toArray⟩) ⟨Tryd.f56, Tryd.func56, by kernel_rfl, by kernel_rfl⟩ (fun β Y w us h => ?_) rfl (fun β Y w => by simp [relV, relT]) (fun Y w hK hY => ?_)
  · simp only [relVs, relV, relT] at h
    obtain ⟨a, d, rfl, ha, b, e, rfl, hb, rfl⟩ := h
    simp only [List.cons.injEq, and_true] at ha hb
    rw [ha, hb]
  · have hg : Tryd.prog.globalNamed "internal/strconv.uint64pow10" = some 1 := by kernel_rfl
    refine (Any.strconv_FormatInt_10 Tryd.laysM173 (n : Int) (by omega) (by omega) w (hK _ hg).2).mono ?_
    rintro e w' ⟨he, k, os, hw⟩
    subst hw
    have hb := Lib.below_grow w.heap.size w (Nat.le_refl _) k os
    refine ⟨?_, hb.os, hb.tape, hb.output, hb.size, fun g hg _ => hb.block g hg⟩
    rw [he, Lib.itoa, if_neg (by omega)]
    rfl
theorem Decimal_spec (n : Nat) (hn : n ≤ 4611686018427387904) : AFp Tryd.prog 35 [I n] (St8 (decDigits n)) := by
  refine AF_body okG0 Tryd.func35 rfl rfl (by simp [Tryd.ntmps35]) (by simp) ?_; simp only [Tryd.ntmps35]
  refine aw_seq_k fun K1 hK1 => aw_region okG0 ?_; simp only [push_cast, Nat.reduceLT, Nat.reduceLeDiff, Nat.reduceEqDiff, reduceIte, reduceCtorEq, Nat.reduceAdd, Nat.reduceMul, Nat.reduceMod, Nat.reduceBEq, Nat.reduceBNe, List.reduceReplicate, Int.reduceLE, Int.reduceLT, Int.reduceNe]
  apply hK1; clear hK1
  refine aw_seq_k fun K2 hK2 => aw_region okG0 ?_; simp only [push_cast, Nat.reduceLT, Nat.reduceLeDiff, Nat.reduceEqDiff, reduceIte, reduceCtorEq, Nat.reduceAdd, Nat.reduceMul, Nat.reduceMod, Nat.reduceBEq, Nat.reduceBNe, List.reduceReplicate, Int.reduceLE, Int.reduceLT, Int.reduceNe]
  refine call_pure (FormatInt_spec n hn) (fits_of rfl) (by decide) rfl (by simp [idsV, idsVs]) ?_; simp only [push_cast, Nat.reduceLT, Nat.reduceLeDiff, Nat.reduceEqDiff, reduceIte, reduceCtorEq, Nat.reduceAdd, Nat.reduceMul, Nat.reduceMod, Nat.reduceBEq, Nat.reduceBNe, List.reduceReplicate, Int.reduceLE, Int.reduceLT, Int.reduceNe]
  apply hK2; clear hK2
  exact aw_ret (ret_p rfl rfl rfl (by simp))
theorem dec_len : ∀ (k n : Nat), n < 10 ^ (k + 1) → (decDigits n).length ≤ k + 1
  | 0, n, h => by rw [dec_small (by simpa using h)]; simp
  | k + 1, n, h => by
    by_cases hs : n < 10
    · rw [dec_small hs]; simp
    · rw [dec_big hs]
      have := dec_len k (n / 10) (by rw [Nat.pow_succ] at h; omega)
      simp; omega
theorem dec_len19 {n : Nat} (h : n ≤ 4611686018427387904) : (decDigits n).length ≤ 19 := dec_len 18 n (Nat.lt_of_le_of_lt h (by decide))
/-- The text of a mark. -/
def mtext (k : Nat) : List UInt8 := 109 :: decDigits k
theorem markText_spec (n : Nat) (h0 : 0 < n) (hn : n ≤ 4611686018427387904) : AFp Tryd.prog 40 [I n] (St8 (mtext n)) := by
  refine AF_body okG0 Tryd.func40 rfl rfl (by simp [Tryd.ntmps40]) (by simp) ?_; simp only [Tryd.ntmps40]
  refine aw_seq_k fun K1 hK1 => aw_region okG0 ?_; simp only [push_cast, Nat.reduceLT, Nat.reduceLeDiff, Nat.reduceEqDiff, reduceIte, reduceCtorEq, Nat.reduceAdd, Nat.reduceMul, Nat.reduceMod, Nat.reduceBEq, Nat.reduceBNe, List.reduceReplicate, Int.reduceLE, Int.reduceLT, Int.reduceNe]
  apply hK1; clear hK1
  refine aw_seq_k fun K2 hK2 => ?_
  refine aw_seq_k fun K3 hK3 => aw_region okG0 ?_; simp only [push_cast, Nat.reduceLT, Nat.reduceLeDiff, Nat.reduceEqDiff, reduceIte, reduceCtorEq, Nat.reduceAdd, Nat.reduceMul, Nat.reduceMod, Nat.reduceBEq, Nat.reduceBNe, List.reduceReplicate, Int.reduceLE, Int.reduceLT, Int.reduceNe]
  apply hK3; clear hK3
  refine aw_cond rfl (fun hc => ?_) (fun hc => ?_)
  · simp at hc; omega
  · refine aw_skip ?_
    simp only [push_cast, Nat.reduceLT, Nat.reduceLeDiff, Nat.reduceEqDiff, reduceIte, reduceCtorEq, Nat.reduceAdd, Nat.reduceMul, Nat.reduceMod, Nat.reduceBEq, Nat.reduceBNe, List.reduceReplicate, Int.reduceLE, Int.reduceLT, Int.reduceNe]
    apply hK2; clear hK2
    refine aw_seq_k fun K4 hK4 => aw_region okG0 ?_; simp only [push_cast, Nat.reduceLT, Nat.reduceLeDiff, Nat.reduceEqDiff, reduceIte, reduceCtorEq, Nat.reduceAdd, Nat.reduceMul, Nat.reduceMod, Nat.reduceBEq, Nat.reduceBNe, List.reduceReplicate, Int.reduceLE, Int.reduceLT, Int.reduceNe]
    apply hK4; clear hK4
    refine aw_seq_k fun K5 hK5 => ?_
    refine aw_block ?_
    refine aw_loop (fun k : {k : Nat × List UInt8 // decSt n k.1 k.2} => ⟨[(3, St8 k.1.2), (0, I k.1.1)], [], []⟩) (fun k => k.1.1) ⟨(n, []), by simp [decSt]⟩ (sub_to (by simp [allE, getE] <;> rfl) (by simp [allB, getB] <;> rfl) rfl rfl rfl) ?_
    rintro ⟨⟨rest, out⟩, hst⟩
    have hr := hst.1
    simp only at hr hst
    refine aw_seq_k fun K6 hK6 => ?_
    refine aw_seq_k fun K7 hK7 => aw_region okG0 ?_; simp only [push_cast, Nat.reduceLT, Nat.reduceLeDiff, Nat.reduceEqDiff, reduceIte, reduceCtorEq, Nat.reduceAdd, Nat.reduceMul, Nat.reduceMod, Nat.reduceBEq, Nat.reduceBNe, List.reduceReplicate, Int.reduceLE, Int.reduceLT, Int.reduceNe]
    apply hK7; clear hK7
    refine aw_cond rfl (fun hc => ?_) (fun hc => ?_)
    · have hgo : out = [] ∨ rest ≠ 0 := by right; simp at hc; omega
      refine aw_skip ?_
      simp only [push_cast, Nat.reduceLT, Nat.reduceLeDiff, Nat.reduceEqDiff, reduceIte, reduceCtorEq, Nat.reduceAdd, Nat.reduceMul, Nat.reduceMod, Nat.reduceBEq, Nat.reduceBNe, List.reduceReplicate, Int.reduceLE, Int.reduceLT, Int.reduceNe]
      apply hK6; clear hK6
      refine aw_block ?_
      refine aw_seq_k fun K8 hK8 => aw_region okG0 ?_; simp only [push_cast, Nat.reduceLT, Nat.reduceLeDiff, Nat.reduceEqDiff, reduceIte, reduceCtorEq, Nat.reduceAdd, Nat.reduceMul, Nat.reduceMod, Nat.reduceBEq, Nat.reduceBNe, List.reduceReplicate, Int.reduceLE, Int.reduceLT, Int.reduceNe]
      have hol := decSt_len hst hgo hn
      refine ⟨by decide, by omega, ?_⟩
      rw [digit8, Int.toNat_natCast, show UInt8.ofNat (UInt8.ofNat (48 + rest % 10)).toNat = UInt8.ofNat (48 + rest % 10) from UInt8.ofNat_toNat]
      apply hK8; clear hK8
      refine aw_region okG0 ?_
      simp only [push_cast, Nat.reduceLT, Nat.reduceLeDiff, Nat.reduceEqDiff, reduceIte, reduceCtorEq, Nat.reduceAdd, Nat.reduceMul, Nat.reduceMod, Nat.reduceBEq, Nat.reduceBNe, List.reduceReplicate, Int.reduceLE, Int.reduceLT, Int.reduceNe]
      refine ⟨by decide, ?_⟩
      rw [Int.tdiv_eq_ediv_of_nonneg (by omega)]
      refine ⟨⟨(rest / 10, UInt8.ofNat (48 + rest % 10) :: out), decSt_step hst hgo⟩, ?_, ?_⟩
      · rw [show (rest : Int) / 10 = ((rest / 10 : Nat) : Int) by omega, w64 (n := ((rest / 10 : Nat) : Int)) (by omega) (by omega)]
        exact sub_to (by simp [allE, getE] <;> rfl) (by simp [allB, getB] <;> rfl) rfl rfl rfl
      · show rest / 10 < rest
        simp at hc
        omega
    · have hr0 : rest = 0 := by simp at hc; omega
      subst hr0
      have hne : out ≠ [] := fun h => by
        have := hst.2.2
        rw [if_pos h] at this
        omega
      refine aw_exit ?_
      simp only [push_cast, Nat.reduceLT, Nat.reduceLeDiff, Nat.reduceEqDiff, reduceIte, reduceCtorEq, Nat.reduceAdd, Nat.reduceMul, Nat.reduceMod, Nat.reduceBEq, Nat.reduceBNe, List.reduceReplicate, Int.reduceLE, Int.reduceLT, Int.reduceNe]
      apply hK5; clear hK5
      refine aw_seq_k fun K9 hK9 => aw_region okG0 ?_; simp only [push_cast, Nat.reduceLT, Nat.reduceLeDiff, Nat.reduceEqDiff, reduceIte, reduceCtorEq, Nat.reduceAdd, Nat.reduceMul, Nat.reduceMod, Nat.reduceBEq, Nat.reduceBNe, List.reduceReplicate, Int.reduceLE, Int.reduceLT, Int.reduceNe]
      rw [← decSt_end hst hne]
      have := dec_len19 hn
      refine ⟨by omega, ?_⟩
      apply hK9; clear hK9
      exact aw_ret (ret_p rfl rfl rfl (by simp))
end Go.Proofs.Avx
