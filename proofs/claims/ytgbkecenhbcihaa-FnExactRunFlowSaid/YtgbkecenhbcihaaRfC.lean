/- What the streams and the runs of flows compute, and that the law of runs answers true; conditions stand in each statement. -/
import Derived.Test.YtgbkecenhbcihaaRfA
import Derived.Test.YtgbkecenhbcihaaRfB
set_option linter.unusedVariables false
set_option linter.unusedSimpArgs false
namespace Go.Proofs.Avx
/-! ### Parts go on -/
/-- Where a part of a place goes. -/
def tgt (R C n : Nat) : Nat := 9 * ((((n / 9 / C : Nat) : Int) + pd (n % 9)) % (R : Int)).toNat * C + 9 * ((((n / 9 % C : Nat) : Int) + pr (n % 9)) % (C : Int)).toNat + n % 9
def strm (base p : List Nat) (R C : Nat) : Nat → List Nat
  | 0 => base
  | n + 1 => (strm base p R C n).set (tgt R C n) (p.getD n 0)
theorem strm_len {base p : List Nat} {R C : Nat} : ∀ n, (strm base p R C n).length = base.length
  | 0 => rfl
  | n + 1 => by simp [strm, strm_len n]
theorem strm_at {a b p : List Nat} {R C : Nat} (hl : a.length = b.length) (t : Nat) : ∀ n, (∃ m, m < n ∧ tgt R C m = t) → (strm a p R C n)[t]? = (strm b p R C n)[t]?
  | 0, ⟨m, h, _⟩ => absurd h (Nat.not_lt_zero m)
  | n + 1, ⟨m, h, ht⟩ => by
    simp only [strm, List.getElem?_set, strm_len, hl]
    by_cases hn : tgt R C n = t
    · simp [hn]
    · simp only [if_neg hn]
      refine strm_at hl t n ⟨m, ?_, ht⟩
      have : m ≠ n := fun e => hn (by rw [← e]; exact ht)
      omega
theorem tgt_lt {R C n : Nat} (hR : 0 < R) (hC : 0 < C) : tgt R C n < 9 * (R * C) := by
  unfold tgt
  have h1 : ((((n / 9 / C : Nat) : Int) + pd (n % 9)) % (R : Int)).toNat < R := by
    have := Int.emod_lt_of_pos (((n / 9 / C : Nat) : Int) + pd (n % 9)) (show (0 : Int) < R by omega)
    have := Int.emod_nonneg (((n / 9 / C : Nat) : Int) + pd (n % 9)) (show (R : Int) ≠ 0 by omega)
    omega
  have h2 : ((((n / 9 % C : Nat) : Int) + pr (n % 9)) % (C : Int)).toNat < C := by
    have := Int.emod_lt_of_pos (((n / 9 % C : Nat) : Int) + pr (n % 9)) (show (0 : Int) < C by omega)
    have := Int.emod_nonneg (((n / 9 % C : Nat) : Int) + pr (n % 9)) (show (C : Int) ≠ 0 by omega)
    omega
  generalize ((((n / 9 / C : Nat) : Int) + pd (n % 9)) % (R : Int)).toNat = x at *
  generalize ((((n / 9 % C : Nat) : Int) + pr (n % 9)) % (C : Int)).toNat = y at *
  have h3 : (x + 1) * C ≤ R * C := Nat.mul_le_mul_right C h1
  rw [Nat.add_mul] at h3
  have h4 : 9 * x * C = 9 * (x * C) := by rw [Nat.mul_assoc]
  rw [h4]
  omega
theorem back_mod {x y : Nat} {d : Int} (hx : x < y) : (((((x : Int) - d) % (y : Int)).toNat : Int) + d) % (y : Int) = (x : Int) := by
  have h0 := Int.emod_nonneg ((x : Int) - d) (show (y : Int) ≠ 0 by omega)
  rw [Int.toNat_of_nonneg h0, Int.emod_add_emod, Int.sub_add_cancel]
  exact Int.emod_eq_of_lt (by omega) (by omega)
theorem tgt_onto {R C t : Nat} (hR : 0 < R) (hC : 0 < C) (ht : t < 9 * (R * C)) : ∃ n, n < 9 * (R * C) ∧ tgt R C n = t := by
  have hat : t / 9 < R * C := by omega
  have hi : t / 9 / C < R := Nat.div_lt_of_lt_mul (by rw [Nat.mul_comm]; exact hat)
  have hk : t / 9 % C < C := Nat.mod_lt _ hC
  have hq : t % 9 < 9 := Nat.mod_lt _ (by omega)
  generalize hi0 : t / 9 / C = i at *
  generalize hk0 : t / 9 % C = k at *
  generalize hq0 : t % 9 = q at *
  have hc9 : t / 9 = i * C + k := by rw [← hi0, ← hk0, Nat.mul_comm]; exact (Nat.div_add_mod _ _).symm
  have htt : t = 9 * (i * C + k) + q := by omega
  have hi1 : (((i : Int) - pd q) % (R : Int)).toNat < R := by
    have := Int.emod_lt_of_pos ((i : Int) - pd q) (show (0 : Int) < R by omega)
    have := Int.emod_nonneg ((i : Int) - pd q) (show (R : Int) ≠ 0 by omega)
    omega
  have hk1 : (((k : Int) - pr q) % (C : Int)).toNat < C := by
    have := Int.emod_lt_of_pos ((k : Int) - pr q) (show (0 : Int) < C by omega)
    have := Int.emod_nonneg ((k : Int) - pr q) (show (C : Int) ≠ 0 by omega)
    omega
  have bi := back_mod (d := pd q) hi
  have bk := back_mod (d := pr q) hk
  generalize (((i : Int) - pd q) % (R : Int)).toNat = i1 at *
  generalize (((k : Int) - pr q) % (C : Int)).toNat = k1 at *
  have h3 : (i1 + 1) * C ≤ R * C := Nat.mul_le_mul_right C hi1
  rw [Nat.add_mul] at h3
  have e9 : (9 * (i1 * C + k1) + q) / 9 = i1 * C + k1 := by omega
  have eq9 : (9 * (i1 * C + k1) + q) % 9 = q := by omega
  have ed : (i1 * C + k1) / C = i1 := by rw [Nat.add_comm, Nat.add_mul_div_right _ _ hC, Nat.div_eq_of_lt hk1, Nat.zero_add]
  have em : (i1 * C + k1) % C = k1 := by rw [Nat.add_comm, Nat.add_mul_mod_self_right]; exact Nat.mod_eq_of_lt hk1
  refine ⟨9 * (i1 * C + k1) + q, by omega, ?_⟩
  unfold tgt
  rw [e9, eq9, ed, em, bi, bk, Int.toNat_natCast, Int.toNat_natCast, htt, Nat.mul_assoc, Nat.mul_add]
theorem strm_same {a b p : List Nat} {R C : Nat} (hR : 0 < R) (hC : 0 < C) (ha : a.length = 9 * (R * C)) (hb : b.length = 9 * (R * C)) : strm a p R C (9 * (R * C)) = strm b p R C (9 * (R * C)) := by
  apply List.ext_getElem?
  intro t
  by_cases ht : t < 9 * (R * C)
  · exact strm_at (by rw [ha, hb]) t _ (tgt_onto hR hC ht)
  · rw [List.getElem?_eq_none (by rw [strm_len, ha]; omega), List.getElem?_eq_none (by rw [strm_len, hb]; omega)]
end Go.Proofs.Avx

set_option linter.unusedVariables false
set_option linter.unusedSimpArgs false
namespace Go.Proofs.Avx
attribute [local irreducible] canon flB flO flW floatOfInt
/-! ### Flows that go on -/
theorem floorMod_spec (a b : Int) (h0 : 0 < b) (h1 : b ≤ 4611686018427387904) : AFp Try.prog 246 [I a, I b] (I (a % b)) := by
  refine AF_body okG0 Try.func246 rfl rfl (by simp [Try.ntmps246]) (by simp) ?_; simp only [Try.ntmps246]
  refine aw_seq_k fun K hK => aw_region okG0 ?_; simp only [push_cast, Nat.reduceLT, Nat.reduceLeDiff, Nat.reduceEqDiff, reduceIte, reduceCtorEq, Nat.reduceAdd, Nat.reduceMul, Nat.reduceMod, Nat.reduceBEq, Nat.reduceBNe, List.reduceReplicate, Int.reduceLE, Int.reduceLT, Int.reduceNe]
  apply hK; clear hK
  refine aw_seq_k fun K hK => aw_region okG0 ?_; simp only [push_cast, Nat.reduceLT, Nat.reduceLeDiff, Nat.reduceEqDiff, reduceIte, reduceCtorEq, Nat.reduceAdd, Nat.reduceMul, Nat.reduceMod, Nat.reduceBEq, Nat.reduceBNe, List.reduceReplicate, Int.reduceLE, Int.reduceLT, Int.reduceNe]
  have hb : b ≠ 0 := by omega
  refine ⟨hb, hb, ?_⟩
  apply hK; clear hK
  refine aw_ret (ret_p rfl ?_ rfl (by simp))
  have e1 : a.tmod b = a - b * a.tdiv b := by have := Int.tmod_add_mul_tdiv a b; omega
  have hr : -b < a.tmod b ∧ a.tmod b < b := ⟨by have := Int.lt_tmod_of_pos a h0; omega, Int.tmod_lt_of_pos a h0⟩
  rw [w64 (by omega) (by omega)]
  have hge : 0 ≤ a.tmod b + b := by omega
  show I _ = I _
  rw [Int.tmod_eq_emod_of_nonneg hge]
  congr 1
  rw [Int.add_emod_right, e1, Int.sub_mul_emod_self_left]
theorem mod_lt {a : Int} {b : Nat} (h : 0 < b) : 0 ≤ a % (b : Int) ∧ a % (b : Int) < b := ⟨Int.emod_nonneg _ (by omega), Int.emod_lt_of_pos _ (by omega)⟩
theorem mul_le16 {x y : Int} (h0 : 0 ≤ x) (h1 : x ≤ 16) (h2 : 0 ≤ y) (h3 : y ≤ 16) : 0 ≤ x * y ∧ x * y ≤ 256 := by
  have := Int.mul_le_mul h1 h3 h2 (by omega)
  have := Int.mul_nonneg h0 h2
  omega
theorem l06At_spec (R C : Nat) (x y : Int) (hR : 1 ≤ R) (hR2 : R ≤ 16) (hC : 1 ≤ C) (hC2 : C ≤ 16) (hx : -1 ≤ x) (hx2 : x ≤ 16) (hy : -1 ≤ y) (hy2 : y ≤ 16) : AFp Try.prog 297 [I R, I C, I x, I y] (I (x % (R : Int) * (C : Int) + y % (C : Int))) := by
  refine AF_body okG0 Try.func297 rfl rfl (by simp [Try.ntmps297]) (by simp) ?_; simp only [Try.ntmps297]
  refine aw_seq_k fun K1 hK1 => aw_region okG0 ?_; simp only [push_cast, Nat.reduceLT, Nat.reduceLeDiff, Nat.reduceEqDiff, reduceIte, reduceCtorEq, Nat.reduceAdd, Nat.reduceMul, Nat.reduceMod, Nat.reduceBEq, Nat.reduceBNe, List.reduceReplicate, Int.reduceLE, Int.reduceLT, Int.reduceNe]
  apply hK1; clear hK1
  refine aw_seq_k fun K2 hK2 => aw_draw fol okG0 12 (by kernel_rfl) ?_; simp only [push_cast, Nat.reduceLT, Nat.reduceLeDiff, Nat.reduceEqDiff, reduceIte, reduceCtorEq, Nat.reduceAdd, Nat.reduceMul, Nat.reduceMod, Nat.reduceBEq, Nat.reduceBNe, List.reduceReplicate, Int.reduceLE, Int.reduceLT, Int.reduceNe]
  refine ⟨by omega, by omega, ?_⟩
  apply hK2; clear hK2
  refine aw_ret (ret_p rfl ?_ rfl (by simp))
  have h1 := mod_lt (a := x) (b := R) (by omega)
  have h2 := mod_lt (a := y) (b := C) (by omega)
  have h3 := mul_le16 (x := x % (R : Int)) (y := (C : Int)) h1.1 (by omega) (by omega) (by omega)
  have e1 : (x + (R : Int)).tmod R = x % (R : Int) := by rw [Int.tmod_eq_emod_of_nonneg (by omega), Int.add_emod_right]
  have e2 : (y + (C : Int)).tmod C = y % (C : Int) := by rw [Int.tmod_eq_emod_of_nonneg (by omega), Int.add_emod_right]
  show I _ = I _
  rw [w64 (n := x + (R : Int)) (by omega) (by omega), w64 (n := y + (C : Int)) (by omega) (by omega), e1, e2, w64 (n := x % (R : Int) * (C : Int)) (by omega) (by omega), w64 (by omega) (by omega)]
theorem cloneF_spec (l : List Nat) (h0 : l ≠ []) (hb : l.length ≤ 1152921504606) : AFp Try.prog 183 [Fs l] (Ff 0 l) := by
  refine AF_body okG0 Try.func183 rfl rfl (by simp [Try.ntmps183]) (by simp) ?_; simp only [Try.ntmps183]
  refine aw_seq_k fun K1 hK1 => aw_region okG0 ?_; simp only [push_cast, Nat.reduceLT, Nat.reduceLeDiff, Nat.reduceEqDiff, reduceIte, reduceCtorEq, Nat.reduceAdd, Nat.reduceMul, Nat.reduceMod, Nat.reduceBEq, Nat.reduceBNe, List.reduceReplicate, Int.reduceLE, Int.reduceLT, Int.reduceNe]
  apply hK1; clear hK1
  refine aw_seq_k fun K2 hK2 => ?_
  refine aw_seq_k fun K3 hK3 => aw_region okG0 ?_; simp only [push_cast, Nat.reduceLT, Nat.reduceLeDiff, Nat.reduceEqDiff, reduceIte, reduceCtorEq, Nat.reduceAdd, Nat.reduceMul, Nat.reduceMod, Nat.reduceBEq, Nat.reduceBNe, List.reduceReplicate, Int.reduceLE, Int.reduceLT, Int.reduceNe]
  refine ⟨h0, ?_⟩
  apply hK3; clear hK3
  refine aw_cond rfl (fun hc => ?_) (fun hc => ?_)
  · simp at hc
  · refine aw_skip ?_
    simp only [push_cast, Nat.reduceLT, Nat.reduceLeDiff, Nat.reduceEqDiff, reduceIte, reduceCtorEq, Nat.reduceAdd, Nat.reduceMul, Nat.reduceMod, Nat.reduceBEq, Nat.reduceBNe, List.reduceReplicate, Int.reduceLE, Int.reduceLT, Int.reduceNe]
    apply hK2; clear hK2
    refine aw_seq_k fun K5 hK5 => aw_region okG0 ?_; simp only [push_cast, Nat.reduceLT, Nat.reduceLeDiff, Nat.reduceEqDiff, reduceIte, reduceCtorEq, Nat.reduceAdd, Nat.reduceMul, Nat.reduceMod, Nat.reduceBEq, Nat.reduceBNe, List.reduceReplicate, Int.reduceLE, Int.reduceLT, Int.reduceNe]
    refine ⟨by omega, by omega, ?_⟩
    apply hK5; clear hK5
    exact aw_ret (ret_o [(700, 0)] rfl rfl (by simp [renN]) rfl)
theorem pd_bd (q : Nat) (h : q < 9) : -1 ≤ pd q ∧ pd q ≤ 1 ∧ -1 ≤ pr q ∧ pr q ≤ 1 := by
  have h9 : q = 0 ∨ q = 1 ∨ q = 2 ∨ q = 3 ∨ q = 4 ∨ q = 5 ∨ q = 6 ∨ q = 7 ∨ q = 8 := by omega
  rcases h9 with rfl | rfl | rfl | rfl | rfl | rfl | rfl | rfl | rfl <;> decide
theorem tgt_int (R C n : Nat) (hR : 0 < R) (hC : 0 < C) : ((tgt R C n : Nat) : Int) = 9 * ((((n / 9 / C : Nat) : Int) + pd (n % 9)) % (R : Int) * (C : Int) + (((n / 9 % C : Nat) : Int) + pr (n % 9)) % (C : Int)) + ((n % 9 : Nat) : Int) := by
  have h1 := (mod_lt (a := ((n / 9 / C : Nat) : Int) + pd (n % 9)) hR).1
  have h2 := (mod_lt (a := ((n / 9 % C : Nat) : Int) + pr (n % 9)) hC).1
  unfold tgt
  rw [Int.natCast_add, Int.natCast_add, Int.natCast_mul, Int.natCast_mul, Int.natCast_mul, Int.toNat_of_nonneg h1, Int.toNat_of_nonneg h2, Int.mul_add, Int.mul_assoc]
  rfl
set_option maxHeartbeats 4000000 in
theorem stream_spec (R C : Nat) (p : List Nat) (b : List Bool) (hR : 1 ≤ R) (hR2 : R ≤ 16) (hC : 1 ≤ C) (hC2 : C ≤ 16) (hp : p.length = 9 * (R * C)) (hb0 : b ≠ []) (hb : b.length ≤ 256) :
    AFp Try.prog 185 [.agg [I R, I C, Fs p, Bs b]] (.agg [I R, I C, Ff 0 (strm (List.replicate p.length (canon .f32 0)) p R C p.length), Bf 1 b]) := by
  have hRC : R * C ≤ 256 := Nat.mul_le_mul hR2 hC2
  refine AF_body okG0 Try.func185 rfl rfl (by simp [Try.ntmps185]) (by simp) ?_; simp only [Try.ntmps185]
  refine aw_seq_k fun K1 hK1 => aw_region okG0 ?_; simp only [push_cast, Nat.reduceLT, Nat.reduceLeDiff, Nat.reduceEqDiff, reduceIte, reduceCtorEq, Nat.reduceAdd, Nat.reduceMul, Nat.reduceMod, Nat.reduceBEq, Nat.reduceBNe, List.reduceReplicate, Int.reduceLE, Int.reduceLT, Int.reduceNe]
  apply hK1; clear hK1
  refine aw_seq_k fun K2 hK2 => aw_draw fol okG0 13 (by kernel_rfl) ?_; simp only [push_cast, Nat.reduceLT, Nat.reduceLeDiff, Nat.reduceEqDiff, reduceIte, reduceCtorEq, Nat.reduceAdd, Nat.reduceMul, Nat.reduceMod, Nat.reduceBEq, Nat.reduceBNe, List.reduceReplicate, Int.reduceLE, Int.reduceLT, Int.reduceNe]
  refine ⟨_, _, cloneB_spec b hb0 (by omega), .inl ⟨fits_of rfl, rfl⟩, ?_⟩; simp only [push_cast, Nat.reduceLT, Nat.reduceLeDiff, Nat.reduceEqDiff, reduceIte, reduceCtorEq, Nat.reduceAdd, Nat.reduceMul, Nat.reduceMod, Nat.reduceBEq, Nat.reduceBNe, List.reduceReplicate, Int.reduceLE, Int.reduceLT, Int.reduceNe]
  refine ⟨Int.natCast_nonneg _, by omega, by show (p.length : Int) ≤ 9223372036854775807; omega, ?_⟩
  apply hK2; clear hK2
  refine aw_seq_k fun K3 hK3 => ?_
  refine aw_seq_k fun K4 hK4 => aw_region okG0 ?_; simp only [push_cast, Nat.reduceLT, Nat.reduceLeDiff, Nat.reduceEqDiff, reduceIte, reduceCtorEq, Nat.reduceAdd, Nat.reduceMul, Nat.reduceMod, Nat.reduceBEq, Nat.reduceBNe, List.reduceReplicate, Int.reduceLE, Int.reduceLT, Int.reduceNe]
  apply hK4; clear hK4
  refine aw_block ?_
  refine aw_loop (fun n : {n : Nat // n ≤ p.length} => ⟨[(1, .ptr 199 0), (2, .ptr 299 0), (3, .ptr 399 0), (25, Fs p), (26, I p.length), (27, I n.1)], [(399, [I R, I C, Ff 2200 (strm (List.replicate p.length (canon .f32 0)) p R C n.1), Bf 1800 b]), (299, [I 0, I 0, .nilsl, .nilsl]), (199, [I R, I C, Fs p, Bs b])], [399, 2200, 1800, 299, 199]⟩) (fun n => p.length - n.1) ⟨0, Nat.zero_le _⟩ (sub_to (by simp [allE, getE] <;> (repeat' apply And.intro) <;> rfl) (by simp [allB, getB] <;> rfl) rfl rfl rfl) ?_
  rintro ⟨n, hn⟩
  have hlen := strm_len (base := List.replicate p.length (canon .f32 0)) (p := p) (R := R) (C := C) n
  rw [List.length_replicate] at hlen
  refine aw_seq_k fun K5 hK5 => aw_region okG0 ?_; simp only [push_cast, Nat.reduceLT, Nat.reduceLeDiff, Nat.reduceEqDiff, reduceIte, reduceCtorEq, Nat.reduceAdd, Nat.reduceMul, Nat.reduceMod, Nat.reduceBEq, Nat.reduceBNe, List.reduceReplicate, Int.reduceLE, Int.reduceLT, Int.reduceNe]
  apply hK5; clear hK5
  refine aw_seq_k fun K6 hK6 => ?_
  refine aw_cond rfl (fun hc => ?_) (fun hc => ?_)
  · have hlt : n < p.length := by simpa using hc
    have ht := tgt_lt (R := R) (C := C) (n := n) hR hC
    have hti := tgt_int R C n hR hC
    have e1 : (n : Int).tdiv 9 = ((n / 9 : Nat) : Int) := by rw [Int.tdiv_eq_ediv_of_nonneg (by omega)]; omega
    have e2 : (n : Int).tmod 9 = ((n % 9 : Nat) : Int) := by rw [Int.tmod_eq_emod_of_nonneg (by omega)]; omega
    have e3 : ((n / 9 : Nat) : Int).tdiv (C : Int) = ((n / 9 / C : Nat) : Int) := by rw [Int.tdiv_eq_ediv_of_nonneg (by omega)]; rfl
    have e4 : ((n / 9 : Nat) : Int).tmod (C : Int) = ((n / 9 % C : Nat) : Int) := by rw [Int.tmod_eq_emod_of_nonneg (by omega)]; rfl
    have b0 : n / 9 ≤ n := Nat.div_le_self _ _
    have b1 : n / 9 / C ≤ n := Nat.le_trans (Nat.div_le_self _ _) (Nat.div_le_self _ _)
    have b2 : n / 9 % C ≤ n := Nat.le_trans (Nat.mod_le _ _) (Nat.div_le_self _ _)
    have hq9 : n % 9 < 9 := Nat.mod_lt _ (by omega)
    generalize n / 9 / C = i at *
    generalize n / 9 % C = j at *
    generalize n / 9 = a at *
    generalize n % 9 = q at *
    have hq := pd_bd q hq9
    have g1 := mod_lt (a := (i : Int) + pd q) (show 0 < R from hR)
    have g2 := mod_lt (a := (j : Int) + pr q) (show 0 < C from hC)
    have g3 := mul_le16 (x := ((i : Int) + pd q) % (R : Int)) (y := (C : Int)) g1.1 (by omega) (by omega) (by omega)
    refine aw_skip ?_
    simp only [push_cast, Nat.reduceLT, Nat.reduceLeDiff, Nat.reduceEqDiff, reduceIte, reduceCtorEq, Nat.reduceAdd, Nat.reduceMul, Nat.reduceMod, Nat.reduceBEq, Nat.reduceBNe, List.reduceReplicate, Int.reduceLE, Int.reduceLT, Int.reduceNe]
    apply hK6; clear hK6
    refine aw_seq_k fun K7 hK7 => ?_
    refine aw_block ?_
    refine aw_seq_k fun K8 hK8 => aw_region okG0 ?_; simp only [push_cast, Nat.reduceLT, Nat.reduceLeDiff, Nat.reduceEqDiff, reduceIte, reduceCtorEq, Nat.reduceAdd, Nat.reduceMul, Nat.reduceMod, Nat.reduceBEq, Nat.reduceBNe, List.reduceReplicate, Int.reduceLE, Int.reduceLT, Int.reduceNe]
    refine ⟨⟨by omega, by omega⟩, ?_⟩
    apply hK8; clear hK8
    refine aw_seq_k fun K9 hK9 => aw_region okG0 ?_; simp only [push_cast, Nat.reduceLT, Nat.reduceLeDiff, Nat.reduceEqDiff, reduceIte, reduceCtorEq, Nat.reduceAdd, Nat.reduceMul, Nat.reduceMod, Nat.reduceBEq, Nat.reduceBNe, List.reduceReplicate, Int.reduceLE, Int.reduceLT, Int.reduceNe]
    refine ⟨by decide, by decide, ?_⟩
    rw [e1, e2, w64 (n := (a : Int)) (by omega) (by omega)]
    apply hK9; clear hK9
    refine aw_seq_k fun K10 hK10 => aw_region okG0 ?_; simp only [push_cast, Nat.reduceLT, Nat.reduceLeDiff, Nat.reduceEqDiff, reduceIte, reduceCtorEq, Nat.reduceAdd, Nat.reduceMul, Nat.reduceMod, Nat.reduceBEq, Nat.reduceBNe, List.reduceReplicate, Int.reduceLE, Int.reduceLT, Int.reduceNe]
    refine call_pure (partGoes_spec q hq9) (fits_of rfl) (by decide) rfl (by simp [idsV, idsVs]) ?_; simp only [push_cast, Nat.reduceLT, Nat.reduceLeDiff, Nat.reduceEqDiff, reduceIte, reduceCtorEq, Nat.reduceAdd, Nat.reduceMul, Nat.reduceMod, Nat.reduceBEq, Nat.reduceBNe, List.reduceReplicate, Int.reduceLE, Int.reduceLT, Int.reduceNe]
    apply hK10; clear hK10
    refine aw_seq_k fun K11 hK11 => aw_draw fol okG0 17 (by kernel_rfl) ?_; simp only [push_cast, Nat.reduceLT, Nat.reduceLeDiff, Nat.reduceEqDiff, reduceIte, reduceCtorEq, Nat.reduceAdd, Nat.reduceMul, Nat.reduceMod, Nat.reduceBEq, Nat.reduceBNe, List.reduceReplicate, Int.reduceLE, Int.reduceLT, Int.reduceNe]
    refine ⟨by omega, ?_⟩
    rw [e3, w64 (n := (i : Int)) (by omega) (by omega), w64 (n := (i : Int) + pd q) (by omega) (by omega)]
    refine ⟨_, _, floorMod_spec ((i : Int) + pd q) R (by omega) (by omega), .inl ⟨fits_of rfl, rfl⟩, ?_⟩; simp only [push_cast, Nat.reduceLT, Nat.reduceLeDiff, Nat.reduceEqDiff, reduceIte, reduceCtorEq, Nat.reduceAdd, Nat.reduceMul, Nat.reduceMod, Nat.reduceBEq, Nat.reduceBNe, List.reduceReplicate, Int.reduceLE, Int.reduceLT, Int.reduceNe]
    refine ⟨by omega, ?_⟩
    rw [e4, w64 (n := (j : Int) + pr q) (by omega) (by omega)]
    refine call_pure (floorMod_spec ((j : Int) + pr q) C (by omega) (by omega)) (fits_of rfl) (by decide) rfl (by simp [idsV, idsVs]) ?_; simp only [push_cast, Nat.reduceLT, Nat.reduceLeDiff, Nat.reduceEqDiff, reduceIte, reduceCtorEq, Nat.reduceAdd, Nat.reduceMul, Nat.reduceMod, Nat.reduceBEq, Nat.reduceBNe, List.reduceReplicate, Int.reduceLE, Int.reduceLT, Int.reduceNe]
    apply hK11; clear hK11
    refine aw_region okG0 ?_
    simp only [push_cast, Nat.reduceLT, Nat.reduceLeDiff, Nat.reduceEqDiff, reduceIte, reduceCtorEq, Nat.reduceAdd, Nat.reduceMul, Nat.reduceMod, Nat.reduceBEq, Nat.reduceBNe, List.reduceReplicate, Int.reduceLE, Int.reduceLT, Int.reduceNe]
    rw [w64 (n := ((i : Int) + pd q) % (R : Int) * (C : Int)) (by omega) (by omega), w64 (n := ((i : Int) + pd q) % (R : Int) * (C : Int) + ((j : Int) + pr q) % (C : Int)) (by omega) (by omega), w64 (n := 9 * (((i : Int) + pd q) % (R : Int) * (C : Int) + ((j : Int) + pr q) % (C : Int))) (by omega) (by omega), w64 (n := 9 * (((i : Int) + pd q) % (R : Int) * (C : Int) + ((j : Int) + pr q) % (C : Int)) + (q : Int)) (by omega) (by omega), ← hti]
    refine ⟨⟨by omega, by omega⟩, by rw [Int.toNat_natCast]; omega, ?_⟩
    simp only [Int.toNat_natCast]
    rw [show (strm (List.replicate p.length (canon .f32 0)) p R C n).set (tgt R C n) (p.getD n 0) = strm (List.replicate p.length (canon .f32 0)) p R C (n + 1) from rfl]
    apply hK7; clear hK7
    refine aw_region okG0 ?_
    simp only [push_cast, Nat.reduceLT, Nat.reduceLeDiff, Nat.reduceEqDiff, reduceIte, reduceCtorEq, Nat.reduceAdd, Nat.reduceMul, Nat.reduceMod, Nat.reduceBEq, Nat.reduceBNe, List.reduceReplicate, Int.reduceLE, Int.reduceLT, Int.reduceNe]
    refine ⟨⟨n + 1, by omega⟩, ?_, by show p.length - (n + 1) < p.length - n; omega⟩
    rw [w64 (n := (n : Int) + 1) (by omega) (by omega)]
    exact sub_to (by simp [allE, getE] <;> (repeat' apply And.intro) <;> rfl) (by simp [allB, getB] <;> rfl) rfl rfl rfl
  · have hlt : n = p.length := by have : ¬ (n : Int) < p.length := by simpa using hc
                                  omega
    subst hlt
    refine aw_exit ?_
    simp only [push_cast, Nat.reduceLT, Nat.reduceLeDiff, Nat.reduceEqDiff, reduceIte, reduceCtorEq, Nat.reduceAdd, Nat.reduceMul, Nat.reduceMod, Nat.reduceBEq, Nat.reduceBNe, List.reduceReplicate, Int.reduceLE, Int.reduceLT, Int.reduceNe]
    apply hK3; clear hK3
    refine aw_seq_k fun K12 hK12 => aw_region okG0 ?_; simp only [push_cast, Nat.reduceLT, Nat.reduceLeDiff, Nat.reduceEqDiff, reduceIte, reduceCtorEq, Nat.reduceAdd, Nat.reduceMul, Nat.reduceMod, Nat.reduceBEq, Nat.reduceBNe, List.reduceReplicate, Int.reduceLE, Int.reduceLT, Int.reduceNe]
    apply hK12; clear hK12
    exact aw_ret (ret_o [(2200, 0), (1800, 1)] rfl rfl (by simp [renN]) rfl)
set_option maxHeartbeats 4000000 in
theorem l06Streamed_spec (R C : Nat) (p : List Nat) (b : List Bool) (hR : 1 ≤ R) (hR2 : R ≤ 16) (hC : 1 ≤ C) (hC2 : C ≤ 16) (hp : p.length = 9 * (R * C)) (hb0 : b ≠ []) (hb : b.length ≤ 256) :
    AFp Try.prog 182 [.rptr [I R, I C, Fs p, Bs b]] (.agg [I R, I C, Ff 0 (strm p p R C p.length), Bf 1 b]) := by
  have hRC : R * C ≤ 256 := Nat.mul_le_mul hR2 hC2
  have hRC1 : 1 * 1 ≤ R * C := Nat.mul_le_mul hR hC
  have hp0 : p ≠ [] := by intro h; subst h; simp at hp; omega
  refine AF_body okG0 Try.func182 rfl rfl (by simp [Try.ntmps182]) (by simp) ?_; simp only [Try.ntmps182]
  refine aw_seq_k fun K1 hK1 => aw_region okG0 ?_; simp only [push_cast, Nat.reduceLT, Nat.reduceLeDiff, Nat.reduceEqDiff, reduceIte, reduceCtorEq, Nat.reduceAdd, Nat.reduceMul, Nat.reduceMod, Nat.reduceBEq, Nat.reduceBNe, List.reduceReplicate, Int.reduceLE, Int.reduceLT, Int.reduceNe]
  apply hK1; clear hK1
  refine aw_seq_k fun K2 hK2 => aw_region okG0 ?_; simp only [push_cast, Nat.reduceLT, Nat.reduceLeDiff, Nat.reduceEqDiff, reduceIte, reduceCtorEq, Nat.reduceAdd, Nat.reduceMul, Nat.reduceMod, Nat.reduceBEq, Nat.reduceBNe, List.reduceReplicate, Int.reduceLE, Int.reduceLT, Int.reduceNe]
  refine call_pure (l06OwnFlow_spec R C p b hp0 (by omega) (by omega)) (fits_of rfl) (by decide) rfl (by simp [idsV, idsVs]) ?_; simp only [push_cast, Nat.reduceLT, Nat.reduceLeDiff, Nat.reduceEqDiff, reduceIte, reduceCtorEq, Nat.reduceAdd, Nat.reduceMul, Nat.reduceMod, Nat.reduceBEq, Nat.reduceBNe, List.reduceReplicate, Int.reduceLE, Int.reduceLT, Int.reduceNe]
  apply hK2; clear hK2
  refine aw_seq_k fun K3 hK3 => ?_
  refine aw_seq_k fun K4 hK4 => aw_region okG0 ?_; simp only [push_cast, Nat.reduceLT, Nat.reduceLeDiff, Nat.reduceEqDiff, reduceIte, reduceCtorEq, Nat.reduceAdd, Nat.reduceMul, Nat.reduceMod, Nat.reduceBEq, Nat.reduceBNe, List.reduceReplicate, Int.reduceLE, Int.reduceLT, Int.reduceNe]
  apply hK4; clear hK4
  refine aw_block ?_
  refine aw_loop (fun i : {i : Nat // i ≤ R} => ⟨[(0, .rptr [I R, I C, Fs p, Bs b]), (2, .ptr 299 0), (3, .ptr 399 0), (4, I i.1)], [(399, [I R, I C, Ff 1100 (strm p p R C (9 * (i.1 * C))), Bf 1101 b]), (299, [I 0, I 0, .nilsl, .nilsl])], [399, 1100, 1101, 299]⟩) (fun i => R - i.1) ⟨0, Nat.zero_le _⟩ (by simp only [Nat.zero_mul, Nat.mul_zero, strm]; exact sub_to (by simp [allE, getE] <;> (repeat' apply And.intro) <;> rfl) (by simp [allB, getB] <;> rfl) rfl rfl rfl) ?_
  rintro ⟨i, hi⟩
  refine aw_seq_k fun K5 hK5 => ?_
  refine aw_seq_k fun K6 hK6 => aw_region okG0 ?_; simp only [push_cast, Nat.reduceLT, Nat.reduceLeDiff, Nat.reduceEqDiff, reduceIte, reduceCtorEq, Nat.reduceAdd, Nat.reduceMul, Nat.reduceMod, Nat.reduceBEq, Nat.reduceBNe, List.reduceReplicate, Int.reduceLE, Int.reduceLT, Int.reduceNe]
  apply hK6; clear hK6
  refine aw_cond rfl (fun hc => ?_) (fun hc => ?_)
  · have hlt : i < R := by simpa using hc
    have hic : (i + 1) * C ≤ R * C := Nat.mul_le_mul_right C hlt
    rw [Nat.add_mul, Nat.one_mul] at hic
    refine aw_skip ?_
    simp only [push_cast, Nat.reduceLT, Nat.reduceLeDiff, Nat.reduceEqDiff, reduceIte, reduceCtorEq, Nat.reduceAdd, Nat.reduceMul, Nat.reduceMod, Nat.reduceBEq, Nat.reduceBNe, List.reduceReplicate, Int.reduceLE, Int.reduceLT, Int.reduceNe]
    apply hK5; clear hK5
    refine aw_seq_k fun K7 hK7 => ?_
    refine aw_block ?_
    refine aw_seq_k fun K8 hK8 => aw_region okG0 ?_; simp only [push_cast, Nat.reduceLT, Nat.reduceLeDiff, Nat.reduceEqDiff, reduceIte, reduceCtorEq, Nat.reduceAdd, Nat.reduceMul, Nat.reduceMod, Nat.reduceBEq, Nat.reduceBNe, List.reduceReplicate, Int.reduceLE, Int.reduceLT, Int.reduceNe]
    apply hK8; clear hK8
    refine aw_block ?_
    refine aw_loop (fun k : {k : Nat // k ≤ C} => ⟨[(0, .rptr [I R, I C, Fs p, Bs b]), (2, .ptr 299 0), (3, .ptr 399 0), (4, I i), (5, I k.1)], [(399, [I R, I C, Ff 1100 (strm p p R C (9 * (i * C + k.1))), Bf 1101 b]), (299, [I 0, I 0, .nilsl, .nilsl])], [399, 1100, 1101, 299]⟩) (fun k => C - k.1) ⟨0, Nat.zero_le _⟩ (by simp only [Nat.add_zero]; exact sub_to (by simp [allE, getE] <;> (repeat' apply And.intro) <;> rfl) (by simp [allB, getB] <;> rfl) rfl rfl rfl) ?_
    rintro ⟨k, hk⟩
    refine aw_seq_k fun K9 hK9 => ?_
    refine aw_seq_k fun K10 hK10 => aw_region okG0 ?_; simp only [push_cast, Nat.reduceLT, Nat.reduceLeDiff, Nat.reduceEqDiff, reduceIte, reduceCtorEq, Nat.reduceAdd, Nat.reduceMul, Nat.reduceMod, Nat.reduceBEq, Nat.reduceBNe, List.reduceReplicate, Int.reduceLE, Int.reduceLT, Int.reduceNe]
    apply hK10; clear hK10
    refine aw_cond rfl (fun hc => ?_) (fun hc => ?_)
    · have hlk : k < C := by simpa using hc
      refine aw_skip ?_
      simp only [push_cast, Nat.reduceLT, Nat.reduceLeDiff, Nat.reduceEqDiff, reduceIte, reduceCtorEq, Nat.reduceAdd, Nat.reduceMul, Nat.reduceMod, Nat.reduceBEq, Nat.reduceBNe, List.reduceReplicate, Int.reduceLE, Int.reduceLT, Int.reduceNe]
      apply hK9; clear hK9
      refine aw_seq_k fun K11 hK11 => ?_
      refine aw_block ?_
      refine aw_seq_k fun K12 hK12 => aw_region okG0 ?_; simp only [push_cast, Nat.reduceLT, Nat.reduceLeDiff, Nat.reduceEqDiff, reduceIte, reduceCtorEq, Nat.reduceAdd, Nat.reduceMul, Nat.reduceMod, Nat.reduceBEq, Nat.reduceBNe, List.reduceReplicate, Int.reduceLE, Int.reduceLT, Int.reduceNe]
      apply hK12; clear hK12
      refine aw_block ?_
      refine aw_loop (fun q : {q : Nat // q ≤ 9} => ⟨[(0, .rptr [I R, I C, Fs p, Bs b]), (2, .ptr 299 0), (3, .ptr 399 0), (4, I i), (5, I k), (6, I q.1)], [(399, [I R, I C, Ff 1100 (strm p p R C (9 * (i * C + k) + q.1)), Bf 1101 b]), (299, [I 0, I 0, .nilsl, .nilsl])], [399, 1100, 1101, 299]⟩) (fun q => 9 - q.1) ⟨0, Nat.zero_le _⟩ (by simp only [Nat.add_zero]; exact sub_to (by simp [allE, getE] <;> (repeat' apply And.intro) <;> rfl) (by simp [allB, getB] <;> rfl) rfl rfl rfl) ?_
      rintro ⟨q, hq⟩
      refine aw_seq_k fun K13 hK13 => ?_
      refine aw_seq_k fun K14 hK14 => aw_region okG0 ?_; simp only [push_cast, Nat.reduceLT, Nat.reduceLeDiff, Nat.reduceEqDiff, reduceIte, reduceCtorEq, Nat.reduceAdd, Nat.reduceMul, Nat.reduceMod, Nat.reduceBEq, Nat.reduceBNe, List.reduceReplicate, Int.reduceLE, Int.reduceLT, Int.reduceNe]
      apply hK14; clear hK14
      refine aw_cond rfl (fun hc => ?_) (fun hc => ?_)
      · have hlq : q < 9 := by have : (q : Int) < 9 := by simpa using hc
                               omega
        have hlen := strm_len (base := p) (p := p) (R := R) (C := C) (9 * (i * C + k) + q)
        have ht := tgt_lt (R := R) (C := C) (n := 9 * (i * C + k) + q) hR hC
        have hti := tgt_int R C (9 * (i * C + k) + q) hR hC
        rw [show (9 * (i * C + k) + q) / 9 = i * C + k by omega, show (9 * (i * C + k) + q) % 9 = q by omega, show (i * C + k) / C = i by rw [Nat.add_comm, Nat.add_mul_div_right _ _ hC, Nat.div_eq_of_lt hlk, Nat.zero_add], show (i * C + k) % C = k by rw [Nat.add_comm, Nat.add_mul_mod_self_right]; exact Nat.mod_eq_of_lt hlk] at hti
        have hsu : (strm p p R C (9 * (i * C + k) + q)).set (tgt R C (9 * (i * C + k) + q)) (p.getD (9 * (i * C + k) + q) 0) = strm p p R C (9 * (i * C + k) + (q + 1)) := rfl
        have hp9 : 9 * (i * C + k) + q < p.length := by omega
        have hci : ((i * C : Nat) : Int) = (i : Int) * (C : Int) := Int.natCast_mul _ _
        have hnI : ((9 * (i * C + k) + q : Nat) : Int) = 9 * ((i : Int) * (C : Int) + (k : Int)) + (q : Int) := by rw [← hci]; omega
        have hicb : 0 ≤ (i : Int) * (C : Int) ∧ (i : Int) * (C : Int) ≤ 256 := by rw [← hci]; omega
        generalize 9 * (i * C + k) + q = n at *
        have hpq := pd_bd q hlq
        have g1 := mod_lt (a := (i : Int) + pd q) (show 0 < R from hR)
        have g2 := mod_lt (a := (k : Int) + pr q) (show 0 < C from hC)
        have g3 := mul_le16 (x := ((i : Int) + pd q) % (R : Int)) (y := (C : Int)) g1.1 (by omega) (by omega) (by omega)
        refine aw_skip ?_
        simp only [push_cast, Nat.reduceLT, Nat.reduceLeDiff, Nat.reduceEqDiff, reduceIte, reduceCtorEq, Nat.reduceAdd, Nat.reduceMul, Nat.reduceMod, Nat.reduceBEq, Nat.reduceBNe, List.reduceReplicate, Int.reduceLE, Int.reduceLT, Int.reduceNe]
        apply hK13; clear hK13
        refine aw_seq_k fun K15 hK15 => ?_
        refine aw_block ?_
        refine aw_seq_k fun K16 hK16 => aw_region okG0 ?_; simp only [push_cast, Nat.reduceLT, Nat.reduceLeDiff, Nat.reduceEqDiff, reduceIte, reduceCtorEq, Nat.reduceAdd, Nat.reduceMul, Nat.reduceMod, Nat.reduceBEq, Nat.reduceBNe, List.reduceReplicate, Int.reduceLE, Int.reduceLT, Int.reduceNe]
        refine call_pure (l06Part_spec q hlq) (fits_of rfl) (by decide) rfl (by simp [idsV, idsVs]) ?_; simp only [push_cast, Nat.reduceLT, Nat.reduceLeDiff, Nat.reduceEqDiff, reduceIte, reduceCtorEq, Nat.reduceAdd, Nat.reduceMul, Nat.reduceMod, Nat.reduceBEq, Nat.reduceBNe, List.reduceReplicate, Int.reduceLE, Int.reduceLT, Int.reduceNe]
        apply hK16; clear hK16
        refine aw_seq_k fun K17 hK17 => aw_draw fol okG0 14 (by kernel_rfl) ?_; simp only [push_cast, Nat.reduceLT, Nat.reduceLeDiff, Nat.reduceEqDiff, reduceIte, reduceCtorEq, Nat.reduceAdd, Nat.reduceMul, Nat.reduceMod, Nat.reduceBEq, Nat.reduceBNe, List.reduceReplicate, Int.reduceLE, Int.reduceLT, Int.reduceNe]
        rw [w64 (n := (i : Int) + pd q) (by omega) (by omega), w64 (n := (k : Int) + pr q) (by omega) (by omega)]
        refine call_pure (l06At_spec R C ((i : Int) + pd q) ((k : Int) + pr q) hR hR2 hC hC2 (by omega) (by omega) (by omega) (by omega)) (fits_of rfl) (by decide) rfl (by simp [idsV, idsVs]) ?_; simp only [push_cast, Nat.reduceLT, Nat.reduceLeDiff, Nat.reduceEqDiff, reduceIte, reduceCtorEq, Nat.reduceAdd, Nat.reduceMul, Nat.reduceMod, Nat.reduceBEq, Nat.reduceBNe, List.reduceReplicate, Int.reduceLE, Int.reduceLT, Int.reduceNe]
        apply hK17; clear hK17
        refine aw_draw fol okG0 23 (by kernel_rfl) ?_
        simp only [push_cast, Nat.reduceLT, Nat.reduceLeDiff, Nat.reduceEqDiff, reduceIte, reduceCtorEq, Nat.reduceAdd, Nat.reduceMul, Nat.reduceMod, Nat.reduceBEq, Nat.reduceBNe, List.reduceReplicate, Int.reduceLE, Int.reduceLT, Int.reduceNe]
        rw [w64 (n := (i : Int) * (C : Int)) (by omega) (by omega), w64 (n := (i : Int) * (C : Int) + (k : Int)) (by omega) (by omega), w64 (n := 9 * ((i : Int) * (C : Int) + (k : Int))) (by omega) (by omega), w64 (n := 9 * ((i : Int) * (C : Int) + (k : Int)) + (q : Int)) (by omega) (by omega), ← hnI,
          w64 (n := 9 * (((i : Int) + pd q) % (R : Int) * (C : Int) + ((k : Int) + pr q) % (C : Int))) (by omega) (by omega), w64 (n := 9 * (((i : Int) + pd q) % (R : Int) * (C : Int) + ((k : Int) + pr q) % (C : Int)) + (q : Int)) (by omega) (by omega), ← hti]
        refine ⟨⟨by omega, by omega⟩, ⟨by omega, by omega⟩, by rw [Int.toNat_natCast]; omega, ?_⟩
        simp only [Int.toNat_natCast]
        rw [hsu]
        apply hK15; clear hK15
        refine aw_region okG0 ?_
        simp only [push_cast, Nat.reduceLT, Nat.reduceLeDiff, Nat.reduceEqDiff, reduceIte, reduceCtorEq, Nat.reduceAdd, Nat.reduceMul, Nat.reduceMod, Nat.reduceBEq, Nat.reduceBNe, List.reduceReplicate, Int.reduceLE, Int.reduceLT, Int.reduceNe]
        refine ⟨⟨q + 1, by omega⟩, ?_, by show 9 - (q + 1) < 9 - q; omega⟩
        rw [w64 (n := (q : Int) + 1) (by omega) (by omega)]
        exact sub_to (by simp [allE, getE] <;> (repeat' apply And.intro) <;> rfl) (by simp [allB, getB] <;> rfl) rfl rfl rfl
      · have hlt : q = 9 := by have : ¬ (q : Int) < 9 := by simpa using hc
                               omega
        subst hlt
        refine aw_exit ?_
        simp only [push_cast, Nat.reduceLT, Nat.reduceLeDiff, Nat.reduceEqDiff, reduceIte, reduceCtorEq, Nat.reduceAdd, Nat.reduceMul, Nat.reduceMod, Nat.reduceBEq, Nat.reduceBNe, List.reduceReplicate, Int.reduceLE, Int.reduceLT, Int.reduceNe]
        apply hK11; clear hK11
        refine aw_region okG0 ?_
        simp only [push_cast, Nat.reduceLT, Nat.reduceLeDiff, Nat.reduceEqDiff, reduceIte, reduceCtorEq, Nat.reduceAdd, Nat.reduceMul, Nat.reduceMod, Nat.reduceBEq, Nat.reduceBNe, List.reduceReplicate, Int.reduceLE, Int.reduceLT, Int.reduceNe]
        refine ⟨⟨k + 1, by omega⟩, ?_, by show C - (k + 1) < C - k; omega⟩
        rw [w64 (n := (k : Int) + 1) (by omega) (by omega), show 9 * (i * C + k) + 9 = 9 * (i * C + (k + 1)) by omega]
        exact sub_to (by simp [allE, getE] <;> (repeat' apply And.intro) <;> rfl) (by simp [allB, getB] <;> rfl) rfl rfl rfl
    · have hlt : k = C := by have : ¬ (k : Int) < C := by simpa using hc
                             omega
      refine aw_exit ?_
      simp only [push_cast, Nat.reduceLT, Nat.reduceLeDiff, Nat.reduceEqDiff, reduceIte, reduceCtorEq, Nat.reduceAdd, Nat.reduceMul, Nat.reduceMod, Nat.reduceBEq, Nat.reduceBNe, List.reduceReplicate, Int.reduceLE, Int.reduceLT, Int.reduceNe]
      apply hK7; clear hK7
      refine aw_region okG0 ?_
      simp only [push_cast, Nat.reduceLT, Nat.reduceLeDiff, Nat.reduceEqDiff, reduceIte, reduceCtorEq, Nat.reduceAdd, Nat.reduceMul, Nat.reduceMod, Nat.reduceBEq, Nat.reduceBNe, List.reduceReplicate, Int.reduceLE, Int.reduceLT, Int.reduceNe]
      refine ⟨⟨i + 1, by omega⟩, ?_, by show R - (i + 1) < R - i; omega⟩
      rw [w64 (n := (i : Int) + 1) (by omega) (by omega), hlt, show 9 * (i * C + C) = 9 * ((i + 1) * C) by rw [Nat.add_mul, Nat.one_mul]]
      exact sub_to (by simp [allE, getE] <;> (repeat' apply And.intro) <;> rfl) (by simp [allB, getB] <;> rfl) rfl rfl rfl
  · have hlt : i = R := by have : ¬ (i : Int) < R := by simpa using hc
                           omega
    rw [show 9 * (i * C) = p.length by rw [hlt, hp]]
    refine aw_exit ?_
    simp only [push_cast, Nat.reduceLT, Nat.reduceLeDiff, Nat.reduceEqDiff, reduceIte, reduceCtorEq, Nat.reduceAdd, Nat.reduceMul, Nat.reduceMod, Nat.reduceBEq, Nat.reduceBNe, List.reduceReplicate, Int.reduceLE, Int.reduceLT, Int.reduceNe]
    apply hK3; clear hK3
    refine aw_seq_k fun K18 hK18 => aw_region okG0 ?_; simp only [push_cast, Nat.reduceLT, Nat.reduceLeDiff, Nat.reduceEqDiff, reduceIte, reduceCtorEq, Nat.reduceAdd, Nat.reduceMul, Nat.reduceMod, Nat.reduceBEq, Nat.reduceBNe, List.reduceReplicate, Int.reduceLE, Int.reduceLT, Int.reduceNe]
    apply hK18; clear hK18
    exact aw_ret (ret_o [(1100, 0), (1101, 1)] rfl rfl (by simp [renN]) rfl)
end Go.Proofs.Avx

set_option linter.unusedVariables false
set_option linter.unusedSimpArgs false
namespace Go.Proofs.Avx
attribute [local irreducible] canon flB flO flW floatOfInt
/-! ### Flows that run -/
def stepF (R C s : Nat) (b : List Bool) (p : List Nat) : Option (List Nat) := (relaxF R C s p b).map fun q => strm q q R C q.length
def runTo (R C s : Nat) (b : List Bool) (p : List Nat) : Nat → Option (List Nat)
  | 0 => some p
  | n + 1 => (runTo R C s b p n).bind (stepF R C s b)
def runF (r c : Int) (s : Nat) (m : Int) (p : List Nat) (b : List Bool) : Option (List Nat) := if vf r c p b = true ∧ two s = true ∧ inB m 0 256 = true then runTo r.toNat c.toNat s b p m.toNat else none
theorem runTo_none {R C s : Nat} {b : List Bool} {p : List Nat} {n : Nat} (h : runTo R C s b p n = none) : ∀ m, n ≤ m → runTo R C s b p m = none := by
  intro m hm
  induction m with
  | zero => have : n = 0 := by omega
            subst this; exact h
  | succ m ih =>
    by_cases hn : n = m + 1
    · subst hn; exact h
    · simp only [runTo, ih (by omega), Option.bind_none]
theorem strm_mem {a p : List Nat} {R C : Nat} : ∀ n, n ≤ p.length → ∀ x ∈ strm a p R C n, x ∈ a ∨ x ∈ p
  | 0, _, x, hx => .inl hx
  | n + 1, hn, x, hx => by
    simp only [strm] at hx
    rcases List.mem_or_eq_of_mem_set hx with h | h
    · exact strm_mem n (by omega) x h
    · right
      rw [h]
      have : p.getD n 0 = p[n] := by simp [List.getD, show n < p.length by omega]
      rw [this]
      exact List.getElem_mem _
/-- A flow that is valid. -/
def okP (b : List Bool) (p : List Nat) : Prop := p.length = 9 * b.length ∧ p.all fin = true
theorem relaxF_ok {r c : Int} {s : Nat} {p q : List Nat} {b : List Bool} (h : relaxF r c s p b = some q) : okP b q := by
  unfold relaxF at h
  split at h
  · rename_i hv
    simp only [Option.some.injEq] at h
    subst h
    have h2 := hv.2
    unfold vf at h2
    simp only [Bool.and_eq_true] at h2
    exact ⟨rTo_len, h2.2⟩
  · cases h
theorem strm_ok {R C : Nat} {q : List Nat} {b : List Bool} (h : okP b q) : okP b (strm q q R C q.length) := by
  refine ⟨by rw [strm_len]; exact h.1, ?_⟩
  rw [List.all_eq_true]
  intro x hx
  have := strm_mem q.length (Nat.le_refl _) x hx
  rcases this with h1 | h1 <;> exact List.all_eq_true.1 h.2 x h1
theorem stepF_ok {R C s : Nat} {p q : List Nat} {b : List Bool} (h : stepF R C s b p = some q) : okP b q := by
  unfold stepF at h
  obtain ⟨q', h1, rfl⟩ := Option.map_eq_some_iff.1 h
  exact strm_ok (relaxF_ok h1)
theorem runTo_ok {R C s : Nat} {p : List Nat} {b : List Bool} (hp : okP b p) : ∀ {n : Nat} {q : List Nat}, runTo R C s b p n = some q → okP b q
  | 0, q, h => by simp only [runTo, Option.some.injEq] at h; subst h; exact hp
  | n + 1, q, h => by
    simp only [runTo] at h
    obtain ⟨q', _, h2⟩ := Option.bind_eq_some_iff.1 h
    exact stepF_ok h2
theorem run61_no (r c : Int) (s : Nat) (m : Int) (p : List Nat) (b : List Bool) (hp : p.length ≤ 4611686018427387904) (h : (vf r c p b && two s && inB m 0 256) = false) : AFp Try.prog 61 [.agg [I r, I c, Fs p, Bs b], F s, I m] (resF r c b none) := by
  refine AF_body okG0 Try.func61 rfl rfl (by simp [Try.ntmps61]) (by simp) ?_; simp only [Try.ntmps61]
  refine aw_seq_k fun K1 hK1 => aw_region okG0 ?_; simp only [push_cast, Nat.reduceLT, Nat.reduceLeDiff, Nat.reduceEqDiff, reduceIte, reduceCtorEq, Nat.reduceAdd, Nat.reduceMul, Nat.reduceMod, Nat.reduceBEq, Nat.reduceBNe, List.reduceReplicate, Int.reduceLE, Int.reduceLT, Int.reduceNe]
  apply hK1; clear hK1
  refine aw_seq_k fun K2 hK2 => ?_
  refine aw_seq_k fun K3 hK3 => aw_region okG0 ?_; simp only [push_cast, Nat.reduceLT, Nat.reduceLeDiff, Nat.reduceEqDiff, reduceIte, reduceCtorEq, Nat.reduceAdd, Nat.reduceMul, Nat.reduceMod, Nat.reduceBEq, Nat.reduceBNe, List.reduceReplicate, Int.reduceLE, Int.reduceLT, Int.reduceNe]
  refine call_pure (l06Flow_spec r c p b hp) (fits_of rfl) (by decide) rfl (by simp [idsV, idsVs]) ?_; simp only [push_cast, Nat.reduceLT, Nat.reduceLeDiff, Nat.reduceEqDiff, reduceIte, reduceCtorEq, Nat.reduceAdd, Nat.reduceMul, Nat.reduceMod, Nat.reduceBEq, Nat.reduceBNe, List.reduceReplicate, Int.reduceLE, Int.reduceLT, Int.reduceNe]
  refine gcall_pure (fun _ => l06Two_spec s) (fun _ => fits_of rfl) (by decide) rfl rfl ?_; simp only [push_cast, Nat.reduceLT, Nat.reduceLeDiff, Nat.reduceEqDiff, reduceIte, reduceCtorEq, Nat.reduceAdd, Nat.reduceMul, Nat.reduceMod, Nat.reduceBEq, Nat.reduceBNe, List.reduceReplicate, Int.reduceLE, Int.reduceLT, Int.reduceNe]
  refine gcall_pure (fun _ => l00In_spec m 0 256) (fun _ => fits_of rfl) (by decide) rfl rfl ?_; simp only [push_cast, Nat.reduceLT, Nat.reduceLeDiff, Nat.reduceEqDiff, reduceIte, reduceCtorEq, Nat.reduceAdd, Nat.reduceMul, Nat.reduceMod, Nat.reduceBEq, Nat.reduceBNe, List.reduceReplicate, Int.reduceLE, Int.reduceLT, Int.reduceNe]
  apply hK3; clear hK3
  refine aw_cond rfl (fun hc => ?_) (fun hc => ?_)
  · refine aw_seq_k fun K4 hK4 => aw_region okG0 ?_; simp only [push_cast, Nat.reduceLT, Nat.reduceLeDiff, Nat.reduceEqDiff, reduceIte, reduceCtorEq, Nat.reduceAdd, Nat.reduceMul, Nat.reduceMod, Nat.reduceBEq, Nat.reduceBNe, List.reduceReplicate, Int.reduceLE, Int.reduceLT, Int.reduceNe]
    apply hK4; clear hK4
    exact aw_ret (ret_p rfl rfl rfl (by simp))
  · exact absurd hc (by
      cases h1 : vf r c p b
      · simp
      · cases h2 : two s
        · simp
        · rw [h1, h2] at h
          simp only [Bool.true_and] at h
          simp [h])
theorem run62_no (r c : Int) (s : Nat) (m : Int) (p : List Nat) (b : List Bool) (hp : p.length ≤ 4611686018427387904) (h : (vf r c p b && two s && inB m 0 256) = false) : AFp Try.prog 62 [.agg [I r, I c, Fs p, Bs b], F s, I m] (resF r c b none) := by
  refine AF_body okG0 Try.func62 rfl rfl (by simp [Try.ntmps62]) (by simp) ?_; simp only [Try.ntmps62]
  refine aw_seq_k fun K1 hK1 => aw_region okG0 ?_; simp only [push_cast, Nat.reduceLT, Nat.reduceLeDiff, Nat.reduceEqDiff, reduceIte, reduceCtorEq, Nat.reduceAdd, Nat.reduceMul, Nat.reduceMod, Nat.reduceBEq, Nat.reduceBNe, List.reduceReplicate, Int.reduceLE, Int.reduceLT, Int.reduceNe]
  apply hK1; clear hK1
  refine aw_seq_k fun K2 hK2 => ?_
  refine aw_seq_k fun K3 hK3 => aw_region okG0 ?_; simp only [push_cast, Nat.reduceLT, Nat.reduceLeDiff, Nat.reduceEqDiff, reduceIte, reduceCtorEq, Nat.reduceAdd, Nat.reduceMul, Nat.reduceMod, Nat.reduceBEq, Nat.reduceBNe, List.reduceReplicate, Int.reduceLE, Int.reduceLT, Int.reduceNe]
  refine call_pure (ValidFlow_spec r c p b hp) (fits_of rfl) (by decide) rfl (by simp [idsV, idsVs]) ?_; simp only [push_cast, Nat.reduceLT, Nat.reduceLeDiff, Nat.reduceEqDiff, reduceIte, reduceCtorEq, Nat.reduceAdd, Nat.reduceMul, Nat.reduceMod, Nat.reduceBEq, Nat.reduceBNe, List.reduceReplicate, Int.reduceLE, Int.reduceLT, Int.reduceNe]
  refine gcall_pure (fun _ => isCalming_spec s) (fun _ => fits_of rfl) (by decide) rfl rfl ?_; simp only [push_cast, Nat.reduceLT, Nat.reduceLeDiff, Nat.reduceEqDiff, reduceIte, reduceCtorEq, Nat.reduceAdd, Nat.reduceMul, Nat.reduceMod, Nat.reduceBEq, Nat.reduceBNe, List.reduceReplicate, Int.reduceLE, Int.reduceLT, Int.reduceNe]
  refine gcall_pure (fun _ => within_spec m 0 256) (fun _ => fits_of rfl) (by decide) rfl rfl ?_; simp only [push_cast, Nat.reduceLT, Nat.reduceLeDiff, Nat.reduceEqDiff, reduceIte, reduceCtorEq, Nat.reduceAdd, Nat.reduceMul, Nat.reduceMod, Nat.reduceBEq, Nat.reduceBNe, List.reduceReplicate, Int.reduceLE, Int.reduceLT, Int.reduceNe]
  apply hK3; clear hK3
  refine aw_cond rfl (fun hc => ?_) (fun hc => ?_)
  · refine aw_seq_k fun K4 hK4 => aw_region okG0 ?_; simp only [push_cast, Nat.reduceLT, Nat.reduceLeDiff, Nat.reduceEqDiff, reduceIte, reduceCtorEq, Nat.reduceAdd, Nat.reduceMul, Nat.reduceMod, Nat.reduceBEq, Nat.reduceBNe, List.reduceReplicate, Int.reduceLE, Int.reduceLT, Int.reduceNe]
    apply hK4; clear hK4
    exact aw_ret (ret_p rfl rfl rfl (by simp))
  · exact absurd hc (by
      cases h1 : vf r c p b
      · simp
      · cases h2 : two s
        · simp
        · rw [h1, h2] at h
          simp only [Bool.true_and] at h
          simp [h])
set_option maxHeartbeats 4000000 in
theorem run61_yes (R C s : Nat) (m : Nat) (p : List Nat) (b : List Bool) (hv : vf R C p b = true) (h2 : two s = true) (hm : m ≤ 256) : AFp Try.prog 61 [.agg [I R, I C, Fs p, Bs b], F s, I m] (resF R C b (runTo R C s b p m)) := by
  obtain ⟨hs, hpl, hbl, hf, hb⟩ := vf_of hv
  obtain ⟨g1, g2, g3, g4, g5, g6⟩ := sides_of hs
  have hbRC : b.length = R * C := by have : ((R * C : Nat) : Int) = (R : Int) * (C : Int) := Int.natCast_mul _ _
                                     omega
  have hp0 : p ≠ [] := by intro h; subst h; simp at hpl; omega
  have hb0 : b ≠ [] := by intro h; subst h; simp at hbl; omega
  have hin : inB (m : Int) 0 256 = true := by simp [inB]; omega
  have hok : okP b p := ⟨hpl, hf⟩
  refine AF_body okG0 Try.func61 rfl rfl (by simp [Try.ntmps61]) (by simp) ?_; simp only [Try.ntmps61]
  refine aw_seq_k fun K1 hK1 => aw_region okG0 ?_; simp only [push_cast, Nat.reduceLT, Nat.reduceLeDiff, Nat.reduceEqDiff, reduceIte, reduceCtorEq, Nat.reduceAdd, Nat.reduceMul, Nat.reduceMod, Nat.reduceBEq, Nat.reduceBNe, List.reduceReplicate, Int.reduceLE, Int.reduceLT, Int.reduceNe]
  apply hK1; clear hK1
  refine aw_seq_k fun K2 hK2 => ?_
  refine aw_seq_k fun K3 hK3 => aw_region okG0 ?_; simp only [push_cast, Nat.reduceLT, Nat.reduceLeDiff, Nat.reduceEqDiff, reduceIte, reduceCtorEq, Nat.reduceAdd, Nat.reduceMul, Nat.reduceMod, Nat.reduceBEq, Nat.reduceBNe, List.reduceReplicate, Int.reduceLE, Int.reduceLT, Int.reduceNe]
  refine call_pure (l06Flow_spec R C p b (by omega)) (fits_of rfl) (by decide) rfl (by simp [idsV, idsVs]) ?_; simp only [push_cast, Nat.reduceLT, Nat.reduceLeDiff, Nat.reduceEqDiff, reduceIte, reduceCtorEq, Nat.reduceAdd, Nat.reduceMul, Nat.reduceMod, Nat.reduceBEq, Nat.reduceBNe, List.reduceReplicate, Int.reduceLE, Int.reduceLT, Int.reduceNe]
  refine gcall_pure (fun _ => l06Two_spec s) (fun _ => fits_of rfl) (by decide) rfl rfl ?_; simp only [push_cast, Nat.reduceLT, Nat.reduceLeDiff, Nat.reduceEqDiff, reduceIte, reduceCtorEq, Nat.reduceAdd, Nat.reduceMul, Nat.reduceMod, Nat.reduceBEq, Nat.reduceBNe, List.reduceReplicate, Int.reduceLE, Int.reduceLT, Int.reduceNe]
  refine gcall_pure (fun _ => l00In_spec m 0 256) (fun _ => fits_of rfl) (by decide) rfl rfl ?_; simp only [push_cast, Nat.reduceLT, Nat.reduceLeDiff, Nat.reduceEqDiff, reduceIte, reduceCtorEq, Nat.reduceAdd, Nat.reduceMul, Nat.reduceMod, Nat.reduceBEq, Nat.reduceBNe, List.reduceReplicate, Int.reduceLE, Int.reduceLT, Int.reduceNe]
  apply hK3; clear hK3
  refine aw_cond rfl (fun hc => ?_) (fun hc => ?_)
  · exact absurd hc (by simp [hv, h2, hin])
  · refine aw_skip ?_
    simp only [push_cast, Nat.reduceLT, Nat.reduceLeDiff, Nat.reduceEqDiff, reduceIte, reduceCtorEq, Nat.reduceAdd, Nat.reduceMul, Nat.reduceMod, Nat.reduceBEq, Nat.reduceBNe, List.reduceReplicate, Int.reduceLE, Int.reduceLT, Int.reduceNe]
    apply hK2; clear hK2
    refine aw_seq_k fun K5 hK5 => aw_region okG0 ?_; simp only [push_cast, Nat.reduceLT, Nat.reduceLeDiff, Nat.reduceEqDiff, reduceIte, reduceCtorEq, Nat.reduceAdd, Nat.reduceMul, Nat.reduceMod, Nat.reduceBEq, Nat.reduceBNe, List.reduceReplicate, Int.reduceLE, Int.reduceLT, Int.reduceNe]
    refine call_pure (l06OwnFlow_spec R C p b hp0 (by omega) (by omega)) (fits_of rfl) (by decide) rfl (by simp [idsV, idsVs]) ?_; simp only [push_cast, Nat.reduceLT, Nat.reduceLeDiff, Nat.reduceEqDiff, reduceIte, reduceCtorEq, Nat.reduceAdd, Nat.reduceMul, Nat.reduceMod, Nat.reduceBEq, Nat.reduceBNe, List.reduceReplicate, Int.reduceLE, Int.reduceLT, Int.reduceNe]
    apply hK5; clear hK5
    refine aw_seq_k fun K6 hK6 => ?_
    refine aw_seq_k fun K7 hK7 => aw_region okG0 ?_; simp only [push_cast, Nat.reduceLT, Nat.reduceLeDiff, Nat.reduceEqDiff, reduceIte, reduceCtorEq, Nat.reduceAdd, Nat.reduceMul, Nat.reduceMod, Nat.reduceBEq, Nat.reduceBNe, List.reduceReplicate, Int.reduceLE, Int.reduceLT, Int.reduceNe]
    apply hK7; clear hK7
    refine aw_block ?_
    refine aw_loop (fun x : {x : Nat × List Nat // x.1 ≤ m ∧ runTo R C s b p x.1 = some x.2} => ⟨[(1, F s), (2, I m), (6, .ptr 699 0), (8, .ptr 899 0), (9, I x.1.1)], [(899, [I R, I C, Ff 2500 x.1.2, Bf 2501 b]), (699, [I 0, I 0, .nilsl, .nilsl])], [899, 2500, 2501, 699]⟩) (fun x => m - x.1.1) ⟨(0, p), Nat.zero_le _, rfl⟩ (sub_to (by simp [allE, getE] <;> (repeat' apply And.intro) <;> rfl) (by simp [allB, getB] <;> rfl) rfl rfl rfl) ?_
    rintro ⟨⟨n, q⟩, hn, hq⟩
    simp only at hn hq
    have hqo := runTo_ok hok hq
    refine aw_seq_k fun K8 hK8 => ?_
    refine aw_seq_k fun K9 hK9 => aw_region okG0 ?_; simp only [push_cast, Nat.reduceLT, Nat.reduceLeDiff, Nat.reduceEqDiff, reduceIte, reduceCtorEq, Nat.reduceAdd, Nat.reduceMul, Nat.reduceMod, Nat.reduceBEq, Nat.reduceBNe, List.reduceReplicate, Int.reduceLE, Int.reduceLT, Int.reduceNe]
    apply hK9; clear hK9
    refine aw_cond rfl (fun hc => ?_) (fun hc => ?_)
    · have hlt : n < m := by simpa using hc
      have hrel := l06Relaxed_spec R C s q b hs hqo.1 hbl
      rw [relax_same R C s q b h2 hqo.1 hqo.2] at hrel
      refine aw_skip ?_
      simp only [push_cast, Nat.reduceLT, Nat.reduceLeDiff, Nat.reduceEqDiff, reduceIte, reduceCtorEq, Nat.reduceAdd, Nat.reduceMul, Nat.reduceMod, Nat.reduceBEq, Nat.reduceBNe, List.reduceReplicate, Int.reduceLE, Int.reduceLT, Int.reduceNe]
      apply hK8; clear hK8
      refine aw_seq_k fun K10 hK10 => ?_
      refine aw_block ?_
      cases hr : relaxF R C s q b with
      | none =>
        rw [hr] at hrel; simp only [resF] at hrel
        have hno : runTo R C s b p m = none := runTo_none (n := n + 1) (by simp only [runTo, hq, Option.bind_some, stepF, hr, Option.map_none]) m hlt
        refine aw_seq_k fun K11 hK11 => aw_region okG0 ?_; simp only [push_cast, Nat.reduceLT, Nat.reduceLeDiff, Nat.reduceEqDiff, reduceIte, reduceCtorEq, Nat.reduceAdd, Nat.reduceMul, Nat.reduceMod, Nat.reduceBEq, Nat.reduceBNe, List.reduceReplicate, Int.reduceLE, Int.reduceLT, Int.reduceNe]
        refine call_pure (hrel) (fits_of rfl) (by decide) rfl (by simp [idsV, idsVs]) ?_; simp only [push_cast, Nat.reduceLT, Nat.reduceLeDiff, Nat.reduceEqDiff, reduceIte, reduceCtorEq, Nat.reduceAdd, Nat.reduceMul, Nat.reduceMod, Nat.reduceBEq, Nat.reduceBNe, List.reduceReplicate, Int.reduceLE, Int.reduceLT, Int.reduceNe]
        apply hK11; clear hK11
        refine aw_seq_k fun K12 hK12 => ?_
        refine aw_seq_k fun K13 hK13 => aw_region okG0 ?_; simp only [push_cast, Nat.reduceLT, Nat.reduceLeDiff, Nat.reduceEqDiff, reduceIte, reduceCtorEq, Nat.reduceAdd, Nat.reduceMul, Nat.reduceMod, Nat.reduceBEq, Nat.reduceBNe, List.reduceReplicate, Int.reduceLE, Int.reduceLT, Int.reduceNe]
        apply hK13; clear hK13
        refine aw_cond rfl (fun hc => ?_) (fun hc => ?_)
        · rw [hno]
          refine aw_seq_k fun K14 hK14 => aw_region okG0 ?_; simp only [push_cast, Nat.reduceLT, Nat.reduceLeDiff, Nat.reduceEqDiff, reduceIte, reduceCtorEq, Nat.reduceAdd, Nat.reduceMul, Nat.reduceMod, Nat.reduceBEq, Nat.reduceBNe, List.reduceReplicate, Int.reduceLE, Int.reduceLT, Int.reduceNe]
          apply hK14; clear hK14
          exact aw_ret (ret_p rfl rfl rfl (by simp))
        · simp at hc
      | some q' =>
        rw [hr] at hrel; simp only [resF] at hrel
        have hq' := relaxF_ok hr
        have hnx : runTo R C s b p (n + 1) = some (strm q' q' R C q'.length) := by simp only [runTo, hq, Option.bind_some, stepF, hr, Option.map_some]
        refine aw_seq_k fun K11 hK11 => aw_region okG0 ?_; simp only [push_cast, Nat.reduceLT, Nat.reduceLeDiff, Nat.reduceEqDiff, reduceIte, reduceCtorEq, Nat.reduceAdd, Nat.reduceMul, Nat.reduceMod, Nat.reduceBEq, Nat.reduceBNe, List.reduceReplicate, Int.reduceLE, Int.reduceLT, Int.reduceNe]
        refine call_pure (hrel) (fits_of rfl) (by decide) rfl (by simp [idsV, idsVs]) ?_; simp only [push_cast, Nat.reduceLT, Nat.reduceLeDiff, Nat.reduceEqDiff, reduceIte, reduceCtorEq, Nat.reduceAdd, Nat.reduceMul, Nat.reduceMod, Nat.reduceBEq, Nat.reduceBNe, List.reduceReplicate, Int.reduceLE, Int.reduceLT, Int.reduceNe]
        apply hK11; clear hK11
        refine aw_seq_k fun K12 hK12 => ?_
        refine aw_seq_k fun K13 hK13 => aw_region okG0 ?_; simp only [push_cast, Nat.reduceLT, Nat.reduceLeDiff, Nat.reduceEqDiff, reduceIte, reduceCtorEq, Nat.reduceAdd, Nat.reduceMul, Nat.reduceMod, Nat.reduceBEq, Nat.reduceBNe, List.reduceReplicate, Int.reduceLE, Int.reduceLT, Int.reduceNe]
        apply hK13; clear hK13
        refine aw_cond rfl (fun hc => ?_) (fun hc => ?_)
        · simp at hc
        · refine aw_skip ?_
          simp only [push_cast, Nat.reduceLT, Nat.reduceLeDiff, Nat.reduceEqDiff, reduceIte, reduceCtorEq, Nat.reduceAdd, Nat.reduceMul, Nat.reduceMod, Nat.reduceBEq, Nat.reduceBNe, List.reduceReplicate, Int.reduceLE, Int.reduceLT, Int.reduceNe]
          apply hK12; clear hK12
          refine aw_region okG0 ?_
          simp only [push_cast, Nat.reduceLT, Nat.reduceLeDiff, Nat.reduceEqDiff, reduceIte, reduceCtorEq, Nat.reduceAdd, Nat.reduceMul, Nat.reduceMod, Nat.reduceBEq, Nat.reduceBNe, List.reduceReplicate, Int.reduceLE, Int.reduceLT, Int.reduceNe]
          refine call_pure (l06Streamed_spec R C q' b (by omega) (by omega) (by omega) (by omega) (by have := hq'.1; omega) hb0 (by omega)) (fits_of rfl) (by decide) rfl (by simp [idsV, idsVs]) ?_; simp only [push_cast, Nat.reduceLT, Nat.reduceLeDiff, Nat.reduceEqDiff, reduceIte, reduceCtorEq, Nat.reduceAdd, Nat.reduceMul, Nat.reduceMod, Nat.reduceBEq, Nat.reduceBNe, List.reduceReplicate, Int.reduceLE, Int.reduceLT, Int.reduceNe]
          apply hK10; clear hK10
          refine aw_region okG0 ?_
          simp only [push_cast, Nat.reduceLT, Nat.reduceLeDiff, Nat.reduceEqDiff, reduceIte, reduceCtorEq, Nat.reduceAdd, Nat.reduceMul, Nat.reduceMod, Nat.reduceBEq, Nat.reduceBNe, List.reduceReplicate, Int.reduceLE, Int.reduceLT, Int.reduceNe]
          refine ⟨⟨(n + 1, strm q' q' R C q'.length), hlt, hnx⟩, ?_, by show m - (n + 1) < m - n; omega⟩
          rw [w64 (n := (n : Int) + 1) (by omega) (by omega)]
          exact sub_ren_to [(3900, 2500), (2500, 3900), (3901, 2501), (2501, 3901)] (by simp [renN]) rfl (by simp [allE, getE, renE, renV, renVs, renN]) (by simp [allB, getB, renB, renVs, renV, renN]) rfl rfl rfl
    · have hlt : n = m := by have : ¬ (n : Int) < m := by simpa using hc
                             omega
      refine aw_exit ?_
      simp only [push_cast, Nat.reduceLT, Nat.reduceLeDiff, Nat.reduceEqDiff, reduceIte, reduceCtorEq, Nat.reduceAdd, Nat.reduceMul, Nat.reduceMod, Nat.reduceBEq, Nat.reduceBNe, List.reduceReplicate, Int.reduceLE, Int.reduceLT, Int.reduceNe]
      apply hK6; clear hK6
      refine aw_seq_k fun K15 hK15 => aw_region okG0 ?_; simp only [push_cast, Nat.reduceLT, Nat.reduceLeDiff, Nat.reduceEqDiff, reduceIte, reduceCtorEq, Nat.reduceAdd, Nat.reduceMul, Nat.reduceMod, Nat.reduceBEq, Nat.reduceBNe, List.reduceReplicate, Int.reduceLE, Int.reduceLT, Int.reduceNe]
      apply hK15; clear hK15
      rw [show runTo R C s b p m = some q by rw [← hlt]; exact hq]
      exact aw_ret (ret_o [(2500, 0), (2501, 1)] rfl rfl (by simp [renN]) rfl)
set_option maxHeartbeats 4000000 in
theorem run62_yes (R C s : Nat) (m : Nat) (p : List Nat) (b : List Bool) (hv : vf R C p b = true) (h2 : two s = true) (hm : m ≤ 256) : AFp Try.prog 62 [.agg [I R, I C, Fs p, Bs b], F s, I m] (resF R C b (runTo R C s b p m)) := by
  obtain ⟨hs, hpl, hbl, hf, hb⟩ := vf_of hv
  obtain ⟨g1, g2, g3, g4, g5, g6⟩ := sides_of hs
  have hbRC : b.length = R * C := by have : ((R * C : Nat) : Int) = (R : Int) * (C : Int) := Int.natCast_mul _ _
                                     omega
  have hp0 : p ≠ [] := by intro h; subst h; simp at hpl; omega
  have hb0 : b ≠ [] := by intro h; subst h; simp at hbl; omega
  have hin : inB (m : Int) 0 256 = true := by simp [inB]; omega
  have hok : okP b p := ⟨hpl, hf⟩
  refine AF_body okG0 Try.func62 rfl rfl (by simp [Try.ntmps62]) (by simp) ?_; simp only [Try.ntmps62]
  refine aw_seq_k fun K1 hK1 => aw_region okG0 ?_; simp only [push_cast, Nat.reduceLT, Nat.reduceLeDiff, Nat.reduceEqDiff, reduceIte, reduceCtorEq, Nat.reduceAdd, Nat.reduceMul, Nat.reduceMod, Nat.reduceBEq, Nat.reduceBNe, List.reduceReplicate, Int.reduceLE, Int.reduceLT, Int.reduceNe]
  apply hK1; clear hK1
  refine aw_seq_k fun K2 hK2 => ?_
  refine aw_seq_k fun K3 hK3 => aw_region okG0 ?_; simp only [push_cast, Nat.reduceLT, Nat.reduceLeDiff, Nat.reduceEqDiff, reduceIte, reduceCtorEq, Nat.reduceAdd, Nat.reduceMul, Nat.reduceMod, Nat.reduceBEq, Nat.reduceBNe, List.reduceReplicate, Int.reduceLE, Int.reduceLT, Int.reduceNe]
  refine call_pure (ValidFlow_spec R C p b (by omega)) (fits_of rfl) (by decide) rfl (by simp [idsV, idsVs]) ?_; simp only [push_cast, Nat.reduceLT, Nat.reduceLeDiff, Nat.reduceEqDiff, reduceIte, reduceCtorEq, Nat.reduceAdd, Nat.reduceMul, Nat.reduceMod, Nat.reduceBEq, Nat.reduceBNe, List.reduceReplicate, Int.reduceLE, Int.reduceLT, Int.reduceNe]
  refine gcall_pure (fun _ => isCalming_spec s) (fun _ => fits_of rfl) (by decide) rfl rfl ?_; simp only [push_cast, Nat.reduceLT, Nat.reduceLeDiff, Nat.reduceEqDiff, reduceIte, reduceCtorEq, Nat.reduceAdd, Nat.reduceMul, Nat.reduceMod, Nat.reduceBEq, Nat.reduceBNe, List.reduceReplicate, Int.reduceLE, Int.reduceLT, Int.reduceNe]
  refine gcall_pure (fun _ => within_spec m 0 256) (fun _ => fits_of rfl) (by decide) rfl rfl ?_; simp only [push_cast, Nat.reduceLT, Nat.reduceLeDiff, Nat.reduceEqDiff, reduceIte, reduceCtorEq, Nat.reduceAdd, Nat.reduceMul, Nat.reduceMod, Nat.reduceBEq, Nat.reduceBNe, List.reduceReplicate, Int.reduceLE, Int.reduceLT, Int.reduceNe]
  apply hK3; clear hK3
  refine aw_cond rfl (fun hc => ?_) (fun hc => ?_)
  · exact absurd hc (by simp [hv, h2, hin])
  · refine aw_skip ?_
    simp only [push_cast, Nat.reduceLT, Nat.reduceLeDiff, Nat.reduceEqDiff, reduceIte, reduceCtorEq, Nat.reduceAdd, Nat.reduceMul, Nat.reduceMod, Nat.reduceBEq, Nat.reduceBNe, List.reduceReplicate, Int.reduceLE, Int.reduceLT, Int.reduceNe]
    apply hK2; clear hK2
    refine aw_seq_k fun K5 hK5 => aw_draw fol okG0 7 (by kernel_rfl) ?_; simp only [push_cast, Nat.reduceLT, Nat.reduceLeDiff, Nat.reduceEqDiff, reduceIte, reduceCtorEq, Nat.reduceAdd, Nat.reduceMul, Nat.reduceMod, Nat.reduceBEq, Nat.reduceBNe, List.reduceReplicate, Int.reduceLE, Int.reduceLT, Int.reduceNe]
    refine ⟨_, _, cloneF_spec p hp0 (by omega), .inl ⟨fits_of rfl, rfl⟩, ?_⟩; simp only [push_cast, Nat.reduceLT, Nat.reduceLeDiff, Nat.reduceEqDiff, reduceIte, reduceCtorEq, Nat.reduceAdd, Nat.reduceMul, Nat.reduceMod, Nat.reduceBEq, Nat.reduceBNe, List.reduceReplicate, Int.reduceLE, Int.reduceLT, Int.reduceNe]
    refine ⟨_, _, cloneB_spec b hb0 (by omega), .inl ⟨fits_of rfl, rfl⟩, ?_⟩; simp only [push_cast, Nat.reduceLT, Nat.reduceLeDiff, Nat.reduceEqDiff, reduceIte, reduceCtorEq, Nat.reduceAdd, Nat.reduceMul, Nat.reduceMod, Nat.reduceBEq, Nat.reduceBNe, List.reduceReplicate, Int.reduceLE, Int.reduceLT, Int.reduceNe]
    apply hK5; clear hK5
    refine aw_seq_k fun K6 hK6 => ?_
    refine aw_seq_k fun K7 hK7 => aw_region okG0 ?_; simp only [push_cast, Nat.reduceLT, Nat.reduceLeDiff, Nat.reduceEqDiff, reduceIte, reduceCtorEq, Nat.reduceAdd, Nat.reduceMul, Nat.reduceMod, Nat.reduceBEq, Nat.reduceBNe, List.reduceReplicate, Int.reduceLE, Int.reduceLT, Int.reduceNe]
    apply hK7; clear hK7
    refine aw_block ?_
    refine aw_loop (fun x : {x : Nat × List Nat // x.1 ≤ m ∧ runTo R C s b p x.1 = some x.2} => ⟨[(1, F s), (3, .ptr 399 0), (6, .ptr 699 0), (32, I m), (33, I x.1.1)], [(399, [I R, I C, Ff 2600 x.1.2, Bf 2900 b]), (699, [I 0, I 0, .nilsl, .nilsl])], [399, 2600, 2900, 699]⟩) (fun x => m - x.1.1) ⟨(0, p), Nat.zero_le _, rfl⟩ (sub_to (by simp [allE, getE] <;> (repeat' apply And.intro) <;> rfl) (by simp [allB, getB] <;> rfl) rfl rfl rfl) ?_
    rintro ⟨⟨n, q⟩, hn, hq⟩
    simp only at hn hq
    have hqo := runTo_ok hok hq
    refine aw_seq_k fun K8 hK8 => aw_region okG0 ?_; simp only [push_cast, Nat.reduceLT, Nat.reduceLeDiff, Nat.reduceEqDiff, reduceIte, reduceCtorEq, Nat.reduceAdd, Nat.reduceMul, Nat.reduceMod, Nat.reduceBEq, Nat.reduceBNe, List.reduceReplicate, Int.reduceLE, Int.reduceLT, Int.reduceNe]
    apply hK8; clear hK8
    refine aw_seq_k fun K9 hK9 => ?_
    refine aw_cond rfl (fun hc => ?_) (fun hc => ?_)
    · have hlt : n < m := by simpa using hc
      have hrel := relax_spec R C s q b hs hqo.1 hbl
      refine aw_skip ?_
      simp only [push_cast, Nat.reduceLT, Nat.reduceLeDiff, Nat.reduceEqDiff, reduceIte, reduceCtorEq, Nat.reduceAdd, Nat.reduceMul, Nat.reduceMod, Nat.reduceBEq, Nat.reduceBNe, List.reduceReplicate, Int.reduceLE, Int.reduceLT, Int.reduceNe]
      apply hK9; clear hK9
      refine aw_seq_k fun K10 hK10 => ?_
      refine aw_block ?_
      cases hr : relaxF R C s q b with
      | none =>
        rw [hr] at hrel; simp only [resF] at hrel
        have hno : runTo R C s b p m = none := runTo_none (n := n + 1) (by simp only [runTo, hq, Option.bind_some, stepF, hr, Option.map_none]) m hlt
        refine aw_seq_k fun K11 hK11 => aw_region okG0 ?_; simp only [push_cast, Nat.reduceLT, Nat.reduceLeDiff, Nat.reduceEqDiff, reduceIte, reduceCtorEq, Nat.reduceAdd, Nat.reduceMul, Nat.reduceMod, Nat.reduceBEq, Nat.reduceBNe, List.reduceReplicate, Int.reduceLE, Int.reduceLT, Int.reduceNe]
        refine call_pure (hrel) (fits_of rfl) (by decide) rfl (by simp [idsV, idsVs]) ?_; simp only [push_cast, Nat.reduceLT, Nat.reduceLeDiff, Nat.reduceEqDiff, reduceIte, reduceCtorEq, Nat.reduceAdd, Nat.reduceMul, Nat.reduceMod, Nat.reduceBEq, Nat.reduceBNe, List.reduceReplicate, Int.reduceLE, Int.reduceLT, Int.reduceNe]
        apply hK11; clear hK11
        refine aw_seq_k fun K12 hK12 => ?_
        refine aw_seq_k fun K13 hK13 => aw_region okG0 ?_; simp only [push_cast, Nat.reduceLT, Nat.reduceLeDiff, Nat.reduceEqDiff, reduceIte, reduceCtorEq, Nat.reduceAdd, Nat.reduceMul, Nat.reduceMod, Nat.reduceBEq, Nat.reduceBNe, List.reduceReplicate, Int.reduceLE, Int.reduceLT, Int.reduceNe]
        apply hK13; clear hK13
        refine aw_cond rfl (fun hc => ?_) (fun hc => ?_)
        · rw [hno]
          refine aw_seq_k fun K14 hK14 => aw_region okG0 ?_; simp only [push_cast, Nat.reduceLT, Nat.reduceLeDiff, Nat.reduceEqDiff, reduceIte, reduceCtorEq, Nat.reduceAdd, Nat.reduceMul, Nat.reduceMod, Nat.reduceBEq, Nat.reduceBNe, List.reduceReplicate, Int.reduceLE, Int.reduceLT, Int.reduceNe]
          apply hK14; clear hK14
          exact aw_ret (ret_p rfl rfl rfl (by simp))
        · simp at hc
      | some q' =>
        rw [hr] at hrel; simp only [resF] at hrel
        have hq' := relaxF_ok hr
        have hst := stream_spec R C q' b (by omega) (by omega) (by omega) (by omega) (by have := hq'.1; omega) hb0 (by omega)
        have hl9 : q'.length = 9 * (R * C) := by have := hq'.1; omega
        have hsame := strm_same (a := List.replicate q'.length (canon .f32 0)) (b := q') (p := q') (R := R) (C := C) (by omega) (by omega) (by rw [List.length_replicate]; exact hl9) hl9
        rw [← hl9] at hsame
        rw [hsame] at hst
        have hnx : runTo R C s b p (n + 1) = some (strm q' q' R C q'.length) := by simp only [runTo, hq, Option.bind_some, stepF, hr, Option.map_some]
        refine aw_seq_k fun K11 hK11 => aw_region okG0 ?_; simp only [push_cast, Nat.reduceLT, Nat.reduceLeDiff, Nat.reduceEqDiff, reduceIte, reduceCtorEq, Nat.reduceAdd, Nat.reduceMul, Nat.reduceMod, Nat.reduceBEq, Nat.reduceBNe, List.reduceReplicate, Int.reduceLE, Int.reduceLT, Int.reduceNe]
        refine call_pure (hrel) (fits_of rfl) (by decide) rfl (by simp [idsV, idsVs]) ?_; simp only [push_cast, Nat.reduceLT, Nat.reduceLeDiff, Nat.reduceEqDiff, reduceIte, reduceCtorEq, Nat.reduceAdd, Nat.reduceMul, Nat.reduceMod, Nat.reduceBEq, Nat.reduceBNe, List.reduceReplicate, Int.reduceLE, Int.reduceLT, Int.reduceNe]
        apply hK11; clear hK11
        refine aw_seq_k fun K12 hK12 => ?_
        refine aw_seq_k fun K13 hK13 => aw_region okG0 ?_; simp only [push_cast, Nat.reduceLT, Nat.reduceLeDiff, Nat.reduceEqDiff, reduceIte, reduceCtorEq, Nat.reduceAdd, Nat.reduceMul, Nat.reduceMod, Nat.reduceBEq, Nat.reduceBNe, List.reduceReplicate, Int.reduceLE, Int.reduceLT, Int.reduceNe]
        apply hK13; clear hK13
        refine aw_cond rfl (fun hc => ?_) (fun hc => ?_)
        · simp at hc
        · refine aw_skip ?_
          simp only [push_cast, Nat.reduceLT, Nat.reduceLeDiff, Nat.reduceEqDiff, reduceIte, reduceCtorEq, Nat.reduceAdd, Nat.reduceMul, Nat.reduceMod, Nat.reduceBEq, Nat.reduceBNe, List.reduceReplicate, Int.reduceLE, Int.reduceLT, Int.reduceNe]
          apply hK12; clear hK12
          refine aw_region okG0 ?_
          simp only [push_cast, Nat.reduceLT, Nat.reduceLeDiff, Nat.reduceEqDiff, reduceIte, reduceCtorEq, Nat.reduceAdd, Nat.reduceMul, Nat.reduceMod, Nat.reduceBEq, Nat.reduceBNe, List.reduceReplicate, Int.reduceLE, Int.reduceLT, Int.reduceNe]
          refine call_pure (hst) (fits_of rfl) (by decide) rfl (by simp [idsV, idsVs]) ?_; simp only [push_cast, Nat.reduceLT, Nat.reduceLeDiff, Nat.reduceEqDiff, reduceIte, reduceCtorEq, Nat.reduceAdd, Nat.reduceMul, Nat.reduceMod, Nat.reduceBEq, Nat.reduceBNe, List.reduceReplicate, Int.reduceLE, Int.reduceLT, Int.reduceNe]
          apply hK10; clear hK10
          refine aw_region okG0 ?_
          simp only [push_cast, Nat.reduceLT, Nat.reduceLeDiff, Nat.reduceEqDiff, reduceIte, reduceCtorEq, Nat.reduceAdd, Nat.reduceMul, Nat.reduceMod, Nat.reduceBEq, Nat.reduceBNe, List.reduceReplicate, Int.reduceLE, Int.reduceLT, Int.reduceNe]
          refine ⟨⟨(n + 1, strm q' q' R C q'.length), hlt, hnx⟩, ?_, by show m - (n + 1) < m - n; omega⟩
          rw [w64 (n := (n : Int) + 1) (by omega) (by omega)]
          exact sub_ren_to [(4500, 2600), (2600, 4500), (4501, 2900), (2900, 4501)] (by simp [renN]) rfl (by simp [allE, getE, renE, renV, renVs, renN]) (by simp [allB, getB, renB, renVs, renV, renN]) rfl rfl rfl
    · have hlt : n = m := by have : ¬ (n : Int) < m := by simpa using hc
                             omega
      refine aw_exit ?_
      simp only [push_cast, Nat.reduceLT, Nat.reduceLeDiff, Nat.reduceEqDiff, reduceIte, reduceCtorEq, Nat.reduceAdd, Nat.reduceMul, Nat.reduceMod, Nat.reduceBEq, Nat.reduceBNe, List.reduceReplicate, Int.reduceLE, Int.reduceLT, Int.reduceNe]
      apply hK6; clear hK6
      refine aw_seq_k fun K15 hK15 => aw_region okG0 ?_; simp only [push_cast, Nat.reduceLT, Nat.reduceLeDiff, Nat.reduceEqDiff, reduceIte, reduceCtorEq, Nat.reduceAdd, Nat.reduceMul, Nat.reduceMod, Nat.reduceBEq, Nat.reduceBNe, List.reduceReplicate, Int.reduceLE, Int.reduceLT, Int.reduceNe]
      apply hK15; clear hK15
      rw [show runTo R C s b p m = some q by rw [← hlt]; exact hq]
      exact aw_ret (ret_o [(2600, 0), (2900, 1)] rfl rfl (by simp [renN]) rfl)
theorem run61_spec (r c : Int) (s : Nat) (m : Int) (p : List Nat) (b : List Bool) (hp : p.length ≤ 4611686018427387904) : AFp Try.prog 61 [.agg [I r, I c, Fs p, Bs b], F s, I m] (resF r c b (runF r c s m p b)) := by
  by_cases h : vf r c p b = true ∧ two s = true ∧ inB m 0 256 = true
  · have hr : runF r c s m p b = runTo r.toNat c.toNat s b p m.toNat := by unfold runF; rw [if_pos h]
    rw [hr]
    obtain ⟨hs, _⟩ := vf_of h.1
    obtain ⟨g1, g2, g3, g4, g5, g6⟩ := sides_of hs
    have hm := h.2.2
    simp only [inB, Bool.and_eq_true, decide_eq_true_eq] at hm
    obtain ⟨R, rfl⟩ := Int.eq_ofNat_of_zero_le (show 0 ≤ r by omega)
    obtain ⟨C, rfl⟩ := Int.eq_ofNat_of_zero_le (show 0 ≤ c by omega)
    obtain ⟨M, rfl⟩ := Int.eq_ofNat_of_zero_le hm.1
    exact run61_yes R C s M p b h.1 h.2.1 (by omega)
  · have hr : runF r c s m p b = none := by unfold runF; rw [if_neg h]
    rw [hr]
    refine run61_no r c s m p b hp ?_
    cases hx : (vf r c p b && two s && inB m 0 256)
    · rfl
    · simp only [Bool.and_eq_true] at hx
      exact absurd ⟨hx.1.1, hx.1.2, hx.2⟩ h
theorem run62_spec (r c : Int) (s : Nat) (m : Int) (p : List Nat) (b : List Bool) (hp : p.length ≤ 4611686018427387904) : AFp Try.prog 62 [.agg [I r, I c, Fs p, Bs b], F s, I m] (resF r c b (runF r c s m p b)) := by
  by_cases h : vf r c p b = true ∧ two s = true ∧ inB m 0 256 = true
  · have hr : runF r c s m p b = runTo r.toNat c.toNat s b p m.toNat := by unfold runF; rw [if_pos h]
    rw [hr]
    obtain ⟨hs, _⟩ := vf_of h.1
    obtain ⟨g1, g2, g3, g4, g5, g6⟩ := sides_of hs
    have hm := h.2.2
    simp only [inB, Bool.and_eq_true, decide_eq_true_eq] at hm
    obtain ⟨R, rfl⟩ := Int.eq_ofNat_of_zero_le (show 0 ≤ r by omega)
    obtain ⟨C, rfl⟩ := Int.eq_ofNat_of_zero_le (show 0 ≤ c by omega)
    obtain ⟨M, rfl⟩ := Int.eq_ofNat_of_zero_le hm.1
    exact run62_yes R C s M p b h.1 h.2.1 (by omega)
  · have hr : runF r c s m p b = none := by unfold runF; rw [if_neg h]
    rw [hr]
    refine run62_no r c s m p b hp ?_
    cases hx : (vf r c p b && two s && inB m 0 256)
    · rfl
    · simp only [Bool.and_eq_true] at hx
      exact absurd ⟨hx.1.1, hx.1.2, hx.2⟩ h
end Go.Proofs.Avx

set_option linter.unusedVariables false
set_option linter.unusedSimpArgs false
namespace Go.Proofs.Avx
attribute [local irreducible] canon flB flO flW floatOfInt
/-! ### The law of RunFlow -/
theorem runF_len {r c : Int} {s : Nat} {m : Int} {p R : List Nat} {b : List Bool} (h : runF r c s m p b = some R) : R.length = 9 * b.length ∧ b.length ≤ 256 := by
  unfold runF at h
  split at h
  · rename_i hv
    obtain ⟨_, h2, _, h4, h5⟩ := vf_of hv.1
    exact ⟨(runTo_ok ⟨h2, h4⟩ h).1, h5⟩
  · cases h
set_option maxHeartbeats 4000000 in
theorem lawRun_spec (r c : Int) (s : Nat) (m : Int) (p : List Nat) (b : List Bool) (hp : p.length ≤ 9223372036854775807) (hb : b.length ≤ 9223372036854775807) : AFp Try.prog 8 [.agg [I r, I c, Fs p, Bs b], F s, I m] (Bo true) := by
  by_cases hlt : szL p b 1048576 < 0
  · refine AF_body okG0 Try.func8 rfl rfl (by simp [Try.ntmps8]) (by simp) ?_; simp only [Try.ntmps8]
    refine aw_seq_k fun K1 hK1 => aw_region okG0 ?_; simp only [push_cast, Nat.reduceLT, Nat.reduceLeDiff, Nat.reduceEqDiff, reduceIte, reduceCtorEq, Nat.reduceAdd, Nat.reduceMul, Nat.reduceMod, Nat.reduceBEq, Nat.reduceBNe, List.reduceReplicate, Int.reduceLE, Int.reduceLT, Int.reduceNe]
    apply hK1; clear hK1
    refine aw_seq_k fun K2 hK2 => aw_region okG0 ?_; simp only [push_cast, Nat.reduceLT, Nat.reduceLeDiff, Nat.reduceEqDiff, reduceIte, reduceCtorEq, Nat.reduceAdd, Nat.reduceMul, Nat.reduceMod, Nat.reduceBEq, Nat.reduceBNe, List.reduceReplicate, Int.reduceLE, Int.reduceLT, Int.reduceNe]
    apply hK2; clear hK2
    refine aw_seq_k fun K3 hK3 => aw_region okG0 ?_; simp only [push_cast, Nat.reduceLT, Nat.reduceLeDiff, Nat.reduceEqDiff, reduceIte, reduceCtorEq, Nat.reduceAdd, Nat.reduceMul, Nat.reduceMod, Nat.reduceBEq, Nat.reduceBNe, List.reduceReplicate, Int.reduceLE, Int.reduceLT, Int.reduceNe]
    refine call_pure (szFlow_spec r c p b 1048576 (by omega) (by omega) (by omega) (by omega)) (fits_of rfl) (by decide) rfl (by simp [idsV, idsVs]) ?_; simp only [push_cast, Nat.reduceLT, Nat.reduceLeDiff, Nat.reduceEqDiff, reduceIte, reduceCtorEq, Nat.reduceAdd, Nat.reduceMul, Nat.reduceMod, Nat.reduceBEq, Nat.reduceBNe, List.reduceReplicate, Int.reduceLE, Int.reduceLT, Int.reduceNe]
    apply hK3; clear hK3
    refine aw_seq_k fun K4 hK4 => ?_
    refine aw_seq_k fun K5 hK5 => aw_region okG0 ?_; simp only [push_cast, Nat.reduceLT, Nat.reduceLeDiff, Nat.reduceEqDiff, reduceIte, reduceCtorEq, Nat.reduceAdd, Nat.reduceMul, Nat.reduceMod, Nat.reduceBEq, Nat.reduceBNe, List.reduceReplicate, Int.reduceLE, Int.reduceLT, Int.reduceNe]
    apply hK5; clear hK5
    refine aw_cond rfl (fun hc => ?_) (fun hc => ?_)
    · refine aw_seq_k fun K6 hK6 => aw_region okG0 ?_; simp only [push_cast, Nat.reduceLT, Nat.reduceLeDiff, Nat.reduceEqDiff, reduceIte, reduceCtorEq, Nat.reduceAdd, Nat.reduceMul, Nat.reduceMod, Nat.reduceBEq, Nat.reduceBNe, List.reduceReplicate, Int.reduceLE, Int.reduceLT, Int.reduceNe]
      apply hK6; clear hK6
      exact aw_ret (ret_p rfl rfl rfl (by simp))
    · exact absurd hlt (by simpa using hc)
  · have hpb : p.length + b.length ≤ 1048576 := by
      unfold szL at hlt
      split at hlt
      · omega
      · split at hlt
        · omega
        · omega
    obtain ⟨z, hsz⟩ : ∃ z, szL p b 1048576 = z := ⟨_, rfl⟩
    rw [hsz] at hlt
    have h61 := run61_spec r c s m p b (by omega)
    have h62 := run62_spec r c s m p b (by omega)
    cases hR : runF r c s m p b with
    | none =>
      rw [hR] at h61 h62; simp only [resF] at h61 h62
      refine AF_body okG0 Try.func8 rfl rfl (by simp [Try.ntmps8]) (by simp) ?_; simp only [Try.ntmps8]
      refine aw_seq_k fun K1 hK1 => aw_region okG0 ?_; simp only [push_cast, Nat.reduceLT, Nat.reduceLeDiff, Nat.reduceEqDiff, reduceIte, reduceCtorEq, Nat.reduceAdd, Nat.reduceMul, Nat.reduceMod, Nat.reduceBEq, Nat.reduceBNe, List.reduceReplicate, Int.reduceLE, Int.reduceLT, Int.reduceNe]
      apply hK1; clear hK1
      refine aw_seq_k fun K2 hK2 => aw_region okG0 ?_; simp only [push_cast, Nat.reduceLT, Nat.reduceLeDiff, Nat.reduceEqDiff, reduceIte, reduceCtorEq, Nat.reduceAdd, Nat.reduceMul, Nat.reduceMod, Nat.reduceBEq, Nat.reduceBNe, List.reduceReplicate, Int.reduceLE, Int.reduceLT, Int.reduceNe]
      apply hK2; clear hK2
      refine aw_seq_k fun K3 hK3 => aw_region okG0 ?_; simp only [push_cast, Nat.reduceLT, Nat.reduceLeDiff, Nat.reduceEqDiff, reduceIte, reduceCtorEq, Nat.reduceAdd, Nat.reduceMul, Nat.reduceMod, Nat.reduceBEq, Nat.reduceBNe, List.reduceReplicate, Int.reduceLE, Int.reduceLT, Int.reduceNe]
      refine call_pure (szFlow_spec r c p b 1048576 (by omega) (by omega) (by omega) (by omega)) (fits_of rfl) (by decide) rfl (by simp [idsV, idsVs]) ?_; simp only [push_cast, Nat.reduceLT, Nat.reduceLeDiff, Nat.reduceEqDiff, reduceIte, reduceCtorEq, Nat.reduceAdd, Nat.reduceMul, Nat.reduceMod, Nat.reduceBEq, Nat.reduceBNe, List.reduceReplicate, Int.reduceLE, Int.reduceLT, Int.reduceNe]
      apply hK3; clear hK3
      refine aw_seq_k fun K4 hK4 => ?_
      refine aw_seq_k fun K5 hK5 => aw_region okG0 ?_; simp only [push_cast, Nat.reduceLT, Nat.reduceLeDiff, Nat.reduceEqDiff, reduceIte, reduceCtorEq, Nat.reduceAdd, Nat.reduceMul, Nat.reduceMod, Nat.reduceBEq, Nat.reduceBNe, List.reduceReplicate, Int.reduceLE, Int.reduceLT, Int.reduceNe]
      apply hK5; clear hK5
      rw [hsz]
      refine aw_cond rfl (fun hc => ?_) (fun hc => ?_)
      · exact absurd (by simpa using hc) hlt
      · refine aw_skip ?_
        simp only [push_cast, Nat.reduceLT, Nat.reduceLeDiff, Nat.reduceEqDiff, reduceIte, reduceCtorEq, Nat.reduceAdd, Nat.reduceMul, Nat.reduceMod, Nat.reduceBEq, Nat.reduceBNe, List.reduceReplicate, Int.reduceLE, Int.reduceLT, Int.reduceNe]
        apply hK4; clear hK4
        refine aw_seq_k fun K7 hK7 => aw_region okG0 ?_; simp only [push_cast, Nat.reduceLT, Nat.reduceLeDiff, Nat.reduceEqDiff, reduceIte, reduceCtorEq, Nat.reduceAdd, Nat.reduceMul, Nat.reduceMod, Nat.reduceBEq, Nat.reduceBNe, List.reduceReplicate, Int.reduceLE, Int.reduceLT, Int.reduceNe]
        refine call_pure (toFlow_spec r c p b (by omega) (by omega)) (fits_of rfl) (by decide) rfl (by simp [idsV, idsVs]) ?_; simp only [push_cast, Nat.reduceLT, Nat.reduceLeDiff, Nat.reduceEqDiff, reduceIte, reduceCtorEq, Nat.reduceAdd, Nat.reduceMul, Nat.reduceMod, Nat.reduceBEq, Nat.reduceBNe, List.reduceReplicate, Int.reduceLE, Int.reduceLT, Int.reduceNe]
        refine call_pure (h61) (fits_of rfl) (by decide) rfl (by simp [idsV, idsVs]) ?_; simp only [push_cast, Nat.reduceLT, Nat.reduceLeDiff, Nat.reduceEqDiff, reduceIte, reduceCtorEq, Nat.reduceAdd, Nat.reduceMul, Nat.reduceMod, Nat.reduceBEq, Nat.reduceBNe, List.reduceReplicate, Int.reduceLE, Int.reduceLT, Int.reduceNe]
        apply hK7; clear hK7
        refine aw_seq_k fun K8 hK8 => aw_region okG0 ?_; simp only [push_cast, Nat.reduceLT, Nat.reduceLeDiff, Nat.reduceEqDiff, reduceIte, reduceCtorEq, Nat.reduceAdd, Nat.reduceMul, Nat.reduceMod, Nat.reduceBEq, Nat.reduceBNe, List.reduceReplicate, Int.reduceLE, Int.reduceLT, Int.reduceNe]
        refine call_pure (toFlow_spec r c p b (by omega) (by omega)) (fits_of rfl) (by decide) rfl (by simp [idsV, idsVs]) ?_; simp only [push_cast, Nat.reduceLT, Nat.reduceLeDiff, Nat.reduceEqDiff, reduceIte, reduceCtorEq, Nat.reduceAdd, Nat.reduceMul, Nat.reduceMod, Nat.reduceBEq, Nat.reduceBNe, List.reduceReplicate, Int.reduceLE, Int.reduceLT, Int.reduceNe]
        apply hK8; clear hK8
        refine aw_seq_k fun K9 hK9 => aw_region okG0 ?_; simp only [push_cast, Nat.reduceLT, Nat.reduceLeDiff, Nat.reduceEqDiff, reduceIte, reduceCtorEq, Nat.reduceAdd, Nat.reduceMul, Nat.reduceMod, Nat.reduceBEq, Nat.reduceBNe, List.reduceReplicate, Int.reduceLE, Int.reduceLT, Int.reduceNe]
        refine call_pure (h62) (fits_of rfl) (by decide) rfl (by simp [idsV, idsVs]) ?_; simp only [push_cast, Nat.reduceLT, Nat.reduceLeDiff, Nat.reduceEqDiff, reduceIte, reduceCtorEq, Nat.reduceAdd, Nat.reduceMul, Nat.reduceMod, Nat.reduceBEq, Nat.reduceBNe, List.reduceReplicate, Int.reduceLE, Int.reduceLT, Int.reduceNe]
        apply hK9; clear hK9
        refine aw_seq_k fun K10 hK10 => ?_
        refine aw_seq_k fun K11 hK11 => aw_region okG0 ?_; simp only [push_cast, Nat.reduceLT, Nat.reduceLeDiff, Nat.reduceEqDiff, reduceIte, reduceCtorEq, Nat.reduceAdd, Nat.reduceMul, Nat.reduceMod, Nat.reduceBEq, Nat.reduceBNe, List.reduceReplicate, Int.reduceLE, Int.reduceLT, Int.reduceNe]
        refine call_pure (eqNo_spec) (fits_of rfl) (by decide) rfl (by simp [idsV, idsVs]) ?_; simp only [push_cast, Nat.reduceLT, Nat.reduceLeDiff, Nat.reduceEqDiff, reduceIte, reduceCtorEq, Nat.reduceAdd, Nat.reduceMul, Nat.reduceMod, Nat.reduceBEq, Nat.reduceBNe, List.reduceReplicate, Int.reduceLE, Int.reduceLT, Int.reduceNe]
        apply hK11; clear hK11
        refine aw_cond rfl (fun hc => ?_) (fun hc => ?_)
        · simp at hc
        · refine aw_skip ?_
          simp only [push_cast, Nat.reduceLT, Nat.reduceLeDiff, Nat.reduceEqDiff, reduceIte, reduceCtorEq, Nat.reduceAdd, Nat.reduceMul, Nat.reduceMod, Nat.reduceBEq, Nat.reduceBNe, List.reduceReplicate, Int.reduceLE, Int.reduceLT, Int.reduceNe]
          apply hK10; clear hK10
          refine aw_seq_k fun K13 hK13 => ?_
          refine aw_seq_k fun K14 hK14 => aw_draw fol okG0 3 (by kernel_rfl) ?_; simp only [push_cast, Nat.reduceLT, Nat.reduceLeDiff, Nat.reduceEqDiff, reduceIte, reduceCtorEq, Nat.reduceAdd, Nat.reduceMul, Nat.reduceMod, Nat.reduceBEq, Nat.reduceBNe, List.reduceReplicate, Int.reduceLE, Int.reduceLT, Int.reduceNe]
          refine ⟨_, _, toFlow_spec r c p b (by omega) (by omega), .inl ⟨fits_of rfl, rfl⟩, ?_⟩; simp only [push_cast, Nat.reduceLT, Nat.reduceLeDiff, Nat.reduceEqDiff, reduceIte, reduceCtorEq, Nat.reduceAdd, Nat.reduceMul, Nat.reduceMod, Nat.reduceBEq, Nat.reduceBNe, List.reduceReplicate, Int.reduceLE, Int.reduceLT, Int.reduceNe]
          refine call_pure (eqFlow_spec r c p b (by omega) (by omega)) (fits_of rfl) (by decide) rfl (by simp [idsV, idsVs]) ?_; simp only [push_cast, Nat.reduceLT, Nat.reduceLeDiff, Nat.reduceEqDiff, reduceIte, reduceCtorEq, Nat.reduceAdd, Nat.reduceMul, Nat.reduceMod, Nat.reduceBEq, Nat.reduceBNe, List.reduceReplicate, Int.reduceLE, Int.reduceLT, Int.reduceNe]
          apply hK14; clear hK14
          refine aw_cond rfl (fun hc => ?_) (fun hc => ?_)
          · simp at hc
          · refine aw_skip ?_
            simp only [push_cast, Nat.reduceLT, Nat.reduceLeDiff, Nat.reduceEqDiff, reduceIte, reduceCtorEq, Nat.reduceAdd, Nat.reduceMul, Nat.reduceMod, Nat.reduceBEq, Nat.reduceBNe, List.reduceReplicate, Int.reduceLE, Int.reduceLT, Int.reduceNe]
            apply hK13; clear hK13
            refine aw_seq_k fun K16 hK16 => aw_region okG0 ?_; simp only [push_cast, Nat.reduceLT, Nat.reduceLeDiff, Nat.reduceEqDiff, reduceIte, reduceCtorEq, Nat.reduceAdd, Nat.reduceMul, Nat.reduceMod, Nat.reduceBEq, Nat.reduceBNe, List.reduceReplicate, Int.reduceLE, Int.reduceLT, Int.reduceNe]
            apply hK16; clear hK16
            refine aw_seq_k fun K17 hK17 => aw_region okG0 ?_; simp only [push_cast, Nat.reduceLT, Nat.reduceLeDiff, Nat.reduceEqDiff, reduceIte, reduceCtorEq, Nat.reduceAdd, Nat.reduceMul, Nat.reduceMod, Nat.reduceBEq, Nat.reduceBNe, List.reduceReplicate, Int.reduceLE, Int.reduceLT, Int.reduceNe]
            refine call_io false [(3200, 98), (3201, 198)] (markFlow_spec r c p b 1 (by omega) (by omega) (by omega)) rfl (fits_of rfl) (by decide) (by decide) rfl (by simp [ioOK, getB, back, borVs, borV, kee, inSnd, fitsVs, fitsV]) rfl (by simp [newIds, idsV, idsVs, inSnd, dstN]) (by rfl) (by rfl) rfl (.inl rfl) ?_; simp only [push_cast, Nat.reduceLT, Nat.reduceLeDiff, Nat.reduceEqDiff, reduceIte, reduceCtorEq, Nat.reduceAdd, Nat.reduceMul, Nat.reduceMod, Nat.reduceBEq, Nat.reduceBNe, List.reduceReplicate, Int.reduceLE, Int.reduceLT, Int.reduceNe]
            simp only [mkF_len, mkB_len, if_true]
            apply hK17; clear hK17
            refine aw_seq_k fun K18 hK18 => ?_
            refine aw_seq_k fun K19 hK19 => aw_region okG0 ?_; simp only [push_cast, Nat.reduceLT, Nat.reduceLeDiff, Nat.reduceEqDiff, reduceIte, reduceCtorEq, Nat.reduceAdd, Nat.reduceMul, Nat.reduceMod, Nat.reduceBEq, Nat.reduceBNe, List.reduceReplicate, Int.reduceLE, Int.reduceLT, Int.reduceNe]
            refine gcall_pure (fun _ => eqNo_spec) (fun _ => fits_of rfl) (by decide) rfl rfl ?_; simp only [push_cast, Nat.reduceLT, Nat.reduceLeDiff, Nat.reduceEqDiff, reduceIte, reduceCtorEq, Nat.reduceAdd, Nat.reduceMul, Nat.reduceMod, Nat.reduceBEq, Nat.reduceBNe, List.reduceReplicate, Int.reduceLE, Int.reduceLT, Int.reduceNe]
            apply hK19; clear hK19
            refine aw_cond rfl (fun hc => ?_) (fun hc => ?_)
            · simp at hc <;> omega
            · refine aw_skip ?_
              simp only [push_cast, Nat.reduceLT, Nat.reduceLeDiff, Nat.reduceEqDiff, reduceIte, reduceCtorEq, Nat.reduceAdd, Nat.reduceMul, Nat.reduceMod, Nat.reduceBEq, Nat.reduceBNe, List.reduceReplicate, Int.reduceLE, Int.reduceLT, Int.reduceNe]
              apply hK18; clear hK18
              refine aw_seq_k fun K21 hK21 => aw_region okG0 ?_; simp only [push_cast, Nat.reduceLT, Nat.reduceLeDiff, Nat.reduceEqDiff, reduceIte, reduceCtorEq, Nat.reduceAdd, Nat.reduceMul, Nat.reduceMod, Nat.reduceBEq, Nat.reduceBNe, List.reduceReplicate, Int.reduceLE, Int.reduceLT, Int.reduceNe]
              apply hK21; clear hK21
              refine aw_seq_k fun K22 hK22 => aw_region okG0 ?_; simp only [push_cast, Nat.reduceLT, Nat.reduceLeDiff, Nat.reduceEqDiff, reduceIte, reduceCtorEq, Nat.reduceAdd, Nat.reduceMul, Nat.reduceMod, Nat.reduceBEq, Nat.reduceBNe, List.reduceReplicate, Int.reduceLE, Int.reduceLT, Int.reduceNe]
              refine call_pure (markNoFlow_spec 1) (fits_of rfl) (by decide) rfl (by simp [idsV, idsVs]) ?_; simp only [push_cast, Nat.reduceLT, Nat.reduceLeDiff, Nat.reduceEqDiff, reduceIte, reduceCtorEq, Nat.reduceAdd, Nat.reduceMul, Nat.reduceMod, Nat.reduceBEq, Nat.reduceBNe, List.reduceReplicate, Int.reduceLE, Int.reduceLT, Int.reduceNe]
              apply hK22; clear hK22
              refine aw_seq_k fun K23 hK23 => aw_region okG0 ?_; simp only [push_cast, Nat.reduceLT, Nat.reduceLeDiff, Nat.reduceEqDiff, reduceIte, reduceCtorEq, Nat.reduceAdd, Nat.reduceMul, Nat.reduceMod, Nat.reduceBEq, Nat.reduceBNe, List.reduceReplicate, Int.reduceLE, Int.reduceLT, Int.reduceNe]
              apply hK23; clear hK23
              refine aw_seq_k fun K24 hK24 => aw_region okG0 ?_; simp only [push_cast, Nat.reduceLT, Nat.reduceLeDiff, Nat.reduceEqDiff, reduceIte, reduceCtorEq, Nat.reduceAdd, Nat.reduceMul, Nat.reduceMod, Nat.reduceBEq, Nat.reduceBNe, List.reduceReplicate, Int.reduceLE, Int.reduceLT, Int.reduceNe]
              refine call_pure (heldNoFlow_spec 1 (by omega)) (fits_of rfl) (by decide) rfl (by simp [idsV, idsVs]) ?_; simp only [push_cast, Nat.reduceLT, Nat.reduceLeDiff, Nat.reduceEqDiff, reduceIte, reduceCtorEq, Nat.reduceAdd, Nat.reduceMul, Nat.reduceMod, Nat.reduceBEq, Nat.reduceBNe, List.reduceReplicate, Int.reduceLE, Int.reduceLT, Int.reduceNe]
              apply hK24; clear hK24
              refine aw_seq_k fun K25 hK25 => ?_
              refine aw_seq_k fun K26 hK26 => aw_region okG0 ?_; simp only [push_cast, Nat.reduceLT, Nat.reduceLeDiff, Nat.reduceEqDiff, reduceIte, reduceCtorEq, Nat.reduceAdd, Nat.reduceMul, Nat.reduceMod, Nat.reduceBEq, Nat.reduceBNe, List.reduceReplicate, Int.reduceLE, Int.reduceLT, Int.reduceNe]
              apply hK26; clear hK26
              refine aw_cond rfl (fun hc => ?_) (fun hc => ?_)
              · simp at hc <;> omega
              · refine aw_skip ?_
                simp only [push_cast, Nat.reduceLT, Nat.reduceLeDiff, Nat.reduceEqDiff, reduceIte, reduceCtorEq, Nat.reduceAdd, Nat.reduceMul, Nat.reduceMod, Nat.reduceBEq, Nat.reduceBNe, List.reduceReplicate, Int.reduceLE, Int.reduceLT, Int.reduceNe]
                apply hK25; clear hK25
                refine aw_seq_k fun K28 hK28 => ?_
                refine aw_seq_k fun K29 hK29 => aw_region okG0 ?_; simp only [push_cast, Nat.reduceLT, Nat.reduceLeDiff, Nat.reduceEqDiff, reduceIte, reduceCtorEq, Nat.reduceAdd, Nat.reduceMul, Nat.reduceMod, Nat.reduceBEq, Nat.reduceBNe, List.reduceReplicate, Int.reduceLE, Int.reduceLT, Int.reduceNe]
                apply hK29; clear hK29
                refine aw_cond rfl (fun hc => ?_) (fun hc => ?_)
                · simp at hc
                · refine aw_skip ?_
                  simp only [push_cast, Nat.reduceLT, Nat.reduceLeDiff, Nat.reduceEqDiff, reduceIte, reduceCtorEq, Nat.reduceAdd, Nat.reduceMul, Nat.reduceMod, Nat.reduceBEq, Nat.reduceBNe, List.reduceReplicate, Int.reduceLE, Int.reduceLT, Int.reduceNe]
                  apply hK28; clear hK28
                  refine aw_seq_k fun K31 hK31 => aw_region okG0 ?_; simp only [push_cast, Nat.reduceLT, Nat.reduceLeDiff, Nat.reduceEqDiff, reduceIte, reduceCtorEq, Nat.reduceAdd, Nat.reduceMul, Nat.reduceMod, Nat.reduceBEq, Nat.reduceBNe, List.reduceReplicate, Int.reduceLE, Int.reduceLT, Int.reduceNe]
                  refine call_pure (toFlow_spec r c p b (by omega) (by omega)) (fits_of rfl) (by decide) rfl (by simp [idsV, idsVs]) ?_; simp only [push_cast, Nat.reduceLT, Nat.reduceLeDiff, Nat.reduceEqDiff, reduceIte, reduceCtorEq, Nat.reduceAdd, Nat.reduceMul, Nat.reduceMod, Nat.reduceBEq, Nat.reduceBNe, List.reduceReplicate, Int.reduceLE, Int.reduceLT, Int.reduceNe]
                  refine call_pure (h62) (fits_of rfl) (by decide) rfl (by simp [idsV, idsVs]) ?_; simp only [push_cast, Nat.reduceLT, Nat.reduceLeDiff, Nat.reduceEqDiff, reduceIte, reduceCtorEq, Nat.reduceAdd, Nat.reduceMul, Nat.reduceMod, Nat.reduceBEq, Nat.reduceBNe, List.reduceReplicate, Int.reduceLE, Int.reduceLT, Int.reduceNe]
                  apply hK31; clear hK31
                  refine aw_seq_k fun K32 hK32 => ?_
                  refine aw_seq_k fun K33 hK33 => aw_region okG0 ?_; simp only [push_cast, Nat.reduceLT, Nat.reduceLeDiff, Nat.reduceEqDiff, reduceIte, reduceCtorEq, Nat.reduceAdd, Nat.reduceMul, Nat.reduceMod, Nat.reduceBEq, Nat.reduceBNe, List.reduceReplicate, Int.reduceLE, Int.reduceLT, Int.reduceNe]
                  refine call_pure (eqNo_spec) (fits_of rfl) (by decide) rfl (by simp [idsV, idsVs]) ?_; simp only [push_cast, Nat.reduceLT, Nat.reduceLeDiff, Nat.reduceEqDiff, reduceIte, reduceCtorEq, Nat.reduceAdd, Nat.reduceMul, Nat.reduceMod, Nat.reduceBEq, Nat.reduceBNe, List.reduceReplicate, Int.reduceLE, Int.reduceLT, Int.reduceNe]
                  apply hK33; clear hK33
                  refine aw_cond rfl (fun hc => ?_) (fun hc => ?_)
                  · simp at hc
                  · refine aw_skip ?_
                    simp only [push_cast, Nat.reduceLT, Nat.reduceLeDiff, Nat.reduceEqDiff, reduceIte, reduceCtorEq, Nat.reduceAdd, Nat.reduceMul, Nat.reduceMod, Nat.reduceBEq, Nat.reduceBNe, List.reduceReplicate, Int.reduceLE, Int.reduceLT, Int.reduceNe]
                    apply hK32; clear hK32
                    refine aw_seq_k fun K35 hK35 => aw_region okG0 ?_; simp only [push_cast, Nat.reduceLT, Nat.reduceLeDiff, Nat.reduceEqDiff, reduceIte, reduceCtorEq, Nat.reduceAdd, Nat.reduceMul, Nat.reduceMod, Nat.reduceBEq, Nat.reduceBNe, List.reduceReplicate, Int.reduceLE, Int.reduceLT, Int.reduceNe]
                    apply hK35; clear hK35
                    refine aw_seq_k fun K36 hK36 => aw_region okG0 ?_; simp only [push_cast, Nat.reduceLT, Nat.reduceLeDiff, Nat.reduceEqDiff, reduceIte, reduceCtorEq, Nat.reduceAdd, Nat.reduceMul, Nat.reduceMod, Nat.reduceBEq, Nat.reduceBNe, List.reduceReplicate, Int.reduceLE, Int.reduceLT, Int.reduceNe]
                    refine call_pure (heldNoFlow_spec 1 (by omega)) (fits_of rfl) (by decide) rfl (by simp [idsV, idsVs]) ?_; simp only [push_cast, Nat.reduceLT, Nat.reduceLeDiff, Nat.reduceEqDiff, reduceIte, reduceCtorEq, Nat.reduceAdd, Nat.reduceMul, Nat.reduceMod, Nat.reduceBEq, Nat.reduceBNe, List.reduceReplicate, Int.reduceLE, Int.reduceLT, Int.reduceNe]
                    apply hK36; clear hK36
                    refine aw_seq_k fun K37 hK37 => ?_
                    refine aw_seq_k fun K38 hK38 => aw_region okG0 ?_; simp only [push_cast, Nat.reduceLT, Nat.reduceLeDiff, Nat.reduceEqDiff, reduceIte, reduceCtorEq, Nat.reduceAdd, Nat.reduceMul, Nat.reduceMod, Nat.reduceBEq, Nat.reduceBNe, List.reduceReplicate, Int.reduceLE, Int.reduceLT, Int.reduceNe]
                    apply hK38; clear hK38
                    refine aw_cond rfl (fun hc => ?_) (fun hc => ?_)
                    · simp at hc <;> omega
                    · refine aw_skip ?_
                      simp only [push_cast, Nat.reduceLT, Nat.reduceLeDiff, Nat.reduceEqDiff, reduceIte, reduceCtorEq, Nat.reduceAdd, Nat.reduceMul, Nat.reduceMod, Nat.reduceBEq, Nat.reduceBNe, List.reduceReplicate, Int.reduceLE, Int.reduceLT, Int.reduceNe]
                      apply hK37; clear hK37
                      refine aw_seq_k fun K40 hK40 => ?_
                      refine aw_seq_k fun K41 hK41 => aw_region okG0 ?_; simp only [push_cast, Nat.reduceLT, Nat.reduceLeDiff, Nat.reduceEqDiff, reduceIte, reduceCtorEq, Nat.reduceAdd, Nat.reduceMul, Nat.reduceMod, Nat.reduceBEq, Nat.reduceBNe, List.reduceReplicate, Int.reduceLE, Int.reduceLT, Int.reduceNe]
                      apply hK41; clear hK41
                      refine aw_cond rfl (fun hc => ?_) (fun hc => ?_)
                      · simp at hc
                      · refine aw_skip ?_
                        simp only [push_cast, Nat.reduceLT, Nat.reduceLeDiff, Nat.reduceEqDiff, reduceIte, reduceCtorEq, Nat.reduceAdd, Nat.reduceMul, Nat.reduceMod, Nat.reduceBEq, Nat.reduceBNe, List.reduceReplicate, Int.reduceLE, Int.reduceLT, Int.reduceNe]
                        apply hK40; clear hK40
                        refine aw_seq_k fun K43 hK43 => aw_region okG0 ?_; simp only [push_cast, Nat.reduceLT, Nat.reduceLeDiff, Nat.reduceEqDiff, reduceIte, reduceCtorEq, Nat.reduceAdd, Nat.reduceMul, Nat.reduceMod, Nat.reduceBEq, Nat.reduceBNe, List.reduceReplicate, Int.reduceLE, Int.reduceLT, Int.reduceNe]
                        apply hK43; clear hK43
                        exact aw_ret (ret_p rfl rfl rfl (by simp))
    | some R =>
      rw [hR] at h61 h62; simp only [resF] at h61 h62
      obtain ⟨hR1, hR2⟩ := runF_len hR
      refine AF_body okG0 Try.func8 rfl rfl (by simp [Try.ntmps8]) (by simp) ?_; simp only [Try.ntmps8]
      refine aw_seq_k fun K1 hK1 => aw_region okG0 ?_; simp only [push_cast, Nat.reduceLT, Nat.reduceLeDiff, Nat.reduceEqDiff, reduceIte, reduceCtorEq, Nat.reduceAdd, Nat.reduceMul, Nat.reduceMod, Nat.reduceBEq, Nat.reduceBNe, List.reduceReplicate, Int.reduceLE, Int.reduceLT, Int.reduceNe]
      apply hK1; clear hK1
      refine aw_seq_k fun K2 hK2 => aw_region okG0 ?_; simp only [push_cast, Nat.reduceLT, Nat.reduceLeDiff, Nat.reduceEqDiff, reduceIte, reduceCtorEq, Nat.reduceAdd, Nat.reduceMul, Nat.reduceMod, Nat.reduceBEq, Nat.reduceBNe, List.reduceReplicate, Int.reduceLE, Int.reduceLT, Int.reduceNe]
      apply hK2; clear hK2
      refine aw_seq_k fun K3 hK3 => aw_region okG0 ?_; simp only [push_cast, Nat.reduceLT, Nat.reduceLeDiff, Nat.reduceEqDiff, reduceIte, reduceCtorEq, Nat.reduceAdd, Nat.reduceMul, Nat.reduceMod, Nat.reduceBEq, Nat.reduceBNe, List.reduceReplicate, Int.reduceLE, Int.reduceLT, Int.reduceNe]
      refine call_pure (szFlow_spec r c p b 1048576 (by omega) (by omega) (by omega) (by omega)) (fits_of rfl) (by decide) rfl (by simp [idsV, idsVs]) ?_; simp only [push_cast, Nat.reduceLT, Nat.reduceLeDiff, Nat.reduceEqDiff, reduceIte, reduceCtorEq, Nat.reduceAdd, Nat.reduceMul, Nat.reduceMod, Nat.reduceBEq, Nat.reduceBNe, List.reduceReplicate, Int.reduceLE, Int.reduceLT, Int.reduceNe]
      apply hK3; clear hK3
      refine aw_seq_k fun K4 hK4 => ?_
      refine aw_seq_k fun K5 hK5 => aw_region okG0 ?_; simp only [push_cast, Nat.reduceLT, Nat.reduceLeDiff, Nat.reduceEqDiff, reduceIte, reduceCtorEq, Nat.reduceAdd, Nat.reduceMul, Nat.reduceMod, Nat.reduceBEq, Nat.reduceBNe, List.reduceReplicate, Int.reduceLE, Int.reduceLT, Int.reduceNe]
      apply hK5; clear hK5
      rw [hsz]
      refine aw_cond rfl (fun hc => ?_) (fun hc => ?_)
      · exact absurd (by simpa using hc) hlt
      · refine aw_skip ?_
        simp only [push_cast, Nat.reduceLT, Nat.reduceLeDiff, Nat.reduceEqDiff, reduceIte, reduceCtorEq, Nat.reduceAdd, Nat.reduceMul, Nat.reduceMod, Nat.reduceBEq, Nat.reduceBNe, List.reduceReplicate, Int.reduceLE, Int.reduceLT, Int.reduceNe]
        apply hK4; clear hK4
        refine aw_seq_k fun K7 hK7 => aw_region okG0 ?_; simp only [push_cast, Nat.reduceLT, Nat.reduceLeDiff, Nat.reduceEqDiff, reduceIte, reduceCtorEq, Nat.reduceAdd, Nat.reduceMul, Nat.reduceMod, Nat.reduceBEq, Nat.reduceBNe, List.reduceReplicate, Int.reduceLE, Int.reduceLT, Int.reduceNe]
        refine call_pure (toFlow_spec r c p b (by omega) (by omega)) (fits_of rfl) (by decide) rfl (by simp [idsV, idsVs]) ?_; simp only [push_cast, Nat.reduceLT, Nat.reduceLeDiff, Nat.reduceEqDiff, reduceIte, reduceCtorEq, Nat.reduceAdd, Nat.reduceMul, Nat.reduceMod, Nat.reduceBEq, Nat.reduceBNe, List.reduceReplicate, Int.reduceLE, Int.reduceLT, Int.reduceNe]
        refine call_pure (h61) (fits_of rfl) (by decide) rfl (by simp [idsV, idsVs]) ?_; simp only [push_cast, Nat.reduceLT, Nat.reduceLeDiff, Nat.reduceEqDiff, reduceIte, reduceCtorEq, Nat.reduceAdd, Nat.reduceMul, Nat.reduceMod, Nat.reduceBEq, Nat.reduceBNe, List.reduceReplicate, Int.reduceLE, Int.reduceLT, Int.reduceNe]
        apply hK7; clear hK7
        refine aw_seq_k fun K8 hK8 => aw_region okG0 ?_; simp only [push_cast, Nat.reduceLT, Nat.reduceLeDiff, Nat.reduceEqDiff, reduceIte, reduceCtorEq, Nat.reduceAdd, Nat.reduceMul, Nat.reduceMod, Nat.reduceBEq, Nat.reduceBNe, List.reduceReplicate, Int.reduceLE, Int.reduceLT, Int.reduceNe]
        refine call_pure (toFlow_spec r c p b (by omega) (by omega)) (fits_of rfl) (by decide) rfl (by simp [idsV, idsVs]) ?_; simp only [push_cast, Nat.reduceLT, Nat.reduceLeDiff, Nat.reduceEqDiff, reduceIte, reduceCtorEq, Nat.reduceAdd, Nat.reduceMul, Nat.reduceMod, Nat.reduceBEq, Nat.reduceBNe, List.reduceReplicate, Int.reduceLE, Int.reduceLT, Int.reduceNe]
        apply hK8; clear hK8
        refine aw_seq_k fun K9 hK9 => aw_region okG0 ?_; simp only [push_cast, Nat.reduceLT, Nat.reduceLeDiff, Nat.reduceEqDiff, reduceIte, reduceCtorEq, Nat.reduceAdd, Nat.reduceMul, Nat.reduceMod, Nat.reduceBEq, Nat.reduceBNe, List.reduceReplicate, Int.reduceLE, Int.reduceLT, Int.reduceNe]
        refine call_pure (h62) (fits_of rfl) (by decide) rfl (by simp [idsV, idsVs]) ?_; simp only [push_cast, Nat.reduceLT, Nat.reduceLeDiff, Nat.reduceEqDiff, reduceIte, reduceCtorEq, Nat.reduceAdd, Nat.reduceMul, Nat.reduceMod, Nat.reduceBEq, Nat.reduceBNe, List.reduceReplicate, Int.reduceLE, Int.reduceLT, Int.reduceNe]
        apply hK9; clear hK9
        refine aw_seq_k fun K10 hK10 => ?_
        refine aw_seq_k fun K11 hK11 => aw_region okG0 ?_; simp only [push_cast, Nat.reduceLT, Nat.reduceLeDiff, Nat.reduceEqDiff, reduceIte, reduceCtorEq, Nat.reduceAdd, Nat.reduceMul, Nat.reduceMod, Nat.reduceBEq, Nat.reduceBNe, List.reduceReplicate, Int.reduceLE, Int.reduceLT, Int.reduceNe]
        refine call_pure (eqFlow_spec r c R b (by omega) (by omega)) (fits_of rfl) (by decide) rfl (by simp [idsV, idsVs]) ?_; simp only [push_cast, Nat.reduceLT, Nat.reduceLeDiff, Nat.reduceEqDiff, reduceIte, reduceCtorEq, Nat.reduceAdd, Nat.reduceMul, Nat.reduceMod, Nat.reduceBEq, Nat.reduceBNe, List.reduceReplicate, Int.reduceLE, Int.reduceLT, Int.reduceNe]
        apply hK11; clear hK11
        refine aw_cond rfl (fun hc => ?_) (fun hc => ?_)
        · simp at hc
        · refine aw_skip ?_
          simp only [push_cast, Nat.reduceLT, Nat.reduceLeDiff, Nat.reduceEqDiff, reduceIte, reduceCtorEq, Nat.reduceAdd, Nat.reduceMul, Nat.reduceMod, Nat.reduceBEq, Nat.reduceBNe, List.reduceReplicate, Int.reduceLE, Int.reduceLT, Int.reduceNe]
          apply hK10; clear hK10
          refine aw_seq_k fun K13 hK13 => ?_
          refine aw_seq_k fun K14 hK14 => aw_draw fol okG0 3 (by kernel_rfl) ?_; simp only [push_cast, Nat.reduceLT, Nat.reduceLeDiff, Nat.reduceEqDiff, reduceIte, reduceCtorEq, Nat.reduceAdd, Nat.reduceMul, Nat.reduceMod, Nat.reduceBEq, Nat.reduceBNe, List.reduceReplicate, Int.reduceLE, Int.reduceLT, Int.reduceNe]
          refine ⟨_, _, toFlow_spec r c p b (by omega) (by omega), .inl ⟨fits_of rfl, rfl⟩, ?_⟩; simp only [push_cast, Nat.reduceLT, Nat.reduceLeDiff, Nat.reduceEqDiff, reduceIte, reduceCtorEq, Nat.reduceAdd, Nat.reduceMul, Nat.reduceMod, Nat.reduceBEq, Nat.reduceBNe, List.reduceReplicate, Int.reduceLE, Int.reduceLT, Int.reduceNe]
          refine call_pure (eqFlow_spec r c p b (by omega) (by omega)) (fits_of rfl) (by decide) rfl (by simp [idsV, idsVs]) ?_; simp only [push_cast, Nat.reduceLT, Nat.reduceLeDiff, Nat.reduceEqDiff, reduceIte, reduceCtorEq, Nat.reduceAdd, Nat.reduceMul, Nat.reduceMod, Nat.reduceBEq, Nat.reduceBNe, List.reduceReplicate, Int.reduceLE, Int.reduceLT, Int.reduceNe]
          apply hK14; clear hK14
          refine aw_cond rfl (fun hc => ?_) (fun hc => ?_)
          · simp at hc
          · refine aw_skip ?_
            simp only [push_cast, Nat.reduceLT, Nat.reduceLeDiff, Nat.reduceEqDiff, reduceIte, reduceCtorEq, Nat.reduceAdd, Nat.reduceMul, Nat.reduceMod, Nat.reduceBEq, Nat.reduceBNe, List.reduceReplicate, Int.reduceLE, Int.reduceLT, Int.reduceNe]
            apply hK13; clear hK13
            refine aw_seq_k fun K16 hK16 => aw_region okG0 ?_; simp only [push_cast, Nat.reduceLT, Nat.reduceLeDiff, Nat.reduceEqDiff, reduceIte, reduceCtorEq, Nat.reduceAdd, Nat.reduceMul, Nat.reduceMod, Nat.reduceBEq, Nat.reduceBNe, List.reduceReplicate, Int.reduceLE, Int.reduceLT, Int.reduceNe]
            apply hK16; clear hK16
            refine aw_seq_k fun K17 hK17 => aw_region okG0 ?_; simp only [push_cast, Nat.reduceLT, Nat.reduceLeDiff, Nat.reduceEqDiff, reduceIte, reduceCtorEq, Nat.reduceAdd, Nat.reduceMul, Nat.reduceMod, Nat.reduceBEq, Nat.reduceBNe, List.reduceReplicate, Int.reduceLE, Int.reduceLT, Int.reduceNe]
            refine call_io false [(3200, 98), (3201, 198)] (markFlow_spec r c p b 1 (by omega) (by omega) (by omega)) rfl (fits_of rfl) (by decide) (by decide) rfl (by simp [ioOK, getB, back, borVs, borV, kee, inSnd, fitsVs, fitsV]) rfl (by simp [newIds, idsV, idsVs, inSnd, dstN]) (by rfl) (by rfl) rfl (.inl rfl) ?_; simp only [push_cast, Nat.reduceLT, Nat.reduceLeDiff, Nat.reduceEqDiff, reduceIte, reduceCtorEq, Nat.reduceAdd, Nat.reduceMul, Nat.reduceMod, Nat.reduceBEq, Nat.reduceBNe, List.reduceReplicate, Int.reduceLE, Int.reduceLT, Int.reduceNe]
            simp only [mkF_len, mkB_len, if_true]
            apply hK17; clear hK17
            refine aw_seq_k fun K18 hK18 => ?_
            refine aw_seq_k fun K19 hK19 => aw_region okG0 ?_; simp only [push_cast, Nat.reduceLT, Nat.reduceLeDiff, Nat.reduceEqDiff, reduceIte, reduceCtorEq, Nat.reduceAdd, Nat.reduceMul, Nat.reduceMod, Nat.reduceBEq, Nat.reduceBNe, List.reduceReplicate, Int.reduceLE, Int.reduceLT, Int.reduceNe]
            refine gcall_pure (fun _ => eqFlow_spec r c R b (by omega) (by omega)) (fun _ => fits_of rfl) (by decide) rfl rfl ?_; simp only [push_cast, Nat.reduceLT, Nat.reduceLeDiff, Nat.reduceEqDiff, reduceIte, reduceCtorEq, Nat.reduceAdd, Nat.reduceMul, Nat.reduceMod, Nat.reduceBEq, Nat.reduceBNe, List.reduceReplicate, Int.reduceLE, Int.reduceLT, Int.reduceNe]
            apply hK19; clear hK19
            refine aw_cond rfl (fun hc => ?_) (fun hc => ?_)
            · simp at hc <;> omega
            · refine aw_skip ?_
              simp only [push_cast, Nat.reduceLT, Nat.reduceLeDiff, Nat.reduceEqDiff, reduceIte, reduceCtorEq, Nat.reduceAdd, Nat.reduceMul, Nat.reduceMod, Nat.reduceBEq, Nat.reduceBNe, List.reduceReplicate, Int.reduceLE, Int.reduceLT, Int.reduceNe]
              apply hK18; clear hK18
              refine aw_seq_k fun K21 hK21 => aw_region okG0 ?_; simp only [push_cast, Nat.reduceLT, Nat.reduceLeDiff, Nat.reduceEqDiff, reduceIte, reduceCtorEq, Nat.reduceAdd, Nat.reduceMul, Nat.reduceMod, Nat.reduceBEq, Nat.reduceBNe, List.reduceReplicate, Int.reduceLE, Int.reduceLT, Int.reduceNe]
              apply hK21; clear hK21
              refine aw_seq_k fun K22 hK22 => aw_region okG0 ?_; simp only [push_cast, Nat.reduceLT, Nat.reduceLeDiff, Nat.reduceEqDiff, reduceIte, reduceCtorEq, Nat.reduceAdd, Nat.reduceMul, Nat.reduceMod, Nat.reduceBEq, Nat.reduceBNe, List.reduceReplicate, Int.reduceLE, Int.reduceLT, Int.reduceNe]
              refine call_io false [(3700, 98), (3701, 198)] (markFlow_spec r c R b 1 (by omega) (by omega) (by omega)) rfl (fits_of rfl) (by decide) (by decide) rfl (by simp [ioOK, getB, back, borVs, borV, kee, inSnd, fitsVs, fitsV]) rfl (by simp [newIds, idsV, idsVs, inSnd, dstN]) (by rfl) (by rfl) rfl (.inl rfl) ?_; simp only [push_cast, Nat.reduceLT, Nat.reduceLeDiff, Nat.reduceEqDiff, reduceIte, reduceCtorEq, Nat.reduceAdd, Nat.reduceMul, Nat.reduceMod, Nat.reduceBEq, Nat.reduceBNe, List.reduceReplicate, Int.reduceLE, Int.reduceLT, Int.reduceNe]
              simp only [mkF_len, mkB_len, if_true]
              apply hK22; clear hK22
              refine aw_seq_k fun K23 hK23 => aw_region okG0 ?_; simp only [push_cast, Nat.reduceLT, Nat.reduceLeDiff, Nat.reduceEqDiff, reduceIte, reduceCtorEq, Nat.reduceAdd, Nat.reduceMul, Nat.reduceMod, Nat.reduceBEq, Nat.reduceBNe, List.reduceReplicate, Int.reduceLE, Int.reduceLT, Int.reduceNe]
              apply hK23; clear hK23
              refine aw_seq_k fun K24 hK24 => aw_region okG0 ?_; simp only [push_cast, Nat.reduceLT, Nat.reduceLeDiff, Nat.reduceEqDiff, reduceIte, reduceCtorEq, Nat.reduceAdd, Nat.reduceMul, Nat.reduceMod, Nat.reduceBEq, Nat.reduceBNe, List.reduceReplicate, Int.reduceLE, Int.reduceLT, Int.reduceNe]
              refine call_pure (heldFlow_spec r c R.length b.length 1 (by omega) (by omega) (by omega)) (fits_of rfl) (by decide) rfl (by simp [idsV, idsVs]) ?_; simp only [push_cast, Nat.reduceLT, Nat.reduceLeDiff, Nat.reduceEqDiff, reduceIte, reduceCtorEq, Nat.reduceAdd, Nat.reduceMul, Nat.reduceMod, Nat.reduceBEq, Nat.reduceBNe, List.reduceReplicate, Int.reduceLE, Int.reduceLT, Int.reduceNe]
              apply hK24; clear hK24
              refine aw_seq_k fun K25 hK25 => ?_
              refine aw_seq_k fun K26 hK26 => aw_region okG0 ?_; simp only [push_cast, Nat.reduceLT, Nat.reduceLeDiff, Nat.reduceEqDiff, reduceIte, reduceCtorEq, Nat.reduceAdd, Nat.reduceMul, Nat.reduceMod, Nat.reduceBEq, Nat.reduceBNe, List.reduceReplicate, Int.reduceLE, Int.reduceLT, Int.reduceNe]
              apply hK26; clear hK26
              refine aw_cond rfl (fun hc => ?_) (fun hc => ?_)
              · simp at hc <;> omega
              · refine aw_skip ?_
                simp only [push_cast, Nat.reduceLT, Nat.reduceLeDiff, Nat.reduceEqDiff, reduceIte, reduceCtorEq, Nat.reduceAdd, Nat.reduceMul, Nat.reduceMod, Nat.reduceBEq, Nat.reduceBNe, List.reduceReplicate, Int.reduceLE, Int.reduceLT, Int.reduceNe]
                apply hK25; clear hK25
                refine aw_seq_k fun K28 hK28 => ?_
                refine aw_seq_k fun K29 hK29 => aw_region okG0 ?_; simp only [push_cast, Nat.reduceLT, Nat.reduceLeDiff, Nat.reduceEqDiff, reduceIte, reduceCtorEq, Nat.reduceAdd, Nat.reduceMul, Nat.reduceMod, Nat.reduceBEq, Nat.reduceBNe, List.reduceReplicate, Int.reduceLE, Int.reduceLT, Int.reduceNe]
                apply hK29; clear hK29
                refine aw_cond rfl (fun hc => ?_) (fun hc => ?_)
                · simp at hc
                · refine aw_skip ?_
                  simp only [push_cast, Nat.reduceLT, Nat.reduceLeDiff, Nat.reduceEqDiff, reduceIte, reduceCtorEq, Nat.reduceAdd, Nat.reduceMul, Nat.reduceMod, Nat.reduceBEq, Nat.reduceBNe, List.reduceReplicate, Int.reduceLE, Int.reduceLT, Int.reduceNe]
                  apply hK28; clear hK28
                  refine aw_seq_k fun K31 hK31 => aw_region okG0 ?_; simp only [push_cast, Nat.reduceLT, Nat.reduceLeDiff, Nat.reduceEqDiff, reduceIte, reduceCtorEq, Nat.reduceAdd, Nat.reduceMul, Nat.reduceMod, Nat.reduceBEq, Nat.reduceBNe, List.reduceReplicate, Int.reduceLE, Int.reduceLT, Int.reduceNe]
                  refine call_pure (toFlow_spec r c p b (by omega) (by omega)) (fits_of rfl) (by decide) rfl (by simp [idsV, idsVs]) ?_; simp only [push_cast, Nat.reduceLT, Nat.reduceLeDiff, Nat.reduceEqDiff, reduceIte, reduceCtorEq, Nat.reduceAdd, Nat.reduceMul, Nat.reduceMod, Nat.reduceBEq, Nat.reduceBNe, List.reduceReplicate, Int.reduceLE, Int.reduceLT, Int.reduceNe]
                  refine call_pure (h62) (fits_of rfl) (by decide) rfl (by simp [idsV, idsVs]) ?_; simp only [push_cast, Nat.reduceLT, Nat.reduceLeDiff, Nat.reduceEqDiff, reduceIte, reduceCtorEq, Nat.reduceAdd, Nat.reduceMul, Nat.reduceMod, Nat.reduceBEq, Nat.reduceBNe, List.reduceReplicate, Int.reduceLE, Int.reduceLT, Int.reduceNe]
                  apply hK31; clear hK31
                  refine aw_seq_k fun K32 hK32 => ?_
                  refine aw_seq_k fun K33 hK33 => aw_region okG0 ?_; simp only [push_cast, Nat.reduceLT, Nat.reduceLeDiff, Nat.reduceEqDiff, reduceIte, reduceCtorEq, Nat.reduceAdd, Nat.reduceMul, Nat.reduceMod, Nat.reduceBEq, Nat.reduceBNe, List.reduceReplicate, Int.reduceLE, Int.reduceLT, Int.reduceNe]
                  refine call_pure (eqFlow_spec r c R b (by omega) (by omega)) (fits_of rfl) (by decide) rfl (by simp [idsV, idsVs]) ?_; simp only [push_cast, Nat.reduceLT, Nat.reduceLeDiff, Nat.reduceEqDiff, reduceIte, reduceCtorEq, Nat.reduceAdd, Nat.reduceMul, Nat.reduceMod, Nat.reduceBEq, Nat.reduceBNe, List.reduceReplicate, Int.reduceLE, Int.reduceLT, Int.reduceNe]
                  apply hK33; clear hK33
                  refine aw_cond rfl (fun hc => ?_) (fun hc => ?_)
                  · simp at hc
                  · refine aw_skip ?_
                    simp only [push_cast, Nat.reduceLT, Nat.reduceLeDiff, Nat.reduceEqDiff, reduceIte, reduceCtorEq, Nat.reduceAdd, Nat.reduceMul, Nat.reduceMod, Nat.reduceBEq, Nat.reduceBNe, List.reduceReplicate, Int.reduceLE, Int.reduceLT, Int.reduceNe]
                    apply hK32; clear hK32
                    refine aw_seq_k fun K35 hK35 => aw_region okG0 ?_; simp only [push_cast, Nat.reduceLT, Nat.reduceLeDiff, Nat.reduceEqDiff, reduceIte, reduceCtorEq, Nat.reduceAdd, Nat.reduceMul, Nat.reduceMod, Nat.reduceBEq, Nat.reduceBNe, List.reduceReplicate, Int.reduceLE, Int.reduceLT, Int.reduceNe]
                    apply hK35; clear hK35
                    refine aw_seq_k fun K36 hK36 => aw_region okG0 ?_; simp only [push_cast, Nat.reduceLT, Nat.reduceLeDiff, Nat.reduceEqDiff, reduceIte, reduceCtorEq, Nat.reduceAdd, Nat.reduceMul, Nat.reduceMod, Nat.reduceBEq, Nat.reduceBNe, List.reduceReplicate, Int.reduceLE, Int.reduceLT, Int.reduceNe]
                    refine call_pure (heldFlow_spec r c R.length b.length 1 (by omega) (by omega) (by omega)) (fits_of rfl) (by decide) rfl (by simp [idsV, idsVs]) ?_; simp only [push_cast, Nat.reduceLT, Nat.reduceLeDiff, Nat.reduceEqDiff, reduceIte, reduceCtorEq, Nat.reduceAdd, Nat.reduceMul, Nat.reduceMod, Nat.reduceBEq, Nat.reduceBNe, List.reduceReplicate, Int.reduceLE, Int.reduceLT, Int.reduceNe]
                    apply hK36; clear hK36
                    refine aw_seq_k fun K37 hK37 => ?_
                    refine aw_seq_k fun K38 hK38 => aw_region okG0 ?_; simp only [push_cast, Nat.reduceLT, Nat.reduceLeDiff, Nat.reduceEqDiff, reduceIte, reduceCtorEq, Nat.reduceAdd, Nat.reduceMul, Nat.reduceMod, Nat.reduceBEq, Nat.reduceBNe, List.reduceReplicate, Int.reduceLE, Int.reduceLT, Int.reduceNe]
                    apply hK38; clear hK38
                    refine aw_cond rfl (fun hc => ?_) (fun hc => ?_)
                    · simp at hc <;> omega
                    · refine aw_skip ?_
                      simp only [push_cast, Nat.reduceLT, Nat.reduceLeDiff, Nat.reduceEqDiff, reduceIte, reduceCtorEq, Nat.reduceAdd, Nat.reduceMul, Nat.reduceMod, Nat.reduceBEq, Nat.reduceBNe, List.reduceReplicate, Int.reduceLE, Int.reduceLT, Int.reduceNe]
                      apply hK37; clear hK37
                      refine aw_seq_k fun K40 hK40 => ?_
                      refine aw_seq_k fun K41 hK41 => aw_region okG0 ?_; simp only [push_cast, Nat.reduceLT, Nat.reduceLeDiff, Nat.reduceEqDiff, reduceIte, reduceCtorEq, Nat.reduceAdd, Nat.reduceMul, Nat.reduceMod, Nat.reduceBEq, Nat.reduceBNe, List.reduceReplicate, Int.reduceLE, Int.reduceLT, Int.reduceNe]
                      apply hK41; clear hK41
                      refine aw_cond rfl (fun hc => ?_) (fun hc => ?_)
                      · simp at hc
                      · refine aw_skip ?_
                        simp only [push_cast, Nat.reduceLT, Nat.reduceLeDiff, Nat.reduceEqDiff, reduceIte, reduceCtorEq, Nat.reduceAdd, Nat.reduceMul, Nat.reduceMod, Nat.reduceBEq, Nat.reduceBNe, List.reduceReplicate, Int.reduceLE, Int.reduceLT, Int.reduceNe]
                        apply hK40; clear hK40
                        refine aw_seq_k fun K43 hK43 => aw_region okG0 ?_; simp only [push_cast, Nat.reduceLT, Nat.reduceLeDiff, Nat.reduceEqDiff, reduceIte, reduceCtorEq, Nat.reduceAdd, Nat.reduceMul, Nat.reduceMod, Nat.reduceBEq, Nat.reduceBNe, List.reduceReplicate, Int.reduceLE, Int.reduceLT, Int.reduceNe]
                        apply hK43; clear hK43
                        exact aw_ret (ret_p rfl rfl rfl (by simp))
end Go.Proofs.Avx
