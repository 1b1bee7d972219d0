/- The program logic's rules for code, functions, calls, regions whose order is drawn, and the opening of a law's arguments; no condition. -/
import Derived.Test.YtgbkecenhbcihaaAvxA
import Derived.StillTail
import Derived.ProofKit
import Derived.Laws.Cover2
set_option linter.unusedVariables false
set_option linter.unusedSimpArgs false
namespace Go.Proofs.Avx

/-! ### Code -/
def Post [Kn] (B : Ctx) (Q : Exit → St → Prop) : Exit → Act → World → Prop := fun e a w => ∃ S, Rel B S a w ∧ Q e S

/-- From S, the code comes to exits and states of Q. -/
def AW [Kn] (P : Program) (n : Nat) (c : Code) (S : St) (Q : Exit → St → Prop) : Prop :=
  ∀ (B : Ctx) (a : Act) (w : World), B.n = n → Rel B S a w → c.wp P (Post B Q) a w

section
variable {P : Program} {Γ : List (TypeId × TI)} {n : Nat} {S : St} {Q : Exit → St → Prop}

theorem AW.mono [Kn] {c : Code} {Q' : Exit → St → Prop} (h : AW P n c S Q) (hq : ∀ e S, Q e S → Q' e S) : AW P n c S Q' :=
  fun B a w hn hR => wp_mono (h B a w hn hR) fun e a w ⟨S, h1, h2⟩ => ⟨S, h1, hq e S h2⟩

theorem aw_skip [Kn] (h : Q .normal S) : AW P n .skip S Q := fun B a w hn hR => wp_skip ⟨S, hR, h⟩
theorem aw_ret [Kn] (h : Q .ret S) : AW P n .ret S Q := fun B a w hn hR => wp_ret ⟨S, hR, h⟩
theorem aw_exit [Kn] {i : Nat} (h : Q (.exit i) S) : AW P n (.exit i) S Q := fun B a w hn hR => wp_exit ⟨S, hR, h⟩

def thenQ [Kn] (P : Program) (n : Nat) (c : Code) (Q : Exit → St → Prop) : Exit → St → Prop
  | .normal, S => AW P n c S Q
  | e, S => Q e S
theorem aw_seq [Kn] {x y : Code} (h : AW P n x S (thenQ P n y Q)) : AW P n (.seq x y) S Q := fun B a w hn hR => by
  refine wp_seq (wp_mono (h B a w hn hR) ?_)
  rintro e a' w' ⟨S', h1, h2⟩
  cases e <;> first | exact h2 B a' w' hn h1 | exact ⟨S', h1, h2⟩

def thenK (K : St → Prop) (Q : Exit → St → Prop) : Exit → St → Prop
  | .normal, S => K S
  | e, S => Q e S
theorem aw_seq_k [Kn] {x y : Code} (h : ∀ K : St → Prop, (∀ S, AW P n y S Q → K S) → AW P n x S (thenK K Q)) : AW P n (.seq x y) S Q := by
  refine aw_seq ((h (fun S => AW P n y S Q) (fun _ h => h)).mono ?_)
  intro e S hS
  cases e <;> exact hS

def inQ (i : Nat) (Q : Exit → St → Prop) : Exit → St → Prop
  | .exit j, S => if j = i then Q .normal S else Q (.exit j) S
  | e, S => Q e S
theorem aw_block [Kn] {i : Nat} {c : Code} (h : AW P n c S (inQ i Q)) : AW P n (.block i c) S Q := fun B a w hn hR => by
  refine wp_block (wp_mono (h B a w hn hR) ?_)
  rintro e a' w' ⟨S', h1, h2⟩
  cases e with
  | exit j =>
    simp only [Exit.inBlock]
    simp only [inQ] at h2
    split <;> rename_i hj
    · rw [if_pos hj] at h2; exact ⟨S', h1, h2⟩
    · rw [if_neg hj] at h2; exact ⟨S', h1, h2⟩
  | _ => exact ⟨S', h1, h2⟩

theorem aw_cond [Kn] {c : Operand} {x y : Code} {b : Bool} (hc : avOf S.env c = .dat .bool b) (ht : b = true → AW P n x S Q) (hf : b = false → AW P n y S Q) : AW P n (.cond c x y) S Q := fun B a w hn hR => by
  obtain ⟨β, Y, hC⟩ := hR
  have h := hC.opnd c
  rw [hc] at h
  simp only [relV, relT, List.cons.injEq, and_true] at h
  exact wp_cond_split h (fun hb => ht hb B a w hn hC.rel) (fun hb => hf hb B a w hn hC.rel)

theorem aw_region [Kn] {i : Nat} {ops : Array Oper} (hΓ : okTab P Γ) (h : wpA P Γ n ops ops.toList S (fun S' => Q .normal S')) : AW P n (.region i ops false) S Q := fun B a w hn hR =>
  wp_region_list (wpA_sound hΓ ops.toList S _ h B a w _ hn hR fun S' a' w' h1 h2 => ⟨S', h1, h2⟩)

/-- Whatever is of S is of S'. -/
def Sub [Kn] (S S' : St) : Prop := ∀ (B : Ctx) (a : Act) (w : World), Rel B S a w → Rel B S' a w
theorem Sub.refl [Kn] (S : St) : Sub S S := fun _ _ _ h => h
theorem Sub.trans [Kn] {a b c : St} (h : Sub a b) (k : Sub b c) : Sub a c := fun B x w hr => k B x w (h B x w hr)
theorem AW.sub [Kn] {c : Code} {S' : St} (hs : Sub S S') (h : AW P n c S' Q) : AW P n c S Q := fun B a w hn hR => h B a w hn (hs B a w hR)

theorem exists_least (p : Nat → Prop) (h : ∃ k, p k) : ∃ m, p m ∧ ∀ k, p k → m ≤ k := by
  obtain ⟨k, hk⟩ := h
  induction k using Nat.strongRecOn with
  | _ k ih =>
    by_cases hx : ∃ j, p j ∧ j < k
    · obtain ⟨j, h1, h2⟩ := hx; exact ih j h2 h1
    · exact ⟨k, hk, fun j hj => Nat.le_of_not_lt fun hl => hx ⟨j, hj, hl⟩⟩

open Classical in
noncomputable def least (p : Nat → Prop) : Nat := if h : ∃ k, p k then Classical.choose (exists_least p h) else 0
theorem least_spec {p : Nat → Prop} (h : ∃ k, p k) : p (least p) := by unfold least; rw [dif_pos h]; exact (Classical.choose_spec (exists_least p h)).1
theorem least_le {p : Nat → Prop} {k : Nat} (h : p k) : least p ≤ k := by unfold least; rw [dif_pos ⟨k, h⟩]; exact (Classical.choose_spec (exists_least p ⟨k, h⟩)).2 k h

def roundQ [Kn] {ι : Type} (I : ι → St) (μ : ι → Nat) (i : ι) (Q : Exit → St → Prop) : Exit → St → Prop
  | .normal, S' => ∃ j, Sub S' (I j) ∧ μ j < μ i
  | e, S' => Q e S'

/-- A loop, by states that come round and something that falls. -/
theorem aw_loop [Kn] {c : Code} {ι : Type} (I : ι → St) (μ : ι → Nat) (i0 : ι) (h0 : Sub S (I i0)) (round : ∀ i, AW P n c (I i) (roundQ I μ i Q)) : AW P n (.loop c) S Q := fun B a w hn hR => by
  let good : Act → World → Nat → Prop := fun a w k => ∃ i, Rel B (I i) a w ∧ μ i = k
  have hex : ∃ k, good a w k := ⟨μ i0, i0, h0 B a w hR, rfl⟩
  refine wp_loop (fun a w => ∃ k, good a w k) (fun a w => least (good a w)) hex ?_
  intro a1 w1 hk
  obtain ⟨i, hRi, hμ⟩ := least_spec hk
  refine wp_mono (round i B a1 w1 hn hRi) ?_
  rintro e a2 w2 ⟨S', h1, h2⟩
  cases e with
  | normal =>
    obtain ⟨j, hs, hlt⟩ := h2
    have hg : good a2 w2 (μ j) := ⟨j, hs B a2 w2 h1, rfl⟩
    exact ⟨⟨_, hg⟩, Nat.lt_of_le_of_lt (least_le hg) (hμ ▸ hlt)⟩
  | _ => exact ⟨S', h1, h2⟩
end

/-! ### Less is known: names are turned, slots are forgotten -/
def renN : List (Nat × Nat) → Nat → Nat
  | [], p => p
  | (a, b) :: r, p => if p = a then b else renN r p

mutual
def renV (ρ : List (Nat × Nat)) : AV → AV
  | .dat t x => .dat t x
  | .own p e t l => .own (renN ρ p) e t l
  | .nilsl => .nilsl
  | .esl => .esl
  | .ptr b o => .ptr (renN ρ b) o
  | .optr p e t l i o => .optr (renN ρ p) e t l i o
  | .rptr cs => .rptr (renVs ρ cs)
  | .clo f caps => .clo f (renVs ρ caps)
  | .agg cs => .agg (renVs ρ cs)
  | .tup vs => .tup (renVs ρ vs)
  | .cnd g v => .cnd g (renV ρ v)
  | .any => .any
def renVs (ρ : List (Nat × Nat)) : List AV → List AV
  | [] => []
  | a :: l => renV ρ a :: renVs ρ l
end

section
variable {β β' : Nat → Nat} {Y : Nat → Prop} {w : World} {L L' : List Nat} {ρ : List (Nat × Nat)}
mutual
theorem relV_ren (hL : ∀ p, p ∈ L → renN ρ p ∈ L' ∧ β' (renN ρ p) = β p) : ∀ (a : AV) (v : Value), relV L β Y w a v → relV L' β' Y w (renV ρ a) v
  | .dat t x, v, h => by simp only [renV, relV] at h ⊢; exact h
  | .own p e t l, v, h => by
    simp only [renV, relV] at h ⊢
    obtain ⟨hp, xs, h1, h2, h3⟩ := h
    exact ⟨(hL p hp).1, xs, h1, by rw [h2, (hL p hp).2], h3⟩
  | .nilsl, v, h => by simp only [renV, relV] at h ⊢; exact h
  | .esl, v, h => by simp only [renV, relV] at h ⊢; exact h
  | .ptr b o, v, h => by simp only [renV, relV] at h ⊢; exact ⟨(hL b h.1).1, by rw [(hL b h.1).2]; exact h.2⟩
  | .optr p e t l i o, v, h => by
    simp only [renV, relV] at h ⊢
    obtain ⟨hp, ⟨c, xs, h1, h2, h3⟩, hv⟩ := h
    exact ⟨(hL p hp).1, ⟨c, xs, h1, by rw [h2, (hL p hp).2], h3⟩, by rw [(hL p hp).2]; exact hv⟩
  | .rptr cs, v, h => by
    simp only [renV, relV] at h ⊢
    obtain ⟨g, o, xs, hv, hg, hr, hc⟩ := h
    exact ⟨g, o, xs, hv, hg, relVs_ren hL cs xs hr, hc⟩
  | .clo f caps, v, h => by simp only [renV, relV] at h ⊢; obtain ⟨cs, hv, hr⟩ := h; exact ⟨cs, hv, relVs_ren hL caps cs hr⟩
  | .agg l, v, h => by simp only [renV, relV] at h ⊢; obtain ⟨cs, hv, hr⟩ := h; exact ⟨cs, hv, relVs_ren hL l cs hr⟩
  | .tup l, v, h => by simp only [renV, relV] at h ⊢; obtain ⟨cs, hv, hr⟩ := h; exact ⟨cs, hv, relVs_ren hL l cs hr⟩
  | .cnd g a, v, h => by simp only [renV, relV] at h ⊢; exact fun hg => relV_ren hL a v (h hg)
  | .any, v, h => by simp only [renV, relV]
theorem relVs_ren (hL : ∀ p, p ∈ L → renN ρ p ∈ L' ∧ β' (renN ρ p) = β p) : ∀ (l : List AV) (cs : List Value), relVs L β Y w l cs → relVs L' β' Y w (renVs ρ l) cs
  | [], cs, h => by simp only [renVs, relVs] at h ⊢; exact h
  | a :: l, cs, h => by
    simp only [renVs, relVs] at h ⊢
    obtain ⟨c, d, e, h1, h2⟩ := h
    exact ⟨c, d, e, relV_ren hL a c h1, relVs_ren hL l d h2⟩
end
end

/-- Slots are forgotten; no name is turned. -/
theorem sub_forget [Kn] {S : St} {env : List (Nat × AV)} (h : ∀ k, getE env k = .any ∨ getE env k = getE S.env k) : Sub S { S with env := env } := fun B a w ⟨β, Y, hR⟩ =>
  ⟨β, Y, hR.wr, fun k => by
    rcases h k with h | h
    · rw [h]; simp [relV]
    · rw [h]; exact hR.env k, hR.boxes, hR.defers, hR.size⟩

/-- Every entry is an entry of another list. -/
def allE (env : List (Nat × AV)) : List (Nat × AV) → Prop
  | [] => True
  | (k, v) :: r => getE env k = v ∧ allE env r
theorem allE_get {env : List (Nat × AV)} : ∀ {e : List (Nat × AV)}, allE env e → ∀ k, getE e k = .any ∨ getE e k = getE env k
  | [], _, k => .inl rfl
  | (j, v) :: r, h, k => by
    simp only [allE] at h
    simp only [getE]
    split
    · rename_i hk; subst hk; exact .inr h.1.symm
    · exact allE_get h.2 k
theorem sub_env [Kn] {S : St} {env : List (Nat × AV)} (h : allE S.env env) : Sub S { S with env := env } := sub_forget (allE_get h)
end Go.Proofs.Avx

set_option linter.unusedVariables false
set_option linter.unusedSimpArgs false
namespace Go.Proofs.Avx

/-! ### Names and what is read -/
mutual
def idsV : AV → List Nat
  | .own p _ _ _ => [p]
  | .ptr b _ => [b]
  | .optr p _ _ _ _ _ => [p]
  | .rptr cs => idsVs cs
  | .clo _ caps => idsVs caps
  | .agg cs => idsVs cs
  | .tup vs => idsVs vs
  | .cnd _ v => idsV v
  | _ => []
def idsVs : List AV → List Nat
  | [] => []
  | a :: l => idsV a ++ idsVs l
end

mutual
def shV (k : Nat) : AV → AV
  | .dat t x => .dat t x
  | .own p e t l => .own (p + k) e t l
  | .nilsl => .nilsl
  | .esl => .esl
  | .ptr b o => .ptr (b + k) o
  | .optr p e t l i o => .optr (p + k) e t l i o
  | .rptr cs => .rptr (shVs k cs)
  | .clo f caps => .clo f (shVs k caps)
  | .agg cs => .agg (shVs k cs)
  | .tup vs => .tup (shVs k vs)
  | .cnd g v => .cnd g (shV k v)
  | .any => .any
def shVs (k : Nat) : List AV → List AV
  | [] => []
  | a :: l => shV k a :: shVs k l
end

def flat : Ty → Bool
  | .sl _ => false
  | .pair a b => flat a && flat b
  | _ => true
mutual
/-- Nothing in it is read in memory but what is owned. -/
def noRo : AV → Bool
  | .dat t _ => flat t
  | .own _ _ t _ => flat t
  | .optr _ _ t _ _ _ => flat t
  | .rptr _ => false
  | .clo _ caps => noRos caps
  | .agg cs => noRos cs
  | .tup vs => noRos vs
  | .cnd _ v => noRo v
  | _ => true
def noRos : List AV → Bool
  | [] => true
  | a :: l => noRo a && noRos l
end

section
variable {β β' : Nat → Nat} {Y Y' : Nat → Prop} {w : World} {L L' : List Nat}

theorem relT_flat : ∀ (t : Ty) (x : t.D) (cs : List Value), flat t = true → relT Y w t x cs → relT Y' w t x cs
  | .int k, n, cs, _, h => h
  | .bool, b, cs, _, h => h
  | .str, s, cs, _, h => h
  | .flt k, x, cs, _, h => h
  | .cpx k, x, cs, _, h => h
  | .sl t, l, cs, hf, h => by simp [flat] at hf
  | .pair a b, x, cs, hf, ⟨c, d, h1, h2, h3⟩ => by
    simp only [flat, Bool.and_eq_true] at hf
    exact ⟨c, d, h1, relT_flat a x.1 c hf.1 h2, relT_flat b x.2 d hf.2 h3⟩
  | .unit, _, cs, _, h => h

mutual
/-- Names by another map; what is read, elsewhere. -/
theorem relV_map (g : Nat → Nat) (k : Nat) (hg : ∀ p, g p = p + k) (hL : ∀ p, p ∈ L → p + k ∈ L' ∧ β' (p + k) = β p) (hY : (∀ b, Y b → Y' b)) : ∀ (a : AV) (v : Value), relV L β Y w a v → relV L' β' Y' w (shV k a) v
  | .dat t x, v, h => by simp only [shV, relV] at h ⊢; exact relT_mono hY (fun _ _ => rfl) t x _ h
  | .own p e t l, v, h => by
    simp only [shV, relV] at h ⊢
    obtain ⟨hp, xs, h1, h2, h3⟩ := h
    exact ⟨(hL p hp).1, xs, h1, by rw [h2, (hL p hp).2], relL_mono (fun a c => relT_mono hY (fun _ _ => rfl) t a c) l xs h3⟩
  | .nilsl, v, h => by simp only [shV, relV] at h ⊢; exact h
  | .esl, v, h => by simp only [shV, relV] at h ⊢; exact h
  | .ptr b o, v, h => by simp only [shV, relV] at h ⊢; exact ⟨(hL b h.1).1, by rw [(hL b h.1).2]; exact h.2⟩
  | .optr p e t l i o, v, h => by
    simp only [shV, relV] at h ⊢
    obtain ⟨hp, ⟨c, xs, h1, h2, h3⟩, hv⟩ := h
    exact ⟨(hL p hp).1, ⟨c, xs, h1, by rw [h2, (hL p hp).2], relL_mono (fun a c => relT_mono hY (fun _ _ => rfl) t a c) l xs h3⟩, by rw [(hL p hp).2]; exact hv⟩
  | .rptr cs, v, h => by
    simp only [shV, relV] at h ⊢
    obtain ⟨g', o, xs, hv, hg', hr, hc⟩ := h
    exact ⟨g', o, xs, hv, hY _ hg', relVs_map' g k hg hL hY cs xs hr, hc⟩
  | .clo f caps, v, h => by simp only [shV, relV] at h ⊢; obtain ⟨cs, hv, hr⟩ := h; exact ⟨cs, hv, relVs_map' g k hg hL hY caps cs hr⟩
  | .agg l, v, h => by simp only [shV, relV] at h ⊢; obtain ⟨cs, hv, hr⟩ := h; exact ⟨cs, hv, relVs_map' g k hg hL hY l cs hr⟩
  | .tup l, v, h => by simp only [shV, relV] at h ⊢; obtain ⟨cs, hv, hr⟩ := h; exact ⟨cs, hv, relVs_map' g k hg hL hY l cs hr⟩
  | .cnd g' a, v, h => by simp only [shV, relV] at h ⊢; exact fun hg' => relV_map g k hg hL hY a v (h hg')
  | .any, v, h => by simp only [shV, relV]
theorem relVs_map' (g : Nat → Nat) (k : Nat) (hg : ∀ p, g p = p + k) (hL : ∀ p, p ∈ L → p + k ∈ L' ∧ β' (p + k) = β p) (hY : (∀ b, Y b → Y' b)) : ∀ (l : List AV) (cs : List Value), relVs L β Y w l cs → relVs L' β' Y' w (shVs k l) cs
  | [], cs, h => by simp only [shVs, relVs] at h ⊢; exact h
  | a :: l, cs, h => by
    simp only [shVs, relVs] at h ⊢
    obtain ⟨c, d, e, h1, h2⟩ := h
    exact ⟨c, d, e, relV_map g k hg hL hY a c h1, relVs_map' g k hg hL hY l d h2⟩
end

mutual
theorem relV_ids : ∀ (a : AV) (v : Value), relV L β Y w a v → (∀ p, p ∈ idsV a → p ∈ L') → relV L' β Y w a v
  | .dat t x, v, h, _ => by simp only [relV] at h ⊢; exact h
  | .own p e t l, v, h, hi => by simp only [relV] at h ⊢; exact ⟨hi p (by simp [idsV]), h.2⟩
  | .nilsl, v, h, _ => by simp only [relV] at h ⊢; exact h
  | .esl, v, h, _ => by simp only [relV] at h ⊢; exact h
  | .ptr b o, v, h, hi => by simp only [relV] at h ⊢; exact ⟨hi b (by simp [idsV]), h.2⟩
  | .optr p e t l i o, v, h, hi => by simp only [relV] at h ⊢; exact ⟨hi p (by simp [idsV]), h.2⟩
  | .rptr cs, v, h, hi => by
    simp only [relV] at h ⊢
    obtain ⟨g', o, xs, hv, hg', hr, hc⟩ := h
    exact ⟨g', o, xs, hv, hg', relVs_ids cs xs hr (fun p hp => hi p (by simpa [idsV] using hp)), hc⟩
  | .clo f caps, v, h, hi => by simp only [relV] at h ⊢; obtain ⟨cs, hv, hr⟩ := h; exact ⟨cs, hv, relVs_ids caps cs hr (fun p hp => hi p (by simpa [idsV] using hp))⟩
  | .agg l, v, h, hi => by simp only [relV] at h ⊢; obtain ⟨cs, hv, hr⟩ := h; exact ⟨cs, hv, relVs_ids l cs hr (fun p hp => hi p (by simpa [idsV] using hp))⟩
  | .tup l, v, h, hi => by simp only [relV] at h ⊢; obtain ⟨cs, hv, hr⟩ := h; exact ⟨cs, hv, relVs_ids l cs hr (fun p hp => hi p (by simpa [idsV] using hp))⟩
  | .cnd g' a, v, h, hi => by simp only [relV] at h ⊢; exact fun hg' => relV_ids a v (h hg') (fun p hp => hi p (by simpa [idsV] using hp))
  | .any, v, h, _ => by simp only [relV]
theorem relVs_ids : ∀ (l : List AV) (cs : List Value), relVs L β Y w l cs → (∀ p, p ∈ idsVs l → p ∈ L') → relVs L' β Y w l cs
  | [], cs, h, _ => by simp only [relVs] at h ⊢; exact h
  | a :: l, cs, h, hi => by
    simp only [relVs] at h ⊢
    obtain ⟨c, d, e, h1, h2⟩ := h
    exact ⟨c, d, e, relV_ids a c h1 (fun p hp => hi p (by simp [idsVs, hp])), relVs_ids l d h2 (fun p hp => hi p (by simp [idsVs, hp]))⟩
end

mutual
theorem relV_noRo : ∀ (a : AV) (v : Value), noRo a = true → relV L β Y w a v → relV L β Y' w a v
  | .dat t x, v, hn, h => by simp only [relV] at h ⊢; exact relT_flat t x _ (by simpa [noRo] using hn) h
  | .own p e t l, v, hn, h => by
    simp only [relV] at h ⊢
    obtain ⟨hp, xs, h1, h2, h3⟩ := h
    exact ⟨hp, xs, h1, h2, relL_mono (fun a c => relT_flat t a c (by simpa [noRo] using hn)) l xs h3⟩
  | .nilsl, v, _, h => by simp only [relV] at h ⊢; exact h
  | .esl, v, _, h => by simp only [relV] at h ⊢; exact h
  | .ptr b o, v, _, h => by simp only [relV] at h ⊢; exact h
  | .optr p e t l i o, v, hn, h => by
    simp only [relV] at h ⊢
    obtain ⟨hp, ⟨c, xs, h1, h2, h3⟩, hv⟩ := h
    exact ⟨hp, ⟨c, xs, h1, h2, relL_mono (fun a c => relT_flat t a c (by simpa [noRo] using hn)) l xs h3⟩, hv⟩
  | .rptr cs, v, hn, h => by simp [noRo] at hn
  | .clo f caps, v, hn, h => by simp only [relV] at h ⊢; obtain ⟨cs, hv, hr⟩ := h; exact ⟨cs, hv, relVs_noRo caps cs (by simpa [noRo] using hn) hr⟩
  | .agg l, v, hn, h => by simp only [relV] at h ⊢; obtain ⟨cs, hv, hr⟩ := h; exact ⟨cs, hv, relVs_noRo l cs (by simpa [noRo] using hn) hr⟩
  | .tup l, v, hn, h => by simp only [relV] at h ⊢; obtain ⟨cs, hv, hr⟩ := h; exact ⟨cs, hv, relVs_noRo l cs (by simpa [noRo] using hn) hr⟩
  | .cnd g' a, v, hn, h => by simp only [relV] at h ⊢; exact fun hg' => relV_noRo a v (by simpa [noRo] using hn) (h hg')
  | .any, v, _, h => by simp only [relV]
theorem relVs_noRo : ∀ (l : List AV) (cs : List Value), noRos l = true → relVs L β Y w l cs → relVs L β Y' w l cs
  | [], cs, _, h => by simp only [relVs] at h ⊢; exact h
  | a :: l, cs, hn, h => by
    simp only [noRos, Bool.and_eq_true] at hn
    simp only [relVs] at h ⊢
    obtain ⟨c, d, e, h1, h2⟩ := h
    exact ⟨c, d, e, relV_noRo a c hn.1 h1, relVs_noRo l d hn.2 h2⟩
end
end

/-! ### Functions -/
def blocksOf (β : Nat → Nat) (L : List Nat) (g : Nat) : Prop := ∃ p, p ∈ L ∧ β p = g

structure Entry [Kn] (L : List Nat) (β : Nat → Nat) (Y : Nat → Prop) (w : World) : Prop where
  yb : ∀ g, Y g → g < w.heap.size
  lv : ∀ p, p ∈ L → β p < w.heap.size ∧ ¬ Y (β p)
  inj : ∀ p q, p ∈ L → q ∈ L → β p = β q → p = q
  kn : Kn.K Y w

def outCtx (w : World) (β : Nat → Nat) (L : List Nat) (Y : Nat → Prop) (n : Nat) : Ctx := { w0 := w, Y := Y, n := n, ib := L, b0 := β }

/-- Function f, called with args and with what may be written (of the names L; boxes: io), hands back res; then the boxes are io', and rows are as rs' says. -/
def AF [Kn] (P : Program) (f : FuncId) (args : List AV) (L : List Nat) (io : List (Nat × List AV)) (res : AV) (io' : List (Nat × List AV)) (rs' : List AV) : Prop :=
  ∀ (β : Nat → Nat) (Y : Nat → Prop) (w : World) (vs : List Value), Entry L β Y w → relVs L β Y w args vs → (∀ b cs, getB io b = some cs → BoxAt L β Y w b cs) →
    Does P f vs.toArray w fun v w' => ∃ β' Y' L', WR (outCtx w β L Y 0) L' β' Y' w' ∧ (∀ b cs, getB io' b = some cs → BoxAt L' β' Y' w' b cs) ∧ (∀ r ∈ rs', ∃ u, relV L' β' Y' w' r u) ∧ (∀ p ∈ idsV res, p ∈ L') ∧ relV L' β' Y' w' res v

/-- A function that writes nothing. -/
abbrev AFp [Kn] (P : Program) (f : FuncId) (args : List AV) (res : AV) : Prop := AF P f args [] [] res [] []

def idx : Nat → List AV → List (Nat × AV)
  | _, [] => []
  | k, a :: l => (k, a) :: idx (k + 1) l

theorem getE_idx : ∀ (l : List AV) (k j : Nat), getE (idx k l) j = if k ≤ j then l.getD (j - k) .any else .any
  | [], k, j => by simp [idx, getE]
  | a :: l, k, j => by
    simp only [idx, getE]
    by_cases h : j = k
    · subst h; simp
    · rw [if_neg h, getE_idx l (k + 1) j]
      by_cases h2 : k ≤ j
      · have : k + 1 ≤ j := by omega
        rw [if_pos h2, if_pos this, show j - k = (j - (k + 1)) + 1 by omega]; simp
      · rw [if_neg h2, if_neg (by omega)]

def resVs (Γ : List (TypeId × TI)) (S : St) : List ResultVar → Option (List AV)
  | [] => some []
  | .tmp t :: r => (resVs Γ S r).map (getE S.env t :: ·)
  | .cell a T :: r => match evLoad Γ S.boxes T (getE S.env a), getE S.env a with
    | some (_, v), .ptr _ _ => (resVs Γ S r).map (v :: ·)
    | _, _ => none
def packR : List AV → AV
  | [v] => v
  | vs => .tup vs

/-- What is handed back, names turned by ρ. -/
def RetOK (Γ : List (TypeId × TI)) (rs : List ResultVar) (res : AV) (io' : List (Nat × List AV)) (rs' : List AV) (ib : List Nat) (S : St) : Prop :=
  ∃ ρ vs, resVs Γ S rs = some vs ∧ renV ρ (packR vs) = res ∧ (S.live.map (renN ρ)).Nodup ∧ (∀ p ∈ idsV res, p ∈ S.live.map (renN ρ)) ∧ (∀ b cs, getB io' b = some cs → ∃ b0 cs0, getB S.boxes b0 = some cs0 ∧ renVs ρ cs0 = cs ∧ renN ρ b0 = b) ∧ (∀ r ∈ rs', ∃ k, renV ρ (getE S.env k) = r) ∧ ∀ b ∈ ib, renN ρ b = b

def retQ (Γ : List (TypeId × TI)) (rs : List ResultVar) (res : AV) (io' : List (Nat × List AV)) (rs' : List AV) (ib : List Nat) : Exit → St → Prop
  | .ret, S => RetOK Γ rs res io' rs' ib S
  | .normal, S => RetOK Γ rs res io' rs' ib S
  | _, _ => False

section
variable {P : Program} {Γ : List (TypeId × TI)}

def rvRun (a : Act) : ResultVar → Sem Value
  | .tmp t => pure (a.tmps.getD t undef)
  | .cell b t => do loadVar t (← asAddr (a.tmps.getD b undef))

theorem run_resVs [Kn] (hΓ : okTab P Γ) {B : Ctx} {S : St} {β : Nat → Nat} {Y : Nat → Prop} {a : Act} {w : World} (hR : RelC B S β Y a w) : ∀ (rs : List ResultVar) (vs : List AV), resVs Γ S rs = some vs →
    ∃ us, (rs.mapM (rvRun a)).run P w = .ok us w ∧ relVs S.live β Y w vs us
  | [], vs, h => by
    simp only [resVs, Option.some.injEq] at h
    subst h
    exact ⟨[], by simp, by simp [relVs]⟩
  | .tmp t :: r, vs, h => by
    simp only [resVs] at h
    obtain ⟨vs', h1, rfl⟩ := Option.map_eq_some_iff.1 h
    obtain ⟨us, h2, h3⟩ := run_resVs hΓ hR r vs' h1
    refine ⟨a.tmps.getD t undef :: us, ?_, ?_⟩
    · rw [List.mapM_cons]; simp only [rvRun, Sem.run_bind, Sem.run_pure, Result.andThen_ok, h2]
    · simp only [relVs]; exact ⟨_, _, rfl, hR.env t, h3⟩
  | .cell b T :: r, vs, h => by
    simp only [resVs] at h
    split at h
    · rename_i ob v bb oo he hb
      obtain ⟨vs', h1, rfl⟩ := Option.map_eq_some_iff.1 h
      obtain ⟨us, h2, h3⟩ := run_resVs hΓ hR r vs' h1
      have hbr := hR.env b
      rw [hb] at hbr he
      have hob : ob := by
        unfold evLoad at he
        split at he
        · simp at he
        · simp only at he
          split at he
          · obtain ⟨x, _, hx⟩ := Option.map_eq_some_iff.1 he
            simp only [Prod.mk.injEq] at hx; rw [← hx.1]; trivial
          · simp at he
      obtain ⟨u, hu, hru⟩ := same_load hΓ hR.boxes hbr he hob
      have hbr' := hbr
      simp only [relV] at hbr'
      rw [hbr'.2] at hu
      simp only [Instr.loadAt, Instr.sureAddr, Sem.run_bind, Sem.run_pure, Result.andThen_ok] at hu
      refine ⟨u :: us, ?_, ?_⟩
      · rw [List.mapM_cons]
        have : (rvRun a (.cell b T)).run P w = .ok u w := by
          simp only [rvRun, hbr'.2, asAddr, Sem.run_bind, Sem.run_pure, Result.andThen_ok, hu]
        simp only [Sem.run_bind, Sem.run_pure, Result.andThen_ok, this, h2]
      · simp only [relVs]; exact ⟨_, _, rfl, hru, h3⟩
    · simp at h

theorem run_results [Kn] (hΓ : okTab P Γ) {B : Ctx} {S : St} {β : Nat → Nat} {Y : Nat → Prop} {a : Act} {w : World} (hR : RelC B S β Y a w) {fn : Func} {vs : List AV} (h : resVs Γ S fn.results.toList = some vs) :
    ∃ v, (results fn a.tmps).run P w = .ok v w ∧ relV S.live β Y w (packR vs) v := by
  obtain ⟨us, h1, h2⟩ := run_resVs hΓ hR _ _ h
  have hrun : (fn.results.mapM (rvRun a)).run P w = .ok us.toArray w := by
    rw [Array.mapM_eq_mapM_toList]; simp [h1]
  have hres : results fn a.tmps = (do let vs ← fn.results.mapM (rvRun a); pure (if h : vs.size = 1 then vs[0] else .tuple vs)) := by
    unfold results
    congr 1
  rw [hres]
  simp only [Sem.run_bind, hrun, Result.andThen_ok, Sem.run_pure]
  refine ⟨_, rfl, ?_⟩
  have hlen := relVs_length h2
  unfold packR
  split
  · simp only [relVs] at h2
    obtain ⟨c, d, rfl, h3, rfl⟩ := h2
    simpa using h3
  · rename_i hne
    have : ¬ us.toArray.size = 1 := by
      intro h1'
      have h3 : us.length = 1 := by simpa using h1'
      rw [h3] at hlen
      match vs, hlen, hne with
      | [x], _, hne => exact hne x rfl
      | [], hlen, _ => simp at hlen
      | x :: y :: r, hlen, _ => simp at hlen
    rw [dif_neg this]
    simp only [relV]
    exact ⟨us, rfl, h2⟩
end
end Go.Proofs.Avx

set_option linter.unusedVariables false
set_option linter.unusedSimpArgs false
namespace Go.Proofs.Avx

theorem inj_of_nodup {α β : Type} (f : α → β) : ∀ (l : List α), (l.map f).Nodup → ∀ p q, p ∈ l → q ∈ l → f p = f q → p = q
  | [], _, p, q, hp, _, _ => by simp at hp
  | x :: l, h, p, q, hp, hq, e => by
    simp only [List.map_cons, List.nodup_cons] at h
    rcases List.mem_cons.1 hp with h1 | h1 <;> rcases List.mem_cons.1 hq with h2 | h2
    · rw [h1, h2]
    · exact absurd (List.mem_map.2 ⟨q, h2, by rw [← e, h1]⟩) h.1
    · exact absurd (List.mem_map.2 ⟨p, h1, by rw [e, h2]⟩) h.1
    · exact inj_of_nodup f l h.2 p q h1 h2 e

def unren (ρ : List (Nat × Nat)) (L : List Nat) (β : Nat → Nat) (q : Nat) : Nat := match L.find? (fun p => renN ρ p == q) with | some p => β p | none => 0

theorem unren_at {ρ : List (Nat × Nat)} {L : List Nat} {β : Nat → Nat} (h : (L.map (renN ρ)).Nodup) {p : Nat} (hp : p ∈ L) : unren ρ L β (renN ρ p) = β p := by
  unfold unren
  cases hf : L.find? (fun q => renN ρ q == renN ρ p) with
  | none =>
    have := List.find?_eq_none.1 hf p hp
    simp at this
  | some q =>
    have h1 := List.find?_some hf
    have h2 := List.mem_of_find?_eq_some hf
    simp only [beq_iff_eq] at h1
    rw [inj_of_nodup (renN ρ) L h q p h2 hp h1]

theorem WR.ren [Kn] {B : Ctx} {L : List Nat} {β : Nat → Nat} {Y : Nat → Prop} {w : World} (h : WR B L β Y w) {ρ : List (Nat × Nat)} (hn : (L.map (renN ρ)).Nodup) (hib : ∀ b ∈ B.ib, renN ρ b = b) :
    WR B (L.map (renN ρ)) (unren ρ L β) Y w where
  fr := h.fr
  yb := h.yb
  yo := h.yo
  lv p hp := by
    obtain ⟨q, hq, rfl⟩ := List.mem_map.1 hp
    rw [unren_at hn hq]
    exact h.lv q hq
  inj p q hp hq e := by
    obtain ⟨p', hp', rfl⟩ := List.mem_map.1 hp
    obtain ⟨q', hq', rfl⟩ := List.mem_map.1 hq
    rw [unren_at hn hp', unren_at hn hq'] at e
    rw [h.inj p' q' hp' hq' e]
  ib b hb := by
    have h1 := h.ib b hb
    have h2 := hib b hb
    refine ⟨List.mem_map.2 ⟨b, h1.1, h2⟩, ?_, h1.2.2⟩
    have := unren_at (β := β) hn h1.1
    rw [h2] at this
    rw [this]; exact h1.2.1
  cp b hb := by
    have h1 := h.ib b hb
    have := unren_at (β := β) hn h1.1
    rw [hib b hb] at this
    rw [this]; exact h.cp b hb
  kn := h.kn

theorem ren_rel {L : List Nat} {β : Nat → Nat} {ρ : List (Nat × Nat)} (hn : (L.map (renN ρ)).Nodup) : ∀ p, p ∈ L → renN ρ p ∈ L.map (renN ρ) ∧ unren ρ L β (renN ρ p) = β p :=
  fun p hp => ⟨List.mem_map.2 ⟨p, hp, rfl⟩, unren_at hn hp⟩

theorem getB_key : ∀ {io : List (Nat × List AV)} {b : Nat}, b ∈ io.map (·.1) → ∃ cs, getB io b = some cs
  | (k, cs) :: r, b, h => by
    simp only [getB]
    by_cases e : b = k
    · exact ⟨cs, by rw [if_pos e]⟩
    · rw [if_neg e]
      exact getB_key (by simpa [e] using h)
  | [], b, h => by simp at h

theorem WR.n [Kn] {B : Ctx} {L : List Nat} {β : Nat → Nat} {Y : Nat → Prop} {w : World} (h : WR B L β Y w) (m : Nat) : WR { B with n := m } L β Y w := ⟨h.fr, h.yb, h.yo, h.lv, h.inj, h.ib, h.cp, h.kn⟩

section
variable {P : Program} {Γ : List (TypeId × TI)}

theorem entry_rel [Kn] {L : List Nat} {β : Nat → Nat} {Y : Nat → Prop} {w : World} {args : List AV} {vs : List Value} {io : List (Nat × List AV)} {m : Nat} (hE : Entry L β Y w) (hvs : relVs L β Y w args vs)
    (hio : ∀ b cs, getB io b = some cs → BoxAt L β Y w b cs) (hm : args.length ≤ m) (h99 : ∀ b ∈ L, b % 100 = 98) :
    RelC (outCtx w β L Y m) ⟨idx 0 args, io, L⟩ β Y { tmps := vs.toArray ++ Array.replicate (m - vs.toArray.size) undef, defers := [] } w where
  wr := {
    fr := Fr.refl _ _
    yb := hE.yb
    yo := fun g hg => .inl hg
    lv := fun p hp => ⟨(hE.lv p hp).1, (hE.lv p hp).2, .inl ⟨p, hp, rfl⟩⟩
    inj := hE.inj
    ib := fun b hb => ⟨hb, rfl, h99 b hb⟩
    cp := fun _ _ => rfl
    kn := hE.kn }
  env k := by
    have hl := relVs_length hvs
    simp only [getE_idx, Nat.zero_le, if_true, Nat.sub_zero]
    by_cases hk : k < args.length
    · obtain ⟨v, hv, hr⟩ := relVs_get k hvs hk
      have : (vs.toArray ++ Array.replicate (m - vs.toArray.size) undef).getD k undef = v := by
        rw [Array.getD_eq_getD_getElem?, Array.getElem?_append_left (by simpa [hl] using hk)]
        simp [hv]
      rw [this]; exact hr
    · rw [List.getD_eq_getElem?_getD, List.getElem?_eq_none (by omega)]; simp [relV]
  boxes := hio
  defers := rfl
  size := by
    have hl := relVs_length hvs
    simp [outCtx]; omega

theorem AF_body [Kn] (hΓ : okTab P Γ) {f : FuncId} {fn : Func} {c : Code} {args rs' : List AV} {L : List Nat} {io io' : List (Nat × List AV)} {res : AV} (hf : P.funcs[f]? = some fn) (hb : fn.body = some c)
    (hname : (fn.name == "runtime.NumGoroutine") = false) (hm : args.length ≤ fn.ntmps) (h99 : ∀ b ∈ L, b % 100 = 98) (h : AW P fn.ntmps c ⟨idx 0 args, io, L⟩ (retQ Γ fn.results.toList res io' rs' L)) : AF P f args L io res io' rs' := by
  intro β Y w vs hE hvs hio
  refine .inl ⟨⟨fn, hf, by simp [hb], hname⟩, calls_of_wp hf hb ?_⟩
  have hR := entry_rel (m := fn.ntmps) hE hvs hio hm h99
  refine wp_mono (h _ _ _ rfl hR.rel) ?_
  rintro e a' w' ⟨S', ⟨β1, Y1, hC⟩, hq⟩
  have main : RetOK Γ fn.results.toList res io' rs' L S' → a'.defers = [] ∧ ∃ v, (results fn a'.tmps).run P w' = .ok v w' ∧ ∃ u, Ending.returned v = .returned u ∧ ∃ β' Y' L', WR (outCtx w β L Y 0) L' β' Y' w' ∧ (∀ b cs, getB io' b = some cs → BoxAt L' β' Y' w' b cs) ∧ (∀ r ∈ rs', ∃ u, relV L' β' Y' w' r u) ∧ (∀ p ∈ idsV res, p ∈ L') ∧ relV L' β' Y' w' res u := by
    rintro ⟨ρ, rs, h1, h2, h3, h6, h4, h7, h5⟩
    obtain ⟨v, hv, hrv⟩ := run_results hΓ hC h1
    refine ⟨hC.defers, v, hv, v, rfl, unren ρ S'.live β1, Y1, S'.live.map (renN ρ), (hC.wr.ren h3 h5).n 0, fun b cs hbc => ?_, fun r hr => ?_, h6, ?_⟩
    · obtain ⟨b0, cs0, g1, g2, g3⟩ := h4 b cs hbc
      obtain ⟨k1, T, cur, k2, k3⟩ := hC.boxes b0 cs0 g1
      refine ⟨List.mem_map.2 ⟨b0, k1, g3⟩, T, cur, ?_, ?_⟩
      · rw [← g3, unren_at h3 k1]; exact k2
      · rw [← g2]; exact relVs_ren (ren_rel h3) _ _ k3
    · obtain ⟨k, rfl⟩ := h7 r hr
      exact ⟨_, relV_ren (ren_rel h3) _ _ (hC.env k)⟩
    · rw [← h2]; exact relV_ren (ren_rel h3) _ _ hrv
  cases e with
  | ret => exact main hq
  | normal => exact main hq
  | _ => exact hq.elim

/-! ### A call that writes nothing -/
mutual
/-- As something to be read. -/
def bor (bx : List (Nat × List AV)) : AV → AV
  | .own p e t l => .dat (.sl t) l
  | .agg cs => .agg (bors bx cs)
  | .clo f caps => .clo f (bors bx caps)
  | .dat t x => .dat t x
  | .nilsl => .nilsl
  | .esl => .esl
  | .rptr cs => .rptr (bors bx cs)
  | .ptr b o => match getB bx b with
    | some cs => .rptr (bor1s (cs.drop o))
    | none => .any
  | .optr p e t l i o => if i < l.length then .rptr ((enc t (l.getD i t.z)).drop o) else .any
  | _ => .any
def bors (bx : List (Nat × List AV)) : List AV → List AV
  | [] => []
  | a :: l => bor bx a :: bors bx l
/-- The cells of a box, as something to be read. -/
def bor1s : List AV → List AV
  | [] => []
  | a :: l => (match a with
    | .own p e t l => .dat (.sl t) l
    | .dat t x => .dat t x
    | .nilsl => .nilsl
    | _ => .any) :: bor1s l
end

theorem own_borrow {L : List Nat} {β : Nat → Nat} {Y Y' : Nat → Prop} {w : World} (hY : ∀ g, Y g → Y' g) (hL : ∀ p, p ∈ L → Y' (β p)) {p : Nat} {e : TypeId} {t : Ty} {l : List t.D} {v : Value} (h : relV L β Y w (.own p e t l) v) :
    relT Y' w (.sl t) l [v] := by
  simp only [relV] at h
  obtain ⟨hp, xs, h1, h2, h3⟩ := h
  obtain ⟨cap, rfl, hc⟩ := own_cell_form h1 h2
  refine ⟨_, cap, xs, rfl, hc, relL_mono (fun a c => relT_mono hY (fun _ _ => rfl) t a c) l xs h3, .inr ⟨β p, 0, rfl, hL p hp, fun j u hu => ?_⟩⟩
  have := h1.cells h2 j u hu
  rw [add_spot] at this
  exact this

mutual
theorem relV_bor {L L' : List Nat} {β β' : Nat → Nat} {Y Y' : Nat → Prop} {w : World} {bx : List (Nat × List AV)} (hb : ∀ b cs, getB bx b = some cs → BoxAt L β Y w b cs) (hY : ∀ g, Y g → Y' g) (hL : ∀ p, p ∈ L → Y' (β p)) :
    ∀ (a : AV) (v : Value), relV L β Y w a v → relV L' β' Y' w (bor bx a) v
  | .own p e t l, v, h => by simp only [bor, relV]; exact own_borrow hY hL h
  | .agg cs, v, h => by simp only [bor, relV] at h ⊢; obtain ⟨xs, hv, hr⟩ := h; exact ⟨xs, hv, relVs_bor hb hY hL cs xs hr⟩
  | .clo f caps, v, h => by simp only [bor, relV] at h ⊢; obtain ⟨xs, hv, hr⟩ := h; exact ⟨xs, hv, relVs_bor hb hY hL caps xs hr⟩
  | .dat t x, v, h => by simp only [bor, relV] at h ⊢; exact relT_mono hY (fun _ _ => rfl) t x _ h
  | .nilsl, v, h => by simp only [bor, relV] at h ⊢; exact h
  | .esl, v, h => by simp only [bor, relV] at h ⊢; exact h
  | .rptr cs, v, h => by
    simp only [bor, relV] at h ⊢
    obtain ⟨g, o, xs, hv, hg, hr, hc⟩ := h
    exact ⟨g, o, xs, hv, hY g hg, relVs_bor hb hY hL cs xs hr, hc⟩
  | .ptr b o, v, h => by
    simp only [bor]
    split
    · rename_i cs hcs
      obtain ⟨h1, T, cur, h2, h3⟩ := hb b cs hcs
      simp only [relV] at h ⊢
      obtain ⟨_, rfl⟩ := h
      refine ⟨β b, o, cur.toList.drop o, rfl, hL b h1, relVs_bor1 hY hL _ _ (relVs_drop o h3), fun j u hu => ?_⟩
      rw [List.getElem?_drop] at hu
      simp only [World.cell?, h2]
      simpa using hu
    · simp [relV]
  | .optr p e t l i o, v, h => by
    simp only [bor]
    split
    · rename_i hi
      simp only [relV] at h ⊢
      obtain ⟨hp, ⟨c, xs, h1, h2, h3⟩, rfl⟩ := h
      obtain ⟨es, h4, h5⟩ := relL_at l xs i h3 hi
      have hes := relT_length t _ es h4
      refine ⟨β p, i * t.size + o, es.drop o, rfl, hL p hp, relVs_drop o (relVs_enc t _ es (relT_mono hY (fun _ _ => rfl) t _ es h4)), fun j u hu => ?_⟩
      rw [List.getElem?_drop] at hu
      have hlt : o + j < es.length := (List.getElem?_eq_some_iff.1 hu).1
      have := h1.cells h2 (i * t.size + (o + j)) u (by rw [h5 _ (by omega)]; exact hu)
      rw [add_spot] at this
      simpa [Nat.add_assoc] using this
    · simp [relV]
  | .tup vs, v, h => by simp [bor, relV]
  | .cnd g x, v, h => by simp [bor, relV]
  | .any, v, h => by simp [bor, relV]
theorem relVs_bor {L L' : List Nat} {β β' : Nat → Nat} {Y Y' : Nat → Prop} {w : World} {bx : List (Nat × List AV)} (hb : ∀ b cs, getB bx b = some cs → BoxAt L β Y w b cs) (hY : ∀ g, Y g → Y' g) (hL : ∀ p, p ∈ L → Y' (β p)) :
    ∀ (l : List AV) (cs : List Value), relVs L β Y w l cs → relVs L' β' Y' w (bors bx l) cs
  | [], cs, h => by simp only [bors, relVs] at h ⊢; exact h
  | a :: l, cs, h => by
    simp only [bors, relVs] at h ⊢
    obtain ⟨c, d, e, h1, h2⟩ := h
    exact ⟨c, d, e, relV_bor hb hY hL a c h1, relVs_bor hb hY hL l d h2⟩
theorem relVs_bor1 {L L' : List Nat} {β β' : Nat → Nat} {Y Y' : Nat → Prop} {w : World} (hY : ∀ g, Y g → Y' g) (hL : ∀ p, p ∈ L → Y' (β p)) :
    ∀ (l : List AV) (cs : List Value), relVs L β Y w l cs → relVs L' β' Y' w (bor1s l) cs
  | [], cs, h => by simp only [bor1s, relVs] at h ⊢; exact h
  | a :: l, cs, h => by
    simp only [bor1s, relVs] at h ⊢
    obtain ⟨c, d, e, h1, h2⟩ := h
    refine ⟨c, d, e, ?_, relVs_bor1 hY hL l d h2⟩
    cases a <;> simp only [relV] at h1 ⊢
    · exact relT_mono hY (fun _ _ => rfl) _ _ _ h1
    · rename_i p e t l'
      exact own_borrow (L := L) (β := β) (Y := Y) hY hL (p := p) (e := e) (by simp only [relV]; exact h1)
    · exact h1
end
end
end Go.Proofs.Avx

set_option linter.unusedVariables false
set_option linter.unusedSimpArgs false
namespace Go.Proofs.Avx

/-! ### What fits a contract's arguments -/
def isNilA : AV → Prop
  | .nilsl => True
  | .dat (.sl t) l => l = ([] : List t.D)
  | _ => False
mutual
def fitsV : AV → AV → Prop
  | .nilsl, b => isNilA b
  | .agg a, b => match b with
    | .agg b => fitsVs a b
    | _ => False
  | .rptr a, b => match b with
    | .rptr b => fitsVs a b
    | _ => False
  | .clo f a, b => match b with
    | .clo g b => f = g ∧ fitsVs a b
    | _ => False
  | a, b => a = b
def fitsVs : List AV → List AV → Prop
  | [], b => b = []
  | x :: a, b => match b with
    | y :: b => fitsV x y ∧ fitsVs a b
    | [] => False
end

section
variable {L : List Nat} {β : Nat → Nat} {Y : Nat → Prop} {w : World}
mutual
theorem fitsV_rfl : ∀ a : AV, fitsV a a
  | .nilsl => by simp only [fitsV, isNilA]
  | .esl => by simp only [fitsV]
  | .agg a => by simp only [fitsV]; exact fitsVs_rfl a
  | .rptr a => by simp only [fitsV]; exact fitsVs_rfl a
  | .clo f a => by simp only [fitsV, true_and]; exact fitsVs_rfl a
  | .dat t x => by simp only [fitsV]
  | .own p e t l => by simp only [fitsV]
  | .ptr b o => by simp only [fitsV]
  | .optr p e t l i o => by simp only [fitsV]
  | .tup vs => by simp only [fitsV]
  | .cnd g v => by simp only [fitsV]
  | .any => by simp only [fitsV]
theorem fitsVs_rfl : ∀ a : List AV, fitsVs a a
  | [] => by simp only [fitsVs]
  | x :: a => by simp only [fitsVs]; exact ⟨fitsV_rfl x, fitsVs_rfl a⟩
end
theorem fits_of {a b : List AV} (h : a = b) : fitsVs a b := h ▸ fitsVs_rfl a

mutual
theorem relV_fits : ∀ (a b : AV) (v : Value), fitsV a b → relV L β Y w a v → relV L β Y w b v
  | .nilsl, b, v, hf, h => by
    simp only [fitsV] at hf
    simp only [relV] at h
    subst h
    unfold isNilA at hf
    split at hf
    · simp only [relV]
    · subst hf; simp only [relV, relT]; exact ⟨none, 0, [], rfl, Nat.le_refl _, rfl, .inl rfl⟩
    · exact hf.elim
  | .agg a, b, v, hf, h => by
    simp only [fitsV] at hf
    split at hf
    · simp only [relV] at h ⊢; obtain ⟨xs, hv, hr⟩ := h; exact ⟨xs, hv, relVs_fits a _ xs hf hr⟩
    · exact hf.elim
  | .rptr a, b, v, hf, h => by
    simp only [fitsV] at hf
    split at hf
    · simp only [relV] at h ⊢; obtain ⟨g, o, xs, hv, hg, hr, hc⟩ := h; exact ⟨g, o, xs, hv, hg, relVs_fits a _ xs hf hr, hc⟩
    · exact hf.elim
  | .clo f a, b, v, hf, h => by
    simp only [fitsV] at hf
    split at hf
    · obtain ⟨rfl, hf⟩ := hf
      simp only [relV] at h ⊢; obtain ⟨xs, hv, hr⟩ := h; exact ⟨xs, hv, relVs_fits a _ xs hf hr⟩
    · exact hf.elim
  | .dat t x, b, v, hf, h => by simp only [fitsV] at hf; exact hf ▸ h
  | .own p e t l, b, v, hf, h => by simp only [fitsV] at hf; exact hf ▸ h
  | .ptr c o, b, v, hf, h => by simp only [fitsV] at hf; exact hf ▸ h
  | .optr p e t l i o, b, v, hf, h => by simp only [fitsV] at hf; exact hf ▸ h
  | .tup vs, b, v, hf, h => by simp only [fitsV] at hf; exact hf ▸ h
  | .cnd g x, b, v, hf, h => by simp only [fitsV] at hf; exact hf ▸ h
  | .any, b, v, hf, h => by simp only [fitsV] at hf; exact hf ▸ h
  | .esl, b, v, hf, h => by simp only [fitsV] at hf; exact hf ▸ h
theorem relVs_fits : ∀ (a b : List AV) (vs : List Value), fitsVs a b → relVs L β Y w a vs → relVs L β Y w b vs
  | [], b, vs, hf, h => by simp only [fitsVs] at hf; subst hf; exact h
  | x :: a, b, vs, hf, h => by
    simp only [fitsVs] at hf
    split at hf
    · simp only [relVs] at h ⊢
      obtain ⟨c, d, e, h1, h2⟩ := h
      exact ⟨c, d, e, relV_fits x _ c hf.1 h1, relVs_fits a _ d hf.2 h2⟩
    · exact hf.elim
end
end

section
variable {P : Program} {n : Nat}

theorem outCtx_ext [Kn] {w w' : World} {β β' : Nat → Nat} {Y Y' : Nat → Prop} {L' : List Nat} (h : WR (outCtx w β [] Y 0) L' β' Y' w') : Ext w w' :=
  ⟨h.fr.os, h.fr.tape, h.fr.output, h.fr.size, fun k hk _ => h.fr.block k hk (fun ⟨p, hp, _⟩ => by simp [outCtx] at hp)⟩
/-- Behind a call that wrote nothing: what it handed back, under names of the caller's. -/
theorem join [Kn] {B : Ctx} {S : St} {β : Nat → Nat} {Y : Nat → Prop} {a : Act} {w w' : World} (hR : RelC B S β Y a w) {Yc : Nat → Prop} {βc : Nat → Nat} {L1 : List Nat} {β1 : Nat → Nat} {Y1 : Nat → Prop}
    (hW : WR (outCtx w βc [] Yc 0) L1 β1 Y1 w') {res : AV} {v : Value} (hi : ∀ p ∈ idsV res, p ∈ L1) (hv : relV L1 β1 Y1 w' res v) {d : Nat} (hd : d < B.n) (hids : ∀ p ∈ idsV res, p + 100 * d ∉ S.live)
    (hro : noRo res = true ∨ ∀ g, Yc g → Y g) :
    Rel B { S with env := (d, shV (100 * d) res) :: S.env, live := (idsV res).map (· + 100 * d) ++ S.live } (a.put (some d) v) w' := by
  have hx : Ext w w' := outCtx_ext hW
  let new := (idsV res).map (· + 100 * d)
  let β2 : Nat → Nat := fun q => if q ∈ new then β1 (q - 100 * d) else β q
  let Y2 : Nat → Prop := fun g => Y g ∨ (Y1 g ∧ w.heap.size ≤ g)
  have hnl : ∀ p, p ∈ S.live → p ∉ new := fun p hp hpn => by
    obtain ⟨q, hq, rfl⟩ := List.mem_map.1 hpn; exact hids q hq hp
  have hβn : ∀ q, q ∈ idsV res → β2 (q + 100 * d) = β1 q := fun q hq => by
    have : q + 100 * d ∈ new := List.mem_map.2 ⟨q, hq, rfl⟩
    simp only [β2]; rw [if_pos this]; congr 1; omega
  have hβo : ∀ p, p ∈ S.live → β2 p = β p := fun p hp => by simp only [β2]; rw [if_neg (hnl p hp)]
  have h1lv : ∀ p, p ∈ L1 → β1 p < w'.heap.size ∧ ¬ Y1 (β1 p) ∧ w.heap.size ≤ β1 p := fun p hp => by
    obtain ⟨h1, h2, h3⟩ := hW.lv p hp
    refine ⟨h1, h2, ?_⟩
    rcases h3 with ⟨q, hq, _⟩ | h3
    · simp [outCtx] at hq
    · exact h3
  have hY : ∀ g, Y g → Y2 g := fun g h => .inl h
  have hsz : w.heap.size ≤ w'.heap.size := hx.size
  have hwr : WR B (new ++ S.live) β2 Y2 w' := {
    kn := Kn.mono hR.wr.kn hY (fun g hg => hx.heap (hR.wr.yb g hg))
    fr := hR.wr.fr.ext hx
    yb := fun g hg => by
      rcases hg with hg | hg
      · exact Nat.lt_of_lt_of_le (hR.wr.yb g hg) hsz
      · exact hW.yb g hg.1
    yo := fun g hg => by
      rcases hg with hg | hg
      · exact hR.wr.yo g hg
      · exact .inr (Nat.le_trans hR.wr.fr.size hg.2)
    lv := fun p hp => by
      rcases List.mem_append.1 hp with hp | hp
      · obtain ⟨q, hq, rfl⟩ := List.mem_map.1 hp
        rw [hβn q hq]
        obtain ⟨h1, h2, h3⟩ := h1lv q (hi q hq)
        refine ⟨h1, fun hy => ?_, .inr (Nat.le_trans hR.wr.fr.size h3)⟩
        rcases hy with hy | hy
        · exact absurd (hR.wr.yb _ hy) (by omega)
        · exact h2 hy.1
      · rw [hβo p hp]
        obtain ⟨h1, h2, h3⟩ := hR.wr.lv p hp
        refine ⟨Nat.lt_of_lt_of_le h1 hsz, fun hy => ?_, h3⟩
        rcases hy with hy | hy
        · exact h2 hy
        · omega
    inj := fun p q hp hq e => by
      rcases List.mem_append.1 hp with hp | hp <;> rcases List.mem_append.1 hq with hq | hq
      · obtain ⟨p', hp', rfl⟩ := List.mem_map.1 hp
        obtain ⟨q', hq', rfl⟩ := List.mem_map.1 hq
        rw [hβn p' hp', hβn q' hq'] at e
        rw [hW.inj p' q' (hi p' hp') (hi q' hq') e]
      · obtain ⟨p', hp', rfl⟩ := List.mem_map.1 hp
        rw [hβn p' hp', hβo q hq] at e
        have := (h1lv p' (hi p' hp')).2.2
        have := (hR.wr.lv q hq).1
        omega
      · obtain ⟨q', hq', rfl⟩ := List.mem_map.1 hq
        rw [hβo p hp, hβn q' hq'] at e
        have := (h1lv q' (hi q' hq')).2.2
        have := (hR.wr.lv p hp).1
        omega
      · rw [hβo p hp, hβo q hq] at e
        exact hR.wr.inj p q hp hq e
    ib := fun b hb => ⟨List.mem_append.2 (.inr (hR.wr.ib b hb).1), by rw [hβo b (hR.wr.ib b hb).1]; exact (hR.wr.ib b hb).2.1, (hR.wr.ib b hb).2.2⟩
    cp := fun b hb => by rw [hβo b (hR.wr.ib b hb).1]; exact (szB_of (hx.heap (hR.wr.lv b (hR.wr.ib b hb).1).1)).trans (hR.wr.cp b hb) }
  have hkeep : ∀ (x : AV) (u : Value), relV S.live β Y w x u → relV (new ++ S.live) β2 Y2 w' x u := fun x u h =>
    relV_mono (fun p hp => List.mem_append.2 (.inr hp)) hβo hY (fun g hg => hx.heap (hR.wr.yb g hg)) (fun p hp => hx.heap (hR.wr.lv p hp).1) x u h
  have hkeeps : ∀ (x : List AV) (u : List Value), relVs S.live β Y w x u → relVs (new ++ S.live) β2 Y2 w' x u := fun x u h =>
    relVs_mono (fun p hp => List.mem_append.2 (.inr hp)) hβo hY (fun g hg => hx.heap (hR.wr.yb g hg)) (fun p hp => hx.heap (hR.wr.lv p hp).1) x u h
  have hres : relV (new ++ S.live) β2 Y2 w' (shV (100 * d) res) v := by
    have hv1 : relV (idsV res) β1 Y1 w' res v := relV_ids res v hv (fun p hp => hp)
    have hv2 : relV (idsV res) β1 Y2 w' res v := by
      rcases hro with hro | hro
      · exact relV_noRo res v hro hv1
      · exact relV_mono (fun _ h => h) (fun _ _ => rfl) (fun g hg => by
          rcases hW.yo g hg with h | h
          · exact .inl (hro g h)
          · exact .inr ⟨hg, h⟩) (fun _ _ => rfl) (fun _ _ => rfl) res v hv1
    exact relV_map (fun p => p + 100 * d) (100 * d) (fun _ => rfl) (fun p hp => ⟨List.mem_append.2 (.inl (List.mem_map.2 ⟨p, hp, rfl⟩)), hβn p hp⟩) (fun _ h => h) res v hv2
  refine ⟨β2, Y2, hwr, fun k => ?_, fun b cs hb => ?_, hR.defers, by simp [Act.put, hR.size]⟩
  · rw [getD_put a d v k (by rw [hR.size]; exact hd)]
    simp only [getE]
    split
    · exact hres
    · exact hkeep _ _ (hR.env k)
  · obtain ⟨h1, T, cur, h2, h3⟩ := hR.boxes b cs hb
    refine ⟨List.mem_append.2 (.inr h1), T, cur, ?_, hkeeps _ _ h3⟩
    rw [hβo b h1, hx.heap (hR.wr.lv b h1).1]; exact h2

/-- A call that writes nothing, by the function's contract; what comes back holds nothing that is read in memory but what is owned. -/
theorem call_pure [Kn] {S : St} {d : Nat} {f : FuncId} {avs args : List AV} {res : AV} {K : St → Prop} (hAF : AFp P f args res) (harg : fitsVs (bors S.boxes avs) args) (hd : d < n) (hro : noRo res = true) (hids : ∀ p ∈ idsV res, p + 100 * d ∉ S.live)
    (hk : K { S with env := (d, shV (100 * d) res) :: S.env, live := (idsV res).map (· + 100 * d) ++ S.live }) : CallStep P n S (some d) f avs K := by
  intro B β Y a w vs hn hR hvs
  let Yc : Nat → Prop := fun g => Y g ∨ ∃ p, p ∈ S.live ∧ β p = g
  have hE : Entry [] β Yc w := ⟨fun g hg => by
    rcases hg with hg | ⟨p, hp, rfl⟩
    · exact hR.wr.yb g hg
    · exact (hR.wr.lv p hp).1, fun p hp => by simp at hp, fun p q hp => by simp at hp, Kn.mono hR.wr.kn (fun g h => .inl h) (fun _ _ => rfl)⟩
  have hb : relVs [] β Yc w args vs := relVs_fits _ _ _ harg (relVs_bor hR.boxes (fun g h => .inl h) (fun p hp => .inr ⟨p, hp, rfl⟩) avs vs hvs)
  refine (hAF β Yc w vs hE hb (fun b cs h => by simp [getB] at h)).mono ?_
  rintro v w' ⟨β1, Y1, L1, hW, _, _, hi, hv⟩
  exact ⟨_, join hR hW hi hv (by rw [hn]; exact hd) hids (.inl hro), hk⟩

/-- The same where nothing that is owned is handed in. -/
theorem call_ro [Kn] {S : St} {d : Nat} {f : FuncId} {avs args : List AV} {res : AV} {K : St → Prop} (hAF : AFp P f args res) (harg : fitsVs avs args) (hno : idsVs avs = []) (hd : d < n) (hids : ∀ p ∈ idsV res, p + 100 * d ∉ S.live)
    (hk : K { S with env := (d, shV (100 * d) res) :: S.env, live := (idsV res).map (· + 100 * d) ++ S.live }) : CallStep P n S (some d) f avs K := by
  intro B β Y a w vs hn hR hvs
  have hE : Entry [] β Y w := ⟨hR.wr.yb, fun p hp => by simp at hp, fun p q hp => by simp at hp, hR.wr.kn⟩
  have hb : relVs [] β Y w args vs := relVs_fits _ _ _ harg (relVs_ids avs vs hvs (fun p hp => by rw [hno] at hp; exact hp))
  refine (hAF β Y w vs hE hb (fun b cs h => by simp [getB] at h)).mono ?_
  rintro v w' ⟨β1, Y1, L1, hW, _, _, hi, hv⟩
  exact ⟨_, join hR hW hi hv (by rw [hn]; exact hd) hids (.inr fun _ h => h), hk⟩
end
end Go.Proofs.Avx

set_option linter.unusedVariables false
set_option linter.unusedSimpArgs false
namespace Go.Proofs.Avx

/-! ### Calls that write -/
/-- The callee's name of a name. -/
def kee : List (Nat × Nat) → Nat → Option Nat
  | [], _ => none
  | (a, b) :: r, p => if p = a then some b else kee r p
/-- The caller's name of a name; what is new, by the slot. -/
def back (d : Nat) : List (Nat × Nat) → Nat → Nat
  | [], q => q + 100 * d
  | (a, b) :: r, q => if q = b then a else back d r q
def inSnd : List (Nat × Nat) → Nat → Bool
  | [], _ => false
  | (_, b) :: r, q => q == b || inSnd r q
def newIds (τ : List (Nat × Nat)) (d : Nat) : List Nat → List Nat
  | [] => []
  | q :: r => if inSnd τ q then newIds τ d r else (q + 100 * d) :: newIds τ d r

mutual
/-- As it is handed in: what is named in τ by the callee's names, what is owned else to be read (if m). -/
def borV (m : Bool) (τ : List (Nat × Nat)) : AV → AV
  | .own p e t l => match kee τ p with
    | some q => .own q e t l
    | none => if m then .dat (.sl t) l else .any
  | .ptr b o => match kee τ b with
    | some q => .ptr q o
    | none => .any
  | .optr p e t l i o => match kee τ p with
    | some q => .optr q e t l i o
    | none => .any
  | .agg cs => .agg (borVs m τ cs)
  | .clo f caps => .clo f (borVs m τ caps)
  | .rptr cs => .rptr (borVs m τ cs)
  | .dat t x => .dat t x
  | .nilsl => .nilsl
  | .esl => .esl
  | .tup vs => .any
  | .cnd g v => .any
  | .any => .any
def borVs (m : Bool) (τ : List (Nat × Nat)) : List AV → List AV
  | [] => []
  | a :: l => borV m τ a :: borVs m τ l
end

mutual
def mapV (f : Nat → Nat) : AV → AV
  | .dat t x => .dat t x
  | .own p e t l => .own (f p) e t l
  | .nilsl => .nilsl
  | .esl => .esl
  | .ptr b o => .ptr (f b) o
  | .optr p e t l i o => .optr (f p) e t l i o
  | .rptr cs => .rptr (mapVs f cs)
  | .clo g caps => .clo g (mapVs f caps)
  | .agg cs => .agg (mapVs f cs)
  | .tup vs => .tup (mapVs f vs)
  | .cnd g v => .cnd g (mapV f v)
  | .any => .any
def mapVs (f : Nat → Nat) : List AV → List AV
  | [] => []
  | a :: l => mapV f a :: mapVs f l
end

/-- A row behind the call. -/
def updO (p : Nat) (e : TypeId) (t : Ty) (l : List t.D) (q : Nat) : List AV → AV
  | [] => .any
  | .own q' e' t' l' :: r => if q' = q ∧ e' = e then (match Ty.to (.sl t') (.sl t) l' with
      | some l'' => if l''.length = l.length then .own p e t l'' else .any
      | none => .any) else updO p e t l q r
  | _ :: r => updO p e t l q r
mutual
def updV (τ : List (Nat × Nat)) (rs : List AV) : AV → AV
  | .own p e t l => match kee τ p with
    | none => .own p e t l
    | some q => updO p e t l q rs
  | .optr p e t l i o => match kee τ p with
    | none => .optr p e t l i o
    | some _ => .any
  | .rptr cs => .rptr (updVs τ rs cs)
  | .clo g caps => .clo g (updVs τ rs caps)
  | .agg cs => .agg (updVs τ rs cs)
  | .tup vs => .tup (updVs τ rs vs)
  | .cnd g v => .cnd g (updV τ rs v)
  | .ptr b o => .ptr b o
  | .dat t x => .dat t x
  | .nilsl => .nilsl
  | .esl => .esl
  | .any => .any
def updVs (τ : List (Nat × Nat)) (rs : List AV) : List AV → List AV
  | [] => []
  | a :: l => updV τ rs a :: updVs τ rs l
end
def updE (τ : List (Nat × Nat)) (rs : List AV) : List (Nat × AV) → List (Nat × AV)
  | [] => []
  | (k, v) :: r => (k, updV τ rs v) :: updE τ rs r
def updB (τ : List (Nat × Nat)) (rs : List AV) (d : Nat) (io' : List (Nat × List AV)) : List (Nat × List AV) → List (Nat × List AV)
  | [] => []
  | (b, cs) :: r => match kee τ b with
    | some q => match getB io' q with
      | some cs' => (b, mapVs (back d τ) cs') :: updB τ rs d io' r
      | none => updB τ rs d io' r
    | none => (b, updVs τ rs cs) :: updB τ rs d io' r

def ioOK (m : Bool) (τ : List (Nat × Nat)) (bx : List (Nat × List AV)) : List (Nat × List AV) → Prop
  | [] => True
  | (q, cs) :: r => (match getB bx (back 0 τ q) with
      | some cs0 => fitsVs (borVs m τ cs0) cs
      | none => False) ∧ inSnd τ q = true ∧ ioOK m τ bx r
def subIds (A : List Nat) : List Nat → Bool
  | [] => true
  | q :: r => A.contains q && subIds A r
def ioIds (A : List Nat) : List (Nat × List AV) → Bool
  | [] => true
  | (_, cs) :: r => subIds A (idsVs cs) && ioIds A r
def ioNoRo : List (Nat × List AV) → Bool
  | [] => true
  | (_, cs) :: r => noRos cs && ioNoRo r
def rsOK (m : Bool) (τ : List (Nat × Nat)) : List AV → Bool
  | [] => true
  | .own q _ t _ :: r => inSnd τ q && (!m || flat t) && rsOK m τ r
  | _ :: r => rsOK m τ r

section
variable {L : List Nat} {β : Nat → Nat} {Y : Nat → Prop} {w : World}

theorem kee_some : ∀ {τ : List (Nat × Nat)} {p q : Nat}, kee τ p = some q → (p, q) ∈ τ
  | (a, b) :: r, p, q, h => by
    simp only [kee] at h
    split at h
    · rename_i e; cases h; subst e; exact List.mem_cons_self ..
    · exact List.mem_cons_of_mem _ (kee_some h)
theorem kee_none : ∀ {τ : List (Nat × Nat)} {p : Nat}, kee τ p = none → p ∉ τ.map (·.1)
  | [], p, _ => by simp
  | (a, b) :: r, p, h => by
    simp only [kee] at h
    split at h
    · cases h
    · rename_i e; simp only [List.map_cons, List.mem_cons, not_or]; exact ⟨e, kee_none h⟩
theorem back_mem : ∀ {τ : List (Nat × Nat)} {d p q : Nat}, (τ.map (·.2)).Nodup → (p, q) ∈ τ → back d τ q = p
  | (a, b) :: r, d, p, q, hn, h => by
    simp only [List.map_cons, List.nodup_cons] at hn
    simp only [back]
    rcases List.mem_cons.1 h with h | h
    · cases h; simp
    · rw [if_neg (fun e => hn.1 (List.mem_map.2 ⟨(p, q), h, e⟩))]
      exact back_mem hn.2 h
theorem inSnd_mem : ∀ {τ : List (Nat × Nat)} {q : Nat}, inSnd τ q = true → ∃ p, (p, q) ∈ τ
  | (a, b) :: r, q, h => by
    simp only [inSnd, Bool.or_eq_true, beq_iff_eq] at h
    rcases h with h | h
    · subst h; exact ⟨a, List.mem_cons_self ..⟩
    · obtain ⟨p, hp⟩ := inSnd_mem h; exact ⟨p, List.mem_cons_of_mem _ hp⟩
theorem not_inSnd : ∀ {τ : List (Nat × Nat)} {d q : Nat}, inSnd τ q = false → back d τ q = q + 100 * d
  | [], d, q, _ => rfl
  | (a, b) :: r, d, q, h => by
    simp only [inSnd, Bool.or_eq_false_iff, beq_eq_false_iff_ne] at h
    simp only [back, if_neg h.1]
    exact not_inSnd h.2
theorem mem_newIds {τ : List (Nat × Nat)} {d : Nat} : ∀ {l : List Nat} {x : Nat}, x ∈ newIds τ d l ↔ ∃ q, q ∈ l ∧ inSnd τ q = false ∧ x = q + 100 * d
  | [], x => by simp [newIds]
  | q :: r, x => by
    simp only [newIds]
    split
    · rename_i h
      rw [mem_newIds]
      constructor
      · rintro ⟨q', h1, h2, h3⟩; exact ⟨q', List.mem_cons_of_mem _ h1, h2, h3⟩
      · rintro ⟨q', h1, h2, h3⟩
        rcases List.mem_cons.1 h1 with rfl | h1
        · rw [h] at h2; simp at h2
        · exact ⟨q', h1, h2, h3⟩
    · rename_i h
      simp only [List.mem_cons, mem_newIds]
      constructor
      · rintro (rfl | ⟨q', h1, h2, h3⟩)
        · exact ⟨q, .inl rfl, by simpa using h, rfl⟩
        · exact ⟨q', .inr h1, h2, h3⟩
      · rintro ⟨q', rfl | h1, h2, h3⟩
        · exact .inl h3
        · exact .inr ⟨q', h1, h2, h3⟩

mutual
theorem relV_borV {m : Bool} {τ : List (Nat × Nat)} {L' : List Nat} {β' : Nat → Nat} {Y' : Nat → Prop} (hY : ∀ g, Y g → Y' g) (hk : ∀ p q, kee τ p = some q → q ∈ L' ∧ β' q = β p) (hm : m = true → ∀ p, p ∈ L → kee τ p = none → Y' (β p)) :
    ∀ (a : AV) (v : Value), relV L β Y w a v → relV L' β' Y' w (borV m τ a) v
  | .own p e t l, v, h => by
    simp only [borV]
    split
    · rename_i q hq
      simp only [relV] at h ⊢
      obtain ⟨hp, xs, h1, h2, h3⟩ := h
      exact ⟨(hk p q hq).1, xs, h1, by rw [h2, (hk p q hq).2], relL_mono (fun a c => relT_mono hY (fun _ _ => rfl) t a c) l xs h3⟩
    · rename_i hq
      split
      · rename_i hmm
        simp only [relV]
        refine own_borrow (L := [p]) (β := β) (p := p) (e := e) hY (fun p' hp' => ?_) ?_
        · simp only [List.mem_singleton] at hp'; subst hp'
          simp only [relV] at h
          exact hm hmm _ h.1 hq
        · simp only [relV] at h ⊢; exact ⟨by simp, h.2⟩
      · simp [relV]
  | .ptr b o, v, h => by
    simp only [borV]
    split
    · rename_i q hq
      simp only [relV] at h ⊢
      exact ⟨(hk b q hq).1, by rw [(hk b q hq).2]; exact h.2⟩
    · simp [relV]
  | .optr p e t l i o, v, h => by
    simp only [borV]
    split
    · rename_i q hq
      simp only [relV] at h ⊢
      obtain ⟨hp, ⟨c, xs, h1, h2, h3⟩, hv⟩ := h
      exact ⟨(hk p q hq).1, ⟨c, xs, h1, by rw [h2, (hk p q hq).2], relL_mono (fun a c => relT_mono hY (fun _ _ => rfl) t a c) l xs h3⟩, by rw [(hk p q hq).2]; exact hv⟩
    · simp [relV]
  | .agg cs, v, h => by simp only [borV, relV] at h ⊢; obtain ⟨xs, hv, hr⟩ := h; exact ⟨xs, hv, relVs_borV hY hk hm cs xs hr⟩
  | .clo f caps, v, h => by simp only [borV, relV] at h ⊢; obtain ⟨xs, hv, hr⟩ := h; exact ⟨xs, hv, relVs_borV hY hk hm caps xs hr⟩
  | .rptr cs, v, h => by simp only [borV, relV] at h ⊢; obtain ⟨g, o, xs, hv, hg, hr, hc⟩ := h; exact ⟨g, o, xs, hv, hY g hg, relVs_borV hY hk hm cs xs hr, hc⟩
  | .dat t x, v, h => by simp only [borV, relV] at h ⊢; exact relT_mono hY (fun _ _ => rfl) t x _ h
  | .nilsl, v, h => by simp only [borV, relV] at h ⊢; exact h
  | .esl, v, h => by simp only [borV, relV] at h ⊢; exact h
  | .tup vs, v, h => by simp [borV, relV]
  | .cnd g x, v, h => by simp [borV, relV]
  | .any, v, h => by simp [borV, relV]
theorem relVs_borV {m : Bool} {τ : List (Nat × Nat)} {L' : List Nat} {β' : Nat → Nat} {Y' : Nat → Prop} (hY : ∀ g, Y g → Y' g) (hk : ∀ p q, kee τ p = some q → q ∈ L' ∧ β' q = β p) (hm : m = true → ∀ p, p ∈ L → kee τ p = none → Y' (β p)) :
    ∀ (l : List AV) (cs : List Value), relVs L β Y w l cs → relVs L' β' Y' w (borVs m τ l) cs
  | [], cs, h => by simp only [borVs, relVs] at h ⊢; exact h
  | a :: l, cs, h => by
    simp only [borVs, relVs] at h ⊢
    obtain ⟨c, d, e, h1, h2⟩ := h
    exact ⟨c, d, e, relV_borV hY hk hm a c h1, relVs_borV hY hk hm l d h2⟩
end

mutual
theorem relV_mapV {f : Nat → Nat} {L' : List Nat} {β' : Nat → Nat} (hL : ∀ p, p ∈ L → f p ∈ L' ∧ β' (f p) = β p) : ∀ (a : AV) (v : Value), relV L β Y w a v → relV L' β' Y w (mapV f a) v
  | .dat t x, v, h => by simp only [mapV, relV] at h ⊢; exact h
  | .own p e t l, v, h => by
    simp only [mapV, relV] at h ⊢
    obtain ⟨hp, xs, h1, h2, h3⟩ := h
    exact ⟨(hL p hp).1, xs, h1, by rw [h2, (hL p hp).2], h3⟩
  | .nilsl, v, h => by simp only [mapV, relV] at h ⊢; exact h
  | .esl, v, h => by simp only [mapV, relV] at h ⊢; exact h
  | .ptr b o, v, h => by simp only [mapV, relV] at h ⊢; exact ⟨(hL b h.1).1, by rw [(hL b h.1).2]; exact h.2⟩
  | .optr p e t l i o, v, h => by
    simp only [mapV, relV] at h ⊢
    obtain ⟨hp, ⟨c, xs, h1, h2, h3⟩, hv⟩ := h
    exact ⟨(hL p hp).1, ⟨c, xs, h1, by rw [h2, (hL p hp).2], h3⟩, by rw [(hL p hp).2]; exact hv⟩
  | .rptr cs, v, h => by simp only [mapV, relV] at h ⊢; obtain ⟨g, o, xs, hv, hg, hr, hc⟩ := h; exact ⟨g, o, xs, hv, hg, relVs_mapV hL cs xs hr, hc⟩
  | .clo g caps, v, h => by simp only [mapV, relV] at h ⊢; obtain ⟨cs, hv, hr⟩ := h; exact ⟨cs, hv, relVs_mapV hL caps cs hr⟩
  | .agg l, v, h => by simp only [mapV, relV] at h ⊢; obtain ⟨cs, hv, hr⟩ := h; exact ⟨cs, hv, relVs_mapV hL l cs hr⟩
  | .tup l, v, h => by simp only [mapV, relV] at h ⊢; obtain ⟨cs, hv, hr⟩ := h; exact ⟨cs, hv, relVs_mapV hL l cs hr⟩
  | .cnd g a, v, h => by simp only [mapV, relV] at h ⊢; exact fun hg => relV_mapV hL a v (h hg)
  | .any, v, h => by simp only [mapV, relV]
theorem relVs_mapV {f : Nat → Nat} {L' : List Nat} {β' : Nat → Nat} (hL : ∀ p, p ∈ L → f p ∈ L' ∧ β' (f p) = β p) : ∀ (l : List AV) (cs : List Value), relVs L β Y w l cs → relVs L' β' Y w (mapVs f l) cs
  | [], cs, h => by simp only [mapVs, relVs] at h ⊢; exact h
  | a :: l, cs, h => by
    simp only [mapVs, relVs] at h ⊢
    obtain ⟨c, d, e, h1, h2⟩ := h
    exact ⟨c, d, e, relV_mapV hL a c h1, relVs_mapV hL l d h2⟩
end

/-- What holds of what is not written, and of the rows that are. -/
structure Upd (L : List Nat) (β : Nat → Nat) (Y : Nat → Prop) (w : World) (L2 : List Nat) (β2 : Nat → Nat) (Y2 : Nat → Prop) (w' : World) (τ : List (Nat × Nat)) (rs : List AV) : Prop where
  l : ∀ p, p ∈ L → p ∈ L2 ∧ β2 p = β p
  y : ∀ g, Y g → Y2 g ∧ w'.heap[g]? = w.heap[g]?
  o : ∀ p, p ∈ L → kee τ p = none → w'.heap[β p]? = w.heap[β p]?
  r : ∀ p q, p ∈ L → kee τ p = some q → ∀ (e : TypeId) (t : Ty) (l' : List t.D), .own q e t l' ∈ rs → ∀ (v : Value) (n : Nat) (xs : List Value), w.ownsRow 0 e t.size v n xs → v.ownBlock = some (β p) → l'.length = n →
    ∃ xs', w'.ownsRow 0 e t.size v l'.length xs' ∧ relL (relT Y2 w' t) l' xs'

theorem relV_updO {L2 : List Nat} {β2 : Nat → Nat} {Y2 : Nat → Prop} {w' : World} {τ : List (Nat × Nat)} {rs : List AV} (H : Upd L β Y w L2 β2 Y2 w' τ rs) {p q : Nat} (hp : p ∈ L) (hq : kee τ p = some q) {e : TypeId} {t : Ty} {l : List t.D} {v : Value} {xs : List Value}
    (h1 : w.ownsRow 0 e t.size v l.length xs) (h2 : v.ownBlock = some (β p)) : ∀ rs', (∀ a ∈ rs', a ∈ rs) → relV L2 β2 Y2 w' (updO p e t l q rs') v
  | [], _ => by simp [updO, relV]
  | a :: r, hs => by
    have ih := relV_updO H hp hq h1 h2 r (fun b hb => hs b (List.mem_cons_of_mem _ hb))
    cases a <;> simp only [updO] <;> try exact ih
    rename_i q' e' t' l'
    split
    · rename_i he
      obtain ⟨rfl, rfl⟩ := he
      unfold Ty.to
      by_cases ht : Ty.sl t' = Ty.sl t
      · have ht' : t' = t := by simpa using ht
        subst ht'
        simp only [dif_pos]
        split
        · rename_i hl
          obtain ⟨xs', k1, k2⟩ := H.r p q' hp hq e' t' l' (hs _ (List.mem_cons_self ..)) v l.length xs h1 h2 hl
          simp only [relV]
          exact ⟨(H.l p hp).1, xs', k1, by rw [h2, (H.l p hp).2], k2⟩
        · simp [relV]
      · have ht2 : ¬ t' = t := fun e => ht (by rw [e])
        simp [ht2, relV]
    · exact ih

mutual
theorem relV_updV {L2 : List Nat} {β2 : Nat → Nat} {Y2 : Nat → Prop} {w' : World} {τ : List (Nat × Nat)} {rs : List AV} (H : Upd L β Y w L2 β2 Y2 w' τ rs) : ∀ (a : AV) (v : Value), relV L β Y w a v → relV L2 β2 Y2 w' (updV τ rs a) v
  | .dat t x, v, h => by simp only [updV, relV] at h ⊢; exact relT_mono (fun g hg => (H.y g hg).1) (fun g hg => (H.y g hg).2) t x _ h
  | .own p e t l, v, h => by
    simp only [updV]
    simp only [relV] at h
    obtain ⟨hp, xs, h1, h2, h3⟩ := h
    split
    · rename_i hk
      simp only [relV]
      refine ⟨(H.l p hp).1, xs, ownsRow_of_block h1 (fun g hg => ?_), by rw [h2, (H.l p hp).2], relL_mono (fun a c => relT_mono (fun g hg => (H.y g hg).1) (fun g hg => (H.y g hg).2) t a c) l xs h3⟩
      rw [h2] at hg; cases hg; exact H.o p hp hk
    · rename_i q hk
      exact relV_updO H hp hk h1 h2 rs (fun _ h => h)
  | .nilsl, v, h => by simp only [updV, relV] at h ⊢; exact h
  | .esl, v, h => by simp only [updV, relV] at h ⊢; exact h
  | .ptr b o, v, h => by simp only [updV, relV] at h ⊢; exact ⟨(H.l b h.1).1, by rw [(H.l b h.1).2]; exact h.2⟩
  | .optr p e t l i o, v, h => by
    simp only [updV]
    split
    · rename_i hk
      simp only [relV] at h ⊢
      obtain ⟨hp, ⟨c, xs, h1, h2, h3⟩, hv⟩ := h
      refine ⟨(H.l p hp).1, ⟨c, xs, ownsRow_of_block h1 (fun g hg => ?_), by rw [h2, (H.l p hp).2], relL_mono (fun a c => relT_mono (fun g hg => (H.y g hg).1) (fun g hg => (H.y g hg).2) t a c) l xs h3⟩, by rw [(H.l p hp).2]; exact hv⟩
      rw [h2] at hg; cases hg; exact H.o p hp hk
    · simp [relV]
  | .rptr cs, v, h => by
    simp only [updV, relV] at h ⊢
    obtain ⟨g, o, xs, hv, hg, hr, hc⟩ := h
    exact ⟨g, o, xs, hv, (H.y g hg).1, relVs_updV H cs xs hr, fun j u hu => (World.cell?_of_block (a := ⟨g, o + j, none⟩) (H.y g hg).2).trans (hc j u hu)⟩
  | .clo g caps, v, h => by simp only [updV, relV] at h ⊢; obtain ⟨cs, hv, hr⟩ := h; exact ⟨cs, hv, relVs_updV H caps cs hr⟩
  | .agg l, v, h => by simp only [updV, relV] at h ⊢; obtain ⟨cs, hv, hr⟩ := h; exact ⟨cs, hv, relVs_updV H l cs hr⟩
  | .tup l, v, h => by simp only [updV, relV] at h ⊢; obtain ⟨cs, hv, hr⟩ := h; exact ⟨cs, hv, relVs_updV H l cs hr⟩
  | .cnd g a, v, h => by simp only [updV, relV] at h ⊢; exact fun hg => relV_updV H a v (h hg)
  | .any, v, h => by simp only [updV, relV]
theorem relVs_updV {L2 : List Nat} {β2 : Nat → Nat} {Y2 : Nat → Prop} {w' : World} {τ : List (Nat × Nat)} {rs : List AV} (H : Upd L β Y w L2 β2 Y2 w' τ rs) : ∀ (l : List AV) (cs : List Value), relVs L β Y w l cs → relVs L2 β2 Y2 w' (updVs τ rs l) cs
  | [], cs, h => by simp only [updVs, relVs] at h ⊢; exact h
  | a :: l, cs, h => by
    simp only [updVs, relVs] at h ⊢
    obtain ⟨c, d, e, h1, h2⟩ := h
    exact ⟨c, d, e, relV_updV H a c h1, relVs_updV H l d h2⟩
end
theorem getE_upd {τ : List (Nat × Nat)} {rs : List AV} : ∀ (env : List (Nat × AV)) (k : Nat), getE (updE τ rs env) k = updV τ rs (getE env k)
  | [], k => by simp [updE, getE, updV]
  | (j, v) :: r, k => by
    simp only [updE, getE]
    split
    · rfl
    · exact getE_upd r k
theorem getB_upd {τ : List (Nat × Nat)} {rs : List AV} {d : Nat} {io' : List (Nat × List AV)} : ∀ {bx : List (Nat × List AV)} {b : Nat} {cs : List AV}, getB (updB τ rs d io' bx) b = some cs →
    (∃ q cs', kee τ b = some q ∧ getB io' q = some cs' ∧ cs = mapVs (back d τ) cs') ∨ (kee τ b = none ∧ ∃ cs0, getB bx b = some cs0 ∧ cs = updVs τ rs cs0)
  | [], b, cs, h => by simp [updB, getB] at h
  | (j, v) :: r, b, cs, h => by
    have lift : ((∃ q cs', kee τ b = some q ∧ getB io' q = some cs' ∧ cs = mapVs (back d τ) cs') ∨ (kee τ b = none ∧ ∃ cs0, getB r b = some cs0 ∧ cs = updVs τ rs cs0)) → (kee τ b = none → b ≠ j) →
        ((∃ q cs', kee τ b = some q ∧ getB io' q = some cs' ∧ cs = mapVs (back d τ) cs') ∨ (kee τ b = none ∧ ∃ cs0, getB ((j, v) :: r) b = some cs0 ∧ cs = updVs τ rs cs0)) := by
      rintro (h | ⟨h1, cs0, h2, h3⟩) hne
      · exact .inl h
      · exact .inr ⟨h1, cs0, by simp only [getB, if_neg (hne h1)]; exact h2, h3⟩
    simp only [updB] at h
    split at h
    · rename_i q hq
      have hne : kee τ b = none → b ≠ j := fun h0 e => by subst e; rw [h0] at hq; simp at hq
      split at h
      · rename_i cs' hcs'
        simp only [getB] at h
        split at h
        · rename_i e; subst e; cases h; exact .inl ⟨q, cs', hq, hcs', rfl⟩
        · exact lift (getB_upd h) hne
      · exact lift (getB_upd h) hne
    · rename_i hq
      simp only [getB] at h
      split at h
      · rename_i e; subst e; cases h; exact .inr ⟨hq, v, by simp [getB], rfl⟩
      · rename_i e; exact lift (getB_upd h) (fun _ => e)
end
end Go.Proofs.Avx

set_option linter.unusedVariables false
set_option linter.unusedSimpArgs false
namespace Go.Proofs.Avx

def setd (dst : Option Nat) (v : AV) (env : List (Nat × AV)) : List (Nat × AV) := match dst with
  | some d => (d, v) :: env
  | none => env
def dstN : Option Nat → Nat
  | some d => d
  | none => 0

theorem ioOK_get {m : Bool} {τ : List (Nat × Nat)} {bx : List (Nat × List AV)} : ∀ {io : List (Nat × List AV)} {q : Nat} {cs : List AV}, ioOK m τ bx io → getB io q = some cs →
    ∃ cs0, getB bx (back 0 τ q) = some cs0 ∧ fitsVs (borVs m τ cs0) cs ∧ inSnd τ q = true
  | (q', cs') :: r, q, cs, h, hg => by
    simp only [ioOK] at h
    simp only [getB] at hg
    split at hg
    · rename_i e
      subst e
      cases hg
      obtain ⟨h1, h2, _⟩ := h
      split at h1
      · rename_i cs0 h0; exact ⟨cs0, h0, h1, h2⟩
      · exact h1.elim
    · exact ioOK_get h.2.2 hg
  | [], q, cs, h, hg => by simp [getB] at hg
theorem subIds_mem {A : List Nat} : ∀ {l : List Nat}, subIds A l = true → ∀ q ∈ l, q ∈ A
  | [], _, q, hq => by simp at hq
  | x :: r, h, q, hq => by
    simp only [subIds, Bool.and_eq_true, List.contains_iff_mem] at h
    rcases List.mem_cons.1 hq with rfl | hq
    · exact h.1
    · exact subIds_mem h.2 q hq
def ioKeys (A : List Nat) : List (Nat × List AV) → Bool
  | [] => true
  | (q, _) :: r => A.contains q && ioKeys A r
theorem ioKeys_mem {A : List Nat} : ∀ {io : List (Nat × List AV)} {q : Nat} {cs : List AV}, ioKeys A io = true → getB io q = some cs → q ∈ A
  | (q', cs') :: r, q, cs, h, hg => by
    simp only [ioKeys, Bool.and_eq_true, List.contains_iff_mem] at h
    simp only [getB] at hg
    split at hg
    · rename_i e; subst e; exact h.1
    · exact ioKeys_mem h.2 hg
  | [], q, cs, h, hg => by simp [getB] at hg
/-- The boxes that come new. -/
def newB (τ : List (Nat × Nat)) (d : Nat) : List (Nat × List AV) → List (Nat × List AV)
  | [] => []
  | (q, cs) :: r => if inSnd τ q then newB τ d r else (q + 100 * d, mapVs (back d τ) cs) :: newB τ d r
theorem newB_get {τ : List (Nat × Nat)} {d : Nat} : ∀ {io : List (Nat × List AV)} {b : Nat} {cs : List AV}, getB (newB τ d io) b = some cs → ∃ q cs0, inSnd τ q = false ∧ b = q + 100 * d ∧ getB io q = some cs0 ∧ cs = mapVs (back d τ) cs0
  | [], b, cs, h => by simp [newB, getB] at h
  | (j, v) :: r, b, cs, h => by
    simp only [newB] at h
    split at h
    · rename_i hj
      obtain ⟨q, cs0, h1, h2, h3, h4⟩ := newB_get h
      exact ⟨q, cs0, h1, h2, by simp only [getB]; rw [if_neg (fun e => by subst e; rw [hj] at h1; simp at h1)]; exact h3, h4⟩
    · rename_i hj
      simp only [getB] at h
      split at h
      · rename_i hb; cases h; exact ⟨j, v, by simpa using hj, hb, by simp [getB], rfl⟩
      · rename_i hb
        obtain ⟨q, cs0, h1, h2, h3, h4⟩ := newB_get h
        exact ⟨q, cs0, h1, h2, by simp only [getB]; rw [if_neg (fun e => hb (by rw [h2, e]))]; exact h3, h4⟩
theorem getB_app {bx : List (Nat × List AV)} {b : Nat} {cs : List AV} : ∀ {a : List (Nat × List AV)}, getB (a ++ bx) b = some cs → getB a b = some cs ∨ getB bx b = some cs
  | [], h => .inr h
  | (j, v) :: r, h => by
    simp only [List.cons_append, getB] at h ⊢
    split at h
    · rename_i e; left; rw [if_pos e]; exact h
    · rename_i e; rw [if_neg e]; exact getB_app h
theorem ioIds_mem {A : List Nat} : ∀ {io : List (Nat × List AV)} {q : Nat} {cs : List AV}, ioIds A io = true → getB io q = some cs → ∀ p ∈ idsVs cs, p ∈ A
  | (q', cs') :: r, q, cs, h, hg => by
    simp only [ioIds, Bool.and_eq_true] at h
    simp only [getB] at hg
    split at hg
    · cases hg; exact subIds_mem h.1
    · exact ioIds_mem h.2 hg
  | [], q, cs, h, hg => by simp [getB] at hg
theorem ioNoRo_get : ∀ {io : List (Nat × List AV)} {q : Nat} {cs : List AV}, ioNoRo io = true → getB io q = some cs → noRos cs = true
  | (q', cs') :: r, q, cs, h, hg => by
    simp only [ioNoRo, Bool.and_eq_true] at h
    simp only [getB] at hg
    split at hg
    · cases hg; exact h.1
    · exact ioNoRo_get h.2 hg
  | [], q, cs, h, hg => by simp [getB] at hg
theorem rsOK_mem {m : Bool} {τ : List (Nat × Nat)} : ∀ {rs : List AV}, rsOK m τ rs = true → ∀ q e t l, AV.own q e t l ∈ rs → inSnd τ q = true ∧ (m = false ∨ flat t = true)
  | a :: r, h, q, e, t, l, hm => by
    cases a with
    | own q' e' t' l' =>
      simp only [rsOK, Bool.and_eq_true, Bool.or_eq_true, Bool.not_eq_true'] at h
      rcases List.mem_cons.1 hm with hm | hm
      · cases hm; exact ⟨h.1.1, h.1.2⟩
      · exact rsOK_mem h.2 q e t l hm
    | _ =>
      simp only [rsOK] at h
      rcases List.mem_cons.1 hm with hm | hm
      · cases hm
      · exact rsOK_mem h q e t l hm
  | [], h, q, e, t, l, hm => by simp at hm

section
variable {P : Program} {n : Nat}

/-- A call that writes what τ names. m: what is owned else may be handed in to be read. -/
theorem call_io [Kn] {S : St} {dst : Option Nat} {f : FuncId} {avs args rs' : List AV} {io io' : List (Nat × List AV)} {res : AV} {K : St → Prop} (m : Bool) (τ : List (Nat × Nat)) {L : List Nat}
    (hAF : AF P f args L io res io' rs') (hL : τ.map (·.2) = L) (harg : fitsVs (borVs m τ avs) args) (hn1 : (τ.map (·.1)).Nodup) (hn2 : (τ.map (·.2)).Nodup) (hlive : subIds S.live (τ.map (·.1)) = true)
    (hio : ioOK m τ S.boxes io) (hd : dstOk n dst = true) (hfr : ∀ q ∈ newIds τ (dstN dst) (idsV res), q ∉ S.live) (hio' : ioIds (τ.map (·.2) ++ idsV res) io' = true) (hio2 : ioKeys (τ.map (·.2) ++ idsV res) io' = true) (hrs : rsOK m τ rs' = true)
    (hro : m = false ∨ (noRo res = true ∧ ioNoRo io' = true))
    (hk : K { env := setd dst (mapV (back (dstN dst) τ) res) (updE τ rs' S.env), boxes := newB τ (dstN dst) io' ++ updB τ rs' (dstN dst) io' S.boxes, live := newIds τ (dstN dst) (idsV res) ++ S.live }) : CallStep P n S dst f avs K := by
  subst hL
  intro B β Y a w vs hn hR hvs
  generalize hdd : dstN dst = d at *
  let Yc : Nat → Prop := fun g => Y g ∨ (m = true ∧ ∃ p, p ∈ S.live ∧ kee τ p = none ∧ β p = g)
  let βc : Nat → Nat := fun q => β (back 0 τ q)
  have hlv := subIds_mem hlive
  have hcaller : ∀ p q, (p, q) ∈ τ → p ∈ S.live ∧ βc q = β p ∧ kee τ p = some q := fun p q hpq => by
    refine ⟨hlv p (List.mem_map.2 ⟨_, hpq, rfl⟩), by simp only [βc]; rw [back_mem hn2 hpq], ?_⟩
    cases hk0 : kee τ p with
    | none => exact absurd (List.mem_map.2 ⟨(p, q), hpq, rfl⟩) (kee_none hk0)
    | some q' => have := inj_of_nodup (·.1) τ hn1 (p, q) (p, q') hpq (kee_some hk0) rfl; cases this; rfl
  have hback : ∀ p q d', (p, q) ∈ τ → back d' τ q = p := fun p q d' h => back_mem hn2 h
  have hYY : ∀ g, Y g → Yc g := fun g h => .inl h
  have hny : ∀ p q, (p, q) ∈ τ → ¬ Yc (β p) := fun p q hpq hy => by
    obtain ⟨h1, _, h3⟩ := hcaller p q hpq
    rcases hy with hy | ⟨_, p', h4, h5, h6⟩
    · exact (hR.wr.lv p h1).2.1 hy
    · have := hR.wr.inj p' p h4 h1 h6; subst this; rw [h5] at h3; simp at h3
  have hE : Entry (τ.map (·.2)) βc Yc w := ⟨fun g hg => by
      rcases hg with hg | ⟨_, p, hp, _, rfl⟩
      · exact hR.wr.yb g hg
      · exact (hR.wr.lv p hp).1,
    fun q hq => by
      obtain ⟨⟨p, q'⟩, hpq, rfl⟩ := List.mem_map.1 hq
      obtain ⟨h1, h2, _⟩ := hcaller p q' hpq
      exact ⟨by rw [h2]; exact (hR.wr.lv p h1).1, by rw [h2]; exact hny p q' hpq⟩,
    fun q1 q2 hq1 hq2 e => by
      obtain ⟨⟨p1, q1'⟩, hpq1, rfl⟩ := List.mem_map.1 hq1
      obtain ⟨⟨p2, q2'⟩, hpq2, rfl⟩ := List.mem_map.1 hq2
      obtain ⟨a1, a2, _⟩ := hcaller p1 q1' hpq1
      obtain ⟨b1, b2, _⟩ := hcaller p2 q2' hpq2
      rw [a2, b2] at e
      have := hR.wr.inj p1 p2 a1 b1 e
      subst this
      have := inj_of_nodup (·.1) τ hn1 (p1, q1') (p1, q2') hpq1 hpq2 rfl
      cases this; rfl, Kn.mono hR.wr.kn hYY (fun _ _ => rfl)⟩
  have hkk : ∀ p q, kee τ p = some q → q ∈ τ.map (·.2) ∧ βc q = β p := fun p q h => ⟨List.mem_map.2 ⟨_, kee_some h, rfl⟩, (hcaller p q (kee_some h)).2.1⟩
  have hmm : m = true → ∀ p, p ∈ S.live → kee τ p = none → Yc (β p) := fun h p hp hk0 => .inr ⟨h, p, hp, hk0, rfl⟩
  have hb : relVs (τ.map (·.2)) βc Yc w args vs := relVs_fits _ _ _ harg (relVs_borV hYY hkk hmm avs vs hvs)
  have hbox : ∀ q cs, getB io q = some cs → BoxAt (τ.map (·.2)) βc Yc w q cs := fun q cs hq => by
    obtain ⟨cs0, h1, h2, h3⟩ := ioOK_get hio hq
    obtain ⟨p, hpq⟩ := inSnd_mem h3
    rw [hback p q 0 hpq] at h1
    obtain ⟨k1, T, cur, k2, k3⟩ := hR.boxes p cs0 h1
    exact ⟨List.mem_map.2 ⟨_, hpq, rfl⟩, T, cur, by rw [(hcaller p q hpq).2.1]; exact k2, relVs_fits _ _ _ h2 (relVs_borV hYY hkk hmm cs0 _ k3)⟩
  refine (hAF βc Yc w vs hE hb hbox).mono ?_
  rintro v w' ⟨β1, Y1, L1, hW, hbo, hro', hi, hv⟩
  refine ⟨_, ?_, hk⟩
  let new := newIds τ d (idsV res)
  let β2 : Nat → Nat := fun q => if q ∈ new then β1 (q - 100 * d) else β q
  let Y2 : Nat → Prop := fun g => Y g ∨ (Y1 g ∧ w.heap.size ≤ g)
  have hsz : w.heap.size ≤ w'.heap.size := hW.fr.size
  have hib : ∀ p q, (p, q) ∈ τ → q ∈ L1 ∧ β1 q = β p := fun p q hpq => by
    have := hW.ib q (List.mem_map.2 ⟨_, hpq, rfl⟩)
    exact ⟨this.1, this.2.1.trans (hcaller p q hpq).2.1⟩
  have hnl : ∀ p, p ∈ S.live → p ∉ new := fun p hp hpn => hfr p hpn hp
  have hβo : ∀ p, p ∈ S.live → β2 p = β p := fun p hp => by simp only [β2]; rw [if_neg (hnl p hp)]
  have hnew : ∀ x, x ∈ new → ∃ q, q ∈ idsV res ∧ inSnd τ q = false ∧ x = q + 100 * d := fun x hx => mem_newIds.1 hx
  have hβn : ∀ q, q ∈ idsV res → inSnd τ q = false → q + 100 * d ∈ new ∧ β2 (q + 100 * d) = β1 q := fun q hq hs => by
    have : q + 100 * d ∈ new := mem_newIds.2 ⟨q, hq, hs, rfl⟩
    refine ⟨this, ?_⟩
    simp only [β2]; rw [if_pos this]; congr 1; omega
  have hnotL : ∀ q, inSnd τ q = false → q ∉ τ.map (·.2) := fun q hs hm => by
    obtain ⟨⟨p, q'⟩, hpq, rfl⟩ := List.mem_map.1 hm
    have : ∀ (l : List (Nat × Nat)), (p, q') ∈ l → inSnd l q' = true := by
      intro l
      induction l with
      | nil => intro h; simp at h
      | cons x l ih =>
        intro h
        obtain ⟨x1, x2⟩ := x
        simp only [inSnd, Bool.or_eq_true, beq_iff_eq]
        rcases List.mem_cons.1 h with h | h
        · cases h; exact .inl rfl
        · exact .inr (ih h)
    rw [this τ hpq] at hs; simp at hs
  have h1lv : ∀ q, q ∈ L1 → q ∉ τ.map (·.2) → β1 q < w'.heap.size ∧ ¬ Y1 (β1 q) ∧ w.heap.size ≤ β1 q := fun q hq hnq => by
    obtain ⟨h1, h2, h3⟩ := hW.lv q hq
    refine ⟨h1, h2, ?_⟩
    rcases h3 with ⟨q', hq', he⟩ | h3
    · have hi' := hW.ib q' hq'
      have := hW.inj q' q hi'.1 hq (hi'.2.1.trans he)
      subst this; exact absurd hq' hnq
    · exact h3
  have hYh : ∀ g, Y g → w'.heap[g]? = w.heap[g]? := fun g hg => hW.fr.block g (hR.wr.yb g hg) (fun ⟨q, hq, he⟩ => by
    obtain ⟨⟨p, q'⟩, hpq, rfl⟩ := List.mem_map.1 hq
    have he : βc q' = g := he
    exact hny p q' hpq (by rw [← (hcaller p q' hpq).2.1, he]; exact hYY g hg))
  have hLh : ∀ p, p ∈ S.live → kee τ p = none → w'.heap[β p]? = w.heap[β p]? := fun p hp hk0 => hW.fr.block _ (hR.wr.lv p hp).1 (fun ⟨q, hq, he⟩ => by
    obtain ⟨⟨p', q'⟩, hpq, rfl⟩ := List.mem_map.1 hq
    have he : βc q' = β p := he
    rw [(hcaller p' q' hpq).2.1] at he
    have := hR.wr.inj p' p (hcaller p' q' hpq).1 hp he
    subst this
    rw [(hcaller p' q' hpq).2.2] at hk0; simp at hk0)
  have hcp : ∀ p q, (p, q) ∈ τ → szB w' (β p) = szB w (β p) := fun p q hpq => by
    have := hW.cp q (List.mem_map.2 ⟨_, hpq, rfl⟩)
    rw [(hib p q hpq).2] at this
    exact this
  have hY12 : ∀ g, Y1 g → (m = false → Y2 g) := fun g hg hm => by
    rcases hW.yo g hg with h | h
    · rcases h with h | ⟨h, _⟩
      · exact .inl h
      · rw [hm] at h; simp at h
    · exact .inr ⟨hg, h⟩
  have hwr : WR B (new ++ S.live) β2 Y2 w' := {
    kn := Kn.mono hR.wr.kn (fun g h => .inl h) hYh
    fr := ⟨hW.fr.os.trans hR.wr.fr.os, hW.fr.tape.trans hR.wr.fr.tape, hW.fr.output.trans hR.wr.fr.output, Nat.le_trans hR.wr.fr.size hsz, fun k hk0 hno => by
      rw [← hR.wr.fr.block k hk0 hno]
      refine hW.fr.block k (Nat.lt_of_lt_of_le hk0 hR.wr.fr.size) (fun ⟨q, hq, he⟩ => ?_)
      obtain ⟨⟨p, q'⟩, hpq, rfl⟩ := List.mem_map.1 hq
      have he : βc q' = k := he
      rw [(hcaller p q' hpq).2.1] at he
      subst he
      rcases (hR.wr.lv p (hcaller p q' hpq).1).2.2 with h | h
      · exact hno h
      · omega⟩
    yb := fun g hg => by
      rcases hg with hg | hg
      · exact Nat.lt_of_lt_of_le (hR.wr.yb g hg) hsz
      · exact hW.yb g hg.1
    yo := fun g hg => by
      rcases hg with hg | hg
      · exact hR.wr.yo g hg
      · exact .inr (Nat.le_trans hR.wr.fr.size hg.2)
    lv := fun p hp => by
      rcases List.mem_append.1 hp with hp | hp
      · obtain ⟨q, hq, hs, rfl⟩ := hnew p hp
        rw [(hβn q hq hs).2]
        obtain ⟨h1, h2, h3⟩ := h1lv q (hi q hq) (hnotL q hs)
        refine ⟨h1, fun hy => ?_, .inr (Nat.le_trans hR.wr.fr.size h3)⟩
        rcases hy with hy | hy
        · exact absurd (hR.wr.yb _ hy) (by omega)
        · exact h2 hy.1
      · rw [hβo p hp]
        obtain ⟨h1, h2, h3⟩ := hR.wr.lv p hp
        refine ⟨Nat.lt_of_lt_of_le h1 hsz, fun hy => ?_, h3⟩
        rcases hy with hy | hy
        · exact h2 hy
        · omega
    inj := fun p q hp hq e => by
      rcases List.mem_append.1 hp with hp | hp <;> rcases List.mem_append.1 hq with hq | hq
      · obtain ⟨p', hp', hsp, rfl⟩ := hnew p hp
        obtain ⟨q', hq', hsq, rfl⟩ := hnew q hq
        rw [(hβn p' hp' hsp).2, (hβn q' hq' hsq).2] at e
        rw [hW.inj p' q' (hi p' hp') (hi q' hq') e]
      · obtain ⟨p', hp', hsp, rfl⟩ := hnew p hp
        rw [(hβn p' hp' hsp).2, hβo q hq] at e
        have := (h1lv p' (hi p' hp') (hnotL p' hsp)).2.2
        have := (hR.wr.lv q hq).1
        omega
      · obtain ⟨q', hq', hsq, rfl⟩ := hnew q hq
        rw [hβo p hp, (hβn q' hq' hsq).2] at e
        have := (h1lv q' (hi q' hq') (hnotL q' hsq)).2.2
        have := (hR.wr.lv p hp).1
        omega
      · rw [hβo p hp, hβo q hq] at e
        exact hR.wr.inj p q hp hq e
    ib := fun b hb => ⟨List.mem_append.2 (.inr (hR.wr.ib b hb).1), by rw [hβo b (hR.wr.ib b hb).1]; exact (hR.wr.ib b hb).2.1, (hR.wr.ib b hb).2.2⟩
    cp := fun b hb => by
      have hbl := (hR.wr.ib b hb).1
      rw [hβo b hbl, ← hR.wr.cp b hb]
      cases hk0 : kee τ b with
      | none => exact szB_of (hLh b hbl hk0)
      | some q => exact hcp b q (kee_some hk0) }
  have hU : Upd S.live β Y w (new ++ S.live) β2 Y2 w' τ rs' := {
    l := fun p hp => ⟨List.mem_append.2 (.inr hp), hβo p hp⟩
    y := fun g hg => ⟨.inl hg, hYh g hg⟩
    o := hLh
    r := fun p q hp hq e t l' hmem u k xs h1 h2 hlen => by
      obtain ⟨u', hu'⟩ := hro' _ hmem
      obtain ⟨hs, hfl⟩ := rsOK_mem hrs q e t l' hmem
      simp only [relV] at hu'
      obtain ⟨_, xs', g1, g2, g3⟩ := hu'
      have hpq := kee_some hq
      rw [(hib p q hpq).2] at g2
      rcases h1.2 with ⟨rfl, _⟩ | ⟨g, cap, cur, rfl, _, hh, hnc, hcm, hcs, _⟩
      · simp [Value.ownBlock] at h2
      · have hg0 : g = β p := by simpa [Value.ownBlock] using h2
        subst hg0
        rcases g1.2 with ⟨rfl, _⟩ | ⟨g', cap', cur', rfl, k0, hh', k1, k2, k3, k4⟩
        · simp [Value.ownBlock] at g2
        · have hg1 : g' = β p := by simpa [Value.ownBlock] using g2
          subst hg1
          have hz := hcp p q hpq
          simp only [szB, hh, hh', Option.some.injEq, Prod.mk.injEq, and_true] at hz
          refine ⟨xs', ⟨g1.1, .inr ⟨_, cap, cur', by rw [hlen], Nat.zero_le _, hh', by omega, hcm, by omega, k4⟩⟩, ?_⟩
          rcases hfl with hm0 | hfl
          · exact relL_mono (fun a c => relT_mono (fun g hg => hY12 g hg hm0) (fun _ _ => rfl) t a c) l' xs' g3
          · exact relL_mono (fun a c => relT_flat t a c hfl) l' xs' g3 }
  have hmap : ∀ q, q ∈ L1 → (q ∈ τ.map (·.2) ∨ q ∈ idsV res) → back d τ q ∈ new ++ S.live ∧ β2 (back d τ q) = β1 q := fun q hq1 hq => by
    cases hs : inSnd τ q with
    | true =>
      obtain ⟨p, hpq⟩ := inSnd_mem hs
      rw [hback p q d hpq]
      have := hcaller p q hpq
      exact ⟨List.mem_append.2 (.inr this.1), by rw [hβo p this.1, (hib p q hpq).2]⟩
    | false =>
      rw [not_inSnd hs]
      rcases hq with hq | hq
      · exact absurd hq (hnotL q hs)
      · exact ⟨List.mem_append.2 (.inl (hβn q hq hs).1), (hβn q hq hs).2⟩
  have hres : relV (new ++ S.live) β2 Y2 w' (mapV (back d τ) res) v := by
    have hv1 : relV (idsV res) β1 Y1 w' res v := relV_ids res v hv (fun p hp => hp)
    have hv2 : relV (idsV res) β1 Y2 w' res v := by
      rcases hro with hro | hro
      · exact relV_mono (fun _ h => h) (fun _ _ => rfl) (fun g hg => hY12 g hg hro) (fun _ _ => rfl) (fun _ _ => rfl) res v hv1
      · exact relV_noRo res v hro.1 hv1
    exact relV_mapV (fun p hp => hmap p (hi p hp) (.inr hp)) res v hv2
  have hdl : ∀ k, dst = some k → k < B.n := dst_lt hn hd
  refine ⟨β2, Y2, hwr, fun k => ?_, fun b cs hb0 => ?_, by cases dst <;> exact hR.defers, by cases dst <;> simp [Act.put, hR.size]⟩
  · cases dst with
    | none => simp only [setd, Act.put, getE_upd]; exact relV_updV hU _ _ (hR.env k)
    | some d0 =>
      rw [getD_put a d0 v k (by rw [hR.size]; exact hdl d0 rfl)]
      simp only [setd, getE]
      split
      · exact hres
      · rw [getE_upd]; exact relV_updV hU _ _ (hR.env k)
  · have hcont : ∀ q cs', getB io' q = some cs' → ∀ T cur, w'.heap[β1 q]? = some (.cells cur T (0, 0)) → relVs L1 β1 Y1 w' cs' cur.toList → relVs (new ++ S.live) β2 Y2 w' (mapVs (back d τ) cs') cur.toList := fun q cs' h2 T cur k2 k3 => by
      have hids := ioIds_mem hio' h2
      have k4 : relVs (idsVs cs') β1 Y1 w' cs' cur.toList := relVs_ids cs' _ k3 (fun p hp => hp)
      have k5 : relVs (idsVs cs') β1 Y2 w' cs' cur.toList := by
        rcases hro with hro | hro
        · exact relVs_mono (fun _ h => h) (fun _ _ => rfl) (fun g hg => hY12 g hg hro) (fun _ _ => rfl) (fun _ _ => rfl) cs' _ k4
        · exact relVs_noRo cs' _ (ioNoRo_get hro.2 h2) k4
      refine relVs_mapV (fun p hp => ?_) cs' _ k5
      rcases List.mem_append.1 (hids p hp) with h | h
      · obtain ⟨⟨p', q'⟩, hpq', rfl⟩ := List.mem_map.1 h
        exact hmap _ (hib p' q' hpq').1 (.inl h)
      · exact hmap p (hi p h) (.inr h)
    rcases getB_app hb0 with hb0 | hb0
    · obtain ⟨q, cs', h1, rfl, h3, rfl⟩ := newB_get hb0
      obtain ⟨k1, T, cur, k2, k3⟩ := hbo q cs' h3
      have hqr : q ∈ idsV res := by
        rcases List.mem_append.1 (ioKeys_mem hio2 h3) with h | h
        · exact absurd h (hnotL q h1)
        · exact h
      have hq2 := hβn q hqr h1
      exact ⟨List.mem_append.2 (.inl hq2.1), T, cur, by rw [hq2.2]; exact k2, hcont q cs' h3 T cur k2 k3⟩
    rcases getB_upd hb0 with ⟨q, cs', h1, h2, rfl⟩ | ⟨h1, cs0, h2, rfl⟩
    · have hpq := kee_some h1
      obtain ⟨k1, T, cur, k2, k3⟩ := hbo q cs' h2
      exact ⟨List.mem_append.2 (.inr (hcaller b q hpq).1), T, cur, by rw [hβo b (hcaller b q hpq).1, ← (hib b q hpq).2]; exact k2, hcont q cs' h2 T cur k2 k3⟩
    · obtain ⟨k1, T, cur, k2, k3⟩ := hR.boxes b cs0 h2
      refine ⟨List.mem_append.2 (.inr k1), T, cur, ?_, relVs_updV hU _ _ k3⟩
      rw [hβo b k1, hLh b k1 h1]; exact k2
end
end Go.Proofs.Avx

set_option linter.unusedVariables false
set_option linter.unusedSimpArgs false
namespace Go.Proofs.Avx

/-! ### Guarded calls -/
section
variable {P : Program} {n : Nat}

theorem rel_env_mono [Kn] {B : Ctx} {a : Act} {w : World} {S S' : St} (hb : S'.boxes = S.boxes) (hl : S'.live = S.live) (he : ∀ β Y k, RelC B S β Y a w → relV S.live β Y w (getE S'.env k) (a.tmps.getD k undef)) (h : Rel B S a w) : Rel B S' a w := by
  obtain ⟨β, Y, hC⟩ := h
  obtain ⟨env', bx', lv'⟩ := S'
  simp only at hb hl
  subst hb; subst hl
  exact ⟨β, Y, hC.wr, fun k => he β Y k hC, hC.boxes, hC.defers, hC.size⟩

theorem gcall_pure [Kn] {S : St} {d : Nat} {c : Bool} {f : FuncId} {avs args : List AV} {res : AV} {K : St → Prop} (hAF : c = true → AFp P f args res) (harg : c = true → fitsVs (bors S.boxes avs) args) (hd : d < n) (hro : noRo res = true) (hids : idsV res = [])
    (hk : K { S with env := (d, .cnd c (shV (100 * d) res)) :: S.env }) : GCall P n S (some d) c f avs K := by
  intro B β Y a w vs hn hR hvs
  refine ⟨fun hc => ?_, fun hc => ?_⟩
  · have := call_pure (P := P) (n := n) (S := S) (d := d) (f := f) (avs := avs) (args := args) (res := res) (K := fun S' => S' = { S with env := (d, shV (100 * d) res) :: S.env }) (hAF hc) (harg hc) hd hro (by rw [hids]; simp) (by rw [hids]; rfl)
    refine (this B β Y a w vs hn hR (hvs hc)).mono ?_
    rintro v w' ⟨S', h1, rfl⟩
    refine ⟨_, rel_env_mono (S := { S with env := (d, shV (100 * d) res) :: S.env }) (S' := { S with env := (d, .cnd c (shV (100 * d) res)) :: S.env }) rfl rfl (fun β Y k hC => ?_) h1, hk⟩
    have := hC.env k
    by_cases hkd : k = d
    · simp only [getE, if_pos hkd, relV] at this ⊢; exact fun _ => this
    · simp only [getE, if_neg hkd] at this ⊢; exact this
  · refine ⟨_, ?_, hk⟩
    have := hR.set (d := some d) (fun k hk => by cases hk; rw [hn]; exact hd) (av := .cnd c (shV (100 * d) res)) (v := undef) (by simp only [relV]; exact fun h => by rw [hc] at h; simp at h)
    exact this.rel

/-- A guarded call, by cases. -/
theorem gcall_cases [Kn] {S : St} {dst : Option Nat} {c : Bool} {f : FuncId} {avs : List AV} {K : St → Prop} (hd : dstOk n dst = true) (h1 : c = true → CallStep P n S dst f avs K) (h2 : c = false → K (S.set dst .any)) : GCall P n S dst c f avs K := by
  intro B β Y a w vs hn hR hvs
  refine ⟨fun hc => h1 hc B β Y a w vs hn hR (hvs hc), fun hc => ⟨_, (hR.set (dst_lt hn hd) (by simp [relV])).rel, h2 hc⟩⟩
end

/-! ### A row is only read from here on -/
mutual
def frzV (p : Nat) : AV → AV
  | .own q e t l => if q = p then .dat (.sl t) l else .own q e t l
  | .optr q e t l i o => if q = p then (if i < l.length then .rptr ((enc t (l.getD i t.z)).drop o) else .any) else .optr q e t l i o
  | .ptr b o => if b = p then .any else .ptr b o
  | .rptr cs => .rptr (frzVs p cs)
  | .clo g caps => .clo g (frzVs p caps)
  | .agg cs => .agg (frzVs p cs)
  | .tup vs => .tup (frzVs p vs)
  | .cnd g v => .cnd g (frzV p v)
  | .dat t x => .dat t x
  | .nilsl => .nilsl
  | .esl => .esl
  | .any => .any
def frzVs (p : Nat) : List AV → List AV
  | [] => []
  | a :: l => frzV p a :: frzVs p l
end
def frzE (p : Nat) : List (Nat × AV) → List (Nat × AV)
  | [] => []
  | (k, v) :: r => (k, frzV p v) :: frzE p r
def frzB (p : Nat) : List (Nat × List AV) → List (Nat × List AV)
  | [] => []
  | (b, cs) :: r => if b = p then frzB p r else (b, frzVs p cs) :: frzB p r
def St.frz (S : St) (p : Nat) : St := ⟨frzE p S.env, frzB p S.boxes, killL p S.live⟩

section
variable {L : List Nat} {β : Nat → Nat} {Y : Nat → Prop} {w : World}
mutual
theorem relV_frz (p : Nat) : ∀ (a : AV) (v : Value), relV L β Y w a v → relV (killL p L) β (fun g => Y g ∨ g = β p) w (frzV p a) v
  | .own q e t l, v, h => by
    simp only [frzV]
    split
    · rename_i hq
      subst hq
      simp only [relV]
      refine own_borrow (L := [q]) (β := β) (p := q) (e := e) (fun g hg => .inl hg) (fun p' hp' => ?_) ?_
      · simp only [List.mem_singleton] at hp'; subst hp'; exact .inr rfl
      · simp only [relV] at h ⊢; exact ⟨by simp, h.2⟩
    · rename_i hq
      simp only [relV] at h ⊢
      obtain ⟨hp, xs, h1, h2, h3⟩ := h
      exact ⟨mem_killL.2 ⟨hp, hq⟩, xs, h1, h2, relL_mono (fun a c => relT_mono (fun _ h => .inl h) (fun _ _ => rfl) t a c) l xs h3⟩
  | .optr q e t l i o, v, h => by
    simp only [frzV]
    split
    · rename_i hq
      subst hq
      split
      · rename_i hi
        simp only [relV] at h ⊢
        obtain ⟨hp, ⟨c, xs, h1, h2, h3⟩, rfl⟩ := h
        obtain ⟨es, h4, h5⟩ := relL_at l xs i h3 hi
        have hes := relT_length t _ es h4
        refine ⟨β q, i * t.size + o, es.drop o, rfl, .inr rfl, relVs_drop o (relVs_enc t _ es (relT_mono (fun _ h => .inl h) (fun _ _ => rfl) t _ es h4)), fun j u hu => ?_⟩
        rw [List.getElem?_drop] at hu
        have hlt : o + j < es.length := (List.getElem?_eq_some_iff.1 hu).1
        have := h1.cells h2 (i * t.size + (o + j)) u (by rw [h5 _ (by omega)]; exact hu)
        rw [add_spot] at this
        simpa [Nat.add_assoc] using this
      · simp [relV]
    · rename_i hq
      simp only [relV] at h ⊢
      obtain ⟨hp, ⟨c, xs, h1, h2, h3⟩, hv⟩ := h
      exact ⟨mem_killL.2 ⟨hp, hq⟩, ⟨c, xs, h1, h2, relL_mono (fun a c => relT_mono (fun _ h => .inl h) (fun _ _ => rfl) t a c) l xs h3⟩, hv⟩
  | .ptr b o, v, h => by
    simp only [frzV]
    split
    · simp [relV]
    · rename_i hb; simp only [relV] at h ⊢; exact ⟨mem_killL.2 ⟨h.1, hb⟩, h.2⟩
  | .rptr cs, v, h => by simp only [frzV, relV] at h ⊢; obtain ⟨g, o, xs, hv, hg, hr, hc⟩ := h; exact ⟨g, o, xs, hv, .inl hg, relVs_frz p cs xs hr, hc⟩
  | .clo g caps, v, h => by simp only [frzV, relV] at h ⊢; obtain ⟨cs, hv, hr⟩ := h; exact ⟨cs, hv, relVs_frz p caps cs hr⟩
  | .agg l, v, h => by simp only [frzV, relV] at h ⊢; obtain ⟨cs, hv, hr⟩ := h; exact ⟨cs, hv, relVs_frz p l cs hr⟩
  | .tup l, v, h => by simp only [frzV, relV] at h ⊢; obtain ⟨cs, hv, hr⟩ := h; exact ⟨cs, hv, relVs_frz p l cs hr⟩
  | .cnd g a, v, h => by simp only [frzV, relV] at h ⊢; exact fun hg => relV_frz p a v (h hg)
  | .dat t x, v, h => by simp only [frzV, relV] at h ⊢; exact relT_mono (fun _ h => .inl h) (fun _ _ => rfl) t x _ h
  | .nilsl, v, h => by simp only [frzV, relV] at h ⊢; exact h
  | .esl, v, h => by simp only [frzV, relV] at h ⊢; exact h
  | .any, v, h => by simp only [frzV, relV]
theorem relVs_frz (p : Nat) : ∀ (l : List AV) (cs : List Value), relVs L β Y w l cs → relVs (killL p L) β (fun g => Y g ∨ g = β p) w (frzVs p l) cs
  | [], cs, h => by simp only [frzVs, relVs] at h ⊢; exact h
  | a :: l, cs, h => by
    simp only [frzVs, relVs] at h ⊢
    obtain ⟨c, d, e, h1, h2⟩ := h
    exact ⟨c, d, e, relV_frz p a c h1, relVs_frz p l d h2⟩
end
theorem getE_frz (p : Nat) : ∀ (env : List (Nat × AV)) (k : Nat), getE (frzE p env) k = frzV p (getE env k)
  | [], k => by simp [frzE, getE, frzV]
  | (j, v) :: r, k => by
    simp only [frzE, getE]
    split
    · rfl
    · exact getE_frz p r k
theorem getB_frz (p : Nat) : ∀ (bs : List (Nat × List AV)) (b : Nat) (cs : List AV), getB (frzB p bs) b = some cs → b ≠ p ∧ ∃ cs0, getB bs b = some cs0 ∧ cs = frzVs p cs0
  | [], b, cs, h => by simp [frzB, getB] at h
  | (j, v) :: r, b, cs, h => by
    simp only [frzB] at h
    split at h
    · rename_i hj
      obtain ⟨h1, cs0, h2, h3⟩ := getB_frz p r b cs h
      exact ⟨h1, cs0, by simp only [getB]; rw [if_neg (fun e => h1 (e.trans hj))]; exact h2, h3⟩
    · rename_i hj
      simp only [getB] at h ⊢
      split at h
      · rename_i hb; cases h; exact ⟨fun e => hj (hb ▸ e), v, by rw [if_pos hb], rfl⟩
      · rename_i hb
        obtain ⟨h1, cs0, h2, h3⟩ := getB_frz p r b cs h
        exact ⟨h1, cs0, by rw [if_neg hb]; exact h2, h3⟩

theorem RelC.frz [Kn] {B : Ctx} {S : St} {a : Act} (h : RelC B S β Y a w) (p : Nat) (hp : p ∈ S.live) (h98 : p % 100 ≠ 98) : RelC B (S.frz p) β (fun g => Y g ∨ g = β p) a w where
  wr := {
    kn := Kn.mono h.wr.kn (fun g h => .inl h) (fun _ _ => rfl)
    fr := h.wr.fr
    yb := fun g hg => by
      rcases hg with hg | rfl
      · exact h.wr.yb g hg
      · exact (h.wr.lv p hp).1
    yo := fun g hg => by
      rcases hg with hg | rfl
      · exact h.wr.yo g hg
      · rcases (h.wr.lv p hp).2.2 with ⟨q, hq, he⟩ | hl
        · have hq' := h.wr.ib q hq
          have := h.wr.inj q p hq'.1 hp (hq'.2.1.trans he)
          subst this
          exact absurd hq'.2.2 h98
        · exact .inr hl
    lv := fun q hq => by
      obtain ⟨hq1, hq2⟩ := mem_killL.1 hq
      obtain ⟨k1, k2, k3⟩ := h.wr.lv q hq1
      refine ⟨k1, fun hy => ?_, k3⟩
      rcases hy with hy | hy
      · exact k2 hy
      · exact hq2 (h.wr.inj q p hq1 hp hy)
    inj := fun q r hq hr => h.wr.inj q r (mem_killL.1 hq).1 (mem_killL.1 hr).1
    ib := fun b hb => ⟨mem_killL.2 ⟨(h.wr.ib b hb).1, fun e => h98 (e ▸ (h.wr.ib b hb).2.2)⟩, (h.wr.ib b hb).2⟩
    cp := h.wr.cp }
  env k := by simp only [St.frz, getE_frz]; exact relV_frz p _ _ (h.env k)
  boxes b cs hb := by
    obtain ⟨h1, cs0, h2, rfl⟩ := getB_frz p _ _ _ hb
    obtain ⟨k1, T, cur, k2, k3⟩ := h.boxes b cs0 h2
    exact ⟨mem_killL.2 ⟨k1, h1⟩, T, cur, k2, relVs_frz p _ _ k3⟩
  defers := h.defers
  size := h.size
end

theorem sub_frz [Kn] {S : St} (p : Nat) (hp : p ∈ S.live) (h98 : p % 100 ≠ 98) : Sub S (S.frz p) := fun _ _ _ ⟨_, _, hR⟩ => (hR.frz p hp h98).rel
theorem sub_kill [Kn] {S : St} (p : Nat) (h98 : p % 100 ≠ 98) : Sub S (S.kill p) := fun _ _ _ ⟨_, _, hR⟩ => (hR.kill p h98).rel
/-- From here on rows are only read. -/
theorem aw_frz [Kn] {P : Program} {n : Nat} {c : Code} {S : St} {Q : Exit → St → Prop} (p : Nat) (hp : p ∈ S.live) (h98 : p % 100 ≠ 98) (h : AW P n c (S.frz p) Q) : AW P n c S Q := AW.sub (sub_frz p hp h98) h
theorem aw_kill [Kn] {P : Program} {n : Nat} {c : Code} {S : St} {Q : Exit → St → Prop} (p : Nat) (h98 : p % 100 ≠ 98) (h : AW P n c (S.kill p) Q) : AW P n c S Q := AW.sub (sub_kill p h98) h

/-! ### Less is known, in general -/
def allB (bx : List (Nat × List AV)) : List (Nat × List AV) → Prop
  | [] => True
  | (b, cs) :: r => getB bx b = some cs ∧ allB bx r
theorem allB_get {bx : List (Nat × List AV)} : ∀ {e : List (Nat × List AV)}, allB bx e → ∀ b cs, getB e b = some cs → getB bx b = some cs
  | [], _, b, cs, h => by simp [getB] at h
  | (j, v) :: r, h, b, cs, hb => by
    simp only [allB] at h
    simp only [getB] at hb
    split at hb
    · rename_i e; cases hb; subst e; exact h.1
    · exact allB_get h.2 b cs hb
def idsE : List (Nat × AV) → List Nat
  | [] => []
  | (_, v) :: r => idsV v ++ idsE r
def idsB : List (Nat × List AV) → List Nat
  | [] => []
  | (b, cs) :: r => b :: (idsVs cs ++ idsB r)
theorem idsE_get : ∀ {env : List (Nat × AV)} {k p : Nat}, p ∈ idsV (getE env k) → p ∈ idsE env
  | [], k, p, h => by simp [getE, idsV] at h
  | (j, v) :: r, k, p, h => by
    simp only [getE] at h
    simp only [idsE]
    split at h
    · exact List.mem_append.2 (.inl h)
    · exact List.mem_append.2 (.inr (idsE_get h))
theorem idsB_get : ∀ {bx : List (Nat × List AV)} {b p : Nat} {cs : List AV}, getB bx b = some cs → (p = b ∨ p ∈ idsVs cs) → p ∈ idsB bx
  | [], b, p, cs, h, _ => by simp [getB] at h
  | (j, v) :: r, b, p, cs, h, hp => by
    simp only [getB] at h
    simp only [idsB, List.mem_cons, List.mem_append]
    split at h
    · rename_i e; cases h; subst e; rcases hp with hp | hp
      · exact .inl hp
      · exact .inr (.inl hp)
    · exact .inr (.inr (idsB_get h hp))
def keep98 (live' : List Nat) : List Nat → Bool
  | [] => true
  | p :: r => (p % 100 != 98 || live'.contains p) && keep98 live' r
theorem keep98_of {live' : List Nat} : ∀ {l : List Nat}, keep98 live' l = true → ∀ p ∈ l, p % 100 = 98 → p ∈ live'
  | [], _, p, hp, _ => by simp at hp
  | x :: r, h, p, hp, h98 => by
    simp only [keep98, Bool.and_eq_true, Bool.or_eq_true, bne_iff_ne, ne_eq, List.contains_iff_mem] at h
    rcases List.mem_cons.1 hp with rfl | hp
    · exact h.1.resolve_left (fun hn => hn h98)
    · exact keep98_of h.2 p hp h98

theorem sub_to [Kn] {S S' : St} (he : allE S.env S'.env) (hb : allB S.boxes S'.boxes) (hl : subIds S.live S'.live = true) (hi : subIds S'.live (idsE S'.env ++ idsB S'.boxes) = true) (hk : keep98 S'.live S.live = true) : Sub S S' := fun B a w ⟨β, Y, hR⟩ => by
  have hl := subIds_mem hl
  have hi := subIds_mem hi
  have hk := keep98_of hk
  refine ⟨β, Y, ⟨hR.wr.fr, hR.wr.yb, hR.wr.yo, fun p hp => hR.wr.lv p (hl p hp), fun p q hp hq => hR.wr.inj p q (hl p hp) (hl q hq), fun b hb => ⟨hk b (hR.wr.ib b hb).1 (hR.wr.ib b hb).2.2, (hR.wr.ib b hb).2⟩, hR.wr.cp, hR.wr.kn⟩, fun k => ?_, fun b cs hbc => ?_, hR.defers, hR.size⟩
  · have h := hR.env k
    rcases allE_get he k with h0 | h0
    · rw [h0]; simp [relV]
    · rw [← h0] at h
      exact relV_ids _ _ h (fun p hp => hi p (List.mem_append.2 (.inl (idsE_get hp))))
  · obtain ⟨h1, T, cur, h2, h3⟩ := hR.boxes b cs (allB_get hb b cs hbc)
    exact ⟨hi b (List.mem_append.2 (.inr (idsB_get hbc (.inl rfl)))), T, cur, h2, relVs_ids _ _ h3 (fun p hp => hi p (List.mem_append.2 (.inr (idsB_get hbc (.inr hp)))))⟩
end Go.Proofs.Avx

set_option linter.unusedVariables false
set_option linter.unusedSimpArgs false
namespace Go.Proofs.Avx

/-! ### Regions whose order is drawn -/
/-- What one operation adds. -/
structure Pat where
  dst : Nat
  av : AV
  bx : List (Nat × List AV)
  lv : List Nat

def Pat.e (p : Pat) : Nat × AV := (p.dst, p.av)
def patE : List Pat → List (Nat × AV) → List (Nat × AV)
  | [], env => env
  | p :: r, env => (p.dst, p.av) :: patE r env
def patB : List Pat → List (Nat × List AV) → List (Nat × List AV)
  | [], bx => bx
  | p :: r, bx => p.bx ++ patB r bx
def patL : List Pat → List Nat → List Nat
  | [], l => l
  | p :: r, l => p.lv ++ patL r l
def St.withP (S : St) (ps : List Pat) : St := ⟨patE ps S.env, patB ps S.boxes, patL ps S.live⟩

/-- A call in a region that draws. -/
def CallD [Kn] (P : Program) (bx : List (Nat × List AV)) (d : Nat) (f : FuncId) (avs : List AV) (K : Pat → Prop) : Prop :=
  ∃ res args, AFp P f args res ∧ ((fitsVs (bors bx avs) args ∧ noRo res = true) ∨ (fitsVs avs args ∧ idsVs avs = [])) ∧ K ⟨d, shV (100 * d) res, [], (idsV res).map (· + 100 * d)⟩
def CallG [Kn] (P : Program) (bx : List (Nat × List AV)) (d : Nat) (c : Bool) (f : FuncId) (avs : List AV) (K : Pat → Prop) : Prop :=
  ∃ res args, (c = true → AFp P f args res) ∧ (c = true → fitsVs (bors bx avs) args) ∧ noRo res = true ∧ idsV res = [] ∧ K ⟨d, .cnd c (shV (100 * d) res), [], []⟩

/-- An empty slice that is written down: of capacity nought. -/
def emptyD (Γ : List (TypeId × TI)) (T : TypeId) (k : Nat) (parts : List (Nat × Operand)) : Bool :=
  match Tab.get Γ T, k, parts with
  | some { d := .sl e, .. }, 0, [] => (Tab.get Γ e).isSome
  | _, _, _ => false

def stepDX [Kn] (P : Program) (Γ : List (TypeId × TI)) (env : List (Nat × AV)) (bx : List (Nat × List AV)) (d : Nat) (op : Op) (K : Pat → Prop) : Prop :=
  match op with
  | .alloc T => match Tab.get Γ T with
    | some ti => K ⟨d, .ptr (boxN d) 0, [(boxN d, zeroC ti)], [boxN d]⟩
    | none => False
  | .box T x => match cellsV (avOf env x) with
    | some cs => K ⟨d, .ptr (boxN d) 0, [(boxN d, cs)], [boxN d]⟩
    | none => False
  | .buildSlice T n parts => if emptyD Γ T n parts.toList = true then K ⟨d, .esl, [], []⟩ else stepMk Γ ⟨env, bx, []⟩ (some d) (.buildSlice T n parts) (fun S' => K ⟨d, getE S'.env d, [], [rowN d]⟩)
  | .makeSlice T x y => stepMkS Γ ⟨env, bx, []⟩ d T (avOf env x) (avOf env y) (fun S' => K ⟨d, getE S'.env d, [], [rowN d]⟩)
  | .call { callee := .builtin .append, args := args, argTypes := ts } => match args.toList, ts.toList with
    | [x, y], [T, T'] => match avOf env x with
      | .esl => T' = T ∧ stepApp Γ ⟨env, bx, []⟩ d T .esl (avOf env y) (fun S' => K ⟨d, getE S'.env d, [], [rowN d]⟩)
      | _ => False
    | _, _ => False
  | .call { callee := .value f, args := args, .. } => match avOf env f with
    | .clo fid caps => CallD P bx d fid (args.toList.map (avOf env) ++ caps) K
    | _ => False
  | _ => False

def stepDG [Kn] (P : Program) (env : List (Nat × AV)) (bx : List (Nat × List AV)) (d : Nat) (c : Bool) (op : Op) (K : Pat → Prop) : Prop :=
  match op with
  | .call { callee := .value f, args := args, .. } => match avOf env f with
    | .clo fid caps => (c = true → guards env args.toList = true) ∧ CallG P bx d c fid (args.toList.map (fun x => (strip (avOf env x)).2) ++ caps) K
    | _ => False
  | _ => False

def stepD [Kn] (P : Program) (Γ : List (TypeId × TI)) (n : Nat) (ops : Array Oper) (o : Oper) (env : List (Nat × AV)) (bx : List (Nat × List AV)) (K : Pat → Prop) : Prop :=
  match o.dst with
  | none => False
  | some d => d < n ∧ match o.guard with
    | none => match evalOp Γ ⟨env, bx, []⟩ o.op with
      | some (ob, r) => ob ∧ K ⟨d, r, [], []⟩
      | none => stepDX P Γ env bx d o.op K
    | some (j, want) => match gval ops env j with
      | some (g, b) => match evalOp Γ ⟨env, bx, []⟩ o.op with
        | some (ob, r) => g = true ∧ (b = want → ob) ∧ K ⟨d, cndOf (b == want) r, [], []⟩
        | none => g = true ∧ stepDG P env bx d (b == want) o.op K
      | none => False

def wpD [Kn] (P : Program) (Γ : List (TypeId × TI)) (n : Nat) (ops : Array Oper) (bx : List (Nat × List AV)) : List Oper → List (Nat × AV) → List Pat → (List Pat → Prop) → Prop
  | [], env, ps, K => K ps
  | o :: rest, env, ps, K => stepD P Γ n ops o env bx (fun p => wpD P Γ n ops bx rest ((p.dst, p.av) :: env) (p :: ps) K)

/-- Operation o, from any state that agrees where o looks, adds p. -/
def LocOK [Kn] (P : Program) (n : Nat) (ops : Array Oper) (o : Oper) (env : List (Nat × AV)) (bx : List (Nat × List AV)) (p : Pat) : Prop :=
  o.dst = some p.dst ∧ (∀ b cs, getB p.bx b = some cs → b ∈ p.lv) ∧ ∀ (S' : St), (∀ x ∈ o.looksAt ops, getE S'.env x = getE env x) → (∀ b cs, getB bx b = some cs → getB S'.boxes b = some cs) → (∀ q ∈ p.lv, q ∉ S'.live) →
    ∀ (B : Ctx) (a : Act) (w : World) (K : Act → World → Prop) (Q : Exit → Act → World → Prop), B.n = n → Rel B S' a w → (∀ a' w', Rel B ⟨(p.dst, p.av) :: S'.env, p.bx ++ S'.boxes, p.lv ++ S'.live⟩ a' w' → K a' w') →
      if Region.wanted o (yielded ops a.tmps) then o.wp P a w K Q else K (a.put o.dst undef) w

section
variable {P : Program} {Γ : List (TypeId × TI)} {n : Nat} {ops : Array Oper}

theorem avOf_congr {env env' : List (Nat × AV)} {x : Operand} (h : ∀ t, x = .tmp t → getE env' t = getE env t) : avOf env' x = avOf env x := by
  cases x with
  | tmp t => exact h t rfl
  | _ => rfl
theorem looks_op {o : Oper} {env env' : List (Nat × AV)} (h : ∀ x ∈ o.looksAt ops, getE env' x = getE env x) : ∀ x ∈ o.op.operands.toList, avOf env' x = avOf env x := fun x hx => avOf_congr fun t ht => h t (by
  unfold Oper.looksAt
  refine List.mem_append.2 (.inl (List.mem_filterMap.2 ⟨x, hx, ?_⟩))
  rw [ht])
theorem looks_guard {o : Oper} {env env' : List (Nat × AV)} (h : ∀ x ∈ o.looksAt ops, getE env' x = getE env x) {j : Nat} {want : Bool} (hg : o.guard = some (j, want)) : gval ops env' j = gval ops env j := by
  unfold gval
  cases hd : (ops[j]?).bind (·.dst) with
  | none => rfl
  | some d =>
    have : getE env' d = getE env d := h d (by
      unfold Oper.looksAt
      refine List.mem_append.2 (.inr ?_)
      rw [hg]; simp only [hd]; simp)
    simp only [this]

theorem evLoad_sub {bx bx' : List (Nat × List AV)} (hb : ∀ b cs, getB bx b = some cs → getB bx' b = some cs) {T : TypeId} {p : AV} {r : Prop × AV} (h : evLoad Γ bx T p = some r) : evLoad Γ bx' T p = some r := by
  unfold evLoad at h ⊢
  split at h
  · simp at h
  · split at h
    · exact h
    · split at h
      · rename_i b o cs hcs
        simp only [hb _ cs hcs]; exact h
      · simp at h
    · exact h
    · simp at h

theorem evOp_congr {bx bx' : List (Nat × List AV)} (hb : ∀ b cs, getB bx b = some cs → getB bx' b = some cs) {f f' : Operand → AV} {op : Op} (hf : ∀ x ∈ op.operands.toList, f' x = f x) {r : Prop × AV} (h : evOp Γ bx f op = some r) : evOp Γ bx' f' op = some r := by
  unfold evOp at h ⊢
  split at h
  · simp only [Op.operands] at hf; rw [hf _ (by simp), hf _ (by simp)]; exact h
  · simp only [Op.operands] at hf; rw [hf _ (by simp)]; exact h
  · simp only [Op.operands] at hf; rw [hf _ (by simp)]; exact h
  · simp only [Op.operands] at hf; rw [hf _ (by simp)]; exact evLoad_sub hb h
  · simp only [Op.operands] at hf; rw [hf _ (by simp)]; exact h
  · simp only [Op.operands] at hf; rw [hf _ (by simp)]; exact h
  · simp only [Op.operands] at hf; rw [hf _ (by simp), hf _ (by simp)]; exact h
  · simp only [Op.operands] at hf; rw [hf _ (by simp), hf _ (by simp)]; exact h
  · simp only [Op.operands] at hf; rw [hf _ (by simp)]; exact h
  · rename_i T x lo hi
    simp only [Op.operands] at hf
    have h1 : lo.map f' = lo.map f := by cases lo <;> simp; exact hf _ (by simp)
    have h2 : hi.map f' = hi.map f := by cases hi <;> simp; exact hf _ (by simp)
    rw [hf _ (by simp), h1, h2]; exact h
  · rename_i fn first caps
    simp only [Op.operands] at hf
    have : caps.toList.map f' = caps.toList.map f := List.map_congr_left (fun x hx => hf x (by simp; exact .inr (by simpa using hx)))
    rw [this]; exact h
  · rename_i T parts
    simp only [Op.operands] at hf
    have : (parts.toList.map fun x => (x.1, f' x.2)) = parts.toList.map fun x => (x.1, f x.2) := List.map_congr_left (fun x hx => by rw [hf x.2 (by simpa using ⟨x.1, by simpa using hx⟩)])
    rw [this]; exact h
  · simp only [Op.operands] at hf; rw [hf _ (by simp)]; exact h
  · rename_i args ts
    simp only [Op.operands, Call.operands] at hf
    split at h
    · rename_i x T hx hT
      have hfx : f' x = f x := hf x (by simp [hx])
      rw [hfx]; exact h
    · simp at h
  · simp at h

theorem guards_congr {env env' : List (Nat × AV)} : ∀ {l : List Operand}, (∀ x ∈ l, avOf env' x = avOf env x) → guards env' l = guards env l
  | [], _ => rfl
  | x :: l, h => by simp only [guards]; rw [h x (List.mem_cons_self ..), guards_congr (fun y hy => h y (List.mem_cons_of_mem _ hy))]

theorem evalOp_congr {S S' : St} (hb : ∀ b cs, getB S.boxes b = some cs → getB S'.boxes b = some cs) {op : Op} (hf : ∀ x ∈ op.operands.toList, avOf S'.env x = avOf S.env x) {r : Prop × AV} (h : evalOp Γ S op = some r) : evalOp Γ S' op = some r := by
  unfold evalOp at h ⊢
  split at h
  · simp only [Op.operands] at hf; rw [hf _ (by simp)]; exact h
  · simp only [Op.operands] at hf; rw [hf _ (by simp)]; exact h
  · simp only [Op.operands] at hf; rw [hf _ (by simp), hf _ (by simp), hf _ (by simp)]; exact h
  · rename_i h1 h2 h3
    obtain ⟨r0, h4, rfl⟩ := Option.map_eq_some_iff.1 h
    rw [evOp_congr hb (f' := fun x => (strip (avOf S'.env x)).2) (fun x hx => by simp only [hf x hx]) h4, guards_congr hf]
    rfl

theorem rel_pat [Kn] {B : Ctx} {S : St} {a : Act} {w : World} {d : Nat} {r : AV} (h : Rel B (S.set (some d) r) a w) : Rel B ⟨(d, r) :: S.env, [] ++ S.boxes, [] ++ S.live⟩ a w := h

/-- Operations that hand back values. -/
theorem loc_val [Kn] (hΓ : okTab P Γ) {o : Oper} {d : Nat} (hdst : o.dst = some d) (hd : d < n) {env : List (Nat × AV)} {bx : List (Nat × List AV)} (hg : o.guard = none) {ob : Prop} {r : AV} (he : evalOp Γ ⟨env, bx, []⟩ o.op = some (ob, r)) (hob : ob) :
    LocOK P n ops o env bx ⟨d, r, [], []⟩ := by
  refine ⟨hdst, by simp [getB], fun S' hlk hbx hfr B a w K Q hn hR hK => ?_⟩
  have hw : Region.wanted o (yielded ops a.tmps) = true := by simp [Region.wanted, hg]
  rw [if_pos hw]
  obtain ⟨β, Y, hC⟩ := hR
  obtain ⟨v, w', h1, h2, h3⟩ := gives_evalOp hΓ hC (evalOp_congr (S := ⟨env, bx, []⟩) hbx (looks_op hlk) he) hob
  unfold Oper.wp
  rw [h1]
  simp only [Oper.upon]
  refine hK _ _ (rel_pat ?_)
  have := ((hC.ext h2).set (d := o.dst) (dst_lt hn (by rw [hdst]; simpa [dstOk] using hd)) (hC.wr.keepV h2 h3)).rel
  rwa [hdst] at this ⊢

theorem loc_gval [Kn] (hΓ : okTab P Γ) {o : Oper} {d : Nat} (hdst : o.dst = some d) (hd : d < n) {env : List (Nat × AV)} {bx : List (Nat × List AV)} {j : Nat} {want g b : Bool} (hg : o.guard = some (j, want)) (hgv : gval ops env j = some (g, b)) (hgt : g = true) {ob : Prop} {r : AV} (he : evalOp Γ ⟨env, bx, []⟩ o.op = some (ob, r)) (hob : b = want → ob) :
    LocOK P n ops o env bx ⟨d, cndOf (b == want) r, [], []⟩ := by
  refine ⟨hdst, by simp [getB], fun S' hlk hbx hfr B a w K Q hn hR hK => ?_⟩
  obtain ⟨β, Y, hC⟩ := hR
  have hy := gval_yield hC ((looks_guard hlk hg).trans hgv) hgt
  have hdl := dst_lt hn (d := o.dst) (by rw [hdst]; simpa [dstOk] using hd)
  by_cases hbw : b = want
  · have hw : Region.wanted o (yielded ops a.tmps) = true := by simp [Region.wanted, hg, hy, hbw]
    rw [if_pos hw]
    obtain ⟨v, w', h1, h2, h3⟩ := gives_evalOp hΓ hC (evalOp_congr (S := ⟨env, bx, []⟩) hbx (looks_op hlk) he) (hob hbw)
    unfold Oper.wp
    rw [h1]
    simp only [Oper.upon]
    refine hK _ _ (rel_pat ?_)
    have := ((hC.ext h2).set hdl (av := cndOf (b == want) r) (v := v) (by
      simp only [cndOf, relV, Bool.and_eq_true]
      exact fun hh => hC.wr.keepV h2 (relV_strip h3 hh.2))).rel
    rwa [hdst] at this ⊢
  · have hw : ¬ Region.wanted o (yielded ops a.tmps) = true := by simp [Region.wanted, hg, hy, hbw]
    rw [if_neg hw]
    refine hK _ _ (rel_pat ?_)
    have := (hC.set hdl (av := cndOf (b == want) r) (v := undef) (by
      simp only [cndOf, relV, Bool.and_eq_true, beq_iff_eq]
      exact fun hh => absurd hh.1 hbw)).rel
    rwa [hdst] at this ⊢

theorem call_args {o : Oper} {f : Operand} {args : Array Operand} {ts : Array TypeId} (ho : o.op = .call { callee := .value f, args := args, argTypes := ts }) : f ∈ o.op.operands.toList ∧ ∀ x ∈ args.toList, x ∈ o.op.operands.toList := by
  rw [ho]
  simp only [Op.operands, Call.operands]
  exact ⟨by simp, fun x hx => by simp; exact .inr (by simpa using hx)⟩

theorem run_call_of {o : Oper} {f : Operand} {args : Array Operand} {ts : Array TypeId} (ho : o.op = .call { callee := .value f, args := args, argTypes := ts }) {a : Act} {w : World} {fid : FuncId} {cs : List Value} (hfv : a.eval f = .func (.func fid) #[] cs.toArray) :
    (execOp a.eval o).run P w = (callFunc fid (args.toList.map a.eval ++ cs).toArray).run P w := by
  unfold execOp
  simp only [ho, resolve, hfv, Deferred.ofValue, Sem.run_bind, Sem.run_pure, Result.andThen_ok, invoke]
  congr 1
  congr 1
  apply Array.ext'
  simp

theorem callD_step [Kn] {bx : List (Nat × List AV)} {S : St} {d : Nat} {f : FuncId} {avs args : List AV} {res : AV} (hbx : ∀ b cs, getB bx b = some cs → getB S.boxes b = some cs) (hAF : AFp P f args res) (h : (fitsVs (bors bx avs) args ∧ noRo res = true) ∨ (fitsVs avs args ∧ idsVs avs = [])) (hd : d < n) (hids : ∀ p ∈ idsV res, p + 100 * d ∉ S.live)
    {K : St → Prop} (hk : K { S with env := (d, shV (100 * d) res) :: S.env, live := (idsV res).map (· + 100 * d) ++ S.live }) : CallStep P n S (some d) f avs K := by
  rcases h with ⟨harg, hro⟩ | ⟨harg, hno⟩
  · intro B β Y a w vs hn hR hvs
    let Yc : Nat → Prop := fun g => Y g ∨ ∃ p, p ∈ S.live ∧ β p = g
    have hE : Entry [] β Yc w := ⟨fun g hg => by
      rcases hg with hg | ⟨p, hp, rfl⟩
      · exact hR.wr.yb g hg
      · exact (hR.wr.lv p hp).1, fun p hp => by simp at hp, fun p q hp => by simp at hp, Kn.mono hR.wr.kn (fun g h => .inl h) (fun _ _ => rfl)⟩
    have hb : relVs [] β Yc w args vs := relVs_fits _ _ _ harg (relVs_bor (bx := bx) (fun b cs h => hR.boxes b cs (hbx b cs h)) (fun g h => .inl h) (fun p hp => .inr ⟨p, hp, rfl⟩) avs vs hvs)
    refine (hAF β Yc w vs hE hb (fun b cs h => by simp [getB] at h)).mono ?_
    rintro v w' ⟨β1, Y1, L1, hW, _, _, hi, hv⟩
    exact ⟨_, join hR hW hi hv (by rw [hn]; exact hd) hids (.inl hro), hk⟩
  · exact call_ro hAF harg hno hd hids hk

theorem loc_call [Kn] {o : Oper} {d : Nat} (hdst : o.dst = some d) (hd : d < n) {env : List (Nat × AV)} {bx : List (Nat × List AV)} (hg : o.guard = none) {f : Operand} {args : Array Operand} {ts : Array TypeId} (ho : o.op = .call { callee := .value f, args := args, argTypes := ts })
    {fid : FuncId} {caps : List AV} (hf : avOf env f = .clo fid caps) {res : AV} {args' : List AV} (hAF : AFp P fid args' res) (h : (fitsVs (bors bx (args.toList.map (avOf env) ++ caps)) args' ∧ noRo res = true) ∨ (fitsVs (args.toList.map (avOf env) ++ caps) args' ∧ idsVs (args.toList.map (avOf env) ++ caps) = [])) :
    LocOK P n ops o env bx ⟨d, shV (100 * d) res, [], (idsV res).map (· + 100 * d)⟩ := by
  refine ⟨hdst, by simp [getB], fun S' hlk hbx hfr B a w K Q hn hR hK => ?_⟩
  have hw : Region.wanted o (yielded ops a.tmps) = true := by simp [Region.wanted, hg]
  rw [if_pos hw]
  obtain ⟨β, Y, hC⟩ := hR
  have hco := looks_op hlk
  obtain ⟨hfm, hxm⟩ := call_args ho
  have hfv := hC.opnd f
  rw [hco f hfm, hf] at hfv
  simp only [relV] at hfv
  obtain ⟨cs, hfv, hcs⟩ := hfv
  have hvs := relVs_append (relVs_map (avOf env) a.eval args.toList (fun x hx => by rw [← hco x (hxm x hx)]; exact hC.opnd x)) hcs
  have hstep := callD_step (P := P) (n := n) (S := S') (d := d) hbx hAF h hd (fun p hp => hfr _ (List.mem_map.2 ⟨p, hp, rfl⟩)) (K := fun S'' => S'' = { S' with env := (d, shV (100 * d) res) :: S'.env, live := (idsV res).map (· + 100 * d) ++ S'.live }) rfl
  refine Does.wp (f := fid) (vs := (args.toList.map a.eval ++ cs).toArray) (run_call_of ho hfv) ((hstep B β Y a w _ hn hC hvs).mono ?_)
  rintro v w' ⟨S'', hR', rfl⟩
  rw [hdst]
  exact hK _ _ hR'

theorem loc_gcall [Kn] {o : Oper} {d : Nat} (hdst : o.dst = some d) (hd : d < n) {env : List (Nat × AV)} {bx : List (Nat × List AV)} {j : Nat} {want g b : Bool} (hg : o.guard = some (j, want)) (hgv : gval ops env j = some (g, b)) (hgt : g = true) {f : Operand} {args : Array Operand} {ts : Array TypeId} (ho : o.op = .call { callee := .value f, args := args, argTypes := ts })
    {fid : FuncId} {caps : List AV} (hf : avOf env f = .clo fid caps) (hgs : (b == want) = true → guards env args.toList = true) {res : AV} {args' : List AV} (hAF : (b == want) = true → AFp P fid args' res) (harg : (b == want) = true → fitsVs (bors bx (args.toList.map (fun x => (strip (avOf env x)).2) ++ caps)) args') (hro : noRo res = true) (hids : idsV res = []) :
    LocOK P n ops o env bx ⟨d, .cnd (b == want) (shV (100 * d) res), [], []⟩ := by
  refine ⟨hdst, by simp [getB], fun S' hlk hbx hfr B a w K Q hn hR hK => ?_⟩
  obtain ⟨β, Y, hC⟩ := hR
  have hy := gval_yield hC ((looks_guard hlk hg).trans hgv) hgt
  have hdl := dst_lt hn (d := o.dst) (by rw [hdst]; simpa [dstOk] using hd)
  have hco := looks_op hlk
  obtain ⟨hfm, hxm⟩ := call_args ho
  by_cases hbw : b = want
  · have hw : Region.wanted o (yielded ops a.tmps) = true := by simp [Region.wanted, hg, hy, hbw]
    rw [if_pos hw]
    have hc : (b == want) = true := by simp [hbw]
    have hfv := hC.opnd f
    rw [hco f hfm, hf] at hfv
    simp only [relV] at hfv
    obtain ⟨cs, hfv, hcs⟩ := hfv
    have hall : ∀ x ∈ args.toList, relV S'.live β Y w (strip (avOf env x)).2 (a.eval x) := by
      have := hgs hc
      revert hxm this
      generalize args.toList = l
      intro hxm this
      induction l with
      | nil => intro x hx; simp at hx
      | cons y l ih =>
        simp only [guards, Bool.and_eq_true] at this
        intro x hx
        rcases List.mem_cons.1 hx with rfl | hx
        · exact relV_strip (by rw [← hco x (hxm x (by simp))]; exact hC.opnd x) this.1
        · exact ih (fun z hz => hxm z (List.mem_cons_of_mem _ hz)) this.2 x hx
    have hvs := relVs_append (relVs_map _ a.eval args.toList hall) hcs
    have hstep := callD_step (P := P) (n := n) (S := S') (d := d) hbx (hAF hc) (.inl ⟨harg hc, hro⟩) hd (by rw [hids]; simp) (K := fun S'' => S'' = { S' with env := (d, shV (100 * d) res) :: S'.env }) (by rw [hids]; rfl)
    refine Does.wp (f := fid) (vs := (args.toList.map a.eval ++ cs).toArray) (run_call_of ho hfv) ((hstep B β Y a w _ hn hC hvs).mono ?_)
    rintro v w' ⟨S'', hR', rfl⟩
    refine hK _ _ ?_
    rw [hdst]
    refine rel_env_mono (S := { S' with env := (d, shV (100 * d) res) :: S'.env }) rfl rfl (fun β Y k hC' => ?_) hR'
    have := hC'.env k
    by_cases hkd : k = d
    · simp only [getE, if_pos hkd, relV] at this ⊢; exact fun _ => this
    · simp only [getE, if_neg hkd] at this ⊢; exact this
  · have hw : ¬ Region.wanted o (yielded ops a.tmps) = true := by simp [Region.wanted, hg, hy, hbw]
    rw [if_neg hw]
    refine hK _ _ (rel_pat ?_)
    have := (hC.set hdl (av := .cnd (b == want) (shV (100 * d) res)) (v := undef) (by
      simp only [relV, beq_iff_eq]
      exact fun hh => absurd hh hbw)).rel
    rwa [hdst] at this ⊢
end
end Go.Proofs.Avx

set_option linter.unusedVariables false
set_option linter.unusedSimpArgs false
namespace Go.Proofs.Avx

section
variable {P : Program} {Γ : List (TypeId × TI)} {n : Nat} {ops : Array Oper}

theorem loc_mk [Kn] (hΓ : okTab P Γ) {o : Oper} {d : Nat} (hdst : o.dst = some d) (hd : d < n) {env : List (Nat × AV)} {bx : List (Nat × List AV)} (hg : o.guard = none) {p : Pat} (hpd : p.dst = d) (hpb : ∀ b cs, getB p.bx b = some cs → b ∈ p.lv)
    (h : ∀ S' : St, (∀ x ∈ o.op.operands.toList, avOf S'.env x = avOf env x) → (∀ q ∈ p.lv, q ∉ S'.live) → stepMk Γ S' (some d) o.op (fun S'' => S'' = ⟨(p.dst, p.av) :: S'.env, p.bx ++ S'.boxes, p.lv ++ S'.live⟩)) : LocOK P n ops o env bx p := by
  refine ⟨by rw [hpd]; exact hdst, hpb, fun S' hlk hbx hfr B a w K Q hn hR hK => ?_⟩
  have hw : Region.wanted o (yielded ops a.tmps) = true := by simp [Region.wanted, hg]
  rw [if_pos hw]
  obtain ⟨β, Y, hC⟩ := hR
  obtain ⟨v, w', h1, S'', h2, h3⟩ := stepMk_sound (n := n) hΓ hn hC (o := o) (by rw [hdst]; simpa [dstOk] using hd) (by rw [hdst]; exact h S' (looks_op hlk) hfr)
  refine wp_value h1 (hK _ _ ?_)
  rw [← h3]; exact h2

theorem loc_empty [Kn] (hΓ : okTab P Γ) {o : Oper} {d : Nat} (hdst : o.dst = some d) (hd : d < n) {env : List (Nat × AV)} {bx : List (Nat × List AV)} (hg : o.guard = none) {T : TypeId} {k : Nat} {parts : Array (Nat × Operand)} (ho : o.op = .buildSlice T k parts)
    (he : emptyD Γ T k parts.toList = true) : LocOK P n ops o env bx ⟨d, .esl, [], []⟩ := by
  refine ⟨hdst, by simp [getB], fun S' hlk hbx hfr B a w K Q hn hR hK => ?_⟩
  have hw : Region.wanted o (yielded ops a.tmps) = true := by simp [Region.wanted, hg]
  rw [if_pos hw]
  obtain ⟨β, Y, hC⟩ := hR
  unfold emptyD at he
  split at he
  · rename_i e sz by' z hT hp
    obtain ⟨ei, hE⟩ := Option.isSome_iff_exists.1 he
    have hu : P.underlying T = some (.slice e) := (hΓ.get hT).d
    have hpe : parts = #[] := by apply Array.ext'; simpa using hp
    subst hpe
    have hrun : (execOp a.eval o).run P w = .ok (.value (.slice (some ⟨w.heap.size, 0, none⟩) 0 0)) (w.alloc (.cells #[] e)) := by
      simp [execOp, ho, Instr.buildSlice, run_und hu, run_sizeOf_of (hΓ.get hE), Instr.fill, newRow, show Array.range 0 = #[] from by decide]
    refine wp_value hrun (hK _ _ (rel_pat ?_))
    have := ((hC.ext (Ext.alloc w (.cells #[] e))).set (d := o.dst) (dst_lt hn (by rw [hdst]; simpa [dstOk] using hd)) (av := .esl) (v := .slice (some ⟨w.heap.size, 0, none⟩) 0 0) (by simp only [relV]; exact ⟨_, rfl⟩)).rel
    rwa [hdst] at this ⊢
  · simp at he

theorem loc_app [Kn] (hΓ : okTab P Γ) {o : Oper} {d : Nat} (hdst : o.dst = some d) (hd : d < n) {env : List (Nat × AV)} {bx : List (Nat × List AV)} (hg : o.guard = none) {args : Array Operand} {ts : Array TypeId} {x y : Operand} {T : TypeId}
    (ho : ∃ c : Call, o.op = .call c ∧ c.callee = .builtin .append ∧ c.args = args ∧ c.argTypes = ts) (hargs : args.toList = [x, y]) (hts : ts.toList = [T, T]) (hx : avOf env x = .esl) {K : Pat → Prop}
    (h : stepApp Γ ⟨env, bx, []⟩ d T .esl (avOf env y) (fun S' => K ⟨d, getE S'.env d, [], [rowN d]⟩)) : ∃ p, LocOK P n ops o env bx p ∧ K p := by
  obtain ⟨c, hoc, hc1, hc2, hc3⟩ := ho
  have ha : args = #[x, y] := by apply Array.ext'; simpa using hargs
  have ht : ts = #[T, T] := by apply Array.ext'; simpa using hts
  unfold stepApp at h
  split at h
  · rename_i e sz by' z hT
    split at h
    · rename_i ei hE
      split at h
      · exact h.elim
      · rename_i hsz0
        simp only at h
        split at h
        · rename_i t hty
          split at h
          · rename_i v l2 hl2
            obtain ⟨h1, h2, h3, h4, hk⟩ := h
            refine ⟨⟨d, .own (rowN d) e t (v :: l2), [], [rowN d]⟩, ⟨hdst, by simp [getB], fun S' hlk hbx hfr B a w K Q hn hR hK => ?_⟩, by simpa [getE] using hk⟩
            have hw : Region.wanted o (yielded ops a.tmps) = true := by simp [Region.wanted, hg]
            rw [if_pos hw]
            obtain ⟨β, Y, hC⟩ := hR
            have hops := looks_op hlk
            rw [hoc] at hops
            simp only [Op.operands, Call.operands, hc1, hc2, ha] at hops
            have e1 : avOf S'.env x = .esl := by rw [hops x (by simp), hx]
            have e2 : avOf S'.env y = avOf env y := hops y (by simp)
            obtain ⟨u, w', g1, S'', g2, g3⟩ := stepApp_sound (ty := o.type) (n := n) hΓ hn hC hd (s := .esl) (x := avOf env y) (vs := a.eval x) (vx := a.eval y) (T := T) (by have := hC.opnd x; rwa [e1] at this) (by have := hC.opnd y; rwa [e2] at this)
              (K := fun S'' => S'' = ⟨(d, .own (rowN d) e t (v :: l2)) :: S'.env, S'.boxes, rowN d :: S'.live⟩) (by
                unfold stepApp
                simp only [hT, hE, if_neg hsz0, hty, hl2]
                exact ⟨h1, h2, h3, hfr _ (by simp), trivial⟩)
            refine wp_value (v := u) (w' := w') ?_ (hK _ _ ?_)
            · simp [execOp, hoc, hc1, hc2, hc3, ha, ht, resolve, invoke, builtin, g1]
            · subst g3
              rw [hdst]
              exact g2
          · exact h.elim
        · exact h.elim
    · exact h.elim
  · exact h.elim

theorem loc_mkS [Kn] (hΓ : okTab P Γ) {o : Oper} {d : Nat} (hdst : o.dst = some d) (hd : d < n) {env : List (Nat × AV)} {bx : List (Nat × List AV)} (hg : o.guard = none) {x y : Operand} {T : TypeId} (ho : o.op = .makeSlice T x y) {K : Pat → Prop}
    (h : stepMkS Γ ⟨env, bx, []⟩ d T (avOf env x) (avOf env y) (fun S' => K ⟨d, getE S'.env d, [], [rowN d]⟩)) : ∃ p, LocOK P n ops o env bx p ∧ K p := by
  unfold stepMkS at h
  split at h
  · rename_i e sz by' z hT
    split at h
    · rename_i ei t hE hty
      split at h
      · rename_i z0 hz
        split at h
        · rename_i k1 m1 k2 m2 hx hy
          obtain ⟨h1, h2, h3, h4, h5, h6, hk⟩ := h
          refine ⟨⟨d, .own (rowN d) e t (List.replicate m1.toNat z0), [], [rowN d]⟩, ⟨hdst, by simp [getB], fun S' hlk hbx hfr B a w K Q hn hR hK => ?_⟩, by simpa [getE] using hk⟩
          have hw : Region.wanted o (yielded ops a.tmps) = true := by simp [Region.wanted, hg]
          rw [if_pos hw]
          obtain ⟨β, Y, hC⟩ := hR
          have hops := looks_op hlk
          rw [ho] at hops
          simp only [Op.operands] at hops
          have e1 := hops x (by simp)
          have e2 := hops y (by simp)
          obtain ⟨u, w', g1, S'', g2, g3⟩ := stepMkS_sound (n := n) hΓ hn hC hd (x := avOf env x) (y := avOf env y) (vx := a.eval x) (vy := a.eval y) (T := T) (by have := hC.opnd x; rwa [e1] at this) (by have := hC.opnd y; rwa [e2] at this)
            (K := fun S'' => S'' = ⟨(d, .own (rowN d) e t (List.replicate m1.toNat z0)) :: S'.env, S'.boxes, rowN d :: S'.live⟩) (by
              unfold stepMkS
              simp only [hT, hE, hty, hz, hx, hy]
              exact ⟨h1, h2, h3, h4, h5, hfr _ (by simp), trivial⟩)
          refine wp_value (v := u) (w' := w') ?_ (hK _ _ ?_)
          · simp [execOp, ho, g1]
          · subst g3
            rw [hdst]
            exact g2
        · exact h.elim
      · exact h.elim
    · exact h.elim
  · exact h.elim

theorem stepD_loc [Kn] (hΓ : okTab P Γ) {o : Oper} {env : List (Nat × AV)} {bx : List (Nat × List AV)} {K : Pat → Prop} (h : stepD P Γ n ops o env bx K) : ∃ p, LocOK P n ops o env bx p ∧ K p := by
  unfold stepD at h
  split at h
  · exact h.elim
  · rename_i d hdst
    obtain ⟨hd, h⟩ := h
    split at h
    · rename_i hg
      split at h
      · rename_i ob r he
        exact ⟨_, loc_val hΓ hdst hd hg he h.1, h.2⟩
      · unfold stepDX at h
        split at h
        · rename_i T ho
          split at h
          · rename_i ti hT
            refine ⟨_, loc_mk hΓ hdst hd hg (p := ⟨d, .ptr (boxN d) 0, [(boxN d, zeroC ti)], [boxN d]⟩) rfl (fun b cs hb => ?_) (fun S' ha hf => ?_), h⟩
            · simp only [getB] at hb; split at hb
              · rename_i e; simp [e]
              · simp at hb
            · rw [ho]; simp only [stepMk, hT]; exact ⟨hf _ (by simp), rfl⟩
          · exact h.elim
        · rename_i T x ho
          split at h
          · rename_i cs hcs
            refine ⟨_, loc_mk hΓ hdst hd hg (p := ⟨d, .ptr (boxN d) 0, [(boxN d, cs)], [boxN d]⟩) rfl (fun b cs hb => ?_) (fun S' ha hf => ?_), h⟩
            · simp only [getB] at hb; split at hb
              · rename_i e; simp [e]
              · simp at hb
            · rw [ho] at ha ⊢; simp only [stepMk]; rw [ha x (by simp [Op.operands]), hcs]; exact ⟨hf _ (by simp), rfl⟩
          · exact h.elim
        · rename_i T k parts ho
          split at h
          · rename_i hemp
            exact ⟨_, loc_empty hΓ hdst hd hg ho hemp, h⟩
          simp only [stepMk] at h
          split at h
          · rename_i e sz by' z hT
            split at h
            · rename_i ei t hE ht
              split at h
              · rename_i hlim
                split at h
                · rename_i cs hcs
                  split at h
                  · rename_i l hl
                    obtain ⟨hp, hk⟩ := h
                    refine ⟨⟨d, .own (rowN d) e t l, [], [rowN d]⟩, loc_mk hΓ hdst hd hg rfl (fun b cs hb => by simp [getB] at hb) (fun S' ha hf => ?_), by simpa [getE] using hk⟩
                    rw [ho] at ha ⊢
                    simp only [Op.operands] at ha
                    have hm : (parts.toList.map fun x => (x.1, avOf S'.env x.2)) = parts.toList.map fun x => (x.1, avOf env x.2) := List.map_congr_left (fun x hx => by rw [ha x.2 (by simpa using ⟨x.1, by simpa using hx⟩)])
                    simp only [stepMk, hT, hE, ht, hm, if_pos hlim, hcs, hl]
                    exact ⟨hf _ (by simp), rfl⟩
                  · exact h.elim
                · exact h.elim
              · exact h.elim
            · exact h.elim
          · exact h.elim
        · rename_i T x y ho
          exact loc_mkS hΓ hdst hd hg ho h
        · rename_i args ts ho
          split at h
          · rename_i x y T T' ha ht
            split at h
            · rename_i hx
              obtain ⟨rfl, h⟩ := h
              exact loc_app hΓ hdst hd hg ⟨_, ho, rfl, rfl, rfl⟩ ha ht hx h
            · exact h.elim
          · exact h.elim
        · rename_i f args ts ho
          split at h
          · rename_i fid caps hf
            obtain ⟨res, args', hAF, hfit, hk⟩ := h
            exact ⟨_, loc_call hdst hd hg ho hf hAF hfit, hk⟩
          · exact h.elim
        · exact h.elim
    · rename_i j want hg
      split at h
      · rename_i g b hgv
        split at h
        · rename_i ob r he
          exact ⟨_, loc_gval hΓ hdst hd hg hgv h.1 he h.2.1, h.2.2⟩
        · obtain ⟨hgt, h⟩ := h
          unfold stepDG at h
          split at h
          · rename_i f args ts ho
            split at h
            · rename_i fid caps hf
              obtain ⟨hgs, res, args', hAF, hfit, hro, hids, hk⟩ := h
              exact ⟨_, loc_gcall hdst hd hg hgv hgt ho hf hgs hAF hfit hro hids, hk⟩
            · exact h.elim
          · exact h.elim
      · exact h.elim

/-- The patches, one an operation. -/
def Chain [Kn] (P : Program) (n : Nat) (ops : Array Oper) (bx : List (Nat × List AV)) : List Oper → List (Nat × AV) → List Pat → Prop
  | [], _, [] => True
  | o :: l, env, p :: qs => LocOK P n ops o env bx p ∧ Chain P n ops bx l ((p.dst, p.av) :: env) qs
  | _, _, _ => False

theorem wpD_chain [Kn] (hΓ : okTab P Γ) {bx : List (Nat × List AV)} : ∀ (l : List Oper) (env : List (Nat × AV)) (ps : List Pat) (K : List Pat → Prop), wpD P Γ n ops bx l env ps K → ∃ qs, Chain P n ops bx l env qs ∧ K (qs.reverse ++ ps)
  | [], env, ps, K, h => ⟨[], trivial, h⟩
  | o :: l, env, ps, K, h => by
    simp only [wpD] at h
    obtain ⟨p, h1, h2⟩ := stepD_loc hΓ h
    obtain ⟨qs, h3, h4⟩ := wpD_chain hΓ l _ _ K h2
    exact ⟨p :: qs, ⟨h1, h3⟩, by simpa using h4⟩

theorem Chain.at [Kn] {bx : List (Nat × List AV)} : ∀ {l : List Oper} {env : List (Nat × AV)} {qs : List Pat}, Chain P n ops bx l env qs → ∀ (i : Nat) (o : Oper), l[i]? = some o → ∃ p, qs[i]? = some p ∧ LocOK P n ops o (patE (qs.take i).reverse env) bx p
  | [], env, qs, h, i, o, ho => by simp at ho
  | x :: l, env, [], h, i, o, ho => h.elim
  | x :: l, env, p :: qs, h, 0, o, ho => by
    simp only [List.getElem?_cons_zero, Option.some.injEq] at ho
    subst ho
    exact ⟨p, by simp, by simpa [patE] using h.1⟩
  | x :: l, env, p :: qs, h, i + 1, o, ho => by
    simp only [List.getElem?_cons_succ] at ho
    obtain ⟨q, h1, h2⟩ := Chain.at h.2 i o ho
    refine ⟨q, by simpa using h1, ?_⟩
    have : patE (qs.take i).reverse ((p.dst, p.av) :: env) = patE ((p :: qs).take (i + 1)).reverse env := by
      rw [List.take_succ_cons, List.reverse_cons]
      generalize (qs.take i).reverse = r
      induction r with
      | nil => rfl
      | cons y r ih => simp only [patE, List.cons_append, ih]
    rw [← this]; exact h2
theorem Chain.length [Kn] {bx : List (Nat × List AV)} : ∀ {l : List Oper} {env : List (Nat × AV)} {qs : List Pat}, Chain P n ops bx l env qs → qs.length = l.length ∧ qs.map (fun p => some p.dst) = l.map (·.dst)
  | [], env, [], _ => ⟨rfl, rfl⟩
  | [], env, _ :: _, h => h.elim
  | x :: l, env, [], h => h.elim
  | x :: l, env, p :: qs, h => by
    obtain ⟨h1, h2⟩ := Chain.length h.2
    exact ⟨by simp [h1], by simp only [List.map_cons, h2, h.1.1]⟩
end

/-! ### Patches in any order -/
theorem getE_patE_not {env : List (Nat × AV)} {x : Nat} : ∀ {l : List Pat}, (∀ p ∈ l, p.dst ≠ x) → getE (patE l env) x = getE env x
  | [], _ => rfl
  | p :: l, h => by
    simp only [patE, getE]
    rw [if_neg (fun e => h p (List.mem_cons_self ..) e.symm)]
    exact getE_patE_not (fun q hq => h q (List.mem_cons_of_mem _ hq))
theorem getE_patE_mem {env : List (Nat × AV)} {x : Nat} : ∀ {l : List Pat} {p : Pat}, (l.map (·.dst)).Nodup → p ∈ l → p.dst = x → getE (patE l env) x = p.av
  | q :: l, p, hn, hp, hx => by
    simp only [List.map_cons, List.nodup_cons] at hn
    simp only [patE, getE]
    rcases List.mem_cons.1 hp with rfl | hp
    · rw [if_pos hx.symm]
    · rw [if_neg (fun e => hn.1 (List.mem_map.2 ⟨p, hp, hx.trans e⟩))]
      exact getE_patE_mem hn.2 hp hx
theorem getE_patE_perm {env : List (Nat × AV)} {l1 l2 : List Pat} (h : l1.Perm l2) (hn : (l1.map (·.dst)).Nodup) (x : Nat) : getE (patE l1 env) x = getE (patE l2 env) x := by
  by_cases hx : ∃ p ∈ l1, p.dst = x
  · obtain ⟨p, hp, hx⟩ := hx
    rw [getE_patE_mem hn hp hx, getE_patE_mem ((h.map _).nodup_iff.1 hn) (h.mem_iff.1 hp) hx]
  · have h1 : ∀ p ∈ l1, p.dst ≠ x := fun p hp e => hx ⟨p, hp, e⟩
    rw [getE_patE_not h1, getE_patE_not (fun p hp => h1 p (h.mem_iff.2 hp))]
theorem mem_patL {L : List Nat} {q : Nat} : ∀ {l : List Pat}, q ∈ patL l L ↔ (∃ p ∈ l, q ∈ p.lv) ∨ q ∈ L
  | [] => by simp [patL]
  | p :: l => by
    simp only [patL, List.mem_append, mem_patL (l := l), List.mem_cons]
    constructor
    · rintro (h | ⟨p', h1, h2⟩ | h)
      · exact .inl ⟨p, .inl rfl, h⟩
      · exact .inl ⟨p', .inr h1, h2⟩
      · exact .inr h
    · rintro (⟨p', rfl | h1, h2⟩ | h)
      · exact .inl h2
      · exact .inr (.inl ⟨p', h1, h2⟩)
      · exact .inr (.inr h)
theorem lv_one : ∀ {l : List Pat}, (patL l []).Nodup → ∀ p q, p ∈ l → q ∈ l → ∀ b, b ∈ p.lv → b ∈ q.lv → p = q
  | [], _, p, q, hp, _, _, _, _ => by simp at hp
  | x :: l, hn, p, q, hp, hq, b, h1, h2 => by
    simp only [patL, List.nodup_append] at hn
    obtain ⟨_, hn2, hn3⟩ := hn
    rcases List.mem_cons.1 hp with hp | hp <;> rcases List.mem_cons.1 hq with hq | hq
    · rw [hp, hq]
    · exact absurd rfl (hn3 b (hp ▸ h1) b (mem_patL.2 (.inl ⟨q, hq, h2⟩)))
    · exact absurd rfl (hn3 b (hq ▸ h2) b (mem_patL.2 (.inl ⟨p, hp, h1⟩)))
    · exact lv_one hn2 p q hp hq b h1 h2
theorem getB_append {bx : List (Nat × List AV)} {b : Nat} : ∀ {a : List (Nat × List AV)}, getB (a ++ bx) b = match getB a b with | some cs => some cs | none => getB bx b
  | [] => by simp [getB]
  | (j, v) :: r => by
    simp only [List.cons_append, getB]
    split
    · rfl
    · exact getB_append
theorem getB_patB_not {bx : List (Nat × List AV)} {b : Nat} : ∀ {l : List Pat}, (∀ p ∈ l, getB p.bx b = none) → getB (patB l bx) b = getB bx b
  | [], _ => rfl
  | p :: l, h => by
    simp only [patB, getB_append, h p (List.mem_cons_self ..)]
    exact getB_patB_not (fun q hq => h q (List.mem_cons_of_mem _ hq))
theorem getB_patB_mem {bx : List (Nat × List AV)} {b : Nat} {cs : List AV} : ∀ {l : List Pat} {p : Pat}, (∀ q ∈ l, q ≠ p → getB q.bx b = none) → p ∈ l → getB p.bx b = some cs → getB (patB l bx) b = some cs
  | q :: l, p, h, hp, hc => by
    simp only [patB, getB_append]
    by_cases e : q = p
    · subst e; simp only [hc]
    · simp only [h q (List.mem_cons_self ..) e]
      exact getB_patB_mem (fun r hr => h r (List.mem_cons_of_mem _ hr)) ((List.mem_cons.1 hp).resolve_left (fun e' => e e'.symm)) hc

structure PatsOK (S : St) (l : List Pat) : Prop where
  dst : (l.map (·.dst)).Nodup
  nd : (patL l []).Nodup
  key : ∀ p ∈ l, ∀ b cs, getB p.bx b = some cs → b ∈ p.lv

theorem rel_same [Kn] {B : Ctx} {a : Act} {w : World} {S S' : St} (he : ∀ k, getE S'.env k = getE S.env k) (hb : ∀ b cs, getB S'.boxes b = some cs → getB S.boxes b = some cs) (hl : ∀ p, p ∈ S.live ↔ p ∈ S'.live) (h : Rel B S a w) : Rel B S' a w := by
  obtain ⟨β, Y, hC⟩ := h
  have hm : ∀ (x : AV) (v : Value), relV S.live β Y w x v → relV S'.live β Y w x v := fun x v h => relV_mono (fun p hp => (hl p).1 hp) (fun _ _ => rfl) (fun _ h => h) (fun _ _ => rfl) (fun _ _ => rfl) x v h
  have hms : ∀ (x : List AV) (v : List Value), relVs S.live β Y w x v → relVs S'.live β Y w x v := fun x v h => relVs_mono (fun p hp => (hl p).1 hp) (fun _ _ => rfl) (fun _ h => h) (fun _ _ => rfl) (fun _ _ => rfl) x v h
  refine ⟨β, Y, ⟨hC.wr.fr, hC.wr.yb, hC.wr.yo, fun p hp => hC.wr.lv p ((hl p).2 hp), fun p q hp hq => hC.wr.inj p q ((hl p).2 hp) ((hl q).2 hq), fun b hb => ⟨(hl b).1 (hC.wr.ib b hb).1, (hC.wr.ib b hb).2⟩, hC.wr.cp, hC.wr.kn⟩, fun k => ?_, fun b cs hbc => ?_, hC.defers, hC.size⟩
  · rw [he]; exact hm _ _ (hC.env k)
  · obtain ⟨h1, T, cur, h2, h3⟩ := hC.boxes b cs (hb b cs hbc)
    exact ⟨(hl b).1 h1, T, cur, h2, hms _ _ h3⟩

theorem rel_perm [Kn] {B : Ctx} {a : Act} {w : World} {S : St} {l1 l2 : List Pat} (h : l1.Perm l2) (hok : PatsOK S l1) (hR : Rel B (S.withP l1) a w) : Rel B (S.withP l2) a w := by
  refine rel_same (S := S.withP l1) (S' := S.withP l2) (fun k => (getE_patE_perm (env := S.env) h hok.dst k).symm) (fun b cs hb => ?_) (fun p => ?_) hR
  · show getB (patB l1 S.boxes) b = some cs
    have hb : getB (patB l2 S.boxes) b = some cs := hb
    by_cases hx : ∃ p ∈ l1, getB p.bx b ≠ none
    · obtain ⟨p, hp, hpb⟩ := hx
      obtain ⟨cs', hcs'⟩ := Option.ne_none_iff_exists'.1 hpb
      have huniq : ∀ q ∈ l1, q ≠ p → getB q.bx b = none := fun q hq hne => by
        cases hqb : getB q.bx b with
        | none => rfl
        | some c => exact absurd (lv_one hok.nd q p hq hp b (hok.key q hq b c hqb) (hok.key p hp b cs' hcs')) hne
      rw [getB_patB_mem huniq hp hcs']
      rw [getB_patB_mem (fun q hq => huniq q (h.mem_iff.2 hq)) (h.mem_iff.1 hp) hcs'] at hb
      exact hb
    · have h1 : ∀ p ∈ l1, getB p.bx b = none := fun p hp => by
        cases hpb : getB p.bx b with
        | none => rfl
        | some c => exact absurd ⟨p, hp, by rw [hpb]; simp⟩ hx
      rw [getB_patB_not h1]
      rwa [getB_patB_not (fun p hp => h1 p (h.mem_iff.2 hp))] at hb
  · show p ∈ patL l1 S.live ↔ p ∈ patL l2 S.live
    simp only [mem_patL, h.mem_iff]
end Go.Proofs.Avx

set_option linter.unusedVariables false
set_option linter.unusedSimpArgs false
namespace Go.Proofs.Avx

/-- Where an operation looks is written by what it waits for, or waits for it. -/
def edgeB (ops : Array Oper) (k : Nat) : Bool :=
  (List.range k).all fun i => match ops[i]? with
    | none => false
    | some oi => (oi.looksAt ops).all fun x => (List.range k).all fun j => match ops[j]? with
      | none => false
      | some oj => if oj.dst == some x then j == i || (decide (j < i) && Region.waitsFor .any ops i j) || (decide (i < j) && Region.waitsFor .any ops j i) else true
def wfB (ops : Array Oper) : Bool := (List.range ops.size).all fun i => match ops[i]? with
  | none => false
  | some oi => oi.after.toList.all fun e => !Region.binds .any e || decide (e.on < i)
def headArr (k m : Nat) : Array Bool := ((List.range m).map fun i => decide (i < k)).toArray
def drawOK (ops : Array Oper) (k : Nat) : Bool :=
  decide (k ≤ ops.size) && edgeB ops k && wfB ops && decide (((ops.toList.take k).map (·.dst)).Nodup) && (decide (k = ops.size) || (Region.sinkB .any ops k && Region.chainB .any ops k)) && Region.seqB .any ops (ops.size - k) k (headArr k ops.size)

def sel (listed : Array Bool) : Nat → List Pat → List Pat
  | _, [] => []
  | k, p :: r => if listed.getD k false then p :: sel listed (k + 1) r else sel listed (k + 1) r

theorem mem_sel {listed : Array Bool} {p : Pat} : ∀ {qs : List Pat} {k : Nat}, p ∈ sel listed k qs ↔ ∃ j, qs[j]? = some p ∧ listed.getD (k + j) false = true
  | [], k => by simp [sel]
  | q :: qs, k => by
    simp only [sel]
    have ih := mem_sel (listed := listed) (p := p) (qs := qs) (k := k + 1)
    constructor
    · intro h
      split at h
      · rename_i hk
        rcases List.mem_cons.1 h with rfl | h
        · exact ⟨0, by simp, by simpa using hk⟩
        · obtain ⟨j, h1, h2⟩ := ih.1 h; exact ⟨j + 1, by simpa using h1, by rwa [show k + (j + 1) = k + 1 + j by omega]⟩
      · obtain ⟨j, h1, h2⟩ := ih.1 h; exact ⟨j + 1, by simpa using h1, by rwa [show k + (j + 1) = k + 1 + j by omega]⟩
    · rintro ⟨j, h1, h2⟩
      cases j with
      | zero =>
        simp only [List.getElem?_cons_zero, Option.some.injEq] at h1
        subst h1
        rw [if_pos (by simpa using h2)]; exact List.mem_cons_self ..
      | succ j =>
        have : p ∈ sel listed (k + 1) qs := ih.2 ⟨j, by simpa using h1, by rwa [show k + 1 + j = k + (j + 1) by omega]⟩
        split
        · exact List.mem_cons_of_mem _ this
        · exact this
theorem sel_sub {listed : Array Bool} : ∀ {qs : List Pat} {k : Nat}, List.Sublist (sel listed k qs) qs
  | [], k => List.Sublist.refl _
  | q :: qs, k => by
    simp only [sel]
    split
    · exact List.Sublist.cons_cons _ sel_sub
    · exact List.Sublist.cons _ sel_sub
theorem sel_set {listed : Array Bool} {i : Nat} {p : Pat} : ∀ {qs : List Pat} {k : Nat}, k ≤ i → i < listed.size → listed.getD i false = false → qs[i - k]? = some p → (p :: sel listed k qs).Perm (sel (listed.setIfInBounds i true) k qs)
  | [], k, _, _, _, h => by simp at h
  | q :: qs, k, hk, hi, hl, h => by
    by_cases e : k = i
    · subst e
      simp only [Nat.sub_self, List.getElem?_cons_zero, Option.some.injEq] at h
      subst h
      simp only [sel]
      have h1 : (listed.setIfInBounds k true).getD k false = true := by simp [hi]
      rw [if_pos h1, if_neg (by rw [hl]; simp)]
      have : ∀ (qs : List Pat) (k' : Nat), k < k' → sel listed k' qs = sel (listed.setIfInBounds k true) k' qs := by
        intro qs
        induction qs with
        | nil => intro k' _; rfl
        | cons x qs ih => intro k' hk'; simp only [sel]; rw [ih (k' + 1) (by omega), getD_set_ne false (by omega)]
      rw [this qs (k + 1) (by omega)]
    · have hlt : k < i := by omega
      have h' : qs[i - (k + 1)]? = some p := by
        rw [show i - k = (i - (k + 1)) + 1 by omega, List.getElem?_cons_succ] at h; exact h
      have ih := sel_set (qs := qs) (k := k + 1) (by omega) hi hl h'
      simp only [sel]
      rw [getD_set_ne false (show i ≠ k by omega)]
      split
      · exact (List.Perm.swap _ _ _).trans (List.Perm.cons _ ih)
      · exact ih
theorem sel_all {listed : Array Bool} : ∀ {qs : List Pat} {k : Nat}, (∀ j, j < qs.length → listed.getD (k + j) false = true) → sel listed k qs = qs
  | [], k, _ => rfl
  | q :: qs, k, h => by
    simp only [sel]
    rw [if_pos (by simpa using h 0 (by simp)), sel_all (fun j hj => by have := h (j + 1) (by simpa using hj); rwa [show k + (j + 1) = k + 1 + j by omega] at this)]
theorem sel_none {listed : Array Bool} : ∀ {qs : List Pat} {k : Nat}, (∀ j, j < qs.length → listed.getD (k + j) false = false) → sel listed k qs = []
  | [], k, _ => rfl
  | q :: qs, k, h => by
    simp only [sel]
    rw [if_neg (by have := h 0 (by simp); simp at this ⊢; exact this), sel_none (fun j hj => by have := h (j + 1) (by simpa using hj); rwa [show k + (j + 1) = k + 1 + j by omega] at this)]

theorem patL_perm_nd {l1 l2 : List Pat} (h : l1.Perm l2) : (patL l1 []).Perm (patL l2 []) := by
  induction h with
  | nil => exact List.Perm.refl _
  | cons x _ ih => exact List.Perm.append_left _ ih
  | swap x y l => simp only [patL, ← List.append_assoc]; exact List.Perm.append_right _ List.perm_append_comm
  | trans _ _ h1 h2 => exact h1.trans h2
theorem patL_sub {l1 l2 : List Pat} (h : List.Sublist l1 l2) : List.Sublist (patL l1 []) (patL l2 []) := by
  induction h with
  | slnil => exact List.Sublist.refl _
  | cons a _ ih => exact ih.trans (List.sublist_append_right _ _)
  | cons_cons a _ ih => exact List.Sublist.append (List.Sublist.refl _) ih

theorem PatsOK.sub {S : St} {l1 l2 : List Pat} (h : PatsOK S l2) (hs : List.Sublist l1 l2) : PatsOK S l1 :=
  ⟨(hs.map _).nodup h.dst, (patL_sub hs).nodup h.nd, fun p hp => h.key p (hs.subset hp)⟩

theorem edgeB_spec {ops : Array Oper} {k i : Nat} (h : edgeB ops k = true) (hi : i < k) {oi : Oper} (hoi : ops[i]? = some oi) {x : Nat} (hx : x ∈ oi.looksAt ops) {j : Nat} (hj : j < k) {oj : Oper} (hoj : ops[j]? = some oj) (hd : oj.dst = some x) :
    j = i ∨ (j < i ∧ Region.waitsFor .any ops i j = true) ∨ (i < j ∧ Region.waitsFor .any ops j i = true) := by
  have h1 := List.all_eq_true.1 h i (List.mem_range.2 hi)
  simp only [hoi] at h1
  have h2 := List.all_eq_true.1 h1 x hx
  have h3 := List.all_eq_true.1 h2 j (List.mem_range.2 hj)
  simp only [hoj, hd, beq_self_eq_true, if_true, Bool.or_eq_true, Bool.and_eq_true, decide_eq_true_eq, beq_iff_eq] at h3
  rcases h3 with (h3 | h3) | h3
  · exact .inl h3
  · exact .inr (.inl h3)
  · exact .inr (.inr h3)
theorem wfB_spec {ops : Array Oper} (h : wfB ops = true) {i : Nat} {oi : Oper} (hoi : ops[i]? = some oi) {e : Edge} (he : e ∈ oi.after) (hb : Region.binds .any e = true) : e.on < i := by
  have hi : i < ops.size := (Array.getElem?_eq_some_iff.1 hoi).1
  have h1 := List.all_eq_true.1 h i (List.mem_range.2 hi)
  simp only [hoi] at h1
  have h2 := List.all_eq_true.1 h1 e (by simpa using he)
  simpa [hb] using h2

theorem ready_least {ops : Array Oper} (hwf : wfB ops = true) {listed : Array Bool} (hs : listed.size = ops.size) : ∀ (i : Nat), i < ops.size → listed.getD i false = false → (∀ j, j < i → listed.getD j false = true) → i ∈ Region.ready .any ops listed := by
  intro i hi hl hall
  refine mem_ready.2 ⟨getD_in (by omega) hl, ops[i], by simp [hi], fun e he hb => hall _ (wfB_spec hwf (i := i) (by simp [hi]) he hb)⟩
theorem exists_ready {ops : Array Oper} (hwf : wfB ops = true) {listed : Array Bool} (hs : listed.size = ops.size) {i : Nat} (hi : i < ops.size) (hl : listed.getD i false = false) : Region.ready .any ops listed ≠ [] := by
  obtain ⟨m, h1, h2⟩ := exists_least (fun i => i < ops.size ∧ listed.getD i false = false) ⟨i, hi, hl⟩
  intro h0
  have := ready_least hwf hs m h1.1 h1.2 (fun j hj => by
    cases hjl : listed.getD j false with
    | true => rfl
    | false => have := h2 j ⟨by omega, hjl⟩; omega)
  rw [h0] at this; simp at this

/-- How many of the first k are still to come. -/
def left (listed : Array Bool) (k : Nat) : Nat := ((List.range k).filter fun i => !listed.getD i false).length
theorem left_set {listed : Array Bool} {k i : Nat} (hi : i < k) (hs : i < listed.size) (hl : listed.getD i false = false) : left listed k = left (listed.setIfInBounds i true) k + 1 := by
  unfold left
  have hsplit : List.range k = List.range i ++ i :: (List.range' (i + 1) (k - (i + 1))) := by
    rw [List.range_eq_range', List.range_eq_range']
    have e1 : k = i + (k - i) := by omega
    conv => lhs; rw [e1, ← List.range'_append_1]
    congr 1
    rw [show k - i = (k - (i + 1)) + 1 by omega, List.range'_succ]
    simp
  have h1 : ∀ j, j ≠ i → (listed.setIfInBounds i true).getD j false = listed.getD j false := fun j hj => getD_set_ne false (Ne.symm hj)
  rw [hsplit, List.filter_append, List.filter_append, List.filter_cons_of_pos (by rw [hl]; rfl), List.filter_cons_of_neg (by simp [hs])]
  rw [List.filter_congr (l := List.range i) (q := fun j => !listed.getD j false) (p := fun j => !(listed.setIfInBounds i true).getD j false) (fun j hj => by rw [h1 j (by have := List.mem_range.1 hj; omega)]),
    List.filter_congr (l := List.range' (i + 1) (k - (i + 1))) (q := fun j => !listed.getD j false) (p := fun j => !(listed.setIfInBounds i true).getD j false) (fun j hj => by rw [h1 j (by have := List.mem_range'_1.1 hj; omega)])]
  simp; omega
theorem left_zero {listed : Array Bool} {k : Nat} (h : left listed k = 0) : ∀ i, i < k → listed.getD i false = true := fun i hi => by
  unfold left at h
  have := List.length_eq_zero_iff.1 h
  cases hl : listed.getD i false with
  | true => rfl
  | false =>
    have hm : i ∈ (List.range k).filter fun i => !listed.getD i false := List.mem_filter.2 ⟨List.mem_range.2 hi, by rw [hl]; rfl⟩
    rw [this] at hm; simp at hm

section
variable {P : Program} {Γ : List (TypeId × TI)} {n : Nat} {ops : Array Oper} {S : St} {qs : List Pat} {k : Nat}

theorem head_any [Kn] (hk : k ≤ ops.size) (hE : edgeB ops k = true) (hwf : wfB ops = true) (hT : k = ops.size ∨ (Region.sinkB .any ops k = true ∧ Region.chainB .any ops k = true)) (hch : Chain P n ops S.boxes (ops.toList.take k) S.env qs) (hok : PatsOK S qs) (hfr : ∀ q ∈ patL qs [], q ∉ S.live)
    {B : Ctx} (hn : B.n = n) (hSb : ∀ b cs, getB S.boxes b = some cs → b ∈ S.live) {Q : Exit → Act → World → Prop} (hend : ∀ listed a w, listed = headArr k ops.size → Rel B (S.withP qs.reverse) a w → wpAny P .any ops Q (ops.size - k) listed a w) :
    ∀ (h : Nat) (listed : Array Bool) (a : Act) (w : World), left listed k = h → HeadInv .any ops k listed → Rel B (S.withP (sel listed 0 qs)) a w → wpAny P .any ops Q (h + (ops.size - k)) listed a w := by
  obtain ⟨hlen, hdst⟩ := hch.length
  have hlen' : qs.length = k := by rw [hlen, List.length_take]; simp; omega
  intro h
  induction h with
  | zero =>
    intro listed a w hl inv hR
    rw [Nat.zero_add]
    have hall := left_zero hl
    have hsel : sel listed 0 qs = qs := sel_all (fun j hj => by rw [Nat.zero_add]; exact hall j (by omega))
    rw [hsel] at hR
    refine hend listed a w ?_ (rel_perm (List.reverse_perm qs).symm hok hR)
    apply Array.ext
    · simp [headArr, inv.size]
    · intro i h1 h2
      have h3 : i < ops.size := by rw [← inv.size]; exact h1
      simp only [headArr, List.getElem_toArray, List.getElem_map, List.getElem_range]
      by_cases hik : i < k
      · have := hall i hik
        simp [h1] at this
        simp [hik, this]
      · have := inv.tail i (by omega) h3
        simp [h1] at this
        simp [hik, this]
  | succ h ih =>
    intro listed a w hl inv hR
    have hun : ∃ i, i < k ∧ listed.getD i false = false := by
      unfold left at hl
      have hne : ((List.range k).filter fun i => !listed.getD i false) ≠ [] := fun e => by rw [e] at hl; simp at hl
      obtain ⟨i, hi⟩ := List.exists_mem_of_ne_nil _ hne
      obtain ⟨h1, h2⟩ := List.mem_filter.1 hi
      exact ⟨i, List.mem_range.1 h1, by simpa using h2⟩
    obtain ⟨i0, hi0, hl0⟩ := hun
    rw [show h + 1 + (ops.size - k) = (h + (ops.size - k)) + 1 by omega]
    refine ⟨fun h0 => absurd h0 (exists_ready hwf inv.size (by omega) hl0), fun i hi => ?_⟩
    obtain ⟨hun, oi, hoi, hall⟩ := mem_ready.1 hi
    have hisz : i < ops.size := (Array.getElem?_eq_some_iff.1 hoi).1
    have hik : i < k := by
      rcases hT with hT | ⟨hs, hc⟩
      · omega
      · by_cases hks : k < ops.size
        · have := tail_waits hs hc hks inv (k - i0) i0 rfl hi0 (getD_in (by rw [inv.size]; omega) hl0) i
          exact Nat.lt_of_not_le fun hle => this hle hi
        · omega
    have hunf : listed.getD i false = false := getD_both hun
    have hoi' : (ops.toList.take k)[i]? = some oi := by rw [List.getElem?_take, if_pos hik]; simpa using hoi
    obtain ⟨p, hp, hloc⟩ := hch.at i oi hoi'
    have hilen : i < qs.length := by omega
    have hdstq : ∀ (j : Nat) (q : Pat) (oj : Oper), qs[j]? = some q → ops[j]? = some oj → j < k → oj.dst = some q.dst := fun j q oj hq hoj hjk => by
      have h1 : (qs.map (fun p => some p.dst))[j]? = some (some q.dst) := by simp [hq]
      rw [hdst] at h1
      have h2 : (ops.toList.take k)[j]? = some oj := by rw [List.getElem?_take, if_pos hjk]; simpa using hoj
      rw [List.getElem?_map, h2] at h1
      simpa using h1
    have hnodup : ∀ (j1 j2 : Nat) (q1 q2 : Pat), qs[j1]? = some q1 → qs[j2]? = some q2 → q1.dst = q2.dst → j1 = j2 := fun j1 j2 q1 q2 h1 h2 e => by
      have l1 := (List.getElem?_eq_some_iff.1 h1).1
      exact (List.getElem?_inj (l := qs.map (·.dst)) (by simpa using l1) hok.dst).1 (by rw [List.getElem?_map, List.getElem?_map, h1, h2]; simp [e])
    have hsub : List.Sublist (sel listed 0 qs) qs := sel_sub
    have hselok := hok.sub hsub
    have htk : PatsOK S (qs.take i).reverse := by
      have h1 := hok.sub (List.take_sublist i qs)
      exact ⟨by rw [List.map_reverse]; exact (List.reverse_perm _).nodup_iff.2 h1.dst, (patL_perm_nd (List.reverse_perm (qs.take i)).symm).nodup_iff.1 h1.nd, fun p hp => h1.key p (List.mem_reverse.1 hp)⟩
    have hmtk : ∀ q, q ∈ (qs.take i).reverse ↔ ∃ j, j < i ∧ qs[j]? = some q := fun q => by
      rw [List.mem_reverse, List.mem_iff_getElem?]
      constructor
      · rintro ⟨j, hj⟩
        rw [List.getElem?_take] at hj
        split at hj
        · rename_i hji; exact ⟨j, hji, hj⟩
        · simp at hj
      · rintro ⟨j, hji, hj⟩
        exact ⟨j, by rw [List.getElem?_take, if_pos hji]; exact hj⟩
    have hagree : ∀ x ∈ oi.looksAt ops, getE (S.withP (sel listed 0 qs)).env x = getE (patE (qs.take i).reverse S.env) x := fun x hx => by
      show getE (patE (sel listed 0 qs) S.env) x = _
      by_cases hj : ∃ (j : Nat) (q : Pat), qs[j]? = some q ∧ q.dst = x
      · obtain ⟨j, q, hq, hqx⟩ := hj
        have hjk : j < k := by have := (List.getElem?_eq_some_iff.1 hq).1; omega
        have hoj : ops[j]? = some ops[j] := by simp [show j < ops.size by omega]
        have hdj := hdstq j q _ hq hoj hjk
        rw [hqx] at hdj
        rcases edgeB_spec hE hik hoi hx hjk hoj hdj with rfl | ⟨hji, hwt⟩ | ⟨hij, hwt⟩
        · rw [getE_patE_not (fun r hr e => ?_), getE_patE_not (fun r hr e => ?_)]
          · obtain ⟨j', hj', hr'⟩ := (hmtk r).1 hr
            have := hnodup j' j r q hr' hq (e.trans hqx.symm); omega
          · obtain ⟨j', hr', hl'⟩ := mem_sel.1 hr
            have := hnodup j' j r q hr' hq (e.trans hqx.symm)
            subst this
            rw [Nat.zero_add, hunf] at hl'; simp at hl'
        · have hjl : listed.getD j false = true := by
            obtain ⟨oj', hoj', e, he, hb, hon⟩ := Region.waitsFor_spec hwt
            rw [hoi] at hoj'
            cases hoj'
            rw [← hon]; exact hall e he hb
          rw [getE_patE_mem hselok.dst (mem_sel.2 ⟨j, hq, by rwa [Nat.zero_add]⟩) hqx, getE_patE_mem htk.dst ((hmtk q).2 ⟨j, hji, hq⟩) hqx]
        · have hjl : listed.getD j false = false := by
            cases hjl : listed.getD j false with
            | false => rfl
            | true =>
              obtain ⟨oj', hoj', e, he, hb, hon⟩ := Region.waitsFor_spec hwt
              have := inv.closed j oj' hoj' hjl e he hb
              rw [hon, hunf] at this; simp at this
          rw [getE_patE_not (fun r hr e => ?_), getE_patE_not (fun r hr e => ?_)]
          · obtain ⟨j', hj', hr'⟩ := (hmtk r).1 hr
            have := hnodup j' j r q hr' hq (e.trans hqx.symm); omega
          · obtain ⟨j', hr', hl'⟩ := mem_sel.1 hr
            have := hnodup j' j r q hr' hq (e.trans hqx.symm)
            subst this
            rw [Nat.zero_add, hjl] at hl'; simp at hl'
      · rw [getE_patE_not (fun r hr e => ?_), getE_patE_not (fun r hr e => ?_)]
        · obtain ⟨j', hj', hr'⟩ := (hmtk r).1 hr; exact hj ⟨j', r, hr', e⟩
        · obtain ⟨j', hr', hl'⟩ := mem_sel.1 hr; exact hj ⟨j', r, hr', e⟩
    have hpmem : p ∈ qs := List.mem_of_getElem? hp
    have hpnot : p ∉ sel listed 0 qs := fun hm => by
      obtain ⟨j', hr', hl'⟩ := mem_sel.1 hm
      have := hnodup j' i p p hr' hp rfl
      subst this
      rw [Nat.zero_add, hunf] at hl'; simp at hl'
    have hbx : ∀ b cs, getB S.boxes b = some cs → getB (S.withP (sel listed 0 qs)).boxes b = some cs := fun b cs hb => by
      show getB (patB (sel listed 0 qs) S.boxes) b = some cs
      rw [getB_patB_not (fun q hq => ?_)]
      · exact hb
      · cases hqb : getB q.bx b with
        | none => rfl
        | some c => exact absurd (hSb b cs hb) (hfr b (mem_patL.2 (.inl ⟨q, hsub.subset hq, hok.key q (hsub.subset hq) b c hqb⟩)))
    have hpfr : ∀ q ∈ p.lv, q ∉ (S.withP (sel listed 0 qs)).live := fun q hq hm => by
      rcases mem_patL.1 hm with ⟨r, hr, hqr⟩ | hm
      · have := lv_one hok.nd p r hpmem (hsub.subset hr) q hq hqr
        subst this; exact hpnot hr
      · exact hfr q (mem_patL.2 (.inl ⟨p, hpmem, hq⟩)) hm
    have hperm := sel_set (p := p) (qs := qs) (k := 0) (Nat.zero_le i) (by rw [inv.size]; exact hisz) hunf (by simpa using hp)
    have hokp : PatsOK S (p :: sel listed 0 qs) := by
      have h1 := hok.sub (sel_sub (listed := listed.setIfInBounds i true) (qs := qs) (k := 0))
      exact ⟨(hperm.map _).nodup_iff.2 h1.dst, (patL_perm_nd hperm).nodup_iff.2 h1.nd, fun q hq => h1.key q (hperm.mem_iff.1 hq)⟩
    have hstep := hloc.2.2 (S.withP (sel listed 0 qs)) hagree hbx hpfr B a w (wpAny P .any ops Q (h + (ops.size - k)) (listed.setIfInBounds i true)) Q hn hR (fun a' w' hR' =>
      ih _ a' w' (by have := left_set hik (by rw [inv.size]; exact hisz) hunf; omega) (inv.set hi hik) (rel_perm hperm hokp hR'))
    unfold wpOp
    simp only [hoi]
    split
    · rename_i hw; rw [if_pos hw] at hstep; exact .inl hstep
    · rename_i hw; rw [if_neg hw] at hstep; exact hstep

/-- A region whose order is drawn: the first k operations in any order, then the rest. -/
theorem aw_draw [Kn] {i : Nat} {Q : Exit → St → Prop} (hP : P.follows .mixedOrders = true) (hΓ : okTab P Γ) (k : Nat) (hok : drawOK ops k = true)
    (h : wpD P Γ n ops S.boxes (ops.toList.take k) S.env [] (fun ps => (patL ps []).Nodup ∧ (∀ q ∈ patL ps [], q ∉ S.live) ∧ wpA P Γ n ops (ops.toList.drop k) (S.withP ps) (fun S' => Q .normal S'))) : AW P n (.region i ops true) S Q := fun B a w hn hR => by
  simp only [drawOK, Bool.and_eq_true, Bool.or_eq_true, decide_eq_true_eq] at hok
  obtain ⟨⟨⟨⟨⟨hk, hE⟩, hwf⟩, hdn⟩, hT⟩, hseq⟩ := hok
  obtain ⟨qs, hch, hnd, hfr, hA⟩ := wpD_chain hΓ _ _ _ _ h
  rw [List.append_nil] at hnd hfr hA
  obtain ⟨hlen, hdst⟩ := hch.length
  have hkey : ∀ p ∈ qs, ∀ b cs, getB p.bx b = some cs → b ∈ p.lv := fun p hp => by
    obtain ⟨j, hj⟩ := List.mem_iff_getElem?.1 hp
    have hjl : j < (ops.toList.take k).length := by rw [← hlen]; exact (List.getElem?_eq_some_iff.1 hj).1
    obtain ⟨q, hq, hloc⟩ := hch.at j _ (List.getElem?_eq_getElem hjl)
    rw [hj] at hq; cases hq
    exact hloc.2.1
  have hok : PatsOK S qs := ⟨by
    rw [← hdst] at hdn
    have : (qs.map (fun p => some p.dst)) = (qs.map (·.dst)).map some := by simp
    rw [this] at hdn
    exact List.Pairwise.of_map some (fun a b hab e => hab (by rw [e])) hdn, (patL_perm_nd (List.reverse_perm qs)).nodup_iff.1 hnd, hkey⟩
  have hfr' : ∀ q ∈ patL qs [], q ∉ S.live := fun q hq => hfr q ((patL_perm_nd (List.reverse_perm qs)).mem_iff.2 hq)
  have hSb : ∀ b cs, getB S.boxes b = some cs → b ∈ S.live := fun b cs hb => by obtain ⟨β, Y, hC⟩ := hR; exact (hC.boxes b cs hb).1
  refine wp_region_any hP ?_
  have hinv : HeadInv .any ops k (Array.replicate ops.size false) := ⟨by simp, fun j oj _ hl => by rw [getD_replicate_false] at hl; simp at hl, fun t _ ht => by simp [ht]⟩
  have hleft : left (Array.replicate ops.size false) k = k := by
    unfold left
    rw [List.filter_eq_self.2 (fun i _ => by rw [getD_replicate_false]; rfl)]
    simp
  have := head_any (Q := Post B Q) hk hE hwf hT hch hok hfr' hn hSb (fun listed a w hl hR' => by
    subst hl
    have hAL := wpA_sound hΓ _ _ _ hA B a w (Post B Q) hn hR' (fun S' a' w' h1 h2 => ⟨S', h1, h2⟩)
    have hlenD : (ops.toList.drop k).length = ops.size - k := by simp
    have := wpAny_of_seq (md := .any) (ops.toList.drop k) k (headArr k ops.size) a w (fun j => by simp [List.getElem?_drop]) (by rw [hlenD]; exact hseq) hAL
    rwa [hlenD] at this) k _ a (w.drew) hleft hinv (by
      rw [sel_none (fun j _ => getD_replicate_false _ _)]
      obtain ⟨β, Y, hC⟩ := hR
      exact (hC.ext (Ext.drew w)).rel)
  rwa [show k + (ops.size - k) = ops.size by omega] at this
end
end Go.Proofs.Avx

set_option linter.unusedVariables false
set_option linter.unusedSimpArgs false
namespace Go.Proofs.Avx

/-! ### Names are turned -/
def renE (ρ : List (Nat × Nat)) : List (Nat × AV) → List (Nat × AV)
  | [] => []
  | (k, v) :: r => (k, renV ρ v) :: renE ρ r
def renB (ρ : List (Nat × Nat)) : List (Nat × List AV) → List (Nat × List AV)
  | [] => []
  | (b, cs) :: r => (renN ρ b, renVs ρ cs) :: renB ρ r
theorem getE_ren {ρ : List (Nat × Nat)} : ∀ (env : List (Nat × AV)) (k : Nat), getE (renE ρ env) k = renV ρ (getE env k)
  | [], k => by simp [renE, getE, renV]
  | (j, v) :: r, k => by
    simp only [renE, getE]
    split
    · rfl
    · exact getE_ren r k
theorem getB_ren {ρ : List (Nat × Nat)} : ∀ {bx : List (Nat × List AV)} {b : Nat} {cs : List AV}, getB (renB ρ bx) b = some cs → ∃ k cs0, getB bx k = some cs0 ∧ renN ρ k = b ∧ cs = renVs ρ cs0
  | [], b, cs, h => by simp [renB, getB] at h
  | (j, v) :: r, b, cs, h => by
    simp only [renB, getB] at h
    split at h
    · rename_i hj; cases h; exact ⟨j, v, by simp [getB], hj.symm, rfl⟩
    · rename_i hj
      obtain ⟨k, cs0, h1, h2, h3⟩ := getB_ren h
      exact ⟨k, cs0, by simp only [getB]; rw [if_neg (fun e : k = j => hj (by rw [← e]; exact h2.symm))]; exact h1, h2, h3⟩
def keepN (ρ : List (Nat × Nat)) : List Nat → Bool
  | [] => true
  | p :: r => (p % 100 != 98 || renN ρ p == p) && keepN ρ r
theorem keepN_of {ρ : List (Nat × Nat)} : ∀ {l : List Nat}, keepN ρ l = true → ∀ p ∈ l, p % 100 = 98 → renN ρ p = p
  | [], _, p, hp, _ => by simp at hp
  | x :: r, h, p, hp, h98 => by
    simp only [keepN, Bool.and_eq_true, Bool.or_eq_true, bne_iff_ne, ne_eq, beq_iff_eq] at h
    rcases List.mem_cons.1 hp with rfl | hp
    · exact h.1.resolve_left (fun hn => hn h98)
    · exact keepN_of h.2 p hp h98

theorem sub_ren [Kn] {S : St} (ρ : List (Nat × Nat)) (hn : (S.live.map (renN ρ)).Nodup) (hk : keepN ρ S.live = true) : Sub S ⟨renE ρ S.env, renB ρ S.boxes, S.live.map (renN ρ)⟩ := fun B a w ⟨β, Y, hR⟩ => by
  have hib : ∀ b ∈ B.ib, renN ρ b = b := fun b hb => keepN_of hk b (hR.wr.ib b hb).1 (hR.wr.ib b hb).2.2
  refine ⟨unren ρ S.live β, Y, hR.wr.ren hn hib, fun k => ?_, fun b cs hb => ?_, hR.defers, hR.size⟩
  · rw [getE_ren]; exact relV_ren (ren_rel hn) _ _ (hR.env k)
  · obtain ⟨k, cs0, h1, h2, rfl⟩ := getB_ren hb
    obtain ⟨k1, T, cur, k2, k3⟩ := hR.boxes k cs0 h1
    exact ⟨List.mem_map.2 ⟨k, k1, h2⟩, T, cur, by rw [← h2, unren_at hn k1]; exact k2, relVs_ren (ren_rel hn) _ _ k3⟩
/-- Names are turned, and less is known. -/
theorem sub_ren_to [Kn] {S S' : St} (ρ : List (Nat × Nat)) (hn : (S.live.map (renN ρ)).Nodup) (hk : keepN ρ S.live = true) (he : allE (renE ρ S.env) S'.env) (hb : allB (renB ρ S.boxes) S'.boxes) (hl : subIds (S.live.map (renN ρ)) S'.live = true)
    (hi : subIds S'.live (idsE S'.env ++ idsB S'.boxes) = true) (hk' : keep98 S'.live (S.live.map (renN ρ)) = true) : Sub S S' :=
  (sub_ren ρ hn hk).trans (sub_to he hb hl hi hk')

/-! ### Every order, one by one -/
inductive Tr where
  | fin | stop | br (i : Nat) (t s : Tr)
def Tr.keys : Tr → List Nat
  | .br i _ s => i :: s.keys
  | _ => []
def Tr.depth : Tr → Nat
  | .br _ t s => max (t.depth + 1) s.depth
  | _ => 0
/-- The tree has all that is ready. -/
def Tr.here (ops : Array Oper) (listed : Array Bool) : Tr → Bool
  | .fin => (Region.ready .any ops listed).isEmpty
  | .stop => false
  | .br i t s => !(Region.ready .any ops listed).isEmpty && (Region.ready .any ops listed).all (Tr.br i t s).keys.contains
def Tr.ok (ops : Array Oper) : Tr → Array Bool → Bool
  | .br i t s, listed => t.here ops (listed.setIfInBounds i true) && t.ok ops (listed.setIfInBounds i true) && s.ok ops listed
  | _, _ => true
def trP [Kn] (P : Program) (Γ : List (TypeId × TI)) (n : Nat) (ops : Array Oper) : Tr → St → (St → Prop) → Prop
  | .fin, S, K => K S
  | .stop, _, _ => True
  | .br i t s, S, K => (match ops[i]? with
      | some o => stepO P Γ n ops o S (fun S' => trP P Γ n ops t S' K)
      | none => True) ∧ trP P Γ n ops s S K

section
variable {P : Program} {Γ : List (TypeId × TI)} {n : Nat} {ops : Array Oper}

theorem tr_pick [Kn] {K : St → Prop} {S : St} {listed : Array Bool} {i : Nat} : ∀ {tr : Tr}, trP P Γ n ops tr S K → tr.ok ops listed = true → i ∈ tr.keys →
    ∃ t, (∀ o, ops[i]? = some o → stepO P Γ n ops o S (fun S' => trP P Γ n ops t S' K)) ∧ t.here ops (listed.setIfInBounds i true) = true ∧ t.ok ops (listed.setIfInBounds i true) = true ∧ t.depth + 1 ≤ tr.depth
  | .br j t s, h, hok, hi => by
    simp only [trP] at h
    simp only [Tr.ok, Bool.and_eq_true] at hok
    simp only [Tr.keys, List.mem_cons] at hi
    by_cases e : i = j
    · subst e
      refine ⟨t, fun o ho => ?_, hok.1.1, hok.1.2, by simp only [Tr.depth]; omega⟩
      have := h.1; rw [ho] at this; exact this
    · obtain ⟨t', h1, h2, h3, h4⟩ := tr_pick h.2 hok.2 (hi.resolve_left e)
      exact ⟨t', h1, h2, h3, by simp only [Tr.depth]; omega⟩
  | .fin, h, hok, hi => by simp [Tr.keys] at hi
  | .stop, h, hok, hi => by simp [Tr.keys] at hi

theorem tr_any [Kn] (hΓ : okTab P Γ) {B : Ctx} (hn : B.n = n) {K : St → Prop} {Q : Exit → Act → World → Prop} (hQ : ∀ S a w, Rel B S a w → K S → Q .normal a w) :
    ∀ (fuel : Nat) (tr : Tr) (listed : Array Bool) (S : St) (a : Act) (w : World), tr.depth ≤ fuel → tr.here ops listed = true → tr.ok ops listed = true → trP P Γ n ops tr S K → Rel B S a w → wpAny P .any ops Q fuel listed a w := by
  intro fuel
  induction fuel with
  | zero =>
    intro tr listed S a w hd hh hok hp hR
    cases tr with
    | fin => exact ⟨by simpa [Tr.here] using hh, hQ S a w hR hp⟩
    | stop => simp [Tr.here] at hh
    | br i t s => simp only [Tr.depth] at hd; omega
  | succ fuel ih =>
    intro tr listed S a w hd hh hok hp hR
    cases tr with
    | fin =>
      have h0 : Region.ready .any ops listed = [] := by simpa [Tr.here] using hh
      exact ⟨fun _ => hQ S a w hR hp, fun i hi => by rw [h0] at hi; simp at hi⟩
    | stop => simp [Tr.here] at hh
    | br i t s =>
      simp only [Tr.here, Bool.and_eq_true, Bool.not_eq_true', List.all_eq_true, List.contains_iff_mem] at hh
      refine ⟨fun h0 => by rw [h0] at hh; simp at hh, fun j hj => ?_⟩
      obtain ⟨t', h1, h2, h3, h4⟩ := tr_pick hp hok (hh.2 j hj)
      obtain ⟨_, oj, hoj, _⟩ := mem_ready.1 hj
      have hst := h1 oj hoj
      unfold wpOp
      simp only [hoj]
      have := stepO_sound (P := P) (Γ := Γ) (n := n) (ops := ops) hΓ hst hn hR (K' := wpAny P .any ops Q fuel (listed.setIfInBounds j true)) (Q := Q) (fun S' a' w' hR' hp' => ih t' _ S' a' w' (by omega) h2 h3 hp' hR')
      split
      · rename_i hw; rw [if_pos hw] at this; exact .inl this
      · rename_i hw; rw [if_neg hw] at this; exact this

/-- A region whose order is drawn, every order by itself. -/
theorem aw_orders [Kn] {S : St} {i : Nat} {Q : Exit → St → Prop} (hP : P.follows .mixedOrders = true) (hΓ : okTab P Γ) (tr : Tr) (hok : (tr.here ops (Array.replicate ops.size false) && tr.ok ops (Array.replicate ops.size false) && decide (tr.depth ≤ ops.size)) = true)
    (h : trP P Γ n ops tr S (fun S' => Q .normal S')) : AW P n (.region i ops true) S Q := fun B a w hn hR => by
  simp only [Bool.and_eq_true, decide_eq_true_eq] at hok
  refine wp_region_any hP (tr_any (Q := Post B Q) hΓ hn (K := fun S' => Q .normal S') (fun S a w hR hk => ⟨S, hR, hk⟩) ops.size tr _ S a w.drew hok.2 hok.1.1 hok.1.2 h ?_)
  obtain ⟨β, Y, hC⟩ := hR
  exact (hC.ext (Ext.drew w)).rel
end
end Go.Proofs.Avx

set_option linter.unusedVariables false
namespace Go.Proofs.Avx

theorem renN_nil (p : Nat) : renN [] p = p := rfl
mutual
theorem renV_nil : ∀ a : AV, renV [] a = a
  | .dat t x => by simp only [renV]
  | .own p e t l => by simp only [renV, renN]
  | .nilsl => by simp only [renV]
  | .esl => by simp only [renV]
  | .ptr b o => by simp only [renV, renN]
  | .optr p e t l i o => by simp only [renV, renN]
  | .rptr cs => by simp only [renV, renVs_nil cs]
  | .clo f caps => by simp only [renV, renVs_nil caps]
  | .agg cs => by simp only [renV, renVs_nil cs]
  | .tup vs => by simp only [renV, renVs_nil vs]
  | .cnd g v => by simp only [renV, renV_nil v]
  | .any => by simp only [renV]
theorem renVs_nil : ∀ l : List AV, renVs [] l = l
  | [] => by simp only [renVs]
  | a :: l => by simp only [renVs, renV_nil a, renVs_nil l]
end

section
variable {P : Program} {Γ : List (TypeId × TI)} {n : Nat} {S : St} {rs : List ResultVar} {res : AV}
/-- The end of a function that hands back nothing of its own making. -/
theorem ret_p {vs : List AV} (h1 : resVs Γ S rs = some vs) (h2 : packR vs = res) (h3 : idsV res = []) (h4 : S.live.Nodup) : RetOK Γ rs res [] [] [] S :=
  ⟨[], vs, h1, by rw [renV_nil]; exact h2, by have : renN [] = id := by funext p; rfl
                                              rw [this, List.map_id]; exact h4, by rw [h3]; simp, by simp [getB], by simp, by simp⟩
/-- The end of a function that hands back rows of its own: they are named anew. -/
theorem ret_o {vs : List AV} (ρ : List (Nat × Nat)) (h1 : resVs Γ S rs = some vs) (h2 : renV ρ (packR vs) = res) (h3 : (S.live.map (renN ρ)).Nodup) (h4 : subIds (S.live.map (renN ρ)) (idsV res) = true) : RetOK Γ rs res [] [] [] S :=
  ⟨ρ, vs, h1, h2, h3, subIds_mem h4, by simp [getB], by simp, by simp⟩
/-- The box that gets a name. -/
def findB (ρ : List (Nat × Nat)) (b : Nat) : List (Nat × List AV) → Option (List AV)
  | [] => none
  | (k, v) :: r => if renN ρ k = b then some v else findB ρ b r
theorem findB_get {ρ : List (Nat × Nat)} {b : Nat} : ∀ {bx : List (Nat × List AV)} {cs : List AV}, findB ρ b bx = some cs → ∃ k, getB bx k = some cs ∧ renN ρ k = b
  | [], cs, h => by simp [findB] at h
  | (j, v) :: r, cs, h => by
    simp only [findB] at h
    split at h
    · rename_i hj; cases h; exact ⟨j, by simp [getB], hj⟩
    · rename_i hj
      obtain ⟨k, h1, h2⟩ := findB_get h
      exact ⟨k, by simp only [getB]; rw [if_neg (fun e : k = j => hj (by rw [← e]; exact h2))]; exact h1, h2⟩
/-- What is in the boxes at the end. -/
def ioEnd (ρ : List (Nat × Nat)) (bx : List (Nat × List AV)) : List (Nat × List AV) → Prop
  | [] => True
  | (b, cs) :: r => (match findB ρ b bx with
      | some cs0 => renVs ρ cs0 = cs
      | none => False) ∧ ioEnd ρ bx r
theorem ioEnd_get {ρ : List (Nat × Nat)} {bx : List (Nat × List AV)} : ∀ {io : List (Nat × List AV)}, ioEnd ρ bx io → ∀ b cs, getB io b = some cs → ∃ b0 cs0, getB bx b0 = some cs0 ∧ renVs ρ cs0 = cs ∧ renN ρ b0 = b
  | [], _, b, cs, h => by simp [getB] at h
  | (j, v) :: r, h, b, cs, hb => by
    simp only [ioEnd] at h
    simp only [getB] at hb
    split at hb
    · rename_i e; cases hb; subst e
      obtain ⟨h1, _⟩ := h
      split at h1
      · rename_i cs0 h0
        obtain ⟨k, h2, h3⟩ := findB_get h0
        exact ⟨k, cs0, h2, h1, h3⟩
      · exact h1.elim
    · exact ioEnd_get h.2 b cs hb
def rsEnd (ρ : List (Nat × Nat)) (env : List (Nat × AV)) : List (Nat × AV) → Prop
  | [] => True
  | (k, a) :: r => renV ρ (getE env k) = a ∧ rsEnd ρ env r
theorem rsEnd_get {ρ : List (Nat × Nat)} {env : List (Nat × AV)} : ∀ {rs : List (Nat × AV)}, rsEnd ρ env rs → ∀ r ∈ rs.map (·.2), ∃ k, renV ρ (getE env k) = r
  | [], _, r, h => by simp at h
  | (j, v) :: l, h, r, hr => by
    simp only [rsEnd] at h
    simp only [List.map_cons, List.mem_cons] at hr
    rcases hr with rfl | hr
    · exact ⟨j, h.1⟩
    · exact rsEnd_get h.2 r hr
/-- The end of a function that writes what came in. ks: in which slots the rows are. -/
theorem ret_io {vs : List AV} {io' : List (Nat × List AV)} {rs' : List AV} {L : List Nat} (ρ : List (Nat × Nat)) (ks : List (Nat × AV)) (h1 : resVs Γ S rs = some vs) (h2 : renV ρ (packR vs) = res) (h3 : (S.live.map (renN ρ)).Nodup)
    (h4 : subIds (S.live.map (renN ρ)) (idsV res) = true) (h5 : ioEnd ρ S.boxes io') (h6 : rsEnd ρ S.env ks) (h6' : ks.map (·.2) = rs') (h7 : ∀ b ∈ L, renN ρ b = b) : RetOK Γ rs res io' rs' L S :=
  ⟨ρ, vs, h1, h2, h3, subIds_mem h4, ioEnd_get h5, by subst h6'; exact rsEnd_get h6, h7⟩
end

section
variable {P : Program} {Γ : List (TypeId × TI)} {n : Nat} {ops : Array Oper}
def wpK [Kn] (P : Program) (Γ : List (TypeId × TI)) (n : Nat) (ops : Array Oper) (rest : List Oper) (K : St → Prop) (S : St) : Prop := wpA P Γ n ops rest S K
theorem wpK_app [Kn] {rest : List Oper} {K : St → Prop} {S : St} : wpK P Γ n ops rest K S = wpA P Γ n ops rest S K := rfl
theorem wpA_nil [Kn] {K : St → Prop} {S : St} : wpA P Γ n ops [] S K = K S := rfl
theorem wpA_cons [Kn] {o : Oper} {rest : List Oper} {K : St → Prop} {S : St} : wpA P Γ n ops (o :: rest) S K = stepO P Γ n ops o S (wpK P Γ n ops rest K) := rfl
def wpDK [Kn] (P : Program) (Γ : List (TypeId × TI)) (n : Nat) (ops : Array Oper) (bx : List (Nat × List AV)) (rest : List Oper) (env : List (Nat × AV)) (ps : List Pat) (K : List Pat → Prop) (p : Pat) : Prop := wpD P Γ n ops bx rest ((p.dst, p.av) :: env) (p :: ps) K
theorem wpDK_app [Kn] {bx : List (Nat × List AV)} {rest : List Oper} {env : List (Nat × AV)} {ps : List Pat} {K : List Pat → Prop} {p : Pat} : wpDK P Γ n ops bx rest env ps K p = wpD P Γ n ops bx rest ((p.dst, p.av) :: env) (p :: ps) K := rfl
theorem wpD_nil [Kn] {bx : List (Nat × List AV)} {env : List (Nat × AV)} {ps : List Pat} {K : List Pat → Prop} : wpD P Γ n ops bx [] env ps K = K ps := rfl
theorem wpD_cons [Kn] {bx : List (Nat × List AV)} {o : Oper} {rest : List Oper} {env : List (Nat × AV)} {ps : List Pat} {K : List Pat → Prop} : wpD P Γ n ops bx (o :: rest) env ps K = stepD P Γ n ops o env bx (wpDK P Γ n ops bx rest env ps K) := rfl
def trK [Kn] (P : Program) (Γ : List (TypeId × TI)) (n : Nat) (ops : Array Oper) (t : Tr) (K : St → Prop) (S : St) : Prop := trP P Γ n ops t S K
theorem trK_app [Kn] {t : Tr} {K : St → Prop} {S : St} : trK P Γ n ops t K S = trP P Γ n ops t S K := rfl
theorem trP_fin [Kn] {K : St → Prop} {S : St} : trP P Γ n ops .fin S K = K S := rfl
theorem trP_stop [Kn] {K : St → Prop} {S : St} : trP P Γ n ops .stop S K = True := rfl
theorem trP_br [Kn] {i : Nat} {t s : Tr} {K : St → Prop} {S : St} : trP P Γ n ops (.br i t s) S K = ((match ops[i]? with
      | some o => stepO P Γ n ops o S (trK P Γ n ops t K)
      | none => True) ∧ trP P Γ n ops s S K) := rfl
end
theorem bimp (b c : Bool) : (b = c → (b == c) = true) = True := by simp
attribute [push_cast] Bool.or_false Bool.or_true Bool.true_or Bool.false_or Bool.not_true Bool.not_false
attribute [push_cast] dite_true dite_false List.flatten_cons List.flatten_nil List.replicate_one List.replicate_zero
attribute [push_cast] bimp false_implies forall_eq forall_eq_or_imp
attribute [push_cast] wpA_nil wpA_cons wpK_app wpD_nil wpD_cons wpDK_app trP_fin trP_stop trP_br trK_app stepO evalOp evOp evBin evNil avOf getE getB St.set dstOk ofConst ofC1 guards strip gval cndOf evPick binInt binShift binStr binBool binFlt unop stepC stepX stepG stepMk stepMkS stepStore stepApp killV killVs killE killB killL srcL Ty.to isOne allOne noRow noRows noRowE noRowB setB wrV wrVs wrE wrB asD asDs asL zeroC tyOf tyOf.go boxN rowN fitsV fitsVs isNilA kee back inSnd newIds borV borVs mapV mapVs updO updV updVs updE updB ioOK subIds ioIds ioNoRo rsOK ioKeys newB stepD stepDX emptyD stepDG patE patB patL St.withP setd dstN frzV frzVs frzE frzB St.frz St.kill allB idsE idsB keep98 ioEnd rsEnd findB renE renB keepN evLoad packC isOther isAggD evFieldAddr evIndexAddr evIndex evField partC evExtract evLen
  evSlice optI evConv evConv.isSlD evBuild allIn spots fillC cellsV evPtr enc thenK idx retQ resVs packR renV renVs renN bor bors bor1s idsV idsVs shV shVs noRo noRos flat inQ roundQ Op.operands Call.operands allE
attribute [push_cast] Option.map_some Option.map_none Option.bind_some Option.bind_none List.map_cons List.map_nil List.append_nil List.nil_append List.cons_append List.length_cons List.length_nil List.drop_zero List.drop_succ_cons List.drop_nil List.take_zero List.take_succ_cons List.take_nil
  Bool.true_and Bool.and_true Bool.false_and Bool.and_false true_and and_true and_self if_true if_false Nat.lt_irrefl decide_true decide_false Bool.and_self List.getD_cons_zero List.getD_cons_succ List.getElem?_cons_zero List.getElem?_cons_succ List.getElem?_nil List.head?_cons ite_true ite_false
  beq_self_eq_true forall_const true_implies eq_self List.all_cons List.all_nil List.size_toArray List.getElem?_toArray ite_self Option.isSome_some List.nodup_cons List.nodup_nil List.not_mem_nil List.mem_cons not_false_eq_true implies_true beq_true Bool.cond_false_right Bool.cond_true_left or_false false_or Nat.add_zero imp_self Array.toList_append Ty.size Ty.z Int.toNat_natCast ne_eq Nat.one_ne_zero
end Go.Proofs.Avx

set_option linter.unusedVariables false
set_option linter.unusedSimpArgs false
namespace Go.Proofs.Avx
open Go.ChangeShapes Go.WideShapes Go.ChangeAt Go.RowKit

/-! ### What is read of an argument -/
mutual
def Fits (P : Program) : TypeId → Ty → Prop
  | T, .int k => P.underlying T = some (.int k)
  | T, .bool => P.underlying T = some .bool
  | T, .str => P.underlying T = some .string
  | T, .flt k => P.underlying T = some (.float k)
  | T, .cpx _ => False
  | T, .sl t => ∃ e, P.underlying T = some (.slice e) ∧ P.cellsOf e = t.size ∧ Fits P e t
  | T, .pair a b => ∃ f fs r, P.underlying T = some (.struct fs) ∧ fs.toList = f :: r ∧ P.cellsOf T = a.size + b.size ∧ f.offset = 0 ∧ P.cellsOf f.type = a.size ∧ Fits P f.type a ∧ FitsF P r a.size b
  | T, .unit => False
def FitsF (P : Program) : List Field → Nat → Ty → Prop
  | [], off, .unit => True
  | f :: fs, off, .pair a b => f.offset = off ∧ P.cellsOf f.type = a.size ∧ Fits P f.type a ∧ FitsF P fs (off + a.size) b
  | _, _, _ => False
end

def wfD : (t : Ty) → t.D → Prop
  | .int k, n => (Lit.int k n).wf = true
  | .bool, _ => True
  | .str, s => s.length ≤ maxLen
  | .flt k, x => ∃ b, canon k b = x ∧ (Lit.float k b).wf = true
  | .cpx _, _ => True
  | .sl t, l => l.length ≤ maxLen ∧ ∀ x ∈ l, wfD t x
  | .pair a b, x => wfD a x.1 ∧ wfD b x.2
  | .unit, _ => True

section
variable {H : Type} {enc : TypeId × Value → H} {P : Program} {w : World} {base : Nat} {spare : Nat → Bool} {held : Bool} {Y : Nat → Prop}

theorem trod_float {t : TypeId} {fuel : Nat} {cs : List Value} {x : DataW H × List MemPlace} {k : FloatKind} (ht : P.underlying t = some (.float k)) (h : DataW.trod enc P w base spare held fuel t cs = some x) : ∃ b, cs = [.float k b] ∧ (Lit.float k b).wf = true := by
  cases fuel with
  | zero => simp [DataW.trod] at h
  | succ n =>
    unfold DataW.trod at h
    rw [ht] at h
    split at h <;> simp_all

theorem cell_lt {g o : Nat} {s : Option Nat} {u : Value} (h : w.cell? ⟨g, o, s⟩ = some u) : g < w.heap.size ∧ s = none := by
  unfold World.cell? at h
  simp only at h
  split at h
  · rename_i c e f hc
    refine ⟨(Array.getElem?_eq_some_iff.1 hc).1, ?_⟩
    cases s with
    | none => rfl
    | some x => simp at h
  · simp at h


mutual
theorem open_ty (hY : ∀ g, g < w.heap.size → Y g) : ∀ (t : Ty) (T fuel : Nat) (cs : List Value) (x : DataW H × List MemPlace), Fits P T t → DataW.trod enc P w base spare held fuel T cs = some x → ∃ d : t.D, relT Y w t d cs ∧ wfD t d
  | .int k, T, fuel, cs, x, hf, h => by
    simp only [Fits] at hf
    obtain ⟨n, h1, _, h2⟩ := DataW.trod_int hf h
    exact ⟨n, h1, h2⟩
  | .bool, T, fuel, cs, x, hf, h => by
    simp only [Fits] at hf
    obtain ⟨b, h1, _⟩ := DataW.trod_bool hf h
    exact ⟨b, h1, trivial⟩
  | .str, T, fuel, cs, x, hf, h => by
    simp only [Fits] at hf
    obtain ⟨s, h1, _, h2⟩ := DataW.trod_string hf h
    exact ⟨s.data.toList, by simpa [relT] using h1, by simpa [wfD] using h2⟩
  | .flt k, T, fuel, cs, x, hf, h => by
    simp only [Fits] at hf
    obtain ⟨b, h1, h2⟩ := trod_float hf h
    exact ⟨canon k b, ⟨b, h1, rfl⟩, b, rfl, h2⟩
  | .cpx k, T, fuel, cs, x, hf, h => by simp [Fits] at hf
  | .unit, T, fuel, cs, x, hf, h => by simp [Fits] at hf
  | .sl t, T, fuel, cs, x, hf, h => by
    simp only [Fits] at hf
    obtain ⟨e, hu, hc, hf⟩ := hf
    rcases DataW.trod_slice hu h with ⟨rfl, _⟩ | ⟨a, len, cap, elems, rest, n, _, rfl, _, hb, hl, hm, hlen, hel, _, _⟩
    · exact ⟨[], ⟨none, 0, [], rfl, Nat.le_refl _, rfl, .inl rfl⟩, Nat.zero_le _, fun x hx => by cases hx⟩
    · have each : ∀ i, i < len → ∃ (d : t.D) (ci : List Value), relT Y w t d ci ∧ wfD t d ∧ ci.length = t.size ∧ ∀ j, j < t.size → w.cell? ((a.add (i * t.size)).add j) = ci[j]? := by
        intro i hi
        have := hel i hi
        rw [List.getElem?_eq_getElem (by omega), Option.bind_eq_some_iff] at this
        obtain ⟨ci, h1, h2⟩ := this
        obtain ⟨d, h3, h4⟩ := open_ty hY t e n ci _ hf h2
        obtain ⟨_, h5, h6⟩ := World.cells?_some h1
        rw [hc] at h5 h6
        exact ⟨d, ci, h3, h4, h5, h6⟩
      have all : ∀ m, m ≤ len → ∃ (l : List t.D) (xs : List Value), l.length = m ∧ relL (relT Y w t) l xs ∧ (∀ x ∈ l, wfD t x) ∧ ∀ j u, xs[j]? = some u → w.cell? (a.add j) = some u := by
        intro m
        induction m with
        | zero =>
          intro _
          refine ⟨[], [], rfl, rfl, ?_, ?_⟩
          · intro x hx; simp at hx
          · intro j u hu; simp at hu
        | succ m ih =>
          intro hm'
          obtain ⟨l, xs, h1, h2, h3, h4⟩ := ih (by omega)
          obtain ⟨d, ci, k1, k2, k3, k4⟩ := each m (by omega)
          have hxl := relL_length l xs h2
          refine ⟨l ++ [d], xs ++ ci, by simp [h1], ?_, ?_, fun j u hu => ?_⟩
          · have app : ∀ (l : List t.D) (xs : List Value), relL (relT Y w t) l xs → relL (relT Y w t) (l ++ [d]) (xs ++ ci) := by
              intro l
              induction l with
              | nil => intro xs hx; have : xs = [] := hx; subst this; exact ⟨ci, [], by simp, k1, rfl⟩
              | cons b l ih => rintro xs ⟨c, e', rfl, g1, g2⟩; exact ⟨c, e' ++ ci, by simp, g1, ih e' g2⟩
            exact app l xs h2
          · intro x hx
            rcases List.mem_append.1 hx with hx | hx
            · exact h3 x hx
            · rw [List.mem_singleton.1 hx]; exact k2
          · by_cases hj : j < xs.length
            · rw [List.getElem?_append_left hj] at hu; exact h4 j u hu
            · rw [List.getElem?_append_right (by omega)] at hu
              have hlt : j - xs.length < t.size := by have := (List.getElem?_eq_some_iff.1 hu).1; omega
              have := k4 _ hlt
              rw [hu] at this
              rw [← this]
              have e0 : xs.length = m * t.size := by rw [hxl, h1]
              have hadd : ∀ (p q : Nat), (a.add p).add q = a.add (p + q) := by
                intro p q
                unfold Addr.add
                by_cases hp : p = 0 <;> by_cases hq : q = 0 <;> simp [hp, hq, Nat.add_assoc]
              rw [hadd]
              congr 2
              omega
      obtain ⟨l, xs, h1, h2, h3, h4⟩ := all len (Nat.le_refl _)
      subst h1
      refine ⟨l, ⟨some a, cap, xs, rfl, hl, h2, ?_⟩, Nat.le_trans hl hm, h3⟩
      cases hx : xs with
      | nil => exact .inl rfl
      | cons u xs' =>
        right
        have h0 := h4 0 u (by rw [hx]; rfl)
        obtain ⟨b, off, spot⟩ := a
        have := cell_lt (g := b) (o := off) (s := spot) (u := u) (by simpa [Addr.add] using h0)
        obtain ⟨hlt, rfl⟩ := this
        refine ⟨b, off, rfl, hY b hlt, fun j u' hu' => ?_⟩
        rw [← add_spot]
        exact h4 j u' (by rw [hx]; exact hu')
  | .pair a b, T, fuel, cs, x, hf, h => by
    simp only [Fits] at hf
    obtain ⟨f, fs, r, hu, hfs, hcT, ho, hc, hfa, hfb⟩ := hf
    obtain ⟨xs, n, _, _, hlen, hxl, hx⟩ := DataW.trod_struct hu h
    have hat : ∀ (i : Nat) (g : Field), (f :: r)[i]? = some g → ∃ y, DataW.trod enc P w base spare held n g.type ((cs.drop g.offset).take (P.cellsOf g.type)) = some y := by
      intro i g hg
      have hg' : fs[i]? = some g := by rw [← Array.getElem?_toList, hfs]; exact hg
      have hi : i < xs.length := by rw [hxl]; exact (Array.getElem?_eq_some_iff.1 hg').1
      have := hx i g hg'
      rw [List.getElem?_eq_getElem hi] at this
      exact ⟨_, this⟩
    obtain ⟨y, hy⟩ := hat 0 f rfl
    rw [ho, hc, List.drop_zero] at hy
    obtain ⟨d, h1, h2⟩ := open_ty hY a f.type n _ y hfa hy
    obtain ⟨d', h3, h4⟩ := open_fs hY b r a.size n cs hfb (fun i g hg => hat (i + 1) g hg) (by omega)
    exact ⟨(d, d'), ⟨cs.take a.size, cs.drop a.size, (List.take_append_drop _ _).symm, h1, h3⟩, h2, h4⟩
theorem open_fs (hY : ∀ g, g < w.heap.size → Y g) : ∀ (t : Ty) (fs : List Field) (off n : Nat) (cs : List Value), FitsF P fs off t → (∀ (i : Nat) (g : Field), fs[i]? = some g → ∃ y, DataW.trod enc P w base spare held n g.type ((cs.drop g.offset).take (P.cellsOf g.type)) = some y) →
    off + t.size = cs.length → ∃ d : t.D, relT Y w t d (cs.drop off) ∧ wfD t d
  | .unit, [], off, n, cs, hf, h, hl => ⟨(), by simp [relT]; simp [Ty.size] at hl; omega, trivial⟩
  | .pair a b, f :: fs, off, n, cs, hf, h, hl => by
    simp only [FitsF] at hf
    obtain ⟨ho, hc, hfa, hfb⟩ := hf
    obtain ⟨y, hy⟩ := h 0 f rfl
    rw [ho, hc] at hy
    obtain ⟨d, h1, h2⟩ := open_ty hY a f.type n _ y hfa hy
    obtain ⟨d', h3, h4⟩ := open_fs hY b fs (off + a.size) n cs hfb (fun i g hg => h (i + 1) g hg) (by simp [Ty.size] at hl; omega)
    refine ⟨(d, d'), ⟨(cs.drop off).take a.size, (cs.drop off).drop a.size, (List.take_append_drop _ _).symm, h1, ?_⟩, h2, h4⟩
    rw [List.drop_drop]; exact h3
  | .int _, fs, off, n, cs, hf, h, hl => by cases fs <;> simp [FitsF] at hf
  | .bool, fs, off, n, cs, hf, h, hl => by cases fs <;> simp [FitsF] at hf
  | .str, fs, off, n, cs, hf, h, hl => by cases fs <;> simp [FitsF] at hf
  | .flt _, fs, off, n, cs, hf, h, hl => by cases fs <;> simp [FitsF] at hf
  | .cpx _, fs, off, n, cs, hf, h, hl => by cases fs <;> simp [FitsF] at hf
  | .sl _, fs, off, n, cs, hf, h, hl => by cases fs <;> simp [FitsF] at hf
  | .unit, _ :: _, off, n, cs, hf, h, hl => by simp [FitsF] at hf
  | .pair _ _, [], off, n, cs, hf, h, hl => by simp [FitsF] at hf
end
end
end Go.Proofs.Avx

set_option linter.unusedVariables false
set_option linter.unusedSimpArgs false
namespace Go.Proofs.Avx
open Go.ChangeShapes Go.WideShapes Go.ChangeAt Go.RowKit

theorem Ext.below {w w' : World} (h : Ext w w') : Below w.heap.size w w' := ⟨h.os, h.tape, h.output, h.size, fun k hk => h.heap hk⟩

/-- A law's contract, as a call. -/
theorem calls_of_AF [Kn] {P : Program} {f : FuncId} {args : List AV} (h : AFp P f args (.dat .bool true)) (hE : Ent P f) {w : World} {vs : List Value} (hr : relVs [] (fun _ => 0) (fun g => g < w.heap.size) w args vs) (hK : Kn.K (fun g => g < w.heap.size) w) :
    Calls P f vs.toArray w fun e w' => e = .returned (.bool true) ∧ Below w.heap.size w w' := by
  have hd := h (fun _ => 0) (fun g => g < w.heap.size) w vs ⟨fun g hg => hg, fun p hp => (by simp at hp), fun p q hp => (by simp at hp), hK⟩ hr (fun b cs hb => by simp [getB] at hb)
  rcases hd with ⟨_, hc⟩ | ⟨v, w', hv, _⟩
  · refine hc.mono ?_
    rintro e w' ⟨v, rfl, β', Y', L', hwr, _, _, _, hrv⟩
    have : v = .bool true := by simpa [relV, relT] using hrv
    exact ⟨by rw [this], (outCtx_ext hwr).below⟩
  · rw [run_callFunc hE] at hv
    simp at hv

section
variable {H : Type} {enc : TypeId × Value → H} {P : Program}

theorem trodAll_grown (hl : laidOutB P = true) {W W' : World} (hb : Below W.heap.size W W') : ∀ {ts : List TypeId} {vs : List Value} {ds : List (DataW H)} {ps : List MemPlace}, (∀ t ∈ ts, P.readableRec t = true ∧ t < P.types.size) →
    DataW.TrodAll enc P W 0 (fun _ => true) true ts vs ds ps → (∀ x ∈ ps, x.block < W.heap.size) → DataW.TrodAll enc P W' 0 (fun b => decide (b < W.heap.size)) true ts vs ds ps
  | [], _, _, _, _, h, _ => by
    obtain ⟨rfl, rfl, rfl⟩ := trodAll_nil h
    exact rfl
  | t :: ts, _, _, _, ht, h, hlt => by
    obtain ⟨v, vs1, d, ds1, a, b, rfl, rfl, rfl, h1, h2⟩ := trodAll_cons h
    have h0 := ht t (List.mem_cons_self ..)
    exact ⟨a, b, Below.trod hl h0.1 h0.2 h1 hb (fun x hx => hlt x (List.mem_append_left _ hx)), trodAll_grown hl hb (fun t ht' => ht t (List.mem_cons_of_mem _ ht')) h2 (fun x hx => hlt x (List.mem_append_right _ hx)), rfl⟩

/-- Behind a law that answers true and writes nothing. -/
theorem law_post (hl : laidOutB P = true) {f : Func} {s : ChangeSpec} {apart fresh handsOn : Bool} {W W' : World} {args : Array Value} {ds gs : List (DataW H)} {before : List MemPlace} {tb : TypeId}
    (hpar : ∀ t ∈ f.params.toList, P.readableRec t = true ∧ t < P.types.size) (hres : f.resultTypes = #[tb]) (hb : P.underlying tb = some .bool) (hv : s.vars = [])
    (hfn : s.fn H (ds ++ gs) = { results := [.lit (.bool true)], args := ds }) (hW : DataW.Whole enc P f.params.toList s.vars apart W args.toList ds gs before) (hbl : Below W.heap.size W W') :
    s.post enc P f apart fresh handsOn false W args (.bool true) W' := by
  have hlt : ∀ x ∈ before, x.block < W.heap.size := fun x hx => by simpa using hW.lt x hx
  obtain ⟨p, q, hA, hV, hps, hz, hn⟩ := id hW
  rw [hv] at hV
  obtain ⟨rfl, rfl⟩ := trodVars_none hV
  refine ⟨ds, [], before, [], p, [], hW, ?_, ?_, ?_, ?_, fun h => by cases h⟩
  · rw [hfn, hres]
    have : DataW.Trod enc P W' (match fresh with | true => W.heap.size | false => 0) (fun _ => false) handsOn tb (.bool true) (.lit (.bool true)) [] := shut_bool hb true
    exact trodAll_mk1 this
  · rw [hfn]
    exact trodAll_grown hl hbl hpar hA (fun x hx => hlt x (by rw [hps]; exact List.mem_append_left _ hx))
  · rw [hv, hfn]; exact rfl
  · exact hbl.frame _
end

/-- A slice that came in. -/
theorem arg_sl {H : Type} {enc : TypeId × Value → H} {P : Program} {w : World} {base b0 : Nat} {spare : Nat → Bool} {held : Bool} {r : Reach} {T : TypeId} {t : Ty} {v : Value} {d : DataW H} {ps : List MemPlace} (hf : Fits P T (.sl t)) (hval : Value.okWide P w r b0 T v)
    (h : DataW.Trod enc P w base spare held T v d ps) : ∃ l : List t.D, wfD (.sl t) l ∧ relV [] (fun _ => 0) (fun g => g < w.heap.size) w (.dat (.sl t) l) v := by
  obtain ⟨fuel, hfu⟩ := h
  obtain ⟨l, h1, h2⟩ := open_ty (Y := fun g => g < w.heap.size) (fun g hg => hg) (.sl t) T fuel _ _ hf hfu
  simp only [Fits] at hf
  obtain ⟨e, hu, _⟩ := hf
  obtain ⟨a, len, cap, rfl⟩ := okWide_slice hu hval
  exact ⟨l, h2, by simpa [relV, Value.cells] using h1⟩

/-- A string that came in. -/
theorem arg_str {H : Type} {enc : TypeId × Value → H} {P : Program} {w : World} {base b0 : Nat} {spare : Nat → Bool} {held : Bool} {r : Reach} {T : TypeId} {v : Value} {d : DataW H} {ps : List MemPlace} (hu : P.underlying T = some .string) (hval : Value.okWide P w r b0 T v)
    (h : DataW.Trod enc P w base spare held T v d ps) : ∃ l : List UInt8, l.length ≤ maxLen ∧ relV [] (fun _ => 0) (fun g => g < w.heap.size) w (.dat .str l) v := by
  obtain ⟨fuel, hfu⟩ := h
  obtain ⟨l, h1, h2⟩ := open_ty (Y := fun g => g < w.heap.size) (fun g hg => hg) .str T fuel _ _ (by simp only [Fits]; exact hu) hfu
  obtain ⟨s, rfl⟩ := okWide_string hu hval
  exact ⟨l, h2, by simpa [relV, Value.cells] using h1⟩

/-- A number that came in. -/
theorem arg_int {H : Type} {enc : TypeId × Value → H} {P : Program} {w : World} {base b0 : Nat} {spare : Nat → Bool} {held : Bool} {r : Reach} {T : TypeId} {k : IntKind} {v : Value} {d : DataW H} {ps : List MemPlace} (hu : P.underlying T = some (.int k)) (hval : Value.okWide P w r b0 T v)
    (h : DataW.Trod enc P w base spare held T v d ps) : ∃ n : Int, (Lit.int k n).wf = true ∧ relV [] (fun _ => 0) (fun g => g < w.heap.size) w (.dat (.int k) n) v := by
  obtain ⟨fuel, hfu⟩ := h
  obtain ⟨l, h1, h2⟩ := open_ty (Y := fun g => g < w.heap.size) (fun g hg => hg) (.int k) T fuel _ _ (by simp only [Fits]; exact hu) hfu
  obtain ⟨s, rfl⟩ := okWide_int hu hval
  exact ⟨l, h2, by simpa [relV, Value.cells] using h1⟩
/-- A float that came in. -/
theorem arg_flt {H : Type} {enc : TypeId × Value → H} {P : Program} {w : World} {base b0 : Nat} {spare : Nat → Bool} {held : Bool} {r : Reach} {T : TypeId} {k : FloatKind} {v : Value} {d : DataW H} {ps : List MemPlace} (hu : P.underlying T = some (.float k)) (hval : Value.okWide P w r b0 T v)
    (h : DataW.Trod enc P w base spare held T v d ps) : ∃ x : Nat, relV [] (fun _ => 0) (fun g => g < w.heap.size) w (.dat (.flt k) x) v := by
  obtain ⟨fuel, hfu⟩ := h
  obtain ⟨l, h1, h2⟩ := open_ty (Y := fun g => g < w.heap.size) (fun g hg => hg) (.flt k) T fuel _ _ (by simp only [Fits]; exact hu) hfu
  obtain ⟨s, rfl⟩ := okWide_float hu hval
  exact ⟨l, by simpa [relV, Value.cells] using h1⟩
/-- A struct that came in. -/
theorem arg_struct {H : Type} {enc : TypeId × Value → H} {P : Program} {w : World} {base b0 : Nat} {spare : Nat → Bool} {held : Bool} {r : Reach} {T : TypeId} {a b : Ty} {v : Value} {d : DataW H} {ps : List MemPlace} (hf : Fits P T (.pair a b)) (hval : Value.okWide P w r b0 T v)
    (h : DataW.Trod enc P w base spare held T v d ps) : ∃ x : (Ty.pair a b).D, wfD (.pair a b) x ∧ relV [] (fun _ => 0) (fun g => g < w.heap.size) w (.agg (Avx.enc (.pair a b) x)) v := by
  obtain ⟨fuel, hfu⟩ := h
  obtain ⟨l, h1, h2⟩ := open_ty (Y := fun g => g < w.heap.size) (fun g hg => hg) (.pair a b) T fuel _ _ hf hfu
  simp only [Fits] at hf
  obtain ⟨f, fs, rr, hu, _⟩ := hf
  obtain ⟨cs, rfl, _⟩ := okWide_struct hu hval
  refine ⟨l, h2, ?_⟩
  simp only [relV]
  exact ⟨cs.toList, by simp, relVs_enc (.pair a b) l _ (by simpa [Value.cells] using h1)⟩

/-- The closed facts of a row, part by part (in one declaration they take too much memory). -/
theorem joined_parts {P : Program} {f : FuncId} {fn : Func} {s : ChangeSpec} {c : OpenClaim} (a1 : (c.wf (OpenSpec.ofChange s)) = true) (a2 : laidOutB P = true) (a3 : mapsRowed P = true)
    (a4 : (fn.params.all (P.readableRec ·) && namedTie P c.named s.vars && (c.stops == []) && (P.stops == []) && (c.knobs == []) && (P.stopKnobs == [])) = true)
    (a5 : (c.inPlace == P.inPlace f) = true) (a6 : (c.unfollowed == P.unfollowed f) = true) (a7 : (c.recurses == P.recurses f) = true) (a8 : (c.named == P.varsNamed f) = true)
    (a9 : ((c.maps == (fn.params.toList ++ s.plain.varTypes P).any (P.mapsRec ·)) && (c.ifaces == (fn.params.toList ++ s.plain.varTypes P).any (P.ifacesRec ·)) && (c.mapsOut == P.mapsAmong fn.resultTypes.toList) &&
      (c.loops == (fn.params.toList ++ s.plain.varTypes P).any (P.loopsFrom ·)) && (c.wideKeys == (fn.params.toList ++ s.plain.varTypes P ++ fn.resultTypes.toList).any (P.wideKeysFrom ·))) = true)
    (a10 : (s.vars.all (P.varReadable ·) && fn.resultTypes.all (fun t => P.readableRec t && decide (t < P.types.size)) && (c.ifacesOut == fn.resultTypes.toList.any (P.ifacesRec ·)) && (c.loopsOut == fn.resultTypes.toList.any (P.loopsFrom ·))) = true)
    (a11 : (c.plainKeys == P.plainKeys) = true) (a12 : (c.shortTexts.isNone && P.stopsHeard) = true) (a13 : P.mayEnter = true) (a14 : ((c.lifted == P.liftsFinal) && (P.make == some c.make) && (c.pinned == c.pinnedBy)) = true) (hd : c.domain.isEmpty = true) (hk : c.kinds = [])
    (a15 : ((c.veiled == (fn.params.toList ++ s.plain.varTypes P ++ fn.resultTypes.toList).any (P.veiledRec ·)) && c.veiledFits P fn.params.toList (fn.params.toList ++ s.plain.varTypes P ++ fn.resultTypes.toList)) = true) : joinedFacts P f fn s c = true := by
  simp only [joinedFacts, Bool.and_eq_true, hd, hk, if_true] at *
  simp only [*, and_self, true_and]
  exact ⟨⟨⟨rfl, trivial⟩, trivial⟩, trivial⟩
end Go.Proofs.Avx
