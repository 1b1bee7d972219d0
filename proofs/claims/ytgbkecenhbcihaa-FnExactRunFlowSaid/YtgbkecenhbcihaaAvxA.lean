/- A small program logic over the walk: what values, operations and stores of a frame do, in words of data; no condition. -/
import Derived.WalkKit
import Derived.WalkLawsBesides
import Derived.Orders
import Derived.KernelRfl
import Derived.Laws.FloatArith
import Derived.Laws.BytesArg
import Derived.Maps.AppendAt
/- A small program logic over the walk's calculus: data as trees, owned rows by name. -/
set_option linter.unusedVariables false
set_option linter.unusedSimpArgs false
namespace Go.Proofs.Avx

/-! ### Data -/
inductive Ty where
  | int (k : IntKind) | bool | str | flt (k : FloatKind) | cpx (k : FloatKind) | sl (t : Ty) | pair (a b : Ty) | unit
  deriving DecidableEq

@[reducible] def Ty.D : Ty → Type
  | .int _ => Int | .bool => Bool | .str => List UInt8 | .flt _ => Nat | .cpx _ => Nat × Nat | .sl t => List t.D | .pair a b => a.D × b.D | .unit => Unit

def Ty.size : Ty → Nat
  | .pair a b => a.size + b.size | .unit => 0 | _ => 1

def Ty.z : (t : Ty) → t.D
  | .int _ => (0 : Int) | .bool => false | .str => ([] : List UInt8) | .flt _ => (0 : Nat) | .cpx _ => ((0 : Nat), (0 : Nat)) | .sl _ => [] | .pair a b => (a.z, b.z) | .unit => ()

/-- All that is no number is one value. -/
def canon (k : FloatKind) (b : Nat) : Nat := if (k.decode b).isNaN then (match k with | .f32 => 2143289344 | .f64 => 9221120237041090561) else b

def relL {α : Type} (R : α → List Value → Prop) : List α → List Value → Prop
  | [], xs => xs = []
  | a :: l, xs => ∃ c d, xs = c ++ d ∧ R a c ∧ relL R l d

def Mem (Y : Nat → Prop) (w : World) (A : Option Addr) (xs : List Value) : Prop :=
  xs = [] ∨ ∃ g o, A = some ⟨g, o, none⟩ ∧ Y g ∧ ∀ j u, xs[j]? = some u → w.cell? ⟨g, o + j, none⟩ = some u

def relT (Y : Nat → Prop) (w : World) : (t : Ty) → t.D → List Value → Prop
  | .int k, n, cs => cs = [.int k n]
  | .bool, b, cs => cs = [.bool b]
  | .str, s, cs => cs = [.string ⟨s.toArray⟩]
  | .flt k, x, cs => ∃ b, cs = [.float k b] ∧ canon k b = x
  | .cpx k, x, cs => ∃ b c, cs = [.complex k b c] ∧ canon k b = x.1 ∧ canon k c = x.2
  | .sl t, l, cs => ∃ A cap xs, cs = [.slice A l.length cap] ∧ l.length ≤ cap ∧ relL (relT Y w t) l xs ∧ Mem Y w A xs
  | .pair a b, x, cs => ∃ c d, cs = c ++ d ∧ relT Y w a x.1 c ∧ relT Y w b x.2 d
  | .unit, _, cs => cs = []

inductive AV where
  | dat (t : Ty) (x : t.D)
  | own (p : Nat) (e : TypeId) (t : Ty) (l : List t.D)
  | nilsl
  | esl
  | ptr (b o : Nat)
  | optr (p : Nat) (e : TypeId) (t : Ty) (l : List t.D) (i o : Nat)
  | rptr (cs : List AV)
  | clo (f : FuncId) (caps : List AV)
  | agg (cs : List AV)
  | tup (vs : List AV)
  | cnd (g : Bool) (v : AV)
  | any

mutual
def relV (L : List Nat) (β : Nat → Nat) (Y : Nat → Prop) (w : World) : AV → Value → Prop
  | .dat t x, v => relT Y w t x [v]
  | .own p e t l, v => p ∈ L ∧ ∃ xs, w.ownsRow 0 e t.size v l.length xs ∧ v.ownBlock = some (β p) ∧ relL (relT Y w t) l xs
  | .nilsl, v => v = .slice none 0 0
  | .esl, v => ∃ b : Addr, v = .slice (some b) 0 0
  | .ptr b o, v => b ∈ L ∧ v = .pointer (some ⟨β b, o, none⟩)
  | .optr p e t l i o, v => p ∈ L ∧ (∃ c xs, w.ownsRow 0 e t.size c l.length xs ∧ c.ownBlock = some (β p) ∧ relL (relT Y w t) l xs) ∧ v = .pointer (some ⟨β p, i * t.size + o, none⟩)
  | .rptr cs, v => ∃ g o xs, v = .pointer (some ⟨g, o, none⟩) ∧ Y g ∧ relVs L β Y w cs xs ∧ ∀ j u, xs[j]? = some u → w.cell? ⟨g, o + j, none⟩ = some u
  | .clo f caps, v => ∃ cs : List Value, v = .func (.func f) #[] cs.toArray ∧ relVs L β Y w caps cs
  | .agg l, v => ∃ cs : List Value, v = .agg cs.toArray ∧ relVs L β Y w l cs
  | .tup l, v => ∃ cs : List Value, v = .tuple cs.toArray ∧ relVs L β Y w l cs
  | .cnd g a, v => g = true → relV L β Y w a v
  | .any, _ => True
def relVs (L : List Nat) (β : Nat → Nat) (Y : Nat → Prop) (w : World) : List AV → List Value → Prop
  | [], cs => cs = []
  | a :: l, cs => ∃ c d, cs = c :: d ∧ relV L β Y w a c ∧ relVs L β Y w l d
end

/-! ### What stays -/
theorem relL_mono {α : Type} {R R' : α → List Value → Prop} (h : ∀ a c, R a c → R' a c) : ∀ (l : List α) (xs : List Value), relL R l xs → relL R' l xs
  | [], _, hx => hx
  | a :: l, xs, ⟨c, d, e, h1, h2⟩ => ⟨c, d, e, h a c h1, relL_mono h l d h2⟩

theorem Mem.mono {Y Y' : Nat → Prop} {w w' : World} {A : Option Addr} {xs : List Value} (h : Mem Y w A xs) (hY : ∀ g, Y g → Y' g) (hw : ∀ g, Y g → w'.heap[g]? = w.heap[g]?) : Mem Y' w' A xs := by
  rcases h with h | ⟨g, o, hA, hg, hc⟩
  · exact .inl h
  · exact .inr ⟨g, o, hA, hY g hg, fun j u hu => (World.cell?_of_block (a := ⟨g, o + j, none⟩) (hw g hg)).trans (hc j u hu)⟩

theorem relT_mono {Y Y' : Nat → Prop} {w w' : World} (hY : ∀ g, Y g → Y' g) (hw : ∀ g, Y g → w'.heap[g]? = w.heap[g]?) : ∀ (t : Ty) (x : t.D) (cs : List Value), relT Y w t x cs → relT Y' w' t x cs
  | .int k, n, cs, h => h
  | .bool, b, cs, h => h
  | .str, s, cs, h => h
  | .flt k, x, cs, h => h
  | .cpx k, x, cs, h => h
  | .sl t, l, cs, ⟨A, cap, xs, h1, h2, h3, h4⟩ => ⟨A, cap, xs, h1, h2, relL_mono (fun a c => relT_mono hY hw t a c) l xs h3, h4.mono hY hw⟩
  | .pair a b, x, cs, ⟨c, d, h1, h2, h3⟩ => ⟨c, d, h1, relT_mono hY hw a x.1 c h2, relT_mono hY hw b x.2 d h3⟩
  | .unit, _, cs, h => h

theorem ownsRow_of_block {w w' : World} {base e size n : Nat} {v : Value} {xs : List Value} (h : w.ownsRow base e size v n xs) (hb : ∀ g, v.ownBlock = some g → w'.heap[g]? = w.heap[g]?) : w'.ownsRow base e size v n xs := by
  refine ⟨h.1, ?_⟩
  rcases h.2 with h2 | ⟨g, cap, cur, hv, hg, hh, r⟩
  · exact .inl h2
  · refine .inr ⟨g, cap, cur, hv, hg, ?_, r⟩
    rw [hb g (by rw [hv]; rfl)]; exact hh

mutual
theorem relV_mono {L L' : List Nat} {β β' : Nat → Nat} {Y Y' : Nat → Prop} {w w' : World} (hL : ∀ p, p ∈ L → p ∈ L') (hβ : ∀ p, p ∈ L → β' p = β p) (hY : ∀ g, Y g → Y' g) (hw : ∀ g, Y g → w'.heap[g]? = w.heap[g]?)
    (ho : ∀ p, p ∈ L → w'.heap[β p]? = w.heap[β p]?) : ∀ (a : AV) (v : Value), relV L β Y w a v → relV L' β' Y' w' a v
  | .dat t x, v, h => by simp only [relV] at h ⊢; exact relT_mono hY hw t x _ h
  | .own p e t l, v, h => by
    simp only [relV] at h ⊢
    obtain ⟨hp, xs, h1, h2, h3⟩ := h
    refine ⟨hL p hp, xs, ownsRow_of_block h1 (fun g hg => ?_), by rw [h2, hβ p hp], relL_mono (fun a c => relT_mono hY hw t a c) l xs h3⟩
    have : β p = g := by rw [h2] at hg; exact Option.some.inj hg
    rw [← this]; exact ho p hp
  | .nilsl, v, h => by simp only [relV] at h ⊢; exact h
  | .esl, v, h => by simp only [relV] at h ⊢; exact h
  | .ptr b o, v, h => by simp only [relV] at h ⊢; exact ⟨hL b h.1, by rw [hβ b h.1]; exact h.2⟩
  | .optr p e t l i o, v, h => by
    simp only [relV] at h ⊢
    obtain ⟨hp, ⟨c, xs, h1, h2, h3⟩, hv⟩ := h
    refine ⟨hL p hp, ⟨c, xs, ownsRow_of_block h1 (fun g hg => ?_), by rw [h2, hβ p hp], relL_mono (fun a c => relT_mono hY hw t a c) l xs h3⟩, by rw [hβ p hp]; exact hv⟩
    have : β p = g := by rw [h2] at hg; exact Option.some.inj hg
    rw [← this]; exact ho p hp
  | .rptr cs, v, h => by
    simp only [relV] at h ⊢
    obtain ⟨g, o, xs, hv, hg, hr, hc⟩ := h
    exact ⟨g, o, xs, hv, hY g hg, relVs_mono hL hβ hY hw ho cs xs hr, fun j u hu => (World.cell?_of_block (a := ⟨g, o + j, none⟩) (hw g hg)).trans (hc j u hu)⟩
  | .clo f caps, v, h => by simp only [relV] at h ⊢; obtain ⟨cs, hv, hr⟩ := h; exact ⟨cs, hv, relVs_mono hL hβ hY hw ho caps cs hr⟩
  | .agg l, v, h => by simp only [relV] at h ⊢; obtain ⟨cs, hv, hr⟩ := h; exact ⟨cs, hv, relVs_mono hL hβ hY hw ho l cs hr⟩
  | .tup l, v, h => by simp only [relV] at h ⊢; obtain ⟨cs, hv, hr⟩ := h; exact ⟨cs, hv, relVs_mono hL hβ hY hw ho l cs hr⟩
  | .cnd g a, v, h => by simp only [relV] at h ⊢; exact fun hg => relV_mono hL hβ hY hw ho a v (h hg)
  | .any, v, h => by simp only [relV]
theorem relVs_mono {L L' : List Nat} {β β' : Nat → Nat} {Y Y' : Nat → Prop} {w w' : World} (hL : ∀ p, p ∈ L → p ∈ L') (hβ : ∀ p, p ∈ L → β' p = β p) (hY : ∀ g, Y g → Y' g) (hw : ∀ g, Y g → w'.heap[g]? = w.heap[g]?)
    (ho : ∀ p, p ∈ L → w'.heap[β p]? = w.heap[β p]?) : ∀ (l : List AV) (cs : List Value), relVs L β Y w l cs → relVs L' β' Y' w' l cs
  | [], cs, h => by simp only [relVs] at h ⊢; exact h
  | a :: l, cs, h => by
    simp only [relVs] at h ⊢
    obtain ⟨c, d, e, h1, h2⟩ := h
    exact ⟨c, d, e, relV_mono hL hβ hY hw ho a c h1, relVs_mono hL hβ hY hw ho l d h2⟩
end
end Go.Proofs.Avx

set_option linter.unusedVariables false
set_option linter.unusedSimpArgs false
namespace Go.Proofs.Avx

/-! ### The state of a frame -/
structure St where
  env : List (Nat × AV)
  boxes : List (Nat × List AV)
  live : List Nat

def getE : List (Nat × AV) → Nat → AV
  | [], _ => .any
  | (j, v) :: r, k => if k = j then v else getE r k

def getB : List (Nat × List AV) → Nat → Option (List AV)
  | [], _ => none
  | (j, v) :: r, k => if k = j then some v else getB r k

def St.set (S : St) (d : Option Nat) (v : AV) : St := match d with | some d => { S with env := (d, v) :: S.env } | none => S

structure Ctx where
  w0 : World
  Y : Nat → Prop
  n : Nat
  ib : List Nat       -- names of what came in and may be written
  b0 : Nat → Nat
/-- The blocks that came in and may be written. -/
def Ctx.io (B : Ctx) (g : Nat) : Prop := ∃ p, p ∈ B.ib ∧ B.b0 p = g

structure Fr (io : Nat → Prop) (w0 w : World) : Prop where
  os : w.os = w0.os
  tape : w.tape = w0.tape
  output : w.output = w0.output
  size : w0.heap.size ≤ w.heap.size
  block : ∀ k, k < w0.heap.size → ¬ io k → w.heap[k]? = w0.heap[k]?

theorem Fr.refl (io : Nat → Prop) (w : World) : Fr io w w := ⟨rfl, rfl, rfl, Nat.le_refl _, fun _ _ _ => rfl⟩

/-- What only grows: nothing that was there turns. -/
def Ext (w w' : World) : Prop := Fr (fun _ => False) w w'
theorem Ext.refl (w : World) : Ext w w := Fr.refl _ w
theorem Ext.heap {w w' : World} (h : Ext w w') {k : Nat} (hk : k < w.heap.size) : w'.heap[k]? = w.heap[k]? := h.block k hk (fun h => h)
theorem Ext.trans {a b c : World} (h : Ext a b) (k : Ext b c) : Ext a c :=
  ⟨k.os.trans h.os, k.tape.trans h.tape, k.output.trans h.output, Nat.le_trans h.size k.size, fun i hi _ => (k.heap (Nat.lt_of_lt_of_le hi h.size)).trans (h.heap hi)⟩
theorem Ext.drew (w : World) : Ext w w.drew := ⟨rfl, rfl, rfl, Nat.le_refl _, fun _ _ _ => rfl⟩
theorem Ext.alloc (w : World) (o : Obj) : Ext w (w.alloc o) := ⟨rfl, rfl, rfl, by simp, fun k hk _ => RowKit.Below.heap_alloc w o k hk⟩
theorem Fr.ext {io : Nat → Prop} {a b c : World} (h : Fr io a b) (k : Ext b c) : Fr io a c :=
  ⟨k.os.trans h.os, k.tape.trans h.tape, k.output.trans h.output, Nat.le_trans h.size k.size, fun i hi hn => (k.heap (Nat.lt_of_lt_of_le hi h.size)).trans (h.block i hi hn)⟩

/-- How many cells a block has, and of which type. -/
def szB (w : World) (g : Nat) : Option (Nat × TypeId) := match w.heap[g]? with
  | some (.cells cur e _) => some (cur.size, e)
  | _ => none
theorem szB_of {w w' : World} {g : Nat} (h : w'.heap[g]? = w.heap[g]?) : szB w' g = szB w g := by unfold szB; rw [h]

/-- What is known of the readable part of memory at every place (package-level tables): it stays where that part stays. -/
class Kn where
  K : (Nat → Prop) → World → Prop
  mono : ∀ {Y Y' : Nat → Prop} {w w' : World}, K Y w → (∀ g, Y g → Y' g) → (∀ g, Y g → w'.heap[g]? = w.heap[g]?) → K Y' w'
structure WR [Kn] (B : Ctx) (L : List Nat) (β : Nat → Nat) (Y : Nat → Prop) (w : World) : Prop where
  fr : Fr B.io B.w0 w
  yb : ∀ g, Y g → g < w.heap.size
  yo : ∀ g, Y g → B.Y g ∨ B.w0.heap.size ≤ g
  lv : ∀ p, p ∈ L → β p < w.heap.size ∧ ¬ Y (β p) ∧ (B.io (β p) ∨ B.w0.heap.size ≤ β p)
  inj : ∀ p q, p ∈ L → q ∈ L → β p = β q → p = q
  ib : ∀ b, b ∈ B.ib → b ∈ L ∧ β b = B.b0 b ∧ b % 100 = 98
  cp : ∀ b, b ∈ B.ib → szB w (β b) = szB B.w0 (β b)
  kn : Kn.K Y w

def BoxAt (L : List Nat) (β : Nat → Nat) (Y : Nat → Prop) (w : World) (b : Nat) (cs : List AV) : Prop :=
  b ∈ L ∧ ∃ T cur, w.heap[β b]? = some (.cells cur T (0, 0)) ∧ relVs L β Y w cs cur.toList

structure RelC [Kn] (B : Ctx) (S : St) (β : Nat → Nat) (Y : Nat → Prop) (a : Act) (w : World) : Prop where
  wr : WR B S.live β Y w
  env : ∀ k, relV S.live β Y w (getE S.env k) (a.tmps.getD k undef)
  boxes : ∀ b cs, getB S.boxes b = some cs → BoxAt S.live β Y w b cs
  defers : a.defers = []
  size : a.tmps.size = B.n

def Rel [Kn] (B : Ctx) (S : St) (a : Act) (w : World) : Prop := ∃ β Y, RelC B S β Y a w

theorem WR.ext [Kn] {B : Ctx} {L : List Nat} {β : Nat → Nat} {Y : Nat → Prop} {w w' : World} (h : WR B L β Y w) (hw : Ext w w') : WR B L β Y w' :=
  ⟨h.fr.ext hw, fun g hg => Nat.lt_of_lt_of_le (h.yb g hg) hw.size, h.yo, fun p hp => ⟨Nat.lt_of_lt_of_le (h.lv p hp).1 hw.size, (h.lv p hp).2⟩, h.inj, h.ib, fun b hb => (szB_of (hw.heap (h.lv b (h.ib b hb).1).1)).trans (h.cp b hb), Kn.mono h.kn (fun _ h => h) (fun g hg => hw.heap (h.yb g hg))⟩

theorem WR.keepV [Kn] {B : Ctx} {L : List Nat} {β : Nat → Nat} {Y : Nat → Prop} {w w' : World} (h : WR B L β Y w) (hw : Ext w w') {a : AV} {v : Value} (hv : relV L β Y w a v) : relV L β Y w' a v :=
  relV_mono (fun _ h => h) (fun _ _ => rfl) (fun _ h => h) (fun g hg => hw.heap (h.yb g hg)) (fun p hp => hw.heap (h.lv p hp).1) a v hv
theorem WR.keepVs [Kn] {B : Ctx} {L : List Nat} {β : Nat → Nat} {Y : Nat → Prop} {w w' : World} (h : WR B L β Y w) (hw : Ext w w') {a : List AV} {v : List Value} (hv : relVs L β Y w a v) : relVs L β Y w' a v :=
  relVs_mono (fun _ h => h) (fun _ _ => rfl) (fun _ h => h) (fun g hg => hw.heap (h.yb g hg)) (fun p hp => hw.heap (h.lv p hp).1) a v hv

theorem RelC.ext [Kn] {B : Ctx} {S : St} {β : Nat → Nat} {Y : Nat → Prop} {a : Act} {w w' : World} (h : RelC B S β Y a w) (hw : Ext w w') : RelC B S β Y a w' where
  wr := h.wr.ext hw
  env k := h.wr.keepV hw (h.env k)
  boxes b cs hb := by
    obtain ⟨h1, T, cur, h2, h3⟩ := h.boxes b cs hb
    exact ⟨h1, T, cur, (hw.heap (h.wr.lv b h1).1).trans h2, h.wr.keepVs hw h3⟩
  defers := h.defers
  size := h.size

theorem getD_put (a : Act) (d : Nat) (v : Value) (k : Nat) (hd : d < a.tmps.size) : (a.put (some d) v).tmps.getD k undef = if k = d then v else a.tmps.getD k undef := by
  unfold Act.put
  simp only [Array.getD_eq_getD_getElem?, Array.getElem?_setIfInBounds]
  by_cases h : d = k
  · subst h; simp [hd]
  · have h' : ¬ k = d := fun e => h e.symm
    simp [h, h']

theorem RelC.set [Kn] {B : Ctx} {S : St} {β : Nat → Nat} {Y : Nat → Prop} {a : Act} {w : World} (h : RelC B S β Y a w) {d : Option Nat} (hd : ∀ k, d = some k → k < B.n) {av : AV} {v : Value} (hv : relV S.live β Y w av v) :
    RelC B (S.set d av) β Y (a.put d v) w := by
  cases d with
  | none => exact h
  | some d =>
    refine ⟨h.wr, fun k => ?_, h.boxes, h.defers, ?_⟩
    · rw [getD_put a d v k (by rw [h.size]; exact hd d rfl)]
      simp only [St.set, getE]
      split
      · exact hv
      · exact h.env k
    · simp [Act.put, h.size]

/-- A new block under a new name. -/
theorem WR.new [Kn] {B : Ctx} {L : List Nat} {β : Nat → Nat} {Y : Nat → Prop} {w : World} (h : WR B L β Y w) (o : Obj) (p : Nat) (hp : p ∉ L) :
    WR B (p :: L) (fun q => if q = p then w.heap.size else β q) Y (w.alloc o) := by
  have h' := h.ext (Ext.alloc w o)
  refine ⟨h'.fr, h'.yb, h'.yo, fun q hq => ?_, fun q r hq hr e => ?_, fun b hb => ⟨List.mem_cons_of_mem _ (h.ib b hb).1, by rw [if_neg (fun e : b = p => hp (e ▸ (h.ib b hb).1))]; exact (h.ib b hb).2.1, (h.ib b hb).2.2⟩,
    fun b hb => by rw [if_neg (fun e : b = p => hp (e ▸ (h.ib b hb).1))]; exact h'.cp b hb, h'.kn⟩
  · by_cases e : q = p
    · subst e
      rw [if_pos rfl]
      exact ⟨by simp, fun hy => Nat.lt_irrefl _ (h.yb _ hy), .inr h.fr.size⟩
    · rw [if_neg e]
      exact h'.lv q ((List.mem_cons.1 hq).resolve_left e)
  · by_cases e1 : q = p <;> by_cases e2 : r = p
    · rw [e1, e2]
    · rw [if_pos e1, if_neg e2] at e
      have := (h.lv r ((List.mem_cons.1 hr).resolve_left e2)).1
      omega
    · rw [if_neg e1, if_pos e2] at e
      have := (h.lv q ((List.mem_cons.1 hq).resolve_left e1)).1
      omega
    · rw [if_neg e1, if_neg e2] at e
      exact h.inj q r ((List.mem_cons.1 hq).resolve_left e1) ((List.mem_cons.1 hr).resolve_left e2) e

theorem upd_ne {L : List Nat} {β : Nat → Nat} {p g : Nat} (hp : p ∉ L) : ∀ q, q ∈ L → (if q = p then g else β q) = β q := fun q hq => if_neg (fun e : q = p => hp (e ▸ hq))

theorem RelC.new [Kn] {B : Ctx} {S : St} {β : Nat → Nat} {Y : Nat → Prop} {a : Act} {w : World} (h : RelC B S β Y a w) (o : Obj) (p : Nat) (hp : p ∉ S.live) :
    RelC B { S with live := p :: S.live } (fun q => if q = p then w.heap.size else β q) Y a (w.alloc o) := by
  have hk : ∀ (x : AV) (v : Value), relV S.live β Y w x v → relV (p :: S.live) (fun q => if q = p then w.heap.size else β q) Y (w.alloc o) x v := fun x v hv =>
    relV_mono (fun _ h => List.mem_cons_of_mem _ h) (upd_ne hp) (fun _ h => h) (fun g hg => (Ext.alloc w o).heap (h.wr.yb g hg)) (fun q hq => (Ext.alloc w o).heap (h.wr.lv q hq).1) x v hv
  refine ⟨h.wr.new o p hp, fun k => hk _ _ (h.env k), fun b cs hb => ?_, h.defers, h.size⟩
  obtain ⟨h1, T, cur, h2, h3⟩ := h.boxes b cs hb
  refine ⟨List.mem_cons_of_mem _ h1, T, cur, ?_, relVs_mono (fun _ h => List.mem_cons_of_mem _ h) (upd_ne hp) (fun _ h => h) (fun g hg => (Ext.alloc w o).heap (h.wr.yb g hg)) (fun q hq => (Ext.alloc w o).heap (h.wr.lv q hq).1) cs _ h3⟩
  show (w.alloc o).heap[if b = p then w.heap.size else β b]? = _
  rw [upd_ne hp b h1, (Ext.alloc w o).heap (h.wr.lv b h1).1]
  exact h2

/-! ### Types -/
inductive TD where
  | int (k : IntKind) | bool | str | flt (k : FloatKind) | cpx (k : FloatKind) | sl (e : TypeId) | struct (fs : List (TypeId × Nat)) | arr (n : Nat) (e : TypeId) | ptr (e : TypeId) | func | other

structure TI where
  d : TD
  size : Nat
  bytes : Nat
  z : Value

def okD (P : Program) (T : TypeId) : TD → Prop
  | .int k => P.underlying T = some (.int k)
  | .bool => P.underlying T = some .bool
  | .str => P.underlying T = some .string
  | .flt k => P.underlying T = some (.float k)
  | .cpx k => P.underlying T = some (.complex k)
  | .sl e => P.underlying T = some (.slice e)
  | .struct fs => ∃ fields, P.underlying T = some (.struct fields) ∧ fields.toList.map (fun f => (f.type, f.offset)) = fs
  | .arr n e => P.underlying T = some (.array n e)
  | .ptr e => P.underlying T = some (.pointer e)
  | .func => ∃ a b c, P.underlying T = some (.func a b c)
  | .other => True

structure okTI (P : Program) (T : TypeId) (ti : TI) : Prop where
  info : (P.info? T).map (fun i => (i.size, i.bytes, i.zero)) = some (ti.size, ti.bytes, some ti.z)
  d : okD P T ti.d
  zs : ti.z.cells.size = ti.size

def Tab := List (TypeId × TI)
def Tab.get : List (TypeId × TI) → TypeId → Option TI
  | [], _ => none
  | (T, ti) :: r, U => if U = T then some ti else Tab.get r U
def okTab (P : Program) (Γ : List (TypeId × TI)) : Prop := ∀ x ∈ Γ, okTI P x.1 x.2
theorem okTab.get {P : Program} : ∀ {Γ : List (TypeId × TI)} (h : okTab P Γ) {T : TypeId} {ti : TI}, Tab.get Γ T = some ti → okTI P T ti
  | (U, ui) :: r, h, T, ti, hg => by
    simp only [Tab.get] at hg
    split at hg
    · rename_i e; subst e; cases hg; exact h _ (List.mem_cons_self ..)
    · exact okTab.get (fun x hx => h x (List.mem_cons_of_mem _ hx)) hg
  | [], h, T, ti, hg => by simp [Tab.get] at hg

end Go.Proofs.Avx

set_option linter.unusedVariables false
set_option linter.unusedSimpArgs false
namespace Go.Proofs.Avx

/-! ### Operands -/
def ofC1 : Value → AV
  | .bool b => .dat .bool b
  | .int k n => .dat (.int k) n
  | .float k b => .dat (.flt k) (canon k b)
  | .complex k a b => .dat (.cpx k) (canon k a, canon k b)
  | .string s => .dat .str s.data.toList
  | .slice none 0 0 => .nilsl
  | _ => .any
def ofConst : Value → AV
  | .agg cs => .agg (cs.toList.map ofC1)
  | .bool b => .dat .bool b
  | .int k n => .dat (.int k) n
  | .float k b => .dat (.flt k) (canon k b)
  | .complex k a b => .dat (.cpx k) (canon k a, canon k b)
  | .string s => .dat .str s.data.toList
  | .slice none 0 0 => .nilsl
  | _ => .any

theorem relV_ofC1 {L : List Nat} {β : Nat → Nat} {Y : Nat → Prop} {w : World} (v : Value) : relV L β Y w (ofC1 v) v := by
  unfold ofC1
  split <;> simp [relV, relT]
  exact ⟨_, _, ⟨rfl, rfl⟩, rfl, rfl⟩
theorem relVs_ofC1 {L : List Nat} {β : Nat → Nat} {Y : Nat → Prop} {w : World} : ∀ (l : List Value), relVs L β Y w (l.map ofC1) l
  | [] => by simp [relVs]
  | v :: l => by simp only [List.map_cons, relVs]; exact ⟨v, l, rfl, relV_ofC1 v, relVs_ofC1 l⟩
theorem relV_ofConst {L : List Nat} {β : Nat → Nat} {Y : Nat → Prop} {w : World} (v : Value) : relV L β Y w (ofConst v) v := by
  unfold ofConst
  split
  · simp only [relV]; exact ⟨_, by simp, relVs_ofC1 _⟩
  all_goals simp [relV, relT]
  exact ⟨_, _, ⟨rfl, rfl⟩, rfl, rfl⟩

def avOf (env : List (Nat × AV)) : Operand → AV
  | .tmp t => getE env t
  | .const v => ofConst v
  | .func f => .clo f []
  | .global _ => .any

theorem RelC.opnd [Kn] {B : Ctx} {S : St} {β : Nat → Nat} {Y : Nat → Prop} {a : Act} {w : World} (h : RelC B S β Y a w) (x : Operand) : relV S.live β Y w (avOf S.env x) (a.eval x) := by
  cases x with
  | tmp t => exact h.env t
  | const v => exact relV_ofConst v
  | global g => simp [avOf, relV]
  | func f => simp only [avOf, Act.eval, relV]; exact ⟨[], rfl, by simp [relVs]⟩

/-- A computation that hands back a value and only draws. -/
def Gives (P : Program) (w : World) (s : Sem Value) (R : Value → Prop) : Prop := ∃ v w', s.run P w = .ok v w' ∧ Ext w w' ∧ R v
/-- A computation that hands back a value, the world as it was. -/
def Same (P : Program) (w : World) (s : Sem Value) (R : Value → Prop) : Prop := ∃ v, s.run P w = .ok v w ∧ R v
theorem Same.mk' {P : Program} {w : World} {s : Sem Value} {R : Value → Prop} {v : Value} (h : s.run P w = .ok v w) (hR : R v) : Same P w s R := ⟨v, h, hR⟩
theorem Gives.same {P : Program} {w : World} {s : Sem Value} {R : Value → Prop} {v : Value} (h : s.run P w = .ok v w) (hR : R v) : Gives P w s R := ⟨v, w, h, Ext.refl w, hR⟩

theorem Same.gives {P : Program} {w : World} {s : Sem Value} {R : Value → Prop} (h : Same P w s R) : Gives P w s R := let ⟨v, h1, h2⟩ := h; ⟨v, w, h1, Ext.refl w, h2⟩

/-- The value of a plain datum. -/
def conc : AV → Value
  | .dat (.int k) n => .int k n
  | .dat .bool b => .bool b
  | .dat .str s => .string ⟨s.toArray⟩
  | _ => undef

/-! ### Operators on whole numbers, bools, strings -/
def binInt (op : BinOp) (k : IntKind) (a b : Int) : Option (Prop × AV) :=
  match op with
  | .add => some (True, .dat (.int k) (k.wrap (a + b)))
  | .sub => some (True, .dat (.int k) (k.wrap (a - b)))
  | .mul => some (True, .dat (.int k) (k.wrap (a * b)))
  | .quo => some (b ≠ 0, .dat (.int k) (k.wrap (a.tdiv b)))
  | .rem => some (b ≠ 0, .dat (.int k) (a.tmod b))
  | .and => some (True, .dat (.int k) (k.wrap (BitVec.ofInt k.bits a &&& BitVec.ofInt k.bits b).toNat))
  | .or => some (True, .dat (.int k) (k.wrap (BitVec.ofInt k.bits a ||| BitVec.ofInt k.bits b).toNat))
  | .xor => some (True, .dat (.int k) (k.wrap (BitVec.ofInt k.bits a ^^^ BitVec.ofInt k.bits b).toNat))
  | .eql => some (True, .dat .bool (a == b))
  | .neq => some (True, .dat .bool (a != b))
  | .lss => some (True, .dat .bool (decide (a < b)))
  | .leq => some (True, .dat .bool (decide (a ≤ b)))
  | .gtr => some (True, .dat .bool (decide (b < a)))
  | .geq => some (True, .dat .bool (decide (b ≤ a)))
  | _ => none

def binShift (op : BinOp) (k : IntKind) (a b : Int) : Option (Prop × AV) :=
  match op with
  | .shl => some (0 ≤ b, .dat (.int k) (k.wrap (a * 2 ^ (min b.toNat k.bits))))
  | .shr => some (0 ≤ b, .dat (.int k) (a.fdiv (2 ^ (min b.toNat k.bits))))
  | _ => none

def bytesLess : List UInt8 → List UInt8 → Bool := Op.bytesLess

def binStr (op : BinOp) (a b : List UInt8) : Option (Prop × AV) :=
  match op with
  | .add => some (a.length + b.length ≤ 9223372036854775807, .dat .str (a ++ b))
  | .eql => some (True, .dat .bool (a == b))
  | .neq => some (True, .dat .bool (a != b))
  | .lss => some (True, .dat .bool (bytesLess a b))
  | .gtr => some (True, .dat .bool (!(bytesLess a b || a == b)))
  | .leq => some (True, .dat .bool (bytesLess a b || a == b))
  | .geq => some (True, .dat .bool (!(bytesLess a b)))
  | _ => none

def binBool (op : BinOp) (a b : Bool) : Option (Prop × AV) :=
  match op with
  | .eql => some (True, .dat .bool (a == b))
  | .neq => some (True, .dat .bool (a != b))
  | _ => none

section
variable {P : Program} {L : List Nat} {β : Nat → Nat} {Y : Nat → Prop} {w : World}

theorem gives_binInt {op : BinOp} {T : TypeId} {x y : Operand} {k : IntKind} {a b : Int} {ob : Prop} {r : AV} (he : binInt op k a b = some (ob, r)) (hob : ob) :
    Gives P w (do eqGuard op T x y (.int k a) (.int k b); binOp op T (.int k a) (.int k b)) (relV L β Y w r) := by
  cases op <;> simp only [binInt, Option.some.injEq, Prod.mk.injEq, reduceCtorEq] at he <;> (try exact he.elim) <;> obtain ⟨hob', hr⟩ := he <;> subst hob' <;>
    refine Gives.same (v := conc r) ?_ ?_ <;> subst hr <;> first
    | (simp [eqGuard, binOp, conc, Op.intArith, Op.intDiv, Op.intBits, Op.intCmp, hob]; done)
    | (simp [relV, relT, conc]; done)

theorem gives_shift {op : BinOp} {T : TypeId} {x y : Operand} {k k' : IntKind} {a b : Int} {ob : Prop} {r : AV} (he : binShift op k a b = some (ob, r)) (hob : ob) :
    Gives P w (do eqGuard op T x y (.int k a) (.int k' b); binOp op T (.int k a) (.int k' b)) (relV L β Y w r) := by
  cases op <;> simp only [binShift, Option.some.injEq, Prod.mk.injEq, reduceCtorEq] at he <;> (try exact he.elim) <;> obtain ⟨hob', hr⟩ := he <;> subst hob' <;>
    refine Gives.same (v := conc r) ?_ ?_ <;> subst hr <;> first
    | (simp [eqGuard, binOp, conc, Op.shift, Int.not_lt.2 hob]; done)
    | (simp [relV, relT, conc]; done)

theorem ba_toList (l : List UInt8) : (⟨l.toArray⟩ : ByteArray).toList = l := by
  simp
theorem ba_size (l : List UInt8) : (⟨l.toArray⟩ : ByteArray).size = l.length := by simp [ByteArray.size]
theorem ba_append (a b : List UInt8) : (⟨a.toArray⟩ : ByteArray) ++ ⟨b.toArray⟩ = ⟨(a ++ b).toArray⟩ := by
  apply ByteArray.ext; simp

theorem gives_binStr {op : BinOp} {T : TypeId} {x y : Operand} {a b : List UInt8} {ob : Prop} {r : AV} (he : binStr op a b = some (ob, r)) (hob : ob) :
    Gives P w (do eqGuard op T x y (.string ⟨a.toArray⟩) (.string ⟨b.toArray⟩); binOp op T (.string ⟨a.toArray⟩) (.string ⟨b.toArray⟩)) (relV L β Y w r) := by
  cases op <;> simp only [binStr, Option.some.injEq, Prod.mk.injEq, reduceCtorEq] at he <;> (try exact he.elim) <;> obtain ⟨hob', hr⟩ := he <;> subst hob' <;>
    refine Gives.same (v := conc r) ?_ ?_ <;> subst hr <;> first
    | (simp [eqGuard, binOp, conc, Op.stringOp, ba_toList, ba_size, ba_append, bytesLess, bne]; done)
    | (simp [relV, relT, conc]; done)
    | (have h : ¬ ((a.length : Int) + (b.length : Int) > IntKind.i64.max) := by simp only [IntKind.max, IntKind.signed, IntKind.bits]; omega
       simp [eqGuard, binOp, conc, Op.stringOp, ba_size, ba_append, h]; omega)

theorem run_und {T : TypeId} {d : TypeDesc} (h : P.underlying T = some d) : (underlying T).run P w = .ok d w := by simp [underlying, h]

theorem gives_binBool {op : BinOp} {T : TypeId} {x y : Operand} {a b : Bool} {ob : Prop} {r : AV} (hT : P.underlying T = some .bool) (he : binBool op a b = some (ob, r)) (hob : ob) :
    Gives P w (do eqGuard op T x y (.bool a) (.bool b); binOp op T (.bool a) (.bool b)) (relV L β Y w r) := by
  have he' : ∀ n, (Op.equalIn (n + 1) T (.bool a) (.bool b)).run P w = .ok (a == b) w := fun n => by unfold Op.equalIn; simp [run_und hT]
  have he2 : (Op.equal T (.bool a) (.bool b)).run P w = .ok (a == b) w := he' 9999
  cases op <;> simp only [binBool, Option.some.injEq, Prod.mk.injEq, reduceCtorEq] at he <;> (try exact he.elim) <;> obtain ⟨hob', hr⟩ := he <;> subst hob' <;>
    refine Gives.same (v := conc r) ?_ ?_ <;> subst hr <;> first
    | (simp [eqGuard, binOp, conc, he2, bne]; done)
    | (simp [relV, relT, conc]; done)

def unop (op : UnOp) : AV → Option (Prop × AV)
  | .dat (.int k) n => match op with
    | .neg => some (True, .dat (.int k) (k.wrap (0 - n)))
    | .xor => some (True, .dat (.int k) (k.wrap (BitVec.ofInt k.bits (if k.signed then -1 else k.max) ^^^ BitVec.ofInt k.bits n).toNat))
    | _ => none
  | .dat .bool b => match op with
    | .not => some (True, .dat .bool (!b))
    | _ => none
  | _ => none

theorem gives_unop {op : UnOp} {x : AV} {v : Value} {ob : Prop} {r : AV} (hv : relV L β Y w x v) (he : unop op x = some (ob, r)) (hob : ob) :
    Gives P w (Op.unary op v) (relV L β Y w r) := by
  unfold unop at he
  split at he
  · simp only [relV, relT, List.cons.injEq, and_true] at hv
    subst hv
    split at he <;> simp only [Option.some.injEq, Prod.mk.injEq, reduceCtorEq] at he <;> obtain ⟨hob', hr⟩ := he <;> subst hob' <;>
      refine Gives.same (v := conc r) ?_ ?_ <;> subst hr <;> first
      | (simp [conc, Op.unary, Op.intArith, Op.intBits]; done)
      | (simp [relV, relT, conc]; done)
  · simp only [relV, relT, List.cons.injEq, and_true] at hv
    subst hv
    split at he <;> simp only [Option.some.injEq, Prod.mk.injEq, reduceCtorEq] at he <;> obtain ⟨hob', hr⟩ := he <;> subst hob' <;>
      refine Gives.same (v := conc r) ?_ ?_ <;> subst hr <;> first
      | (simp [conc, Op.unary]; done)
      | (simp [relV, relT, conc]; done)
  · simp at he
end

/-! ### Lists of cells -/
def enc : (t : Ty) → t.D → List AV
  | .pair a b, x => enc a x.1 ++ enc b x.2
  | .unit, _ => []
  | .int k, x => [.dat (.int k) x]
  | .bool, x => [.dat .bool x]
  | .str, x => [.dat .str x]
  | .flt k, x => [.dat (.flt k) x]
  | .cpx k, x => [.dat (.cpx k) x]
  | .sl t, x => [.dat (.sl t) x]

section
variable {L : List Nat} {β : Nat → Nat} {Y : Nat → Prop} {w : World}
theorem relVs_append {a b : List AV} : ∀ {cs ds : List Value}, relVs L β Y w a cs → relVs L β Y w b ds → relVs L β Y w (a ++ b) (cs ++ ds) := by
  induction a with
  | nil => intro cs ds h1 h2; simp only [relVs] at h1; subst h1; simpa using h2
  | cons x a ih =>
    intro cs ds h1 h2
    simp only [relVs, List.cons_append] at h1 ⊢
    obtain ⟨c, d, rfl, hc, hd⟩ := h1
    exact ⟨c, d ++ ds, rfl, hc, ih hd h2⟩

theorem relVs_enc : ∀ (t : Ty) (x : t.D) (cs : List Value), relT Y w t x cs → relVs L β Y w (enc t x) cs
  | .pair a b, x, cs, h => by
    obtain ⟨c, d, rfl, h1, h2⟩ := h
    exact relVs_append (relVs_enc a x.1 c h1) (relVs_enc b x.2 d h2)
  | .unit, x, cs, h => by
    have : cs = [] := h
    simpa [enc, relVs] using this
  | .int k, x, cs, h => by
    have : cs = [.int k x] := h
    subst this; simp [enc, relVs, relV, relT]
  | .bool, x, cs, h => by
    have : cs = [.bool x] := h
    subst this; simp [enc, relVs, relV, relT]
  | .str, x, cs, h => by
    have : cs = [.string ⟨x.toArray⟩] := h
    subst this; simp [enc, relVs, relV, relT]
  | .flt k, x, cs, h => by
    obtain ⟨b, rfl, h1⟩ := h
    simp only [enc, relVs, relV]; exact ⟨_, _, rfl, ⟨b, rfl, h1⟩, rfl⟩
  | .cpx k, x, cs, h => by
    obtain ⟨b, c, rfl, h1⟩ := h
    simp only [enc, relVs, relV]; exact ⟨_, _, rfl, ⟨b, c, rfl, h1⟩, rfl⟩
  | .sl t, x, cs, h => by
    obtain ⟨A, cap, xs, rfl, h1⟩ := h
    simp only [enc, relVs, relV]; exact ⟨_, _, rfl, ⟨A, cap, xs, rfl, h1⟩, rfl⟩

theorem relT_length : ∀ (t : Ty) (x : t.D) (cs : List Value), relT Y w t x cs → cs.length = t.size
  | .pair a b, x, cs, h => by
    obtain ⟨c, d, rfl, h1, h2⟩ := h
    simp [Ty.size, relT_length a x.1 c h1, relT_length b x.2 d h2]
  | .unit, x, cs, h => by have : cs = [] := h; simp [this, Ty.size]
  | .int k, x, cs, h => by have : cs = [.int k x] := h; simp [this, Ty.size]
  | .bool, x, cs, h => by have : cs = [.bool x] := h; simp [this, Ty.size]
  | .str, x, cs, h => by have : cs = [.string ⟨x.toArray⟩] := h; simp [this, Ty.size]
  | .flt k, x, cs, h => by obtain ⟨b, rfl, h1⟩ := h; simp [Ty.size]
  | .cpx k, x, cs, h => by obtain ⟨b, c, rfl, h1⟩ := h; simp [Ty.size]
  | .sl t, x, cs, h => by obtain ⟨A, cap, xs, rfl, h1⟩ := h; simp [Ty.size]

/-- The cells of one element. -/
theorem relL_at {t : Ty} : ∀ (l : List t.D) (xs : List Value) (i : Nat), relL (relT Y w t) l xs → i < l.length →
    ∃ es, relT Y w t (l.getD i t.z) es ∧ ∀ j, j < t.size → xs[i * t.size + j]? = es[j]?
  | a :: l, xs, 0, ⟨c, d, e, h1, h2⟩, _ => by
    subst e
    refine ⟨c, by simpa using h1, fun j hj => ?_⟩
    have := relT_length t a c h1
    simp only [Nat.zero_mul, Nat.zero_add]
    rw [List.getElem?_append_left (by omega)]
  | a :: l, xs, i + 1, ⟨c, d, e, h1, h2⟩, hi => by
    subst e
    obtain ⟨es, he, hx⟩ := relL_at l d i h2 (by simpa using hi)
    refine ⟨es, by simpa using he, fun j hj => ?_⟩
    have := relT_length t a c h1
    rw [← hx j hj, List.getElem?_append_right (by rw [this, Nat.add_mul]; omega)]
    congr 1
    rw [this, Nat.add_mul]; omega
theorem relL_length {t : Ty} : ∀ (l : List t.D) (xs : List Value), relL (relT Y w t) l xs → xs.length = l.length * t.size
  | [], xs, h => by have : xs = [] := h; simp [this]
  | a :: l, xs, ⟨c, d, e, h1, h2⟩ => by
    subst e
    simp [relT_length t a c h1, relL_length l d h2, Nat.add_mul]; omega
theorem relVs_length : ∀ {a : List AV} {cs : List Value}, relVs L β Y w a cs → cs.length = a.length
  | [], cs, h => by simp only [relVs] at h; simp [h]
  | x :: a, cs, h => by
    simp only [relVs] at h
    obtain ⟨c, d, rfl, _, h2⟩ := h
    simp [relVs_length h2]
theorem relVs_get : ∀ {a : List AV} {cs : List Value} (i : Nat), relVs L β Y w a cs → i < a.length → ∃ v, cs[i]? = some v ∧ relV L β Y w (a.getD i .any) v
  | x :: a, cs, 0, h, _ => by
    simp only [relVs] at h
    obtain ⟨c, d, rfl, h1, _⟩ := h
    exact ⟨c, by simp, by simpa using h1⟩
  | x :: a, cs, i + 1, h, hi => by
    simp only [relVs] at h
    obtain ⟨c, d, rfl, _, h2⟩ := h
    obtain ⟨v, hv, hr⟩ := relVs_get i h2 (by simpa using hi)
    exact ⟨v, by simpa using hv, by simpa using hr⟩
theorem relVs_drop : ∀ {a : List AV} {cs : List Value} (n : Nat), relVs L β Y w a cs → relVs L β Y w (a.drop n) (cs.drop n)
  | a, cs, 0, h => by simpa using h
  | [], cs, n + 1, h => by simp only [relVs] at h; subst h; simp [relVs]
  | x :: a, cs, n + 1, h => by
    simp only [relVs] at h
    obtain ⟨c, d, rfl, _, h2⟩ := h
    simpa using relVs_drop n h2
theorem relVs_take : ∀ {a : List AV} {cs : List Value} (n : Nat), relVs L β Y w a cs → relVs L β Y w (a.take n) (cs.take n)
  | a, cs, 0, h => by simp [relVs]
  | [], cs, n + 1, h => by simp only [relVs] at h; subst h; simp [relVs]
  | x :: a, cs, n + 1, h => by
    simp only [relVs] at h
    obtain ⟨c, d, rfl, h1, h2⟩ := h
    simp only [List.take_succ_cons, relVs]
    exact ⟨c, _, rfl, h1, relVs_take n h2⟩
end
end Go.Proofs.Avx

set_option linter.unusedVariables false
set_option linter.unusedSimpArgs false
namespace Go.Proofs.Avx

/-! ### Floats: all that is no number is one value -/
def flN : FloatKind → Nat
  | .f32 => 2143289344
  | .f64 => 9221120237041090561
theorem canon_def (k : FloatKind) (b : Nat) : canon k b = if (k.decode b).isNaN then flN k else b := by cases k <;> rfl
theorem dec_flN (k : FloatKind) : (k.decode (flN k)).isNaN = true := by cases k <;> rfl
theorem dec_canon (k : FloatKind) (b : Nat) : (k.decode (canon k b)).isNaN = (k.decode b).isNaN := by
  rw [canon_def]; split
  · rename_i h; rw [dec_flN, h]
  · rfl
theorem canon_num {k : FloatKind} {b : Nat} (h : (k.decode b).isNaN = false) : canon k b = b := by rw [canon_def, h]; rfl
theorem canon_nan {k : FloatKind} {b : Nat} (h : (k.decode b).isNaN = true) : canon k b = flN k := by rw [canon_def, h]; rfl
theorem canon_flN (k : FloatKind) : canon k (flN k) = flN k := canon_nan (dec_flN k)
theorem canon_canon (k : FloatKind) (b : Nat) : canon k (canon k b) = canon k b := by
  cases h : (k.decode b).isNaN
  · rw [canon_num h, canon_num h]
  · rw [canon_nan h, canon_flN]

theorem isNaN_form {d : Ieee.Datum} (h : d.isNaN = true) : ∃ s t, d = .nan s t := by
  cases d <;> simp [Ieee.Datum.isNaN] at h
  exact ⟨_, _, rfl⟩

theorem fb_nan_l {op : BinOp} {k : FloatKind} {x y : Nat} (h : (k.decode x).isNaN = true) : floatBits op k x y = none := by
  obtain ⟨s, t, hd⟩ := isNaN_form h
  have hd : k.format.read x = .nan s t := hd
  cases op <;> simp [floatBits, Ieee.Format.add, Ieee.Format.sub, Ieee.Format.mul, Ieee.Format.div, hd, Ieee.Datum.sum, Ieee.Datum.product, Ieee.Datum.quotient]
theorem fb_nan_r {op : BinOp} {k : FloatKind} {x y : Nat} (h : (k.decode y).isNaN = true) : floatBits op k x y = none := by
  obtain ⟨s, t, hd⟩ := isNaN_form h
  have hd : k.format.read y = .nan s t := hd
  cases op <;> simp only [floatBits, Ieee.Format.add, Ieee.Format.sub, Ieee.Format.mul, Ieee.Format.div, hd] <;> cases k.format.read x <;>
    simp [Ieee.Datum.opposite, Ieee.Datum.sum, Ieee.Datum.product, Ieee.Datum.quotient]
theorem fb_canon (op : BinOp) (k : FloatKind) (x y : Nat) : floatBits op k (canon k x) (canon k y) = floatBits op k x y := by
  cases hx : (k.decode x).isNaN
  · cases hy : (k.decode y).isNaN
    · rw [canon_num hx, canon_num hy]
    · rw [fb_nan_r hy, fb_nan_r (by rw [dec_canon]; exact hy)]
  · rw [fb_nan_l hx, fb_nan_l (by rw [dec_canon]; exact hx)]

/-- An arithmetic operation on floats. -/
def flB (op : BinOp) (k : FloatKind) (a b : Nat) : Nat := match floatBits op k a b with | some r => canon k r | none => flN k

theorem or_nan_l {k : FloatKind} {x y : Nat} (h : (k.decode x).isNaN = true) : k.format.order x y = none := by
  obtain ⟨s, t, hd⟩ := isNaN_form h
  have hd : k.format.read x = .nan s t := hd
  simp [Ieee.Format.order, hd, Ieee.Datum.order]
theorem or_nan_r {k : FloatKind} {x y : Nat} (h : (k.decode y).isNaN = true) : k.format.order x y = none := by
  obtain ⟨s, t, hd⟩ := isNaN_form h
  have hd : k.format.read y = .nan s t := hd
  simp only [Ieee.Format.order, hd]
  cases k.format.read x <;> simp [Ieee.Datum.order]
/-- How two floats stand to each other. -/
def flO (k : FloatKind) (a b : Nat) : Option Ordering := k.format.order a b
theorem or_canon (k : FloatKind) (x y : Nat) : k.format.order x y = flO k (canon k x) (canon k y) := by
  unfold flO
  cases hx : (k.decode x).isNaN
  · cases hy : (k.decode y).isNaN
    · rw [canon_num hx, canon_num hy]
    · rw [or_nan_r hy, or_nan_r (by rw [dec_canon]; exact hy)]
  · rw [or_nan_l hx, or_nan_l (by rw [dec_canon]; exact hx)]

def binFlt (op : BinOp) (k : FloatKind) (a b : Nat) : Option (Prop × AV) :=
  match op with
  | .add => some (True, .dat (.flt k) (flB .add k a b))
  | .sub => some (True, .dat (.flt k) (flB .sub k a b))
  | .mul => some (True, .dat (.flt k) (flB .mul k a b))
  | .quo => some (True, .dat (.flt k) (flB .quo k a b))
  | .eql => some (True, .dat .bool (flO k a b == some .eq))
  | .neq => some (True, .dat .bool (flO k a b != some .eq))
  | .lss => some (True, .dat .bool (flO k a b == some .lt))
  | .leq => some (True, .dat .bool (flO k a b == some .lt || flO k a b == some .eq))
  | .gtr => some (True, .dat .bool (flO k a b == some .gt))
  | .geq => some (True, .dat .bool (flO k a b == some .gt || flO k a b == some .eq))
  | _ => none

theorem read_nan (f : Ieee.Format) (b : Nat) (h : f.infRung < b % f.signWeight) (hb : f.binade ≤ f.infRung) : (f.read b).isNaN = true := by
  unfold Ieee.Format.read
  simp only []
  rw [if_neg (by omega), if_neg (by omega), if_neg (by omega)]; rfl
theorem cut_nan (k : FloatKind) (q : Question) (hq : (∃ x y, q = .nanBits k x y) ∨ (∃ x, q = .nanConv k x)) (t : Nat) : (k.decode (q.cut t)).isNaN = true := by
  have key : ∀ t, (k.decode (Question.cut (.nanBits k 0 0) t)).isNaN = true := by
    intro t
    cases k
    · have h2 : t / 2 % (2 ^ 23 - 1) < 2 ^ 23 - 1 := Nat.mod_lt _ (by omega)
      have e1 : Ieee.single.signWeight = 2 ^ 31 := by decide
      have e2 : Ieee.single.infRung = 2139095040 := by decide
      have e3 : Ieee.single.binade = 8388608 := by decide
      have e4 : (Question.nanBits .f32 0 0).cut t = (t % 2) * 2 ^ 31 + 2139095040 + 1 + (t / 2) % (2 ^ 23 - 1) := rfl
      rw [e4]
      rcases Nat.mod_two_eq_zero_or_one t with h | h <;> rw [h] <;>
      exact read_nan Ieee.single _ (by rw [e1, e2]; omega) (by rw [e2, e3]; omega)
    · have h2 : t / 2 % (2 ^ 52 - 1) < 2 ^ 52 - 1 := Nat.mod_lt _ (by omega)
      have e1 : Ieee.double.signWeight = 2 ^ 63 := by decide
      have e2 : Ieee.double.infRung = 9218868437227405312 := by decide
      have e3 : Ieee.double.binade = 4503599627370496 := by decide
      have e4 : (Question.nanBits .f64 0 0).cut t = (t % 2) * 2 ^ 63 + 9218868437227405312 + 1 + (t / 2) % (2 ^ 52 - 1) := rfl
      rw [e4]
      rcases Nat.mod_two_eq_zero_or_one t with h | h <;> rw [h] <;>
      exact read_nan Ieee.double _ (by rw [e1, e2]; omega) (by rw [e2, e3]; omega)
  have hk := key t
  rcases hq with ⟨x, y, rfl⟩ | ⟨x, rfl⟩ <;> cases k <;> exact hk

section
variable {P : Program} {L : List Nat} {β : Nat → Nat} {Y : Nat → Prop} {w : World}

theorem gives_flt {k : FloatKind} {s : Sem Value} {r x : Nat} (h : s.run P w = .ok (.float k r) w) (hr : canon k r = x) : Gives P w s (relV L β Y w (.dat (.flt k) x)) :=
  Gives.same h (by simp only [relV, relT]; exact ⟨r, rfl, hr⟩)

theorem gives_arith {op : BinOp} {k : FloatKind} {T : TypeId} {a b : Nat} (hop : op = .add ∨ op = .sub ∨ op = .mul ∨ op = .quo) :
    Gives P w (binOp op T (.float k a) (.float k b)) (relV L β Y w (.dat (.flt k) (flB op k (canon k a) (canon k b)))) := by
  unfold flB
  rw [fb_canon]
  cases h : floatBits op k a b with
  | some r => exact gives_flt (run_float_arith w op T k a b r h) rfl
  | none =>
    refine ⟨.float k ((Question.nanBits k a b).cut (w.tape w.drawn (.nanBits k a b))), w.drew, ?_, Ext.drew w, ?_⟩
    · have hc : (choose (.nanBits k a b)).run P w = .ok ((Question.nanBits k a b).cut (w.tape w.drawn (.nanBits k a b))) w.drew := by
        rw [run_choose_drew]; rfl
      unfold floatBits at h
      rcases hop with rfl | rfl | rfl | rfl <;> simp only at h <;> simp [binOp, Op.floatArith, h, hc, -run_choose_drew, -run_choose]
    · simp only [relV, relT]
      exact ⟨_, rfl, canon_nan (cut_nan k _ (.inl ⟨a, b, rfl⟩) _)⟩

theorem gives_binFlt {op : BinOp} {T : TypeId} {x y : Operand} {k : FloatKind} {a b : Nat} {ob : Prop} {r : AV} (he : binFlt op k (canon k a) (canon k b) = some (ob, r)) (hob : ob) :
    Gives P w (do eqGuard op T x y (.float k a) (.float k b); binOp op T (.float k a) (.float k b)) (relV L β Y w r) := by
  have har : ∀ op, (op = .add ∨ op = .sub ∨ op = .mul ∨ op = .quo) → Gives P w (do eqGuard op T x y (.float k a) (.float k b); binOp op T (.float k a) (.float k b)) (relV L β Y w (.dat (.flt k) (flB op k (canon k a) (canon k b)))) := by
    intro op hop
    obtain ⟨v, w', h1, h2, h3⟩ := gives_arith (P := P) (L := L) (β := β) (Y := Y) (w := w) (T := T) (a := a) (b := b) (k := k) hop
    refine ⟨v, w', ?_, h2, h3⟩
    rcases hop with rfl | rfl | rfl | rfl <;> simp [eqGuard, h1]
  have hO := or_canon k a b
  cases op <;> simp only [binFlt, Option.some.injEq, Prod.mk.injEq, reduceCtorEq] at he <;> (try exact he.elim) <;> obtain ⟨hob', hr⟩ := he <;> subst hob' <;> subst hr
  · exact har .add (by simp)
  · exact har .sub (by simp)
  · exact har .mul (by simp)
  · exact har .quo (by simp)
  all_goals
    apply Gives.same (v := Value.bool _)
    rotate_left
    · simp only [relV, relT]; rfl
    · simp [eqGuard, binOp, Op.floatCmp, hO, bne]

/-! ### Conversions -/
theorem read32 (b : Nat) : (∃ s t, Ieee.single.read b = .nan s t) ∨ (∃ s, Ieee.single.read b = .infinity s) ∨ ∃ s m e, Ieee.single.read b = .number s m e ∧ m < 2 ^ 24 ∧ -149 ≤ e ∧ e ≤ 104 := by
  unfold Ieee.Format.read
  have hsw : Ieee.single.signWeight = 2 ^ 31 := by decide
  have hb : Ieee.single.binade = 2 ^ 23 := by decide
  have hi : Ieee.single.infRung = 255 * 2 ^ 23 := by decide
  have hl : Ieee.single.leastPlace = -149 := by decide
  simp only [hsw, hb, hi, hl]
  split
  · rename_i h
    exact .inr (.inr ⟨_, _, _, rfl, by omega, by omega, by omega⟩)
  · split
    · rename_i h1 h2
      exact .inr (.inr ⟨_, _, _, rfl, by omega, by omega, by omega⟩)
    · split
      · exact .inr (.inl ⟨_, rfl⟩)
      · exact .inl ⟨_, _, rfl⟩

theorem cut_zero (s : Bool) (n : Nat) : Ieee.Toward.even.cut s n 0 = n := by
  simp [Ieee.Toward.cut, Nat.mod_one]

theorem write_f (f : Ieee.Format) (hl : f.leastPlace = -1074) (hf : f.fractionBits = 52) (B : Nat) (hB : B = 2 ^ 52) (hb : f.binade = B) (hi : f.infRung = 2047 * B) (s : Bool) (m : Nat) (e : Int)
    (hm : m < 2 ^ 24) (h1 : -149 ≤ e) (h2 : e ≤ 104) : ∃ g, f.write (.number s m e) = f.word s g ∧ g < 2047 * B := by
  show ∃ g, f.nearest s m e = _ ∧ _
  unfold Ieee.Format.nearest
  by_cases hz : m = 0
  · rw [if_pos hz]
    have : 0 < 2 ^ 52 := Nat.two_pow_pos _
    exact ⟨0, rfl, by omega⟩
  · rw [if_neg hz]
    simp only [hl, hf, hi, hb]
    refine ⟨_, rfl, ?_⟩
    have hlog : m.log2 < 24 := (Nat.log2_lt hz).2 hm
    have hlt : m < 2 ^ (m.log2 + 1) := Nat.lt_log2_self
    rw [show (max (e + ↑m.log2 - ↑(52 : Nat)) (-1074) - e).toNat = 0 by omega, cut_zero, Nat.shiftLeft_eq]
    generalize hL : max (e + (m.log2 : Int) - ((52 : Nat) : Int)) (-1074) = last
    have hp : m * 2 ^ (e - last).toNat < 2 * B := by
      have : m * 2 ^ (e - last).toNat < 2 ^ (m.log2 + 1) * 2 ^ (e - last).toNat := Nat.mul_lt_mul_of_pos_right hlt (Nat.two_pow_pos _)
      rw [← Nat.pow_add] at this
      have h3 : 2 ^ (m.log2 + 1 + (e - last).toNat) ≤ 2 ^ (52 + 1) := Nat.pow_le_pow_right (by omega) (by omega)
      rw [Nat.pow_succ 2 52, ← hB] at h3
      omega
    have hq : (last - -1074).toNat ≤ 1149 := by omega
    have : (last - -1074).toNat * B ≤ 1149 * B := Nat.mul_le_mul_right _ hq
    omega
theorem read_f (f : Ieee.Format) (B : Nat) (hi : f.infRung = 2047 * B) (s : Bool) (g : Nat) (hg : g < 2047 * B) (hs : 2047 * B < f.signWeight) : (f.read (f.word s g)).isInfinity = false ∧ (f.read (f.word s g)).isNaN = false := by
  have hr : f.word s g % f.signWeight = g := by
    unfold Ieee.Format.word
    split
    · rw [Nat.add_mod_left]; exact Nat.mod_eq_of_lt (by omega)
    · exact Nat.mod_eq_of_lt (by omega)
  unfold Ieee.Format.read
  simp only [hr, hi]
  split
  · exact ⟨rfl, rfl⟩
  · exact ⟨rfl, rfl⟩
theorem read_inf (f : Ieee.Format) (s : Bool) (hle : f.binade ≤ f.infRung) : f.read (f.word s f.infRung) = .infinity s := by
  have h := f.infRung_lt
  have h0 : 0 < f.signWeight := Nat.two_pow_pos _
  have hb : 0 < f.binade := Nat.two_pow_pos _
  have hr : f.word s f.infRung % f.signWeight = f.infRung := by
    unfold Ieee.Format.word
    split
    · rw [Nat.add_mod_left]; exact Nat.mod_eq_of_lt h
    · exact Nat.mod_eq_of_lt h
  have hq : (f.word s f.infRung / f.signWeight % 2 == 1) = s := by
    unfold Ieee.Format.word
    cases s
    · simp [Nat.div_eq_of_lt h]
    · have : (f.signWeight + f.infRung) / f.signWeight = 1 := by rw [Nat.add_div_left _ h0, Nat.div_eq_of_lt h]
      simp [this]
  unfold Ieee.Format.read
  simp only [hr, hq]
  rw [if_neg (by omega), if_neg (by omega)]; exact if_pos trivial
theorem write64 (s : Bool) (m : Nat) (e : Int) (hm : m < 2 ^ 24) (h1 : -149 ≤ e) (h2 : e ≤ 104) : ((Ieee.double.read (Ieee.double.write (.number s m e))).isInfinity) = false ∧ ((Ieee.double.read (Ieee.double.write (.number s m e))).isNaN) = false := by
  obtain ⟨g, hw, hg⟩ := write_f Ieee.double (by decide) (by decide) 4503599627370496 (by decide) (by decide) (by decide) s m e hm h1 h2
  have := read_f Ieee.double 4503599627370496 (by decide) s g hg (by decide)
  rwa [← hw] at this

/-- float64 of a float32. -/
def flW (a : Nat) : Nat := if (FloatKind.f32.decode a).isNaN then flN .f64 else FloatKind.f64.encode (FloatKind.f32.decode a)
theorem flW_nan {a : Nat} (h : (FloatKind.f32.decode a).isNaN = true) : flW a = flN .f64 := by unfold flW; rw [h]; exact if_pos rfl
theorem flW_num {a : Nat} (h : (FloatKind.f32.decode a).isNaN = false) : flW a = FloatKind.f64.encode (FloatKind.f32.decode a) := by unfold flW; rw [h]; exact if_neg (by simp)
theorem inf64 (s : Bool) : (FloatKind.f64.decode (FloatKind.f64.encode (.infinity s))).isNaN = false := by
  show (Ieee.double.read (Ieee.double.word s Ieee.double.infRung)).isNaN = false
  rw [read_inf Ieee.double s (by decide)]; rfl
theorem wide_nan {src dst : TypeId} {d : TypeDesc} (hs : P.underlying src = some d) (hd : P.underlying dst = some (.float .f64)) (b : Nat) (s : Bool) (t : Nat) (hh : FloatKind.f32.decode b = .nan s t) :
    Gives P w (convert src dst (.float .f32 b)) (relV L β Y w (.dat (.flt .f64) (flW (canon .f32 b)))) := by
  have hn : (FloatKind.f32.decode b).isNaN = true := by rw [hh]; rfl
  have hc : (choose (.nanConv .f64 b)).run P w = .ok ((Question.nanConv .f64 b).cut (w.tape w.drawn (.nanConv .f64 b))) w.drew := by
    rw [run_choose_drew]; exact if_neg (by simp [Question.forced])
  have hcut := cut_nan .f64 (.nanConv .f64 b) (.inr ⟨b, rfl⟩) (w.tape w.drawn (.nanConv .f64 b))
  generalize (Question.nanConv .f64 b).cut (w.tape w.drawn (.nanConv .f64 b)) = c at hc hcut
  refine ⟨.float .f64 c, w.drew, ?_, Ext.drew w, ?_⟩
  · cases d <;> simp [convert, run_und hs, run_und hd, Conv.floatToFloat, hh, hc, -run_choose_drew, -run_choose]
  · simp only [relV, relT]
    exact ⟨_, rfl, by rw [canon_nan hcut, flW_nan (by rw [dec_canon]; exact hn)]⟩
theorem wide_inf {src dst : TypeId} {d : TypeDesc} (hs : P.underlying src = some d) (hd : P.underlying dst = some (.float .f64)) (b : Nat) (s : Bool) (hh : FloatKind.f32.decode b = .infinity s) :
    Gives P w (convert src dst (.float .f32 b)) (relV L β Y w (.dat (.flt .f64) (flW (canon .f32 b)))) := by
  have hss : (P.underlying src).isSome = true := by rw [hs]; rfl
  have hn : (FloatKind.f32.decode b).isNaN = false := by rw [hh]; rfl
  have hb : floatToFloatBits .f32 b .f64 = some (FloatKind.f64.encode (.infinity s)) := by unfold floatToFloatBits; rw [if_neg (by simp), hh]
  rw [canon_num hn, flW_num hn, hh]
  exact gives_flt (run_convert_float_float w src dst .f32 .f64 b _ hss hd hb) (canon_num (inf64 s))
theorem wide_num {src dst : TypeId} {d : TypeDesc} (hs : P.underlying src = some d) (hd : P.underlying dst = some (.float .f64)) (b : Nat) (s : Bool) (m : Nat) (e : Int) (hh : FloatKind.f32.decode b = .number s m e)
    (hi : (FloatKind.f64.decode (FloatKind.f64.encode (.number s m e))).isInfinity = false) (hq : (FloatKind.f64.decode (FloatKind.f64.encode (.number s m e))).isNaN = false) :
    Gives P w (convert src dst (.float .f32 b)) (relV L β Y w (.dat (.flt .f64) (flW (canon .f32 b)))) := by
  have hss : (P.underlying src).isSome = true := by rw [hs]; rfl
  have hn : (FloatKind.f32.decode b).isNaN = false := by rw [hh]; rfl
  have hb : floatToFloatBits .f32 b .f64 = some (FloatKind.f64.encode (.number s m e)) := by unfold floatToFloatBits; rw [if_neg (by simp), hh]; simp only []; rw [hi]; exact if_neg (by simp)
  rw [canon_num hn, flW_num hn, hh]
  exact gives_flt (run_convert_float_float w src dst .f32 .f64 b _ hss hd hb) (canon_num hq)
theorem gives_wide {src dst : TypeId} {d : TypeDesc} (hs : P.underlying src = some d) (hd : P.underlying dst = some (.float .f64)) (b : Nat) :
    Gives P w (convert src dst (.float .f32 b)) (relV L β Y w (.dat (.flt .f64) (flW (canon .f32 b)))) := by
  rcases read32 b with ⟨s, t, h⟩ | ⟨s, h⟩ | ⟨s, m, e, h, h1, h2, h3⟩
  · exact wide_nan hs hd b s t h
  · exact wide_inf hs hd b s h
  · have hw := write64 s m e h1 h2 h3
    exact wide_num hs hd b s m e h hw.1 hw.2
theorem gives_itof {src dst : TypeId} {d : TypeDesc} {k : FloatKind} {q : IntKind} (hs : P.underlying src = some d) (hd : P.underlying dst = some (.float k)) (n : Int) :
    Gives P w (convert src dst (.int q n)) (relV L β Y w (.dat (.flt k) (canon k (floatOfInt k n)))) :=
  gives_flt (run_convert_int_float w src dst q k n (by rw [hs]; rfl) hd) rfl
end
end Go.Proofs.Avx

set_option linter.unusedVariables false
set_option linter.unusedSimpArgs false
namespace Go.Proofs.Avx

/-! ### Memory is read -/
def isAggD : TD → Bool
  | .struct _ => true
  | .arr _ _ => true
  | _ => false
def isOther : TD → Bool
  | .other => true
  | _ => false

def packC (ti : TI) (cs : List AV) : Option AV :=
  if isOther ti.d then none
  else if isAggD ti.d then (if ti.size ≤ cs.length then some (.agg (cs.take ti.size)) else none)
  else cs.head?

def evLoad (Γ : List (TypeId × TI)) (bx : List (Nat × List AV)) (T : TypeId) (p : AV) : Option (Prop × AV) :=
  match Tab.get Γ T with
  | none => none
  | some ti =>
    match p with
    | .rptr cs => (packC ti cs).map fun v => (True, v)
    | .ptr b o => match getB bx b with
      | some cs => (packC ti (cs.drop o)).map fun v => (True, v)
      | none => none
    | .optr p e t l i o => (packC ti ((enc t (l.getD i t.z)).drop o)).map fun v => (i < l.length, v)
    | _ => none

section
variable {P : Program} {L : List Nat} {β : Nat → Nat} {Y : Nat → Prop} {w : World}

theorem add_spot (g o j : Nat) : (⟨g, o, none⟩ : Addr).add j = ⟨g, o + j, none⟩ := by unfold Addr.add; split <;> simp_all

theorem run_isAgg_of {T : TypeId} {ti : TI} (h : okTI P T ti) (ho : isOther ti.d = false) : (isAgg T).run P w = .ok (isAggD ti.d) w := by
  have hd := h.d
  unfold isAgg
  cases hti : ti.d <;> rw [hti] at hd ho <;> simp only [okD] at hd <;> first
    | (simp [run_und hd, isAggD]; done)
    | (obtain ⟨_, h1, _⟩ := hd; simp [run_und h1, isAggD]; done)
    | (obtain ⟨_, _, _, h1⟩ := hd; simp [run_und h1, isAggD]; done)
    | (simp [isOther] at ho)

theorem okTI.get {T : TypeId} {ti : TI} (h : okTI P T ti) : ∃ i, P.info? T = some i ∧ i.size = ti.size ∧ i.bytes = ti.bytes ∧ i.zero = some ti.z := by
  obtain ⟨i, hi, he⟩ := Option.map_eq_some_iff.1 h.info
  simp only [Prod.mk.injEq] at he
  exact ⟨i, hi, he.1, he.2.1, he.2.2⟩

theorem run_sizeOf_of {T : TypeId} {ti : TI} (h : okTI P T ti) : (sizeOf T).run P w = .ok ti.size w := by
  obtain ⟨i, hi, hs, _⟩ := h.get
  simp [sizeOf, typeInfo, hi, hs]
theorem run_zero_of {T : TypeId} {ti : TI} (h : okTI P T ti) : (zeroValue T).run P w = .ok ti.z w := by
  obtain ⟨i, hi, _, _, hz⟩ := h.get
  simp [zeroValue, typeInfo, hi, hz]

theorem same_loadAt {T : TypeId} {ti : TI} (h : okTI P T ti) {cs : List AV} {xs : List Value} {g o : Nat} {r : AV} (hr : relVs L β Y w cs xs) (hc : ∀ j u, xs[j]? = some u → w.cell? ⟨g, o + j, none⟩ = some u)
    (he : packC ti cs = some r) : Same P w (Instr.loadAt T (.pointer (some ⟨g, o, none⟩))) (relV L β Y w r) := by
  unfold packC at he
  split at he
  · simp at he
  · rename_i ho
    have ho : isOther ti.d = false := by simpa using ho
    have hrun : ∀ {v : Value}, (loadVar T ⟨g, o, none⟩).run P w = .ok v w → (Instr.loadAt T (.pointer (some ⟨g, o, none⟩))).run P w = .ok v w := by
      intro v hv; simp [Instr.loadAt, Instr.sureAddr, hv]
    split at he
    · rename_i hagg
      split at he
      · rename_i hlen
        simp only [Option.some.injEq] at he
        subst he
        have hx := relVs_length hr
        have hl : (loadCells ⟨g, o, none⟩ ti.size).run P w = .ok (xs.take ti.size).toArray w := by
          have := run_loadCells_list (P := P) (w := w) ⟨g, o, none⟩ (xs.take ti.size) (fun j v hv => by
            rw [add_spot]; exact hc j v (by rw [List.getElem?_take] at hv; split at hv <;> simp_all))
          rwa [List.length_take, Nat.min_eq_left (by omega)] at this
        refine Same.mk' (v := .agg (xs.take ti.size).toArray) (hrun (by simp [loadVar, run_isAgg_of h ho, hagg, run_sizeOf_of h, hl])) ?_
        simp only [relV]
        exact ⟨_, rfl, relVs_take _ hr⟩
      · simp at he
    · rename_i hagg
      cases cs with
      | nil => simp at he
      | cons c cs =>
        simp only [List.head?_cons, Option.some.injEq] at he
        subst he
        simp only [relVs] at hr
        obtain ⟨v, d, rfl, h1, _⟩ := hr
        have h0 : w.cell? ⟨g, o, none⟩ = some v := by simpa using hc 0 v (by simp)
        refine Same.mk' (v := v) (hrun (by simp [loadVar, run_isAgg_of h ho, hagg, h0])) h1

theorem same_load {Γ : List (TypeId × TI)} (hΓ : okTab P Γ) {bx : List (Nat × List AV)} (hb : ∀ b cs, getB bx b = some cs → BoxAt L β Y w b cs) {T : TypeId} {p : AV} {v : Value} {ob : Prop} {r : AV} (hv : relV L β Y w p v)
    (he : evLoad Γ bx T p = some (ob, r)) (hob : ob) : Same P w (Instr.loadAt T v) (relV L β Y w r) := by
  unfold evLoad at he
  split at he
  · simp at he
  · rename_i ti hT
    have hti := hΓ.get hT
    split at he
    · rename_i cs
      obtain ⟨x, hx, he⟩ := Option.map_eq_some_iff.1 he
      simp only [Prod.mk.injEq] at he; obtain ⟨rfl, rfl⟩ := he
      simp only [relV] at hv
      obtain ⟨g, o, xs, rfl, _, h1, h2⟩ := hv
      exact same_loadAt hti h1 h2 hx
    · rename_i b o
      split at he
      · rename_i cs hbx
        obtain ⟨x, hx, he⟩ := Option.map_eq_some_iff.1 he
        simp only [Prod.mk.injEq] at he; obtain ⟨rfl, rfl⟩ := he
        simp only [relV] at hv
        obtain ⟨_, rfl⟩ := hv
        obtain ⟨_, T', cur, h1, h2⟩ := hb b cs hbx
        refine same_loadAt hti (relVs_drop o h2) (fun j u hu => ?_) hx
        rw [List.getElem?_drop] at hu
        simp only [World.cell?, h1]
        simpa using hu
      · simp at he
    · rename_i p e t l i o
      obtain ⟨x, hx, he⟩ := Option.map_eq_some_iff.1 he
      simp only [Prod.mk.injEq] at he; obtain ⟨rfl, rfl⟩ := he
      simp only [relV] at hv
      obtain ⟨_, ⟨c, xs, h1, h2, h3⟩, rfl⟩ := hv
      obtain ⟨es, h4, h5⟩ := relL_at l xs i h3 hob
      have hes := relT_length t _ es h4
      refine same_loadAt hti (relVs_drop o (relVs_enc t _ es h4)) (fun j u hu => ?_) hx
      rw [List.getElem?_drop] at hu
      have hlt : o + j < es.length := (List.getElem?_eq_some_iff.1 hu).1
      have := h1.cells h2 (i * t.size + (o + j)) u (by rw [h5 _ (by omega)]; exact hu)
      rw [add_spot] at this
      simpa [Nat.add_assoc] using this
    · simp at he

theorem gives_load {Γ : List (TypeId × TI)} (hΓ : okTab P Γ) {bx : List (Nat × List AV)} (hb : ∀ b cs, getB bx b = some cs → BoxAt L β Y w b cs) {T : TypeId} {p : AV} {v : Value} {ob : Prop} {r : AV} (hv : relV L β Y w p v)
    (he : evLoad Γ bx T p = some (ob, r)) (hob : ob) : Gives P w (Instr.loadAt T v) (relV L β Y w r) := (same_load hΓ hb hv he hob).gives

/-! ### Addresses -/
def evFieldAddr (Γ : List (TypeId × TI)) (T : TypeId) (f : Nat) (p : AV) : Option (Prop × AV) :=
  match Tab.get Γ T with
  | some { d := .struct fs, .. } =>
    match fs[f]? with
    | some (F, off) =>
      match Tab.get Γ F with
      | some ti =>
        if ti.size = 0 then none else
        match p with
        | .rptr cs => some (True, .rptr (cs.drop off))
        | .ptr b o => some (True, .ptr b (o + off))
        | .optr p e t l i o => some (True, .optr p e t l i (o + off))
        | _ => none
      | none => none
    | none => none
  | _ => none

theorem gives_fieldAddr {Γ : List (TypeId × TI)} (hΓ : okTab P Γ) {T : TypeId} {f : Nat} {p : AV} {v : Value} {ob : Prop} {r : AV} (hv : relV L β Y w p v)
    (he : evFieldAddr Γ T f p = some (ob, r)) (hob : ob) : Gives P w (Instr.fieldAt T v f) (relV L β Y w r) := by
  unfold evFieldAddr at he
  split at he
  · rename_i fs sz by' z hT
    obtain ⟨fields, hu, hf⟩ := (hΓ.get hT).d
    split at he
    · rename_i F off hfo
      split at he
      · rename_i ti hF
        split at he
        · simp at he
        · rename_i hsz
          have hfld : ∃ fl, fields[f]? = some fl ∧ fl.type = F ∧ fl.offset = off := by
            rw [← hf] at hfo
            simp only [List.getElem?_map, Option.map_eq_some_iff, Prod.mk.injEq] at hfo
            obtain ⟨fl, h1, h2, h3⟩ := hfo
            exact ⟨fl, by simpa using h1, h2, h3⟩
          obtain ⟨fl, hfl, rfl, rfl⟩ := hfld
          have hrun : ∀ a : Addr, (Instr.fieldAt T (.pointer (some a)) f).run P w = .ok (.pointer (some (a.add fl.offset))) w := by
            intro a
            simp [Instr.fieldAt, run_und hu, hfl, Instr.sureAddr, fieldPlace, run_sizeOf_of (hΓ.get hF), hsz]
          split at he <;> simp only [Option.some.injEq, Prod.mk.injEq, reduceCtorEq] at he
          · obtain ⟨rfl, rfl⟩ := he
            simp only [relV] at hv
            obtain ⟨g, o, xs, rfl, hY, h1, h2⟩ := hv
            refine Gives.same (hrun _) ?_
            rw [add_spot]
            simp only [relV]
            refine ⟨g, o + fl.offset, xs.drop fl.offset, rfl, hY, relVs_drop _ h1, fun j u hu => ?_⟩
            rw [List.getElem?_drop] at hu
            have := h2 _ u hu
            simpa [Nat.add_assoc] using this
          · obtain ⟨rfl, rfl⟩ := he
            simp only [relV] at hv
            obtain ⟨hb, rfl⟩ := hv
            refine Gives.same (hrun _) ?_
            rw [add_spot]
            simp only [relV]
            exact ⟨hb, trivial⟩
          · obtain ⟨rfl, rfl⟩ := he
            simp only [relV] at hv
            obtain ⟨hb, h1, rfl⟩ := hv
            refine Gives.same (hrun _) ?_
            rw [add_spot]
            simp only [relV]
            exact ⟨hb, h1, by rw [Nat.add_assoc]⟩
      · simp at he
    · simp at he
  · simp at he
end
end Go.Proofs.Avx

set_option linter.unusedVariables false
set_option linter.unusedSimpArgs false
namespace Go.Proofs.Avx

/-! ### Indexes, fields, parts -/
def InR (n : Int) (len : Nat) : Prop := 0 ≤ n ∧ n < (len : Int)

def evIndexAddr (Γ : List (TypeId × TI)) (T : TypeId) (x i : AV) : Option (Prop × AV) :=
  match Tab.get Γ T with
  | some { d := .sl e, .. } =>
    match Tab.get Γ e, i with
    | some ei, .dat (.int _) n =>
      match x with
      | .dat (.sl t) l => if ei.size = t.size ∧ t.size ≠ 0 then some (InR n l.length, .rptr (enc t (l.getD n.toNat t.z))) else none
      | .own p e' t l => if ei.size = t.size ∧ t.size ≠ 0 then some (InR n l.length, .optr p e' t l n.toNat 0) else none
      | _ => none
    | _, _ => none
  | some { d := .arr len e, .. } =>
    match Tab.get Γ e, i with
    | some ei, .dat (.int _) n =>
      match x with
      | .ptr b o => some (InR n len, .ptr b (o + n.toNat * ei.size))
      | .rptr cs => some (InR n len, .rptr (cs.drop (n.toNat * ei.size)))
      | _ => none
    | _, _ => none
  | _ => none

section
variable {P : Program} {L : List Nat} {β : Nat → Nat} {Y : Nat → Prop} {w : World}

theorem own_cell_form {b e sz n : Nat} {v : Value} {xs : List Value} {g : Nat} (h : w.ownsRow b e sz v n xs) (hg : v.ownBlock = some g) : ∃ cap, v = .slice (some ⟨g, 0, none⟩) n cap ∧ n ≤ cap := by
  rcases h.2 with ⟨rfl, _⟩ | ⟨g', cap, cur, rfl, _, _, hc, _⟩
  · simp [Value.ownBlock] at hg
  · have : g' = g := by simpa [Value.ownBlock] using hg
    subst this
    exact ⟨cap, rfl, hc⟩

theorem gives_indexAddr {Γ : List (TypeId × TI)} (hΓ : okTab P Γ) {T : TypeId} {x i : AV} {vx vi : Value} {ob : Prop} {r : AV} (hx : relV L β Y w x vx) (hi : relV L β Y w i vi)
    (he : evIndexAddr Γ T x i = some (ob, r)) (hob : ob) : Gives P w (Instr.indexAt T vx vi) (relV L β Y w r) := by
  unfold evIndexAddr at he
  split at he
  · rename_i e sz by' z hT
    have hu : P.underlying T = some (.slice e) := (hΓ.get hT).d
    split at he
    · rename_i ei k n hE
      have hei := hΓ.get hE
      simp only [relV, relT, List.cons.injEq, and_true] at hi
      subst hi
      split at he
      · rename_i t l
        split at he
        · rename_i hsz
          simp only [Option.some.injEq, Prod.mk.injEq] at he
          obtain ⟨rfl, rfl⟩ := he
          simp only [relV, relT] at hx
          obtain ⟨A, cap, xs, hvx, hcap, hl, hm⟩ := hx
          simp only [List.cons.injEq, and_true] at hvx
          subst hvx
          have hn : n.toNat < l.length := by have := hob.1; have := hob.2; omega
          obtain ⟨es, h4, h5⟩ := relL_at l xs n.toNat hl hn
          have hes := relT_length t _ es h4
          have hxl := relL_length l xs hl
          have hpos : 0 < xs.length := by rw [hxl]; exact Nat.mul_pos (by omega) (by omega)
          rcases hm with rfl | ⟨g, o, rfl, hY, hc⟩
          · simp at hpos
          · refine Gives.same (v := .pointer (some ⟨g, o + n.toNat * t.size, none⟩)) ?_ ?_
            · simp [Instr.indexAt, asIntOf, run_und hu, hob.1, hob.2, run_sizeOf_of hei, hsz.1, add_spot]
            · simp only [relV]
              refine ⟨g, _, es, rfl, hY, relVs_enc t _ es h4, fun j u hu' => ?_⟩
              have hj : j < es.length := (List.getElem?_eq_some_iff.1 hu').1
              have := hc (n.toNat * t.size + j) u (by rw [h5 j (by omega)]; exact hu')
              simpa [Nat.add_assoc] using this
        · simp at he
      · rename_i p e' t l
        split at he
        · rename_i hsz
          simp only [Option.some.injEq, Prod.mk.injEq] at he
          obtain ⟨rfl, rfl⟩ := he
          simp only [relV] at hx
          obtain ⟨hp, xs, h1, h2, h3⟩ := hx
          obtain ⟨cap, rfl, _⟩ := own_cell_form h1 h2
          refine Gives.same (v := .pointer (some ⟨β p, n.toNat * t.size + 0, none⟩)) ?_ ?_
          · simp [Instr.indexAt, asIntOf, run_und hu, hob.1, hob.2, run_sizeOf_of hei, hsz.1, add_spot]
          · simp only [relV]
            exact ⟨hp, ⟨_, xs, h1, h2, h3⟩, trivial⟩
        · simp at he
      · simp at he
    · simp at he
  · rename_i len e sz by' z hT
    have hu : P.underlying T = some (.array len e) := (hΓ.get hT).d
    split at he
    · rename_i ei k n hE
      have hei := hΓ.get hE
      simp only [relV, relT, List.cons.injEq, and_true] at hi
      subst hi
      split at he
      · rename_i b o
        simp only [Option.some.injEq, Prod.mk.injEq] at he
        obtain ⟨rfl, rfl⟩ := he
        simp only [relV] at hx
        obtain ⟨hp, rfl⟩ := hx
        refine Gives.same (v := .pointer (some ⟨β b, o + n.toNat * ei.size, none⟩)) ?_ ?_
        · simp [Instr.indexAt, asIntOf, run_und hu, Instr.sureAddr, hob.1, hob.2, run_sizeOf_of hei, add_spot]
        · simp only [relV]; exact ⟨hp, trivial⟩
      · rename_i cs
        simp only [Option.some.injEq, Prod.mk.injEq] at he
        obtain ⟨rfl, rfl⟩ := he
        simp only [relV] at hx
        obtain ⟨g, o, xs, rfl, hY, h1, h2⟩ := hx
        refine Gives.same (v := .pointer (some ⟨g, o + n.toNat * ei.size, none⟩)) ?_ ?_
        · simp [Instr.indexAt, asIntOf, run_und hu, Instr.sureAddr, hob.1, hob.2, run_sizeOf_of hei, add_spot]
        · simp only [relV]
          refine ⟨g, _, xs.drop (n.toNat * ei.size), rfl, hY, relVs_drop _ h1, fun j u hj => ?_⟩
          rw [List.getElem?_drop] at hj
          have := h2 _ u hj
          simpa [Nat.add_assoc] using this
      · simp at he
    · simp at he
  · simp at he

def partC (ti : TI) (cs : List AV) (off : Nat) : Option AV :=
  if isOther ti.d then none
  else if isAggD ti.d then (if off + ti.size ≤ cs.length then some (.agg ((cs.drop off).take ti.size)) else none)
  else (if off < cs.length then some (cs.getD off .any) else none)

theorem gives_part {T : TypeId} {ti : TI} (h : okTI P T ti) {cs : List AV} {xs : List Value} {off : Nat} {r : AV} (hr : relVs L β Y w cs xs) (he : partC ti cs off = some r) :
    Gives P w (part T xs.toArray off) (relV L β Y w r) := by
  unfold partC at he
  have hx := relVs_length hr
  split at he
  · simp at he
  · rename_i ho
    have ho : isOther ti.d = false := by simpa using ho
    split at he
    · rename_i hagg
      split at he
      · rename_i hlen
        simp only [Option.some.injEq] at he
        subst he
        refine Gives.same (v := .agg ((xs.drop off).take ti.size).toArray) ?_ ?_
        · simp [part, run_isAgg_of h ho, hagg, run_sizeOf_of h, List.take_drop]
        · simp only [relV]; exact ⟨_, rfl, relVs_take _ (relVs_drop _ hr)⟩
      · simp at he
    · rename_i hagg
      split at he
      · rename_i hlen
        simp only [Option.some.injEq] at he
        subst he
        obtain ⟨v, hv, hrv⟩ := relVs_get off hr hlen
        refine Gives.same (v := v) ?_ hrv
        simp [part, run_isAgg_of h ho, hagg, hv]
      · simp at he

def evField (Γ : List (TypeId × TI)) (T : TypeId) (f : Nat) (x : AV) : Option (Prop × AV) :=
  match Tab.get Γ T with
  | some { d := .struct fs, .. } =>
    match fs[f]? with
    | some (F, off) =>
      match Tab.get Γ F, x with
      | some ti, .agg cs => (partC ti cs off).map fun v => (True, v)
      | _, _ => none
    | none => none
  | _ => none

theorem gives_field {Γ : List (TypeId × TI)} (hΓ : okTab P Γ) {T : TypeId} {f : Nat} {x : AV} {vx : Value} {ob : Prop} {r : AV} (hx : relV L β Y w x vx)
    (he : evField Γ T f x = some (ob, r)) (hob : ob) : Gives P w (Instr.field T vx f) (relV L β Y w r) := by
  unfold evField at he
  split at he
  · rename_i fs sz by' z hT
    obtain ⟨fields, hu, hf⟩ := (hΓ.get hT).d
    split at he
    · rename_i F off hfo
      have hfld : ∃ fl, fields[f]? = some fl ∧ fl.type = F ∧ fl.offset = off := by
        rw [← hf] at hfo
        simp only [List.getElem?_map, Option.map_eq_some_iff, Prod.mk.injEq] at hfo
        obtain ⟨fl, h1, h2, h3⟩ := hfo
        exact ⟨fl, by simpa using h1, h2, h3⟩
      obtain ⟨fl, hfl, rfl, rfl⟩ := hfld
      split at he
      · rename_i ti cs hF
        obtain ⟨y, hy, he⟩ := Option.map_eq_some_iff.1 he
        simp only [Prod.mk.injEq] at he; obtain ⟨rfl, rfl⟩ := he
        simp only [relV] at hx
        obtain ⟨xs, rfl, h1⟩ := hx
        obtain ⟨v, w', h2, h3, h4⟩ := gives_part (hΓ.get hF) h1 hy
        refine ⟨v, w', ?_, h3, h4⟩
        simp [Instr.field, run_und hu, hfl, asAgg, h2]
      · simp at he
    · simp at he
  · simp at he

def evIndex (Γ : List (TypeId × TI)) (T : TypeId) (x i : AV) : Option (Prop × AV) :=
  match Tab.get Γ T, i with
  | some { d := .str, .. }, .dat (.int _) n =>
    match x with
    | .dat .str s => some (InR n s.length, .dat (.int .u8) ((s.getD n.toNat 0).toNat : Int))
    | _ => none
  | some { d := .arr len e, .. }, .dat (.int _) n =>
    match Tab.get Γ e, x with
    | some ti, .agg cs => (partC ti cs (n.toNat * ti.size)).map fun v => (InR n len, v)
    | _, _ => none
  | _, _ => none

theorem ba_get (s : List UInt8) (k : Nat) : (⟨s.toArray⟩ : ByteArray)[k]? = s[k]? := by
  by_cases h : k < s.length
  · rw [List.getElem?_eq_getElem h, getElem?_pos _ _ (by simpa [ByteArray.size] using h)]; rfl
  · rw [List.getElem?_eq_none (by omega), getElem?_neg _ _ (by simpa [ByteArray.size] using h)]

theorem gives_index {Γ : List (TypeId × TI)} (hΓ : okTab P Γ) {T : TypeId} {x i : AV} {vx vi : Value} {ob : Prop} {r : AV} (hx : relV L β Y w x vx) (hi : relV L β Y w i vi)
    (he : evIndex Γ T x i = some (ob, r)) (hob : ob) : Gives P w (Instr.index T vx vi) (relV L β Y w r) := by
  unfold evIndex at he
  split at he
  · rename_i sz by' z k n hT
    have hu : P.underlying T = some .string := (hΓ.get hT).d
    simp only [relV, relT, List.cons.injEq, and_true] at hi
    subst hi
    split at he
    · rename_i s
      simp only [Option.some.injEq, Prod.mk.injEq] at he
      obtain ⟨rfl, rfl⟩ := he
      simp only [relV, relT, List.cons.injEq, and_true] at hx
      subst hx
      have hn : n.toNat < s.length := by have := hob.1; have := hob.2; omega
      refine Gives.same (v := .int .u8 ((s.getD n.toNat 0).toNat : Int)) ?_ (by simp [relV, relT])
      simp [Instr.index, asIntOf, run_und hu, hob.1, ba_get, List.getElem?_eq_getElem hn, List.getD_eq_getElem?_getD]
    · simp at he
  · rename_i len e sz by' z k n hT
    have hu : P.underlying T = some (.array len e) := (hΓ.get hT).d
    simp only [relV, relT, List.cons.injEq, and_true] at hi
    subst hi
    split at he
    · rename_i ti cs hE
      obtain ⟨y, hy, he⟩ := Option.map_eq_some_iff.1 he
      simp only [Prod.mk.injEq] at he; obtain ⟨rfl, rfl⟩ := he
      simp only [relV] at hx
      obtain ⟨xs, rfl, h1⟩ := hx
      obtain ⟨v, w', h2, h3, h4⟩ := gives_part (hΓ.get hE) h1 hy
      refine ⟨v, w', ?_, h3, h4⟩
      simp [Instr.index, asIntOf, run_und hu, hob.1, hob.2, run_sizeOf_of (hΓ.get hE), h2]
    · simp at he
  · simp at he

def evExtract (x : AV) (i : Nat) : Option (Prop × AV) :=
  match x with
  | .tup vs => if i < vs.length then some (True, vs.getD i .any) else none
  | _ => none

theorem gives_extract {x : AV} {vx : Value} {i : Nat} {ob : Prop} {r : AV} (hx : relV L β Y w x vx) (he : evExtract x i = some (ob, r)) (hob : ob) :
    Gives P w (Instr.extract vx i) (relV L β Y w r) := by
  unfold evExtract at he
  split at he
  · split at he
    · rename_i vs hlt
      simp only [Option.some.injEq, Prod.mk.injEq] at he
      obtain ⟨rfl, rfl⟩ := he
      simp only [relV] at hx
      obtain ⟨cs, rfl, h1⟩ := hx
      obtain ⟨v, hv, hr⟩ := relVs_get i h1 hlt
      exact Gives.same (v := v) (by simp [Instr.extract, hv]) hr
    · simp at he
  · simp at he

def evLen (Γ : List (TypeId × TI)) (T : TypeId) (x : AV) : Option (Prop × AV) :=
  match Tab.get Γ T with
  | some { d := .sl _, .. } =>
    match x with
    | .dat (.sl _) l => some (True, .dat (.int .i64) (l.length : Int))
    | .own _ _ _ l => some (True, .dat (.int .i64) (l.length : Int))
    | .nilsl => some (True, .dat (.int .i64) (0 : Int))
    | _ => none
  | some { d := .str, .. } =>
    match x with
    | .dat .str s => some (True, .dat (.int .i64) (s.length : Int))
    | _ => none
  | _ => none

theorem gives_len {Γ : List (TypeId × TI)} (hΓ : okTab P Γ) {T ty : TypeId} {ts : Array TypeId} (hts : ts[0]? = some T) {x : AV} {vx : Value} {ob : Prop} {r : AV} (hx : relV L β Y w x vx)
    (he : evLen Γ T x = some (ob, r)) (hob : ob) : Gives P w (Builtin.len_ ts ty #[vx]) (relV L β Y w r) := by
  unfold evLen at he
  split at he
  · rename_i e sz by' z hT
    have hu : P.underlying T = some (.slice e) := (hΓ.get hT).d
    split at he <;> simp only [Option.some.injEq, Prod.mk.injEq, reduceCtorEq] at he <;> obtain ⟨rfl, rfl⟩ := he
    · rename_i t l
      simp only [relV, relT] at hx
      obtain ⟨A, cap, xs, hvx, _⟩ := hx
      simp only [List.cons.injEq, and_true] at hvx
      subst hvx
      exact Gives.same (v := .int .i64 l.length) (by simp [Builtin.len_, hts, run_und hu, goInt]) (by simp [relV, relT])
    · rename_i p e t l
      simp only [relV] at hx
      obtain ⟨_, xs, h1, h2, _⟩ := hx
      obtain ⟨cap, rfl, _⟩ := own_cell_form h1 h2
      exact Gives.same (v := .int .i64 l.length) (by simp [Builtin.len_, hts, run_und hu, goInt]) (by simp [relV, relT])
    · simp only [relV] at hx
      subst hx
      exact Gives.same (v := .int .i64 0) (by simp [Builtin.len_, hts, run_und hu, goInt]) (by simp [relV, relT])
  · rename_i sz by' z hT
    have hu : P.underlying T = some .string := (hΓ.get hT).d
    split at he <;> simp only [Option.some.injEq, Prod.mk.injEq, reduceCtorEq] at he
    obtain ⟨rfl, rfl⟩ := he
    rename_i s
    simp only [relV, relT, List.cons.injEq, and_true] at hx
    subst hx
    exact Gives.same (v := .int .i64 s.length) (by simp [Builtin.len_, hts, run_und hu, goInt, ba_size]) (by simp [relV, relT])
  · simp at he
end
end Go.Proofs.Avx

set_option linter.unusedVariables false
set_option linter.unusedSimpArgs false
namespace Go.Proofs.Avx

/-! ### Slicing -/
def optI (d : Int) : Option AV → Option Int
  | none => some d
  | some (.dat (.int _) n) => some n
  | _ => none

def SlR (lo hi : Int) (len : Nat) : Prop := 0 ≤ lo ∧ lo ≤ hi ∧ hi ≤ (len : Int)

def evSlice (Γ : List (TypeId × TI)) (T : TypeId) (x : AV) (lo hi : Option AV) : Option (Prop × AV) :=
  match Tab.get Γ T with
  | some { d := .str, .. } =>
    match x with
    | .dat .str s => match optI 0 lo, optI (s.length : Int) hi with
      | some a, some b => some (SlR a b s.length, .dat .str ((s.take b.toNat).drop a.toNat))
      | _, _ => none
    | _ => none
  | some { d := .sl e, .. } =>
    match Tab.get Γ e with
    | some ei =>
      match x with
      | .dat (.sl t) l => if ei.size = t.size then
          match optI 0 lo, optI (l.length : Int) hi with
          | some a, some b => some (SlR a b l.length, .dat (.sl t) ((l.take b.toNat).drop a.toNat))
          | _, _ => none
        else none
      | .own p e' t l => match lo, optI (l.length : Int) hi with
        | none, some b => some (SlR 0 b l.length, .own p e' t (l.take b.toNat))
        | _, _ => none
      | _ => none
    | none => none
  | _ => none

section
variable {P : Program} {L : List Nat} {β : Nat → Nat} {Y : Nat → Prop} {w : World}

theorem relL_take {t : Ty} : ∀ (n : Nat) (l : List t.D) (xs : List Value), relL (relT Y w t) l xs → relL (relT Y w t) (l.take n) (xs.take (n * t.size))
  | 0, l, xs, h => by simp [relL]
  | n + 1, [], xs, h => by have : xs = [] := h; subst this; simp [relL]
  | n + 1, a :: l, xs, ⟨c, d, e, h1, h2⟩ => by
    subst e
    have hc := relT_length t a c h1
    have : (c ++ d).take ((n + 1) * t.size) = c ++ d.take (n * t.size) := by
      rw [List.take_append, List.take_of_length_le (by rw [hc, Nat.add_mul]; omega)]
      congr 2; rw [hc, Nat.add_mul]; omega
    rw [this]
    exact ⟨c, _, rfl, h1, relL_take n l d h2⟩
theorem relL_drop {t : Ty} : ∀ (n : Nat) (l : List t.D) (xs : List Value), relL (relT Y w t) l xs → relL (relT Y w t) (l.drop n) (xs.drop (n * t.size))
  | 0, l, xs, h => by simpa using h
  | n + 1, [], xs, h => by have : xs = [] := h; subst this; simp [relL]
  | n + 1, a :: l, xs, ⟨c, d, e, h1, h2⟩ => by
    subst e
    have hc := relT_length t a c h1
    have : (c ++ d).drop ((n + 1) * t.size) = d.drop (n * t.size) := by
      rw [List.drop_append, List.drop_of_length_le (by rw [hc, Nat.add_mul]; omega)]
      simp only [List.nil_append]
      congr 1; rw [hc, Nat.add_mul]; omega
    rw [this]
    exact relL_drop n l d h2

theorem optI_run {d : Int} {o : Option AV} {v : Option Value} {n : Int} (hv : ∀ x, o = some x → ∃ u, v = some u ∧ relV L β Y w x u) (hn : o = none → v = none) (h : optI d o = some n) :
    (v = none ∧ n = d) ∨ ∃ k, v = some (.int k n) := by
  unfold optI at h
  split at h
  · simp only [Option.some.injEq] at h; exact .inl ⟨hn rfl, h.symm⟩
  · rename_i k m
    simp only [Option.some.injEq] at h
    obtain ⟨u, hu, hr⟩ := hv _ rfl
    simp only [relV, relT, List.cons.injEq, and_true] at hr
    subst hr
    exact .inr ⟨k, by rw [hu, h]⟩
  · simp at h

theorem run_bound {k : IntKind} {n : Int} {y : Nat} {code : BoundsCode} (h0 : 0 ≤ n) (h1 : n ≤ y) : (Instr.sliceBound (.int k n) y code).run P w = .ok n.toNat w := by
  simp [Instr.sliceBound, asIntOf, h0, h1]

theorem run_bounds {isS : Bool} {len cap : Nat} {lo hi : Option Value} {a b : Int} (hl : (lo = none ∧ a = 0) ∨ ∃ k, lo = some (.int k a)) (hh : (hi = none ∧ b = len) ∨ ∃ k, hi = some (.int k b))
    (h0 : 0 ≤ a) (h1 : a ≤ b) (h2 : b ≤ len) (hc : len ≤ cap) : (Instr.sliceBounds isS len cap lo hi none).run P w = .ok (a.toNat, b.toNat, cap) w := by
  rcases hl with ⟨rfl, rfl⟩ | ⟨k, rfl⟩ <;> rcases hh with ⟨rfl, rfl⟩ | ⟨k', rfl⟩
  · simp [Instr.sliceBounds]
  · simp [Instr.sliceBounds, run_bound (P := P) (w := w) (k := k') (n := b) (y := cap) (by omega) (by omega)]
  · simp [Instr.sliceBounds, run_bound (P := P) (w := w) (k := k) (n := a) (y := len) (by omega) (by omega)]
  · simp [Instr.sliceBounds, run_bound (P := P) (w := w) (k := k') (n := b) (y := cap) (by omega) (by omega), run_bound (P := P) (w := w) (k := k) (n := a) (y := b.toNat) (by omega) (by omega)]

theorem ba_extract (s : List UInt8) (a b : Nat) : (⟨s.toArray⟩ : ByteArray).extract a b = ⟨((s.take b).drop a).toArray⟩ := by
  apply ByteArray.ext
  simp [ByteArray.data_extract, List.drop_take]

theorem gives_slice {Γ : List (TypeId × TI)} (hΓ : okTab P Γ) {T : TypeId} {x : AV} {lo hi : Option AV} {vx : Value} {vlo vhi : Option Value} {ob : Prop} {r : AV} (hx : relV L β Y w x vx)
    (hlo : ∀ y, lo = some y → ∃ u, vlo = some u ∧ relV L β Y w y u) (hlon : lo = none → vlo = none) (hhi : ∀ y, hi = some y → ∃ u, vhi = some u ∧ relV L β Y w y u) (hhin : hi = none → vhi = none)
    (he : evSlice Γ T x lo hi = some (ob, r)) (hob : ob) : Gives P w (Instr.sliceAt T vx vlo vhi none) (relV L β Y w r) := by
  unfold evSlice at he
  split at he
  · rename_i sz by' z hT
    have hu : P.underlying T = some .string := (hΓ.get hT).d
    split at he
    · rename_i s
      split at he
      · rename_i a b ha hb
        simp only [Option.some.injEq, Prod.mk.injEq] at he
        obtain ⟨rfl, rfl⟩ := he
        simp only [relV, relT, List.cons.injEq, and_true] at hx
        subst hx
        obtain ⟨h0, h1, h2⟩ := hob
        have hbd := run_bounds (P := P) (w := w) (isS := false) (len := s.length) (cap := s.length) (optI_run hlo hlon ha) (optI_run hhi hhin hb) h0 h1 h2 (Nat.le_refl _)
        refine Gives.same (v := .string ⟨((s.take b.toNat).drop a.toNat).toArray⟩) ?_ (by simp [relV, relT])
        simp [Instr.sliceAt, Instr.slice, run_und hu, ba_size, hbd, ba_extract]
      · simp at he
    · simp at he
  · rename_i e sz by' z hT
    have hu : P.underlying T = some (.slice e) := (hΓ.get hT).d
    split at he
    · rename_i ei hE
      have hei := hΓ.get hE
      split at he
      · rename_i t l
        split at he
        · rename_i hsz
          split at he
          · rename_i a b ha hb
            simp only [Option.some.injEq, Prod.mk.injEq] at he
            obtain ⟨rfl, rfl⟩ := he
            obtain ⟨h0, h1, h2⟩ := hob
            simp only [relV, relT] at hx
            obtain ⟨A, cap, xs, hvx, hcap, hl, hm⟩ := hx
            simp only [List.cons.injEq, and_true] at hvx
            subst hvx
            have hbd := run_bounds (P := P) (w := w) (isS := true) (len := l.length) (cap := cap) (optI_run hlo hlon ha) (optI_run hhi hhin hb) h0 h1 h2 hcap
            refine Gives.same (v := .slice (if cap = a.toNat then A else A.map (·.add (a.toNat * ei.size))) (b.toNat - a.toNat) (cap - a.toNat)) ?_ ?_
            · simp [Instr.sliceAt, Instr.slice, run_und hu, hbd, run_sizeOf_of hei]
            · simp only [relV, relT]
              have hlen : ((l.take b.toNat).drop a.toNat).length = b.toNat - a.toNat := by simp; omega
              refine ⟨_, cap - a.toNat, (xs.take (b.toNat * t.size)).drop (a.toNat * t.size), by rw [hlen], by rw [hlen]; omega, relL_drop _ _ _ (relL_take _ _ _ hl), ?_⟩
              by_cases hce : cap = a.toNat
              · left
                have hxl := relL_length l xs hl
                have hba : b.toNat = a.toNat := by omega
                rw [hba]
                apply List.drop_eq_nil_of_le
                simp; omega
              · rw [if_neg hce]
                rcases hm with rfl | ⟨g, o, rfl, hY, hc⟩
                · left; simp
                · right
                  refine ⟨g, o + a.toNat * t.size, by simp [add_spot, hsz], hY, fun j u hj => ?_⟩
                  rw [List.getElem?_drop, List.getElem?_take] at hj
                  split at hj
                  · have := hc _ u hj
                    simpa [Nat.add_assoc] using this
                  · simp at hj
          · simp at he
        · simp at he
      · rename_i p e' t l
        split at he
        · rename_i b hb
          simp only [Option.some.injEq, Prod.mk.injEq] at he
          obtain ⟨rfl, rfl⟩ := he
          obtain ⟨h0, h1, h2⟩ := hob
          simp only [relV] at hx
          obtain ⟨hp, xs, ho1, ho2, ho3⟩ := hx
          obtain ⟨cap, rfl, hcap⟩ := own_cell_form ho1 ho2
          have hbd := run_bounds (P := P) (w := w) (isS := true) (len := l.length) (cap := cap) (lo := vlo) (a := 0) (.inl ⟨hlon rfl, rfl⟩) (optI_run hhi hhin hb) (Int.le_refl 0) h1 h2 hcap
          refine Gives.same (v := .slice (some ⟨β p, 0, none⟩) b.toNat cap) ?_ ?_
          · have : (⟨β p, 0, none⟩ : Addr).add 0 = ⟨β p, 0, none⟩ := by simp [Addr.add]
            simp [Instr.sliceAt, Instr.slice, run_und hu, hbd, run_sizeOf_of hei, this]
          · simp only [relV]
            have hlen : (l.take b.toNat).length = b.toNat := by simp; omega
            refine ⟨hp, xs.take (b.toNat * t.size), ?_, rfl, relL_take _ _ _ ho3⟩
            rw [hlen]
            have hxl := relL_length l xs ho3
            refine ⟨by rw [List.length_take, hxl]; apply Nat.min_eq_left; exact Nat.mul_le_mul_right _ (by omega), ?_⟩
            rcases ho1.2 with ⟨h, _⟩ | ⟨g, cap', cur, hv, hg, hh, hnc, hcm, hcs, htk⟩
            · simp at h
            · simp only [Value.slice.injEq, Option.some.injEq, Addr.mk.injEq, and_true, true_and] at hv
              obtain ⟨rfl, rfl⟩ := hv
              refine .inr ⟨_, cap, cur, rfl, Nat.zero_le _, hh, by omega, hcm, hcs, ?_⟩
              rw [← htk, List.take_take]
              congr 1
              symm
              apply Nat.min_eq_left; exact Nat.mul_le_mul_right _ (by omega)
        · simp at he
      · simp at he
    · simp at he
  · simp at he

end

/-! ### Conversions of whole numbers; parts put together -/
def evConv (Γ : List (TypeId × TI)) (src dst : TypeId) (x : AV) : Option (Prop × AV) :=
  match Tab.get Γ src, Tab.get Γ dst, x with
  | some si, some { d := .int k, .. }, .dat (.int _) n => if isOther si.d then none else some (True, .dat (.int k) (k.wrap n))
  | some si, some { d := .str, .. }, .dat .str s => if isOther si.d || isSlD si.d then none else some (True, .dat .str s)
  | some { d := .sl e, .. }, some { d := .str, .. }, x => match Tab.get Γ e with
    | some { d := .int .u8, .. } => match x with
      | .dat (.sl (.int .u8)) l => some (True, .dat .str (l.map fun n => UInt8.ofNat n.toNat))
      | .own p e' (.int .u8) l => some (True, .dat .str (l.map fun n => UInt8.ofNat n.toNat))
      | _ => none
    | _ => none
  | some si, some { d := .flt k, .. }, .dat (.int _) n => if isOther si.d then none else some (True, .dat (.flt k) (canon k (floatOfInt k n)))
  | some si, some { d := .flt .f64, .. }, .dat (.flt .f32) a => if isOther si.d then none else some (True, .dat (.flt .f64) (flW a))
  | _, _, _ => none
where isSlD : TD → Bool
  | .sl _ => true
  | _ => false

/-- The cells of a value. -/
def cellsV : AV → Option (List AV)
  | .agg l => some l
  | .dat (.pair _ _) _ => none
  | .dat .unit _ => none
  | .dat t x => some [.dat t x]
  | .own p e t l => some [.own p e t l]
  | .nilsl => some [.nilsl]
  | .ptr b o => some [.ptr b o]
  | .optr p e t l i o => some [.optr p e t l i o]
  | .rptr cs => some [.rptr cs]
  | .clo f cs => some [.clo f cs]
  | _ => none

/-- Parts into cells. -/
def fillC (place : Nat → Option (Nat × Nat)) : List (Nat × AV) → List AV → Option (List AV)
  | [], cs => some cs
  | (i, v) :: r, cs =>
    match place i, cellsV v with
    | some (off, size), some new => if new.length = size ∧ off + size ≤ cs.length then fillC place r (cs.take off ++ new ++ cs.drop (off + size)) else none
    | _, _ => none

def spots (Γ : List (TypeId × TI)) : TD → Nat → Option (Nat × Nat)
  | .struct fs, i => match fs[i]? with
    | some (F, off) => (Tab.get Γ F).map fun ti => (off, ti.size)
    | none => none
  | .arr _ e, i => (Tab.get Γ e).map fun ti => (i * ti.size, ti.size)
  | _, _ => none

def allIn (Γ : List (TypeId × TI)) : TD → Bool
  | .struct fs => fs.all fun x => (Tab.get Γ x.1).isSome
  | .arr _ e => (Tab.get Γ e).isSome
  | _ => false

def evBuild (Γ : List (TypeId × TI)) (T : TypeId) (parts : List (Nat × AV)) : Option (Prop × AV) :=
  match Tab.get Γ T with
  | some ti => if allIn Γ ti.d then match ofConst ti.z with
      | .agg cs => (fillC (spots Γ ti.d) parts cs).map fun cs => (True, .agg cs)
      | _ => none
    else none
  | none => none

section
variable {P : Program} {L : List Nat} {β : Nat → Nat} {Y : Nat → Prop} {w : World}

theorem okTI.und {T : TypeId} {ti : TI} (h : okTI P T ti) (ho : isOther ti.d = false) : ∃ d, P.underlying T = some d := by
  have hd := h.d
  cases hti : ti.d <;> rw [hti] at hd ho <;> simp only [okD] at hd <;> first
    | exact ⟨_, hd⟩
    | (obtain ⟨_, h1, _⟩ := hd; exact ⟨_, h1⟩)
    | (obtain ⟨_, _, _, h1⟩ := hd; exact ⟨_, h1⟩)
    | (simp [isOther] at ho)

theorem run_mapM {α β : Type} (g : α → Sem β) (h : α → β) : ∀ (l : List α), (∀ x ∈ l, (g x).run P w = .ok (h x) w) → (l.mapM g).run P w = .ok (l.map h) w
  | [], _ => by simp
  | x :: l, hx => by
    rw [List.mapM_cons]
    simp [hx x (List.mem_cons_self ..), run_mapM g h l (fun y hy => hx y (List.mem_cons_of_mem _ hy))]
theorem run_mapMA {α β : Type} (g : α → Sem β) (h : α → β) (l : Array α) (hl : ∀ x ∈ l.toList, (g x).run P w = .ok (h x) w) : (l.mapM g).run P w = .ok (l.map h) w := by
  rw [Array.mapM_eq_mapM_toList]
  simp [run_mapM g h l.toList hl]
  apply Array.ext'; simp

theorem relL_num {k : IntKind} : ∀ {l : List Int} {xs : List Value}, relL (relT Y w (.int k)) l xs → xs = l.map (Value.int k)
  | [], xs, h => h
  | a :: l, xs, ⟨c, d, e, h1, h2⟩ => by
    have : c = [.int k a] := h1
    rw [e, this, relL_num h2]; rfl
theorem bytes_conv {src dst e : TypeId} (hs : P.underlying src = some (.slice e)) (he : P.underlying e = some (.int .u8)) (hd : P.underlying dst = some .string) {A : Option Addr} {cap : Nat} {l : List Int}
    (hM : Mem Y w A (l.map (Value.int .u8))) : (convert src dst (.slice A l.length cap)).run P w = .ok (.string ⟨(l.map fun n => UInt8.ofNat n.toNat).toArray⟩) w := by
  cases A with
  | none =>
    rcases hM with h | ⟨g, o, h, _⟩
    · have : l = [] := by simpa using h
      subst this
      exact run_convert_bytes_nil w src e hs he 0 cap dst hd
    · simp at h
  | some a =>
    rcases hM with h | ⟨g, o, h, _, hc⟩
    · have : l = [] := by simpa using h
      subst this
      show (convert src dst (.slice (some a) 0 cap)).run P w = _
      rw [run_convert_bytes_string w src dst e (some a) 0 cap hs he hd]
      have hl : (loadCells a 0).run P w = .ok (([] : List Int).map (Value.int .u8)).toArray w := run_loadCells_list (P := P) w a [] (fun j v hj => by simp at hj)
      exact run_bytesToString w a 0 cap [] hl
    · cases h
      exact run_convert_bytes_arg w src e hs he g o l.length cap l rfl (fun i hi => hc i _ (by simp [List.getD, hi])) dst hd
theorem gives_conv {Γ : List (TypeId × TI)} (hΓ : okTab P Γ) {src dst : TypeId} {x : AV} {vx : Value} {ob : Prop} {r : AV} (hx : relV L β Y w x vx)
    (he : evConv Γ src dst x = some (ob, r)) (hob : ob) : Gives P w (convert src dst vx) (relV L β Y w r) := by
  unfold evConv at he
  split at he
  · rename_i si k sz by' z k' n hS hD
    split at he
    · simp at he
    · rename_i ho
      obtain ⟨d, hd⟩ := okTI.und (hΓ.get hS) (by simpa using ho)
      have hu : P.underlying dst = some (.int k) := (hΓ.get hD).d
      simp only [Option.some.injEq, Prod.mk.injEq] at he
      obtain ⟨rfl, rfl⟩ := he
      simp only [relV, relT, List.cons.injEq, and_true] at hx
      subst hx
      refine Gives.same (v := .int k (k.wrap n)) ?_ (by simp [relV, relT])
      simp [convert, run_und hd, run_und hu, Conv.intToInt]
  · rename_i si sz by' z s hS hD
    split at he
    · simp at he
    · rename_i ho
      simp only [Bool.or_eq_true, not_or, Bool.not_eq_true] at ho
      obtain ⟨d, hd⟩ := okTI.und (hΓ.get hS) ho.1
      have hu : P.underlying dst = some .string := (hΓ.get hD).d
      simp only [Option.some.injEq, Prod.mk.injEq] at he
      obtain ⟨rfl, rfl⟩ := he
      simp only [relV, relT, List.cons.injEq, and_true] at hx
      subst hx
      refine Gives.same (v := .string ⟨s.toArray⟩) ?_ (by simp [relV, relT])
      simp [convert, run_und hd, run_und hu]
  · rename_i e0 sz0 by0 z0 sz1 by1 z1 hS hD x0
    split at he
    · rename_i sz2 by2 z2 hE
      have hs : P.underlying src = some (.slice e0) := (hΓ.get hS).d
      have he8 : P.underlying e0 = some (.int .u8) := (hΓ.get hE).d
      have hd : P.underlying dst = some .string := (hΓ.get hD).d
      split at he
      · simp only [Option.some.injEq, Prod.mk.injEq] at he
        obtain ⟨rfl, rfl⟩ := he
        simp only [relV, relT] at hx
        obtain ⟨A, cap, xs, hv, _, hr, hM⟩ := hx
        simp only [List.cons.injEq, and_true] at hv
        subst hv
        rw [relL_num (Y := Y) (w := w) hr] at hM
        exact Gives.same (bytes_conv hs he8 hd hM) (by simp [relV, relT])
      · simp only [Option.some.injEq, Prod.mk.injEq] at he
        obtain ⟨rfl, rfl⟩ := he
        simp only [relV] at hx
        obtain ⟨hp, xs, h1, h2, h3⟩ := hx
        obtain ⟨cap, rfl, hc⟩ := own_cell_form h1 h2
        have hxs := relL_num (Y := Y) (w := w) h3
        subst hxs
        refine Gives.same (bytes_conv (Y := fun _ => True) hs he8 hd (.inr ⟨_, 0, rfl, trivial, fun j u hu => ?_⟩)) (by simp [relV, relT])
        have := h1.cells h2 j u hu
        rw [add_spot] at this
        exact this
      · simp at he
    · simp at he
  · rename_i si sz by' z k k' n hS hD
    split at he
    · simp at he
    · rename_i ho
      obtain ⟨d, hd⟩ := okTI.und (hΓ.get hS) (by simpa using ho)
      simp only [Option.some.injEq, Prod.mk.injEq] at he
      obtain ⟨rfl, rfl⟩ := he
      simp only [relV, relT, List.cons.injEq, and_true] at hx
      subst hx
      exact gives_itof hd (hΓ.get hD).d n
  · rename_i si sz by' z a hS hD
    split at he
    · simp at he
    · rename_i ho
      obtain ⟨d, hd⟩ := okTI.und (hΓ.get hS) (by simpa using ho)
      simp only [Option.some.injEq, Prod.mk.injEq] at he
      obtain ⟨rfl, rfl⟩ := he
      simp only [relV, relT, List.cons.injEq, and_true] at hx
      obtain ⟨b, rfl, hb⟩ := hx
      rw [← hb]
      exact gives_wide hd (hΓ.get hD).d b
  · simp at he

theorem cells_of {x : AV} {v : Value} {new : List AV} (hx : relV L β Y w x v) (hc : cellsV x = some new) : relVs L β Y w new v.cells.toList := by
  unfold cellsV at hc
  split at hc <;> simp only [Option.some.injEq, reduceCtorEq] at hc <;> subst hc
  · simp only [relV] at hx
    obtain ⟨cs, rfl, h⟩ := hx
    simpa [Value.cells] using h
  · rename_i t y h1 h2
    have : v.cells = #[v] := by
      cases t <;> simp only [relV, relT] at hx <;> first
        | (simp only [List.cons.injEq, and_true] at hx; subst hx; rfl)
        | (obtain ⟨b, hb, _⟩ := hx; simp only [List.cons.injEq, and_true] at hb; subst hb; rfl)
        | (obtain ⟨b, c, hb, _⟩ := hx; simp only [List.cons.injEq, and_true] at hb; subst hb; rfl)
        | (obtain ⟨A, cap, xs, hb, _⟩ := hx; simp only [List.cons.injEq, and_true] at hb; subst hb; rfl)
        | exact (h1 _ _ _ rfl HEq.rfl).elim
        | exact (h2 _ rfl HEq.rfl).elim
        | (simp at h1)
        | (simp at h2)
    rw [this]; simp only [relVs]; exact ⟨v, [], rfl, hx, rfl⟩
  · have : v.cells = #[v] := by
      simp only [relV] at hx
      obtain ⟨_, xs, h1, h2, _⟩ := hx
      obtain ⟨cap, rfl, _⟩ := own_cell_form h1 h2; rfl
    rw [this]; simp only [relVs]; exact ⟨v, [], rfl, hx, rfl⟩
  · have : v.cells = #[v] := by simp only [relV] at hx; subst hx; rfl
    rw [this]; simp only [relVs]; exact ⟨v, [], rfl, hx, rfl⟩
  · have : v.cells = #[v] := by simp only [relV] at hx; rw [hx.2]; rfl
    rw [this]; simp only [relVs]; exact ⟨v, [], rfl, hx, rfl⟩
  · have : v.cells = #[v] := by simp only [relV] at hx; rw [hx.2.2]; rfl
    rw [this]; simp only [relVs]; exact ⟨v, [], rfl, hx, rfl⟩
  · have : v.cells = #[v] := by simp only [relV] at hx; obtain ⟨g, o, xs, rfl, _⟩ := hx; rfl
    rw [this]; simp only [relVs]; exact ⟨v, [], rfl, hx, rfl⟩
  · have : v.cells = #[v] := by simp only [relV] at hx; obtain ⟨cs, rfl, _⟩ := hx; rfl
    rw [this]; simp only [relVs]; exact ⟨v, [], rfl, hx, rfl⟩

theorem splice (new : List Value) : ∀ (off k : Nat) (cs : Array Value), off + k + new.length ≤ cs.size →
    ((new.zipIdx k).foldl (fun (cs : Array Value) (x : Value × Nat) => cs.setIfInBounds (off + x.2) x.1) cs).toList = cs.toList.take (off + k) ++ new ++ cs.toList.drop (off + k + new.length) := by
  induction new with
  | nil => intro off k cs h; simp
  | cons v new ih =>
    intro off k cs h
    simp only [List.length_cons] at h
    simp only [List.zipIdx_cons, List.foldl_cons]
    rw [ih off (k + 1) _ (by simp; omega)]
    have hk : off + k < cs.toList.length := by simp; omega
    simp only [Array.toList_setIfInBounds]
    rw [show off + (k + 1) = (off + k) + 1 by omega, List.take_set, List.drop_set_of_lt (by omega)]
    rw [List.take_succ_eq_append_getElem hk]
    rw [List.set_append_right _ _ (by simp; omega)]
    have : off + k - (List.take (off + k) cs.toList).length = 0 := by rw [List.length_take]; omega
    rw [this]
    simp only [List.set_cons_zero, List.append_assoc, List.cons_append, List.nil_append, List.length_cons]
    rw [show off + k + 1 + new.length = off + k + (new.length + 1) by omega]

theorem relVs_splice {cs : List AV} {xs : List Value} {new : List AV} {vs : List Value} {off : Nat} (h : relVs L β Y w cs xs) (hn : relVs L β Y w new vs) :
    relVs L β Y w (cs.take off ++ new ++ cs.drop (off + new.length)) (xs.take off ++ vs ++ xs.drop (off + vs.length)) := by
  rw [relVs_length hn]
  exact relVs_append (relVs_append (relVs_take off h) hn) (relVs_drop _ h)

inductive relPs (L : List Nat) (β : Nat → Nat) (Y : Nat → Prop) (w : World) : List (Nat × AV) → List (Nat × Value) → Prop
  | nil : relPs L β Y w [] []
  | cons {i : Nat} {x : AV} {v : Value} {a : List (Nat × AV)} {b : List (Nat × Value)} : relV L β Y w x v → relPs L β Y w a b → relPs L β Y w ((i, x) :: a) ((i, v) :: b)

theorem fill_of {place : Nat → Option (Nat × Nat)} {pl : Nat → Option (Nat × Nat)} (hp : ∀ i o s, place i = some (o, s) → pl i = some (o, s)) :
    ∀ {parts : List (Nat × AV)} {vs : List (Nat × Value)} (hr : relPs L β Y w parts vs) {cs out : List AV} {xs : Array Value} (hc : relVs L β Y w cs xs.toList) (he : fillC place parts cs = some out),
      ∃ ys, Instr.fill pl xs vs = some ys ∧ relVs L β Y w out ys.toList := by
  intro parts vs hr
  induction hr with
  | nil => intro cs out xs hc he; simp only [fillC, Option.some.injEq] at he; subst he; exact ⟨xs, rfl, hc⟩
  | @cons i x v a b hx hr ih =>
    intro cs out xs hc he
    simp only [fillC] at he
    split at he
    · rename_i off size new hpl hnew
      split at he
      · rename_i hcond
        have hcv := cells_of hx hnew
        have hlen := relVs_length hcv
        have hxs := relVs_length hc
        have hsz : v.cells.size = size := by rw [← hcond.1, ← hlen]; simp
        have hsp := splice v.cells.toList off 0 xs (by simp; simp at hxs; omega)
        obtain ⟨ys, h1, h2⟩ := ih (xs := v.cells.zipIdx.foldl (fun cs (c, j) => cs.setIfInBounds (off + j) c) xs) (out := out) (cs := cs.take off ++ new ++ cs.drop (off + size)) (by
          have he : (v.cells.zipIdx.foldl (fun (cs : Array Value) (x : Value × Nat) => cs.setIfInBounds (off + x.2) x.1) xs).toList = xs.toList.take off ++ v.cells.toList ++ xs.toList.drop (off + v.cells.toList.length) := by
            rw [← Array.foldl_toList, Array.toList_zipIdx]; simpa using hsp
          rw [show (v.cells.zipIdx.foldl (fun cs (c, j) => cs.setIfInBounds (off + j) c) xs).toList = _ from he]
          have := relVs_splice (off := off) hc hcv
          rwa [hcond.1] at this) he
        refine ⟨ys, ?_, h2⟩
        have hxsz : xs.size = cs.length := by simpa using hxs
        have hb : ¬ (v.cells.size ≠ size || decide (off + v.cells.size > xs.size)) = true := by
          simp [hsz]; omega
        simp only [Instr.fill, hp i off size hpl]
        rw [if_neg (by simp [hsz]; omega)]
        exact h1
      · simp at he
    · simp at he

theorem gives_build {Γ : List (TypeId × TI)} (hΓ : okTab P Γ) {T : TypeId} {parts : List (Nat × AV)} {vs : List (Nat × Value)} {ob : Prop} {r : AV} (hr : relPs L β Y w parts vs)
    (he : evBuild Γ T parts = some (ob, r)) (hob : ob) : Gives P w (Instr.build T vs.toArray) (relV L β Y w r) := by
  unfold evBuild at he
  split at he
  · rename_i ti hT
    have hti := hΓ.get hT
    split at he
    · rename_i hall
      split at he
      · rename_i cs hz
        obtain ⟨out, ho, he⟩ := Option.map_eq_some_iff.1 he
        simp only [Prod.mk.injEq] at he; obtain ⟨rfl, rfl⟩ := he
        have hzr := relV_ofConst (L := L) (β := β) (Y := Y) (w := w) ti.z
        rw [hz] at hzr
        simp only [relV] at hzr
        obtain ⟨zs, hzv, hzs⟩ := hzr
        have hzc : ti.z.cells = zs.toArray := by rw [hzv]; rfl
        have hd := hti.d
        cases htd : ti.d with
        | struct fs =>
          rw [htd] at hd ho hall
          obtain ⟨fields, hu, hf⟩ := hd
          simp only [allIn, List.all_eq_true] at hall
          have hsz : ∀ f ∈ fields.toList, ∃ fi, Tab.get Γ f.type = some fi := fun f hm => by
            have := hall (f.type, f.offset) (by rw [← hf]; exact List.mem_map.2 ⟨f, hm, rfl⟩)
            exact Option.isSome_iff_exists.1 this
          let sz : Field → Nat := fun f => match Tab.get Γ f.type with | some fi => fi.size | none => 0
          have hrun : (fields.mapM fun f => Prod.mk f.offset <$> sizeOf f.type).run P w = .ok (fields.map fun f => (f.offset, sz f)) w :=
            run_mapMA _ (fun f => (f.offset, sz f)) fields (fun f hm => by
              obtain ⟨fi, hfi⟩ := hsz f hm
              simp [run_sizeOf_of (hΓ.get hfi), sz, hfi])
          obtain ⟨ys, h1, h2⟩ := fill_of (pl := ((fields.map fun f => (f.offset, sz f))[·]?)) (fun i o s hs => by
            simp only [spots] at hs
            split at hs
            · rename_i F off hfs
              rw [← hf] at hfs
              simp only [List.getElem?_map, Option.map_eq_some_iff, Prod.mk.injEq] at hfs
              obtain ⟨f, hfi, rfl, rfl⟩ := hfs
              obtain ⟨ti', hti', hs⟩ := Option.map_eq_some_iff.1 hs
              simp only [Prod.mk.injEq] at hs
              obtain ⟨rfl, rfl⟩ := hs
              simp only [Array.getElem?_map]
              have : fields[i]? = some f := by simpa using hfi
              simp [this, sz, hti']
            · simp at hs) hr (xs := zs.toArray) (by simpa using hzs) ho
          simp only [Array.getElem?_map] at h1
          refine Gives.same (v := .agg ys) ?_ ?_
          · simp [Instr.build, run_zero_of hti, run_und hu, hrun, hzc, h1]
          · simp only [relV]; exact ⟨ys.toList, by simp, h2⟩
        | arr n e =>
          rw [htd] at hd ho hall
          have hu : P.underlying T = some (.array n e) := hd
          obtain ⟨ei, hE⟩ := Option.isSome_iff_exists.1 (by simpa [allIn] using hall)
          obtain ⟨ys, h1, h2⟩ := fill_of (pl := fun i => some (i * ei.size, ei.size)) (fun i o s hs => by
            simp only [spots, hE, Option.map_some, Option.some.injEq, Prod.mk.injEq] at hs
            obtain ⟨rfl, rfl⟩ := hs; rfl) hr (xs := zs.toArray) (by simpa using hzs) ho
          refine Gives.same (v := .agg ys) ?_ ?_
          · simp [Instr.build, run_zero_of hti, run_und hu, run_sizeOf_of (hΓ.get hE), hzc, h1]
          · simp only [relV]; exact ⟨ys.toList, by simp, h2⟩
        | _ => rw [htd] at hall; simp [allIn] at hall
      · simp at he
    · simp at he
  · simp at he
end
end Go.Proofs.Avx

set_option linter.unusedVariables false
set_option linter.unusedSimpArgs false
namespace Go.Proofs.Avx

/-! ### The operations that only hand back a value -/
/-- A slice compared with nil. -/
def evNil (Γ : List (TypeId × TI)) (T : TypeId) (neg : Bool) (x : AV) : Option (Prop × AV) :=
  match Tab.get Γ T with
  | some { d := .sl _, .. } =>
    match x with
    | .nilsl => some (True, .dat .bool (!neg))
    | .own _ _ _ _ => some (True, .dat .bool neg)
    | .dat (.sl t) l => if t.size ≠ 0 then some (l ≠ [], .dat .bool neg) else none
    | _ => none
  | _ => none

def evBin (Γ : List (TypeId × TI)) (op : BinOp) (T : TypeId) (x y : AV) : Option (Prop × AV) :=
  match x, y with
  | .dat (.int k) a, .dat (.int k') b =>
    match op with
    | .shl => binShift .shl k a b
    | .shr => binShift .shr k a b
    | op => if k = k' then binInt op k a b else none
  | .dat .str a, .dat .str b => binStr op a b
  | .dat (.flt k) a, .dat (.flt k') b => if h : k = k' then binFlt op k a b else none
  | .dat .bool a, .dat .bool b => match Tab.get Γ T with
    | some { d := .bool, .. } => binBool op a b
    | _ => none
  | x, .nilsl => match op with
    | .eql => evNil Γ T false x
    | .neq => evNil Γ T true x
    | _ => none
  | _, _ => none

def strip : AV → Bool × AV
  | .cnd g v => (g, v)
  | v => (true, v)

def evPick (c a b : AV) : Option (Prop × AV) :=
  match strip c, strip a, strip b with
  | (gc, .dat .bool cb), (ga, .dat .bool x), (gb, .dat .bool y) => some (gc = true ∧ (cb = true → ga = true) ∧ (cb = false → gb = true), .dat .bool (cond cb x y))
  | _, _, _ => none

def evPtr : AV → Option (Prop × AV)
  | .ptr b o => some (True, .ptr b o)
  | .optr p e t l i o => some (True, .optr p e t l i o)
  | .rptr cs => some (True, .rptr cs)
  | _ => none

def evOp (Γ : List (TypeId × TI)) (bx : List (Nat × List AV)) (f : Operand → AV) (op : Op) : Option (Prop × AV) :=
  match op with
  | .binOp o T x y _ => evBin Γ o T (f x) (f y)
  | .unOp o _ x => unop o (f x)
  | .convert s d x => evConv Γ s d (f x)
  | .load T a => evLoad Γ bx T (f a)
  | .fieldAddr T x i => evFieldAddr Γ T i (f x)
  | .field T x i => evField Γ T i (f x)
  | .indexAddr T x i => evIndexAddr Γ T (f x) (f i)
  | .index T x i => evIndex Γ T (f x) (f i)
  | .extract t i => evExtract (f t) i
  | .slice T x lo hi none => evSlice Γ T (f x) (lo.map f) (hi.map f)
  | .makeFunc (.func fn) first caps => if first.size = 0 then some (True, .clo fn (caps.toList.map f)) else none
  | .build T parts => evBuild Γ T (parts.toList.map fun x => (x.1, f x.2))
  | .nilCheck x => evPtr (f x)
  | .call { callee := .builtin .len, args := args, argTypes := ts } =>
    match args.toList, ts.toList with
    | [x], [T] => evLen Γ T (f x)
    | _, _ => none
  | _ => none

def guards (env : List (Nat × AV)) : List Operand → Bool
  | [] => true
  | x :: r => (strip (avOf env x)).1 && guards env r

def evalOp (Γ : List (TypeId × TI)) (S : St) (op : Op) : Option (Prop × AV) :=
  match op with
  | .move x => some (True, avOf S.env x)
  | .assign x => some (True, avOf S.env x)
  | .pick c a b => evPick (avOf S.env c) (avOf S.env a) (avOf S.env b)
  | op => (evOp Γ S.boxes (fun x => (strip (avOf S.env x)).2) op).map fun r => (guards S.env op.operands.toList = true ∧ r.1, r.2)

section
variable {P : Program} {L : List Nat} {β : Nat → Nat} {Y : Nat → Prop} {w : World}

theorem relV_strip {x : AV} {v : Value} (h : relV L β Y w x v) (hg : (strip x).1 = true) : relV L β Y w (strip x).2 v := by
  unfold strip at hg ⊢
  split
  · simp only [relV] at h; exact h hg
  · exact h

theorem gives_nil {Γ : List (TypeId × TI)} (hΓ : okTab P Γ) {neg : Bool} {T : TypeId} {ox oy : Operand} {x : AV} {vx : Value} {ob : Prop} {r : AV} (hx : relV L β Y w x vx)
    (he : evNil Γ T neg x = some (ob, r)) (hob : ob) : Gives P w (do eqGuard (if neg then .neq else .eql) T ox oy vx (.slice none 0 0); binOp (if neg then .neq else .eql) T vx (.slice none 0 0)) (relV L β Y w r) := by
  unfold evNil at he
  split at he
  · rename_i e sz by' z hT
    have hu : P.underlying T = some (.slice e) := (hΓ.get hT).d
    have key : ∀ (A : Option Addr) (n c : Nat) (b : Bool), A.isNone = b → vx = .slice A n c → Gives P w (do eqGuard (if neg then .neq else .eql) T ox oy vx (.slice none 0 0); binOp (if neg then .neq else .eql) T vx (.slice none 0 0)) (relV L β Y w (.dat .bool (if neg then !b else b))) := by
      rintro A n c b rfl rfl
      have hq := run_equal_slice_nil (P := P) w T e A n c hu
      refine Gives.same (v := .bool (if neg then !A.isNone else A.isNone)) ?_ (by simp only [relV, relT])
      cases neg <;> simp [eqGuard, binOp, hq]
    split at he
    · simp only [Option.some.injEq, Prod.mk.injEq] at he
      obtain ⟨rfl, rfl⟩ := he
      simp only [relV] at hx
      have := key none 0 0 true rfl hx
      cases neg <;> exact this
    · simp only [Option.some.injEq, Prod.mk.injEq] at he
      obtain ⟨rfl, rfl⟩ := he
      simp only [relV] at hx
      obtain ⟨hp, xs, h1, h2, h3⟩ := hx
      obtain ⟨cap, hv, _⟩ := own_cell_form h1 h2
      have := key _ _ _ false rfl hv
      cases neg <;> exact this
    · rename_i t l
      split at he
      · rename_i hsz
        simp only [Option.some.injEq, Prod.mk.injEq] at he
        obtain ⟨rfl, rfl⟩ := he
        simp only [relV, relT] at hx
        obtain ⟨A, cap, xs, hv, hcap, hl, hm⟩ := hx
        simp only [List.cons.injEq, and_true] at hv
        have hpos : 0 < xs.length := by
          rw [relL_length l xs hl]
          exact Nat.mul_pos (List.length_pos_iff.2 hob) (by omega)
        rcases hm with rfl | ⟨g, o, rfl, _⟩
        · simp at hpos
        · have := key _ _ _ false rfl hv
          cases neg <;> exact this
      · simp at he
    · simp at he
  · simp at he

theorem gives_bin {Γ : List (TypeId × TI)} (hΓ : okTab P Γ) {op : BinOp} {T : TypeId} {ox oy : Operand} {x y : AV} {vx vy : Value} {ob : Prop} {r : AV} (hx : relV L β Y w x vx) (hy : relV L β Y w y vy)
    (he : evBin Γ op T x y = some (ob, r)) (hob : ob) : Gives P w (do eqGuard op T ox oy vx vy; binOp op T vx vy) (relV L β Y w r) := by
  unfold evBin at he
  split at he
  · simp only [relV, relT, List.cons.injEq, and_true] at hx hy
    subst hx; subst hy
    split at he
    · exact gives_shift he hob
    · exact gives_shift he hob
    · split at he
      · rename_i h1 h2 hk
        subst hk
        exact gives_binInt he hob
      · simp at he
  · simp only [relV, relT, List.cons.injEq, and_true] at hx hy
    subst hx; subst hy
    exact gives_binStr he hob
  · simp only [relV, relT, List.cons.injEq, and_true] at hx hy
    obtain ⟨bx, rfl, hbx⟩ := hx
    obtain ⟨by', rfl, hby⟩ := hy
    split at he
    · rename_i hk
      subst hk
      rw [← hbx, ← hby] at he
      exact gives_binFlt he hob
    · simp at he
  · simp only [relV, relT, List.cons.injEq, and_true] at hx hy
    subst hx; subst hy
    split at he
    · rename_i hT
      exact gives_binBool (hΓ.get hT).d he hob
    · simp at he
  · simp only [relV] at hy
    subst hy
    split at he
    · exact gives_nil (neg := false) hΓ hx he hob
    · exact gives_nil (neg := true) hΓ hx he hob
    · simp at he
  · simp at he

theorem relVs_map {α : Type} (f : α → AV) (g : α → Value) : ∀ (l : List α), (∀ x ∈ l, relV L β Y w (f x) (g x)) → relVs L β Y w (l.map f) (l.map g)
  | [], _ => by simp [relVs]
  | x :: l, h => by
    simp only [List.map_cons, relVs]
    exact ⟨_, _, rfl, h x (List.mem_cons_self ..), relVs_map f g l (fun y hy => h y (List.mem_cons_of_mem _ hy))⟩
theorem relPs_map {α : Type} (i : α → Nat) (f : α → AV) (g : α → Value) : ∀ (l : List α), (∀ x ∈ l, relV L β Y w (f x) (g x)) → relPs L β Y w (l.map fun x => (i x, f x)) (l.map fun x => (i x, g x))
  | [], _ => .nil
  | x :: l, h => .cons (h x (List.mem_cons_self ..)) (relPs_map i f g l (fun y hy => h y (List.mem_cons_of_mem _ hy)))

theorem run_next {s : Sem Value} {R : Value → Prop} (h : Gives P w s R) : ∃ v w', (do pure (Next.value (← s)) : Sem Next).run P w = .ok (.value v) w' ∧ Ext w w' ∧ R v := by
  obtain ⟨v, w', h1, h2, h3⟩ := h
  exact ⟨v, w', by simp [h1], h2, h3⟩

theorem gives_evOp {Γ : List (TypeId × TI)} (hΓ : okTab P Γ) {bx : List (Nat × List AV)} (hb : ∀ b cs, getB bx b = some cs → BoxAt L β Y w b cs) {f : Operand → AV} {ρ : Operand → Value} {o : Oper}
    (hf : ∀ x ∈ o.op.operands.toList, relV L β Y w (f x) (ρ x)) {ob : Prop} {r : AV} (he : evOp Γ bx f o.op = some (ob, r)) (hob : ob) :
    ∃ v w', (execOp ρ o).run P w = .ok (.value v) w' ∧ Ext w w' ∧ relV L β Y w r v := by
  unfold evOp at he
  split at he
  · rename_i op T x y yT ho
    simp only [ho, Op.operands] at hf
    have := run_next (gives_bin (ox := x) (oy := y) hΓ (hf x (by simp)) (hf y (by simp)) he hob)
    simpa [execOp, ho] using this
  · rename_i op T x ho
    simp only [ho, Op.operands] at hf
    have := run_next (P := P) (gives_unop (hf x (by simp)) he hob)
    simpa [execOp, ho] using this
  · rename_i s d x ho
    simp only [ho, Op.operands] at hf
    have := run_next (gives_conv hΓ (hf x (by simp)) he hob)
    simpa [execOp, ho] using this
  · rename_i T x ho
    simp only [ho, Op.operands] at hf
    have := run_next (gives_load hΓ hb (hf x (by simp)) he hob)
    simpa [execOp, ho] using this
  · rename_i T x i ho
    simp only [ho, Op.operands] at hf
    have := run_next (gives_fieldAddr hΓ (hf x (by simp)) he hob)
    simpa [execOp, ho] using this
  · rename_i T x i ho
    simp only [ho, Op.operands] at hf
    have := run_next (gives_field hΓ (hf x (by simp)) he hob)
    simpa [execOp, ho] using this
  · rename_i T x i ho
    simp only [ho, Op.operands] at hf
    have := run_next (gives_indexAddr hΓ (hf x (by simp)) (hf i (by simp)) he hob)
    simpa [execOp, ho] using this
  · rename_i T x i ho
    simp only [ho, Op.operands] at hf
    have := run_next (gives_index hΓ (hf x (by simp)) (hf i (by simp)) he hob)
    simpa [execOp, ho] using this
  · rename_i t i ho
    simp only [ho, Op.operands] at hf
    have := run_next (P := P) (gives_extract (hf t (by simp)) he hob)
    simpa [execOp, ho] using this
  · rename_i T x lo hi ho
    simp only [ho, Op.operands] at hf
    have := run_next (P := P) (gives_slice hΓ (vlo := lo.map ρ) (vhi := hi.map ρ) (hf x (by simp))
      (fun y hy => by obtain ⟨z, rfl, rfl⟩ := Option.map_eq_some_iff.1 hy; exact ⟨ρ z, rfl, hf z (by simp)⟩) (fun h => by rw [Option.map_eq_none_iff] at h ⊢; exact h)
      (fun y hy => by obtain ⟨z, rfl, rfl⟩ := Option.map_eq_some_iff.1 hy; exact ⟨ρ z, rfl, hf z (by simp)⟩) (fun h => by rw [Option.map_eq_none_iff] at h ⊢; exact h) he hob)
    simpa [execOp, ho] using this
  · rename_i fn first caps ho
    simp only [ho, Op.operands] at hf
    split at he
    · rename_i h0
      simp only [Option.some.injEq, Prod.mk.injEq] at he
      obtain ⟨rfl, rfl⟩ := he
      have hfe : first = #[] := Array.eq_empty_of_size_eq_zero h0
      subst hfe
      refine ⟨.func (.func fn) #[] (caps.map ρ), w, ?_, Ext.refl w, ?_⟩
      · simp [execOp, ho, Instr.makeFunc]
      · simp only [relV]
        exact ⟨caps.toList.map ρ, by rw [← Array.toList_map], relVs_map f ρ _ (fun x hx => hf x (by simpa using hx))⟩
    · simp at he
  · rename_i T parts ho
    simp only [ho, Op.operands] at hf
    have := run_next (gives_build hΓ (relPs_map (fun x => x.1) (fun x => f x.2) (fun x => ρ x.2) parts.toList (fun x hx => hf x.2 (by simpa using ⟨x.1, by simpa using hx⟩))) he hob)
    have hm : (List.map (fun x => (x.fst, ρ x.snd)) parts.toList).toArray = parts.map (fun x => (x.1, ρ x.2)) := by rw [← Array.toList_map]
    rw [hm] at this
    simpa [execOp, ho] using this
  · rename_i x ho
    simp only [ho, Op.operands] at hf
    have hx := hf x (by simp)
    have hrun : ∀ a, ρ x = .pointer (some a) → (execOp ρ o).run P w = .ok (.value (ρ x)) w := fun a ha => by simp [execOp, ho, ha]
    unfold evPtr at he
    split at he <;> simp only [Option.some.injEq, Prod.mk.injEq, reduceCtorEq] at he <;> obtain ⟨rfl, rfl⟩ := he <;> rename_i hfx <;> rw [hfx] at hx
    · exact ⟨ρ x, w, by simp only [relV] at hx; exact hrun _ hx.2, Ext.refl w, hx⟩
    · exact ⟨ρ x, w, by simp only [relV] at hx; exact hrun _ hx.2.2, Ext.refl w, hx⟩
    · exact ⟨ρ x, w, by simp only [relV] at hx; obtain ⟨g, o', xs, hv, _⟩ := hx; exact hrun _ hv, Ext.refl w, hx⟩
  · rename_i args ts ho
    simp only [ho, Op.operands, Call.operands] at hf
    split at he
    · rename_i x T ha ht
      have hargs : args = #[x] := by apply Array.ext'; simpa using ha
      have hts : ts = #[T] := by apply Array.ext'; simpa using ht
      subst hargs; subst hts
      have := run_next (gives_len (ty := o.type) hΓ (ts := #[T]) (T := T) (by simp) (hf x (by simp)) he hob)
      simpa [execOp, ho, resolve, invoke, builtin] using this
    · simp at he
  · simp at he

theorem guards_of {env : List (Nat × AV)} : ∀ {l : List Operand}, guards env l = true → ∀ x ∈ l, (strip (avOf env x)).1 = true
  | [], _, x, hx => by simp at hx
  | y :: l, h, x, hx => by
    simp only [guards, Bool.and_eq_true] at h
    rcases List.mem_cons.1 hx with rfl | hx
    · exact h.1
    · exact guards_of h.2 x hx

theorem gives_evalOp [Kn] {Γ : List (TypeId × TI)} (hΓ : okTab P Γ) {B : Ctx} {S : St} {a : Act} (hR : RelC B S β Y a w) {o : Oper} {ob : Prop} {r : AV} (he : evalOp Γ S o.op = some (ob, r)) (hob : ob) :
    ∃ v w', (execOp a.eval o).run P w = .ok (.value v) w' ∧ Ext w w' ∧ relV S.live β Y w r v := by
  unfold evalOp at he
  split at he
  · rename_i x ho
    simp only [Option.some.injEq, Prod.mk.injEq] at he
    obtain ⟨rfl, rfl⟩ := he
    exact ⟨a.eval x, w, by simp [execOp, ho], Ext.refl w, hR.opnd x⟩
  · rename_i x ho
    simp only [Option.some.injEq, Prod.mk.injEq] at he
    obtain ⟨rfl, rfl⟩ := he
    exact ⟨a.eval x, w, by simp [execOp, ho], Ext.refl w, hR.opnd x⟩
  · rename_i c x y ho
    have hc := hR.opnd c
    have hx := hR.opnd x
    have hy := hR.opnd y
    unfold evPick at he
    split at he
    · rename_i gc cb ga bx gb by' h1 h2 h3
      simp only [Option.some.injEq, Prod.mk.injEq] at he
      obtain ⟨rfl, rfl⟩ := he
      have hc' := relV_strip hc (by rw [h1]; exact hob.1)
      rw [h1] at hc'
      simp only [relV, relT, List.cons.injEq, and_true] at hc'
      cases cb with
      | true =>
        have hx' := relV_strip hx (by rw [h2]; exact hob.2.1 rfl)
        rw [h2] at hx'
        refine ⟨a.eval x, w, by simp [execOp, ho, hc', asBool], Ext.refl w, ?_⟩
        simpa using hx'
      | false =>
        have hy' := relV_strip hy (by rw [h3]; exact hob.2.2 rfl)
        rw [h3] at hy'
        refine ⟨a.eval y, w, by simp [execOp, ho, hc', asBool], Ext.refl w, ?_⟩
        simpa using hy'
    · simp at he
  · obtain ⟨⟨ob', r'⟩, he', hr⟩ := Option.map_eq_some_iff.1 he
    simp only [Prod.mk.injEq] at hr
    obtain ⟨rfl, rfl⟩ := hr
    exact gives_evOp hΓ hR.boxes (fun x hx => relV_strip (hR.opnd x) (guards_of hob.1 x hx)) he' hob.2
end
end Go.Proofs.Avx

set_option linter.unusedVariables false
set_option linter.unusedSimpArgs false
namespace Go.Proofs.Avx

/-! ### Lists of operations -/
/-- From S, the list of operations comes to states of K. -/
def AL [Kn] (P : Program) (n : Nat) (ops : Array Oper) (l : List Oper) (S : St) (K : St → Prop) : Prop :=
  ∀ (B : Ctx) (a : Act) (w : World) (Q : Exit → Act → World → Prop), B.n = n → Rel B S a w → (∀ S' a' w', Rel B S' a' w' → K S' → Q .normal a' w') → wpList P ops Q l a w

def dstOk (n : Nat) : Option Nat → Bool
  | some d => decide (d < n)
  | none => true

/-- The function has a body of its own. -/
def Ent (P : Program) (f : FuncId) : Prop := ∃ fn, P.funcs[f]? = some fn ∧ fn.body.isSome = true ∧ (fn.name == "runtime.NumGoroutine") = false

/-- A call of function f comes back with a value. -/
def Does (P : Program) (f : FuncId) (vs : Array Value) (w : World) (R : Value → World → Prop) : Prop :=
  (Ent P f ∧ Calls P f vs w fun e w' => ∃ v, e = .returned v ∧ R v w') ∨ (∃ v w', (callFunc f vs).run P w = .ok (.value v) w' ∧ R v w')

theorem Does.mono {P : Program} {f : FuncId} {vs : Array Value} {w : World} {R R' : Value → World → Prop} (h : Does P f vs w R) (hr : ∀ v w', R v w' → R' v w') : Does P f vs w R' := by
  rcases h with ⟨h1, h2⟩ | ⟨v, w', h1, h2⟩
  · exact .inl ⟨h1, h2.mono fun e w' ⟨v, he, hv⟩ => ⟨v, he, hr v w' hv⟩⟩
  · exact .inr ⟨v, w', h1, hr v w' h2⟩

theorem run_callFunc {P : Program} {f : FuncId} (h : Ent P f) (vs : Array Value) (w : World) : (callFunc f vs).run P w = .ok (.enter f vs) w := by
  obtain ⟨fn, h1, h2, h3⟩ := h
  obtain ⟨c, hc⟩ := Option.isSome_iff_exists.1 h2
  simp [callFunc, h1, hc]
  simpa using h3

theorem Does.wp {P : Program} {o : Oper} {a : Act} {w : World} {f : FuncId} {vs : Array Value} {K : Act → World → Prop} {Q : Exit → Act → World → Prop} (he : (execOp a.eval o).run P w = (callFunc f vs).run P w)
    (h : Does P f vs w fun v w' => K (a.put o.dst v) w') : o.wp P a w K Q := by
  unfold Oper.wp
  rw [he]
  rcases h with ⟨h1, h2⟩ | ⟨v, w', h1, h2⟩
  · rw [run_callFunc h1]
    simp only [Oper.upon]
    refine h2.mono ?_
    rintro e w' ⟨v, rfl, hv⟩
    exact hv
  · rw [h1]; exact h2

/-- A call, from S: its result goes to dst. -/
def CallStep [Kn] (P : Program) (n : Nat) (S : St) (dst : Option Nat) (f : FuncId) (args : List AV) (K : St → Prop) : Prop :=
  ∀ (B : Ctx) (β : Nat → Nat) (Y : Nat → Prop) (a : Act) (w : World) (vs : List Value), B.n = n → RelC B S β Y a w → relVs S.live β Y w args vs →
    Does P f vs.toArray w fun v w' => ∃ S', Rel B S' (a.put dst v) w' ∧ K S'

def stepC [Kn] (P : Program) (n : Nat) (S : St) (dst : Option Nat) (op : Op) (K : St → Prop) : Prop :=
  match op with
  | .call { callee := .value f, args := args, .. } =>
    match avOf S.env f with
    | .clo fid caps => CallStep P n S dst fid (args.toList.map (avOf S.env) ++ caps) K
    | _ => False
  | _ => False

def cndOf (g : Bool) (v : AV) : AV := .cnd (g && (strip v).1) (strip v).2

/-- The bool of an operation that guards. -/
def gval (ops : Array Oper) (env : List (Nat × AV)) (j : Nat) : Option (Bool × Bool) :=
  match (ops[j]?).bind (·.dst) with
  | some d => match strip (getE env d) with
    | (g, .dat .bool b) => some (g, b)
    | _ => none
  | none => none

section
variable {P : Program} {Γ : List (TypeId × TI)} {n : Nat} {ops : Array Oper}

theorem dst_lt {B : Ctx} (hn : B.n = n) {d : Option Nat} (h : dstOk n d = true) : ∀ k, d = some k → k < B.n := by
  rintro k rfl
  rw [hn]; simpa [dstOk] using h

theorem gval_yield [Kn] {B : Ctx} {S : St} {β : Nat → Nat} {Y : Nat → Prop} {a : Act} {w : World} (hR : RelC B S β Y a w) {j : Nat} {g b : Bool} (h : gval ops S.env j = some (g, b)) (hg : g = true) : yielded ops a.tmps j = some b := by
  unfold gval at h
  split at h
  · rename_i d hd
    split at h
    · rename_i g' b' hs
      simp only [Option.some.injEq, Prod.mk.injEq] at h
      obtain ⟨rfl, rfl⟩ := h
      have h1 := relV_strip (hR.env d) (by rw [hs]; exact hg)
      rw [hs] at h1
      simp only [relV, relT, List.cons.injEq, and_true] at h1
      unfold yielded
      rw [hd]
      simp only [Option.bind_some]
      have : a.tmps[d]? = some (.bool b') := by
        rw [Array.getD_eq_getD_getElem?] at h1
        cases hx : a.tmps[d]? with
        | none => rw [hx] at h1; simp [undef] at h1
        | some v => rw [hx] at h1; simpa using h1
      rw [this]
    · simp at h
  · simp at h

theorem RelC.rel [Kn] {B : Ctx} {S : St} {β : Nat → Nat} {Y : Nat → Prop} {a : Act} {w : World} (h : RelC B S β Y a w) : Rel B S a w := ⟨β, Y, h⟩

end
end Go.Proofs.Avx

set_option linter.unusedVariables false
set_option linter.unusedSimpArgs false
namespace Go.Proofs.Avx

/-! ### New boxes -/
theorem ite_self_eq {α : Type} (p : Nat) (x : α) (f : Nat → α) : (if p = p then x else f p) = x := if_pos rfl

/-- A new block of cells, its pointer in a slot. -/
theorem RelC.box [Kn] {B : Ctx} {S : St} {β : Nat → Nat} {Y : Nat → Prop} {a : Act} {w : World} (h : RelC B S β Y a w) {p d : Nat} (hp : p ∉ S.live) (hd : d < B.n) {cs : List AV} {xs : Array Value} (T : TypeId) (hc : relVs S.live β Y w cs xs.toList) :
    Rel B { env := (d, .ptr p 0) :: S.env, boxes := (p, cs) :: S.boxes, live := p :: S.live } (a.put (some d) (.pointer (some ⟨w.heap.size, 0, none⟩))) (w.alloc (.cells xs T)) := by
  have hn := h.new (.cells xs T) p hp
  refine ⟨_, Y, hn.wr, fun k => ?_, fun b ds hb => ?_, hn.defers, by simp [Act.put, h.size]⟩
  · rw [getD_put a d _ k (by rw [h.size]; exact hd)]
    simp only [getE]
    split
    · simp only [relV]; exact ⟨List.mem_cons_self .., by simp⟩
    · exact hn.env k
  · simp only [getB] at hb
    split at hb
    · rename_i e
      subst e
      cases hb
      refine ⟨List.mem_cons_self .., T, xs, ?_, ?_⟩
      · simp only [if_true]; exact heap_alloc_new w _
      · exact relVs_mono (fun _ h => List.mem_cons_of_mem _ h) (upd_ne hp) (fun _ h => h) (fun g hg => (Ext.alloc w _).heap (h.wr.yb g hg)) (fun q hq => (Ext.alloc w _).heap (h.wr.lv q hq).1) _ _ hc
    · exact hn.boxes b ds hb

/-- A new row, owned, in a slot. -/
theorem RelC.row [Kn] {B : Ctx} {S : St} {β : Nat → Nat} {Y : Nat → Prop} {a : Act} {w : World} (h : RelC B S β Y a w) {p d : Nat} (hp : p ∉ S.live) (hd : d < B.n) {t : Ty} {l : List t.D} {xs : Array Value} (e : TypeId) (hc : relL (relT Y w t) l xs.toList) (hm : l.length ≤ maxLen) :
    Rel B { env := (d, .own p e t l) :: S.env, boxes := S.boxes, live := p :: S.live } (a.put (some d) (.slice (some ⟨w.heap.size, 0, none⟩) l.length l.length)) (w.alloc (.cells xs e)) := by
  have hn := h.new (.cells xs e) p hp
  refine ⟨_, Y, hn.wr, fun k => ?_, fun b ds hb => hn.boxes b ds hb, hn.defers, by simp [Act.put, h.size]⟩
  rw [getD_put a d _ k (by rw [h.size]; exact hd)]
  simp only [getE]
  split
  · simp only [relV]
    have hl := relL_length l _ hc
    refine ⟨List.mem_cons_self .., xs.toList, ⟨hl, .inr ⟨_, l.length, xs, rfl, Nat.zero_le _, heap_alloc_new w _, Nat.le_refl _, hm, by simpa using hl, ?_⟩⟩, by simp [Value.ownBlock], ?_⟩
    · rw [List.take_of_length_le (by rw [hl]; exact Nat.le_refl _)]
    · exact relL_mono (fun x c hx => relT_mono (fun _ h => h) (fun g hg => (Ext.alloc w _).heap (h.wr.yb g hg)) t x c hx) l _ hc
  · exact hn.env k

/-! ### Cells read as data -/
def Ty.to (t t' : Ty) (x : t.D) : Option t'.D := if h : t = t' then some (h ▸ x) else none
theorem Ty.to_self (t : Ty) (x : t.D) : Ty.to t t x = some x := by simp [Ty.to]

def asD (t : Ty) : AV → Option t.D
  | .dat t' x => Ty.to t' t x
  | .nilsl => match t with
    | .sl _ => some ([] : List _)
    | _ => none
  | _ => none

/-- The cells of one datum off a list of cells. -/
def asDs : (t : Ty) → List AV → Option (t.D × List AV)
  | .pair a b, cs => match asDs a cs with
    | some (x, r) => match asDs b r with
      | some (y, r') => some ((x, y), r')
      | none => none
    | none => none
  | .unit, cs => some ((), cs)
  | .int k, c :: r => (asD (.int k) c).map (·, r)
  | .bool, c :: r => (asD .bool c).map (·, r)
  | .str, c :: r => (asD .str c).map (·, r)
  | .flt k, c :: r => (asD (.flt k) c).map (·, r)
  | .cpx k, c :: r => (asD (.cpx k) c).map (·, r)
  | .sl t, c :: r => (asD (.sl t) c).map (·, r)
  | _, [] => none

section
variable {P : Program} {L : List Nat} {β : Nat → Nat} {Y : Nat → Prop} {w : World}

theorem asD_of {t : Ty} {x : AV} {v : Value} {y : t.D} (h : relV L β Y w x v) (he : asD t x = some y) : relT Y w t y [v] := by
  unfold asD at he
  split at he
  · unfold Ty.to at he
    split at he
    · rename_i t' x' e
      subst e
      cases he
      simpa only [relV] using h
    · simp at he
  · split at he
    · cases he
      simp only [relV] at h
      subst h
      exact ⟨none, 0, [], rfl, Nat.le_refl _, rfl, .inl rfl⟩
    · simp at he
  · simp at he

theorem asDs_of : ∀ (t : Ty) (cs : List AV) (xs : List Value) (x : t.D) (r : List AV), relVs L β Y w cs xs → asDs t cs = some (x, r) → ∃ c d, xs = c ++ d ∧ relT Y w t x c ∧ relVs L β Y w r d
  | .pair a b, cs, xs, x, r, h, he => by
    simp only [asDs] at he
    split at he
    · rename_i x1 r1 h1
      split at he
      · rename_i y1 r2 h2
        simp only [Option.some.injEq, Prod.mk.injEq] at he
        obtain ⟨rfl, rfl⟩ := he
        obtain ⟨c, d, rfl, k1, k2⟩ := asDs_of a cs xs x1 r1 h h1
        obtain ⟨c', d', rfl, k3, k4⟩ := asDs_of b r1 d y1 r2 k2 h2
        exact ⟨c ++ c', d', by simp, ⟨c, c', rfl, k1, k3⟩, k4⟩
      · simp at he
    · simp at he
  | .unit, cs, xs, x, r, h, he => by
    simp only [asDs, Option.some.injEq, Prod.mk.injEq] at he
    obtain ⟨_, rfl⟩ := he
    exact ⟨[], xs, rfl, rfl, h⟩
  | .int k, c :: cs, xs, x, r, h, he => by
    simp only [asDs] at he
    obtain ⟨y, hy, he⟩ := Option.map_eq_some_iff.1 he
    simp only [Prod.mk.injEq] at he; obtain ⟨rfl, rfl⟩ := he
    simp only [relVs] at h; obtain ⟨v, d, rfl, h1, h2⟩ := h
    exact ⟨[v], d, rfl, asD_of h1 hy, h2⟩
  | .bool, c :: cs, xs, x, r, h, he => by
    simp only [asDs] at he
    obtain ⟨y, hy, he⟩ := Option.map_eq_some_iff.1 he
    simp only [Prod.mk.injEq] at he; obtain ⟨rfl, rfl⟩ := he
    simp only [relVs] at h; obtain ⟨v, d, rfl, h1, h2⟩ := h
    exact ⟨[v], d, rfl, asD_of h1 hy, h2⟩
  | .str, c :: cs, xs, x, r, h, he => by
    simp only [asDs] at he
    obtain ⟨y, hy, he⟩ := Option.map_eq_some_iff.1 he
    simp only [Prod.mk.injEq] at he; obtain ⟨rfl, rfl⟩ := he
    simp only [relVs] at h; obtain ⟨v, d, rfl, h1, h2⟩ := h
    exact ⟨[v], d, rfl, asD_of h1 hy, h2⟩
  | .flt k, c :: cs, xs, x, r, h, he => by
    simp only [asDs] at he
    obtain ⟨y, hy, he⟩ := Option.map_eq_some_iff.1 he
    simp only [Prod.mk.injEq] at he; obtain ⟨rfl, rfl⟩ := he
    simp only [relVs] at h; obtain ⟨v, d, rfl, h1, h2⟩ := h
    exact ⟨[v], d, rfl, asD_of h1 hy, h2⟩
  | .cpx k, c :: cs, xs, x, r, h, he => by
    simp only [asDs] at he
    obtain ⟨y, hy, he⟩ := Option.map_eq_some_iff.1 he
    simp only [Prod.mk.injEq] at he; obtain ⟨rfl, rfl⟩ := he
    simp only [relVs] at h; obtain ⟨v, d, rfl, h1, h2⟩ := h
    exact ⟨[v], d, rfl, asD_of h1 hy, h2⟩
  | .sl t, c :: cs, xs, x, r, h, he => by
    simp only [asDs] at he
    obtain ⟨y, hy, he⟩ := Option.map_eq_some_iff.1 he
    simp only [Prod.mk.injEq] at he; obtain ⟨rfl, rfl⟩ := he
    simp only [relVs] at h; obtain ⟨v, d, rfl, h1, h2⟩ := h
    exact ⟨[v], d, rfl, asD_of h1 hy, h2⟩
  | .int k, [], xs, x, r, h, he => by simp [asDs] at he
  | .bool, [], xs, x, r, h, he => by simp [asDs] at he
  | .str, [], xs, x, r, h, he => by simp [asDs] at he
  | .flt k, [], xs, x, r, h, he => by simp [asDs] at he
  | .cpx k, [], xs, x, r, h, he => by simp [asDs] at he
  | .sl t, [], xs, x, r, h, he => by simp [asDs] at he

/-- The cells of n data off a list of cells. -/
def asL (t : Ty) : Nat → List AV → Option (List t.D)
  | 0, [] => some []
  | 0, _ :: _ => none
  | n + 1, cs => match asDs t cs with
    | some (x, r) => (asL t n r).map (x :: ·)
    | none => none

theorem asL_of {t : Ty} : ∀ (n : Nat) (cs : List AV) (xs : List Value) (l : List t.D), relVs L β Y w cs xs → asL t n cs = some l → relL (relT Y w t) l xs ∧ l.length = n
  | 0, [], xs, l, h, he => by
    simp only [asL, Option.some.injEq] at he
    subst he
    simp only [relVs] at h
    exact ⟨h, rfl⟩
  | 0, _ :: _, xs, l, h, he => by simp [asL] at he
  | n + 1, cs, xs, l, h, he => by
    simp only [asL] at he
    split at he
    · rename_i x r hx
      obtain ⟨l', hl, rfl⟩ := Option.map_eq_some_iff.1 he
      obtain ⟨c, d, rfl, h1, h2⟩ := asDs_of t cs xs x r h hx
      obtain ⟨k1, k2⟩ := asL_of n r d l' h2 hl
      exact ⟨⟨c, d, rfl, h1, k1⟩, by simp [k2]⟩
    · simp at he
end

/-! ### The operations that make memory -/
/-- The names of what a slot makes. -/
def boxN (d : Nat) : Nat := 100 * d + 99
def rowN (d : Nat) : Nat := 100 * d

def zeroC (ti : TI) : List AV := match ofConst ti.z with
  | .agg cs => cs
  | v => [v]

/-- The type of the data of a slice's elements. -/
def tyOf : (fuel : Nat) → List (TypeId × TI) → TypeId → Option Ty
  | 0, _, _ => none
  | f + 1, Γ, T => match Tab.get Γ T with
    | some ti => match ti.d with
      | .int k => some (.int k)
      | .bool => some .bool
      | .str => some .str
      | .flt k => some (.flt k)
      | .cpx k => some (.cpx k)
      | .sl e => (tyOf f Γ e).map .sl
      | .struct fs => go f Γ fs
      | _ => none
    | none => none
where go (f : Nat) (Γ : List (TypeId × TI)) : List (TypeId × Nat) → Option Ty
  | [] => some .unit
  | x :: r => match tyOf f Γ x.1, go f Γ r with
    | some a, some b => some (.pair a b)
    | _, _ => none

def stepMk (Γ : List (TypeId × TI)) (S : St) (dst : Option Nat) (op : Op) (K : St → Prop) : Prop :=
  match op, dst with
  | .alloc T, some d => match Tab.get Γ T with
    | some ti => boxN d ∉ S.live ∧ K { env := (d, .ptr (boxN d) 0) :: S.env, boxes := (boxN d, zeroC ti) :: S.boxes, live := boxN d :: S.live }
    | none => False
  | .box T x, some d => match cellsV (avOf S.env x) with
    | some cs => boxN d ∉ S.live ∧ K { env := (d, .ptr (boxN d) 0) :: S.env, boxes := (boxN d, cs) :: S.boxes, live := boxN d :: S.live }
    | none => False
  | .buildSlice T n parts, some d => match Tab.get Γ T with
    | some { d := .sl e, .. } => match Tab.get Γ e, tyOf 4 Γ e with
      | some ei, some t =>
        if n * ei.size ≤ 16777216 ∧ n ≤ 9223372036854775807 then
          match fillC (fun i => some (i * ei.size, ei.size)) (parts.toList.map fun x => (x.1, avOf S.env x.2)) (List.replicate n (zeroC ei)).flatten with
          | some cs => match asL t n cs with
            | some l => rowN d ∉ S.live ∧ K { env := (d, .own (rowN d) e t l) :: S.env, boxes := S.boxes, live := rowN d :: S.live }
            | none => False
          | none => False
        else False
      | _, _ => False
    | _ => False
  | _, _ => False

section
variable {P : Program} {Γ : List (TypeId × TI)} {n : Nat}

theorem zeroC_of {T : TypeId} {ti : TI} (h : okTI P T ti) {L : List Nat} {β : Nat → Nat} {Y : Nat → Prop} {w : World} : relVs L β Y w (zeroC ti) ti.z.cells.toList := by
  have hz := relV_ofConst (L := L) (β := β) (Y := Y) (w := w) ti.z
  unfold zeroC
  split
  · rename_i cs hc
    rw [hc] at hz
    simp only [relV] at hz
    obtain ⟨xs, hv, hr⟩ := hz
    rw [hv]; simpa [Value.cells] using hr
  · rename_i v hv
    have : ti.z.cells = #[ti.z] := by
      cases hzz : ti.z <;> first | rfl | (rw [hzz] at hv; simp [ofConst] at hv)
    rw [this]; simp only [relVs]; exact ⟨_, [], rfl, hz, rfl⟩

theorem zeros_of {L : List Nat} {β : Nat → Nat} {Y : Nat → Prop} {w : World} {cs : List AV} {xs : List Value} (h : relVs L β Y w cs xs) : ∀ k, relVs L β Y w (List.replicate k cs).flatten (List.replicate k xs).flatten
  | 0 => by simp [relVs]
  | k + 1 => by simp only [List.replicate_succ, List.flatten_cons]; exact relVs_append h (zeros_of h k)

theorem range_mod (z : Array Value) (k : Nat) : ((Array.range (k * z.size)).map (fun i => z[i % z.size]!)).toList = (List.replicate k z.toList).flatten := by
  apply List.ext_getElem?
  intro j
  by_cases hz : z.size = 0
  · have : z = #[] := Array.eq_empty_of_size_eq_zero hz
    subst this
    simp
  · simp only [Array.toList_map, Array.toList_range, List.getElem?_map]
    induction k generalizing j with
    | zero => simp
    | succ k ih =>
      simp only [List.replicate_succ, List.flatten_cons]
      by_cases hj : j < z.size
      · rw [List.getElem?_append_left (by simpa using hj), List.getElem?_range (by rw [Nat.add_mul]; omega)]
        simp [Nat.mod_eq_of_lt hj, hj]
      · rw [List.getElem?_append_right (by simpa using hj)]
        rw [← ih]
        by_cases hk : j < (k + 1) * z.size
        · have : j - z.toList.length < k * z.size := by simp; rw [Nat.add_mul] at hk; omega
          rw [List.getElem?_range hk, List.getElem?_range this]
          simp only [Option.map_some, Array.length_toList]
          congr 2
          have hm : j = (j - z.size) + z.size := by omega
          conv => lhs; rw [hm]
          rw [Nat.add_mod_right]
        · have : ¬ j - z.toList.length < k * z.size := by simp; rw [Nat.add_mul] at hk; omega
          rw [List.getElem?_eq_none (by simpa using hk), List.getElem?_eq_none (by simpa using this)]

theorem size_of_info {T : TypeId} {ti : TI} (h : okTI P T ti) : True := trivial

theorem stepMk_sound [Kn] (hΓ : okTab P Γ) {B : Ctx} {S : St} {β : Nat → Nat} {Y : Nat → Prop} {a : Act} {w : World} (hn : B.n = n) (hC : RelC B S β Y a w) {o : Oper} (hd : dstOk n o.dst = true) {K : St → Prop} (h : stepMk Γ S o.dst o.op K) :
    ∃ v w', (execOp a.eval o).run P w = .ok (.value v) w' ∧ ∃ S', Rel B S' (a.put o.dst v) w' ∧ K S' := by
  unfold stepMk at h
  split at h
  · rename_i T d ho hdst
    split at h
    · rename_i ti hT
      obtain ⟨hp, hk⟩ := h
      have hti := hΓ.get hT
      refine ⟨.pointer (some ⟨w.heap.size, 0, none⟩), w.alloc (.cells ti.z.cells T), ?_, _, ?_, hk⟩
      · simp [execOp, ho, Instr.alloc, run_zero_of hti, newVar, newRow]
      · rw [hdst]
        exact hC.box hp (dst_lt hn hd d hdst) T (zeroC_of hti)
    · exact h.elim
  · rename_i T x d ho hdst
    split at h
    · rename_i cs hcs
      obtain ⟨hp, hk⟩ := h
      refine ⟨.pointer (some ⟨w.heap.size, 0, none⟩), w.alloc (.cells (a.eval x).cells T), ?_, _, ?_, hk⟩
      · simp [execOp, ho, Instr.box, newVar, newRow]
      · rw [hdst]
        exact hC.box hp (dst_lt hn hd d hdst) T (cells_of (hC.opnd x) hcs)
    · exact h.elim
  · rename_i T k parts d ho hdst
    split at h
    · rename_i e sz by' z hT
      have hu : P.underlying T = some (.slice e) := (hΓ.get hT).d
      split at h
      · rename_i ei t hE ht
        have hei := hΓ.get hE
        split at h
        · rename_i hlim
          split at h
          · rename_i cs hcs
            split at h
            · rename_i l hl
              obtain ⟨hp, hk⟩ := h
              have hz := zeros_of (zeroC_of hei (L := S.live) (β := β) (Y := Y) (w := w)) k
              have hcell : (Array.range (k * ei.size)).map (fun i => (if k * ei.size = 0 then (#[] : Array Value) else ei.z.cells)[i % (if k * ei.size = 0 then (#[] : Array Value) else ei.z.cells).size]!) = (List.replicate k ei.z.cells.toList).flatten.toArray := by
                by_cases h0 : k * ei.size = 0
                · rw [if_pos h0, h0]
                  have : (List.replicate k ei.z.cells.toList).flatten = [] := by
                    rcases Nat.mul_eq_zero.1 h0 with h1 | h1
                    · rw [h1]; rfl
                    · have : ei.z.cells = #[] := Array.eq_empty_of_size_eq_zero (by rw [hei.zs, h1])
                      rw [this]; simp
                  rw [this]; simp
                · rw [if_neg h0, ← range_mod ei.z.cells k, hei.zs]
              obtain ⟨ys, h1, h2⟩ := fill_of (pl := fun i => some (i * ei.size, ei.size)) (fun i o s hs => hs) (relPs_map (fun x => x.1) (fun x => avOf S.env x.2) (fun x => a.eval x.2) parts.toList (fun x _ => hC.opnd x.2))
                (xs := (List.replicate k ei.z.cells.toList).flatten.toArray) (by simpa using hz) hcs
              obtain ⟨h3, h4⟩ := asL_of k cs ys.toList l h2 hl
              have hm : (List.map (fun x => (x.fst, a.eval x.snd)) parts.toList) = (parts.map (fun x => (x.1, a.eval x.2))).toList := by simp
              rw [hm] at h1
              subst h4
              refine ⟨.slice (some ⟨w.heap.size, 0, none⟩) l.length l.length, w.alloc (.cells ys e), ?_, _, ?_, hk⟩
              · by_cases h0 : l.length * ei.size = 0
                · rw [if_pos h0] at hcell
                  simp [execOp, ho, Instr.buildSlice, run_und hu, run_sizeOf_of hei, Nat.not_lt.2 hlim.1, h0] 
                  simp only [h0] at hcell
                  rw [← hcell] at h1
                  simp at h1
                  simp [h1, newRow]
                · rw [if_neg h0] at hcell
                  simp [execOp, ho, Instr.buildSlice, run_und hu, run_sizeOf_of hei, run_zero_of hei, Nat.not_lt.2 hlim.1, h0]
                  rw [hcell]
                  simp only [Array.toList_map] at h1
                  simp [h1, newRow]
              · rw [hdst]
                exact hC.row hp (dst_lt hn hd d hdst) e h3 hlim.2
            · exact h.elim
          · exact h.elim
        · exact h.elim
      · exact h.elim
    · exact h.elim
  · exact h.elim
end
end Go.Proofs.Avx

set_option linter.unusedVariables false
set_option linter.unusedSimpArgs false
namespace Go.Proofs.Avx

/-! ### A name goes -/
mutual
def killV (p : Nat) : AV → AV
  | .own q e t l => if q = p then .any else .own q e t l
  | .ptr b o => if b = p then .any else .ptr b o
  | .optr q e t l i o => if q = p then .any else .optr q e t l i o
  | .rptr cs => .rptr (killVs p cs)
  | .clo f caps => .clo f (killVs p caps)
  | .agg cs => .agg (killVs p cs)
  | .tup vs => .tup (killVs p vs)
  | .cnd g v => .cnd g (killV p v)
  | .dat t x => .dat t x
  | .nilsl => .nilsl
  | .esl => .esl
  | .any => .any
def killVs (p : Nat) : List AV → List AV
  | [] => []
  | a :: l => killV p a :: killVs p l
end
def killE (p : Nat) : List (Nat × AV) → List (Nat × AV)
  | [] => []
  | (k, v) :: r => (k, killV p v) :: killE p r
def killB (p : Nat) : List (Nat × List AV) → List (Nat × List AV)
  | [] => []
  | (b, cs) :: r => if b = p then killB p r else (b, killVs p cs) :: killB p r
def killL (p : Nat) : List Nat → List Nat
  | [] => []
  | q :: r => if q = p then killL p r else q :: killL p r
def St.kill (S : St) (p : Nat) : St := ⟨killE p S.env, killB p S.boxes, killL p S.live⟩

theorem mem_killL {p q : Nat} : ∀ {l : List Nat}, q ∈ killL p l ↔ q ∈ l ∧ q ≠ p
  | [] => by simp [killL]
  | r :: l => by
    simp only [killL]
    split
    · rename_i h
      subst h
      rw [mem_killL (l := l)]
      simp only [List.mem_cons]
      constructor
      · rintro ⟨h1, h2⟩; exact ⟨.inr h1, h2⟩
      · rintro ⟨h1 | h1, h2⟩
        · exact absurd h1 h2
        · exact ⟨h1, h2⟩
    · rename_i h
      simp only [List.mem_cons, mem_killL (l := l)]
      constructor
      · rintro (rfl | ⟨h1, h2⟩)
        · exact ⟨.inl rfl, h⟩
        · exact ⟨.inr h1, h2⟩
      · rintro ⟨h1 | h1, h2⟩
        · exact .inl h1
        · exact .inr ⟨h1, h2⟩

section
variable {L : List Nat} {β : Nat → Nat} {Y : Nat → Prop} {w : World}
mutual
theorem relV_kill (p : Nat) : ∀ (a : AV) (v : Value), relV L β Y w a v → relV (killL p L) β Y w (killV p a) v
  | .dat t x, v, h => by simp only [killV, relV] at h ⊢; exact h
  | .own q e t l, v, h => by
    simp only [killV]
    split
    · simp only [relV]
    · rename_i hq; simp only [relV] at h ⊢; exact ⟨mem_killL.2 ⟨h.1, hq⟩, h.2⟩
  | .nilsl, v, h => by simp only [killV, relV] at h ⊢; exact h
  | .esl, v, h => by simp only [killV, relV] at h ⊢; exact h
  | .ptr b o, v, h => by
    simp only [killV]
    split
    · simp only [relV]
    · rename_i hq; simp only [relV] at h ⊢; exact ⟨mem_killL.2 ⟨h.1, hq⟩, h.2⟩
  | .optr q e t l i o, v, h => by
    simp only [killV]
    split
    · simp only [relV]
    · rename_i hq; simp only [relV] at h ⊢; exact ⟨mem_killL.2 ⟨h.1, hq⟩, h.2⟩
  | .rptr cs, v, h => by
    simp only [killV, relV] at h ⊢
    obtain ⟨g, o, xs, hv, hg, hr, hc⟩ := h
    exact ⟨g, o, xs, hv, hg, relVs_kill p cs xs hr, hc⟩
  | .clo f caps, v, h => by simp only [killV, relV] at h ⊢; obtain ⟨cs, hv, hr⟩ := h; exact ⟨cs, hv, relVs_kill p caps cs hr⟩
  | .agg l, v, h => by simp only [killV, relV] at h ⊢; obtain ⟨cs, hv, hr⟩ := h; exact ⟨cs, hv, relVs_kill p l cs hr⟩
  | .tup l, v, h => by simp only [killV, relV] at h ⊢; obtain ⟨cs, hv, hr⟩ := h; exact ⟨cs, hv, relVs_kill p l cs hr⟩
  | .cnd g a, v, h => by simp only [killV, relV] at h ⊢; exact fun hg => relV_kill p a v (h hg)
  | .any, v, h => by simp only [killV, relV]
theorem relVs_kill (p : Nat) : ∀ (l : List AV) (cs : List Value), relVs L β Y w l cs → relVs (killL p L) β Y w (killVs p l) cs
  | [], cs, h => by simp only [killVs, relVs] at h ⊢; exact h
  | a :: l, cs, h => by
    simp only [killVs, relVs] at h ⊢
    obtain ⟨c, d, e, h1, h2⟩ := h
    exact ⟨c, d, e, relV_kill p a c h1, relVs_kill p l d h2⟩
end
theorem getE_kill (p : Nat) : ∀ (env : List (Nat × AV)) (k : Nat), getE (killE p env) k = killV p (getE env k)
  | [], k => by simp [killE, getE, killV]
  | (j, v) :: r, k => by simp only [killE, getE]; split <;> first | rfl | exact getE_kill p r k
theorem getB_kill (p : Nat) : ∀ (bs : List (Nat × List AV)) (b : Nat) (cs : List AV), getB (killB p bs) b = some cs → b ≠ p ∧ ∃ cs0, getB bs b = some cs0 ∧ cs = killVs p cs0
  | [], b, cs, h => by simp [killB, getB] at h
  | (j, v) :: r, b, cs, h => by
    simp only [killB] at h
    split at h
    · rename_i hj
      obtain ⟨h1, cs0, h2, h3⟩ := getB_kill p r b cs h
      refine ⟨h1, cs0, ?_, h3⟩
      simp only [getB]; rw [if_neg (fun e => h1 (e.trans hj))]; exact h2
    · rename_i hj
      simp only [getB] at h ⊢
      split at h
      · rename_i hb; cases h; subst hb; exact ⟨hj, v, by simp, rfl⟩
      · rename_i hb
        obtain ⟨h1, cs0, h2, h3⟩ := getB_kill p r b cs h
        exact ⟨h1, cs0, by rw [if_neg hb]; exact h2, h3⟩

theorem RelC.kill [Kn] {B : Ctx} {S : St} {a : Act} (h : RelC B S β Y a w) (p : Nat) (hp : p % 100 ≠ 98) : RelC B (S.kill p) β Y a w where
  wr := {
    fr := h.wr.fr
    yb := h.wr.yb
    yo := h.wr.yo
    lv := fun q hq => h.wr.lv q (mem_killL.1 hq).1
    inj := fun q r hq hr => h.wr.inj q r (mem_killL.1 hq).1 (mem_killL.1 hr).1
    ib := fun b hb => ⟨mem_killL.2 ⟨(h.wr.ib b hb).1, fun e => hp (e ▸ (h.wr.ib b hb).2.2)⟩, (h.wr.ib b hb).2⟩
    cp := h.wr.cp
    kn := h.wr.kn }
  env k := by simp only [St.kill, getE_kill]; exact relV_kill p _ _ (h.env k)
  boxes b cs hb := by
    obtain ⟨h1, cs0, h2, rfl⟩ := getB_kill p _ _ _ hb
    obtain ⟨k1, T, cur, k2, k3⟩ := h.boxes b cs0 h2
    exact ⟨mem_killL.2 ⟨k1, h1⟩, T, cur, k2, relVs_kill p _ _ k3⟩
  defers := h.defers
  size := h.size

/-- A block outside all that is named and read turns, and others come. -/
theorem RelC.turn [Kn] {B : Ctx} {S : St} {a : Act} (h : RelC B S β Y a w) {w' : World} {g : Nat} (hg : ∀ p, p ∈ S.live → β p ≠ g) (hY : ¬ Y g) (hB : B.io g ∨ B.w0.heap.size ≤ g) (hw : w.grownBy w' (some g)) : RelC B S β Y a w' := by
  have hkeep : ∀ k, k < w.heap.size → k ≠ g → w'.heap[k]? = w.heap[k]? := fun k hk hne => hw.block k hk (fun e => hne (Option.some.inj e))
  have hYh : ∀ b, Y b → w'.heap[b]? = w.heap[b]? := fun b hb => hkeep b (h.wr.yb b hb) (fun e => hY (e ▸ hb))
  have hLh : ∀ p, p ∈ S.live → w'.heap[β p]? = w.heap[β p]? := fun p hp => hkeep _ (h.wr.lv p hp).1 (hg p hp)
  refine ⟨⟨⟨hw.os.trans h.wr.fr.os, hw.tape.trans h.wr.fr.tape, hw.output.trans h.wr.fr.output, Nat.le_trans h.wr.fr.size hw.size, fun k hk hn => ?_⟩, fun b hb => Nat.lt_of_lt_of_le (h.wr.yb b hb) hw.size, h.wr.yo,
    fun p hp => ⟨Nat.lt_of_lt_of_le (h.wr.lv p hp).1 hw.size, (h.wr.lv p hp).2⟩, h.wr.inj, h.wr.ib, fun b hb => (szB_of (hLh b (h.wr.ib b hb).1)).trans (h.wr.cp b hb), Kn.mono h.wr.kn (fun _ h => h) hYh⟩, fun k => ?_, fun b cs hb => ?_, h.defers, h.size⟩
  · rw [hkeep k (Nat.lt_of_lt_of_le hk h.wr.fr.size) (fun e => by subst e; rcases hB with hB | hB; exact hn hB; omega)]
    exact h.wr.fr.block k hk hn
  · exact relV_mono (fun _ h => h) (fun _ _ => rfl) (fun _ h => h) hYh hLh _ _ (h.env k)
  · obtain ⟨h1, T, cur, h2, h3⟩ := h.boxes b cs hb
    exact ⟨h1, T, cur, (hLh b h1).trans h2, relVs_mono (fun _ h => h) (fun _ _ => rfl) (fun _ h => h) hYh hLh _ _ h3⟩

/-- A block that nothing names gets a name. -/
theorem RelC.name [Kn] {B : Ctx} {S : St} {a : Act} (h : RelC B S β Y a w) {p g : Nat} (hp : p ∉ S.live) (hg : ∀ q, q ∈ S.live → β q ≠ g) (hgs : g < w.heap.size) (hY : ¬ Y g) (hB : B.io g ∨ B.w0.heap.size ≤ g) :
    RelC B { S with live := p :: S.live } (fun q => if q = p then g else β q) Y a w := by
  have hk : ∀ (x : AV) (v : Value), relV S.live β Y w x v → relV (p :: S.live) (fun q => if q = p then g else β q) Y w x v := fun x v hv =>
    relV_mono (fun _ h => List.mem_cons_of_mem _ h) (upd_ne hp) (fun _ h => h) (fun _ _ => rfl) (fun _ _ => rfl) x v hv
  refine ⟨⟨h.wr.fr, h.wr.yb, h.wr.yo, fun q hq => ?_, fun q r hq hr e => ?_, fun b hb => ⟨List.mem_cons_of_mem _ (h.wr.ib b hb).1, by rw [if_neg (fun e : b = p => hp (e ▸ (h.wr.ib b hb).1))]; exact (h.wr.ib b hb).2.1, (h.wr.ib b hb).2.2⟩, fun b hb => by rw [if_neg (fun e : b = p => hp (e ▸ (h.wr.ib b hb).1))]; exact h.wr.cp b hb, h.wr.kn⟩, fun k => hk _ _ (h.env k), fun b cs hb => ?_, h.defers, h.size⟩
  · by_cases e : q = p
    · subst e; rw [if_pos rfl]; exact ⟨hgs, hY, hB⟩
    · rw [if_neg e]; exact h.wr.lv q ((List.mem_cons.1 hq).resolve_left e)
  · by_cases e1 : q = p <;> by_cases e2 : r = p
    · rw [e1, e2]
    · rw [if_pos e1, if_neg e2] at e
      exact absurd e.symm (hg r ((List.mem_cons.1 hr).resolve_left e2))
    · rw [if_neg e1, if_pos e2] at e
      exact absurd e (hg q ((List.mem_cons.1 hq).resolve_left e1))
    · rw [if_neg e1, if_neg e2] at e
      exact h.wr.inj q r ((List.mem_cons.1 hq).resolve_left e1) ((List.mem_cons.1 hr).resolve_left e2) e
  · obtain ⟨h1, T, cur, h2, h3⟩ := h.boxes b cs hb
    refine ⟨List.mem_cons_of_mem _ h1, T, cur, ?_, relVs_mono (fun _ h => List.mem_cons_of_mem _ h) (upd_ne hp) (fun _ h => h) (fun _ _ => rfl) (fun _ _ => rfl) _ _ h3⟩
    show w.heap[if b = p then g else β b]? = _
    rw [upd_ne hp b h1]; exact h2
end
end Go.Proofs.Avx

set_option linter.unusedVariables false
set_option linter.unusedSimpArgs false
namespace Go.Proofs.Avx

/-! ### append -/
/-- What is appended: its data, if they are of type t. -/
def srcL (t : Ty) : AV → Option (List t.D)
  | .own _ _ t' l => Ty.to (.sl t') (.sl t) l
  | .dat (.sl t') l => Ty.to (.sl t') (.sl t) l
  | .nilsl => some ([] : List t.D)
  | _ => none

def stepApp (Γ : List (TypeId × TI)) (S : St) (d : Nat) (T : TypeId) (s x : AV) (K : St → Prop) : Prop :=
  match Tab.get Γ T with
  | some { d := .sl e, .. } => match Tab.get Γ e with
    | some ei =>
      if ei.size = 0 then False else
      match s with
      | .own p e' t l => match srcL t x with
        | some l2 => e' = e ∧ t.size = ei.size ∧ (l.length + l2.length) * ei.bytes ≤ 140737488355328 ∧ l.length + l2.length ≤ 9223372036854775807 ∧ p % 100 ≠ 98 ∧ rowN d ∉ killL p S.live ∧
          K { env := (d, .own (rowN d) e t (l ++ l2)) :: killE p S.env, boxes := killB p S.boxes, live := rowN d :: killL p S.live }
        | none => False
      | .nilsl => match tyOf 4 Γ e with
        | some t => match srcL t x with
          | some (y :: l2) => t.size = ei.size ∧ ((y :: l2 : List t.D)).length * ei.bytes ≤ 140737488355328 ∧ ((y :: l2 : List t.D)).length ≤ 9223372036854775807 ∧ rowN d ∉ S.live ∧
            K { env := (d, .own (rowN d) e t (y :: l2)) :: S.env, boxes := S.boxes, live := rowN d :: S.live }
          | _ => False
        | none => False
      | .esl => match tyOf 4 Γ e with
        | some t => match srcL t x with
          | some (y :: l2) => t.size = ei.size ∧ ((y :: l2 : List t.D)).length * ei.bytes ≤ 140737488355328 ∧ ((y :: l2 : List t.D)).length ≤ 9223372036854775807 ∧ rowN d ∉ S.live ∧
            K { env := (d, .own (rowN d) e t (y :: l2)) :: S.env, boxes := S.boxes, live := rowN d :: S.live }
          | _ => False
        | none => False
      | _ => False
    | none => False
  | _ => False

section
variable {P : Program} {Γ : List (TypeId × TI)} {n : Nat} {L : List Nat} {β : Nat → Nat} {Y : Nat → Prop} {w : World}

theorem relT_one {t : Ty} : ∀ {x : t.D} {cs : List Value}, relT Y w t x cs → ∀ u ∈ cs, u.oneCell' = true := by
  induction t with
  | int k => intro x cs h u hu; have : cs = [.int k x] := h; subst this; simp at hu; subst hu; rfl
  | bool => intro x cs h u hu; have : cs = [.bool x] := h; subst this; simp at hu; subst hu; rfl
  | str => intro x cs h u hu; have : cs = [.string ⟨x.toArray⟩] := h; subst this; simp at hu; subst hu; rfl
  | flt k => intro x cs h u hu; obtain ⟨b, rfl, _⟩ := h; simp at hu; subst hu; rfl
  | cpx k => intro x cs h u hu; obtain ⟨b, c, rfl, _⟩ := h; simp at hu; subst hu; rfl
  | sl t _ => intro x cs h u hu; obtain ⟨A, cap, xs, rfl, _⟩ := h; simp at hu; subst hu; rfl
  | pair a b iha ihb =>
    intro x cs h u hu
    obtain ⟨c, d, rfl, h1, h2⟩ := h
    rcases List.mem_append.1 hu with hu | hu
    · exact iha h1 u hu
    · exact ihb h2 u hu
  | unit => intro x cs h u hu; have : cs = [] := h; subst this; simp at hu

theorem relL_one {t : Ty} : ∀ {l : List t.D} {xs : List Value}, relL (relT Y w t) l xs → ∀ u ∈ xs, u.oneCell' = true
  | [], xs, h, u, hu => by have : xs = [] := h; subst this; simp at hu
  | x :: l, xs, ⟨c, d, e, h1, h2⟩, u, hu => by
    subst e
    rcases List.mem_append.1 hu with hu | hu
    · exact relT_one h1 u hu
    · exact relL_one h2 u hu

theorem relL_append {t : Ty} : ∀ {l m : List t.D} {xs ys : List Value}, relL (relT Y w t) l xs → relL (relT Y w t) m ys → relL (relT Y w t) (l ++ m) (xs ++ ys)
  | [], m, xs, ys, h, h' => by have : xs = [] := h; subst this; simpa using h'
  | x :: l, m, xs, ys, ⟨c, d, e, h1, h2⟩, h' => by subst e; exact ⟨c, d ++ ys, by simp, h1, relL_append h2 h'⟩

/-- Where what is appended lies. -/
theorem src_of {t : Ty} (hsz : t.size ≠ 0) {x : AV} {v : Value} {l2 : List t.D} (h : relV L β Y w x v) (he : srcL t x = some l2) :
    ∃ A c xs, v = .slice A l2.length c ∧ relL (relT Y w t) l2 xs ∧ (l2 = [] ∨ ∃ ad, A = some ad ∧ ∀ j u, xs[j]? = some u → w.cell? (ad.add j) = some u) := by
  unfold srcL at he
  split at he
  · rename_i p e t' l
    unfold Ty.to at he
    split at he
    · rename_i hh
      simp only [Ty.sl.injEq] at hh
      subst hh
      cases he
      simp only [relV] at h
      obtain ⟨_, xs, h1, h2, h3⟩ := h
      obtain ⟨cap, rfl, _⟩ := own_cell_form h1 h2
      exact ⟨_, cap, xs, rfl, h3, .inr ⟨_, rfl, h1.cells h2⟩⟩
    · simp at he
  · rename_i t' l
    unfold Ty.to at he
    split at he
    · rename_i hh
      simp only [Ty.sl.injEq] at hh
      subst hh
      cases he
      simp only [relV, relT] at h
      obtain ⟨A, cap, xs, hv, hc, h3, hm⟩ := h
      simp only [List.cons.injEq, and_true] at hv
      subst hv
      refine ⟨A, cap, xs, rfl, h3, ?_⟩
      rcases hm with rfl | ⟨g, o, rfl, _, hcell⟩
      · cases A with
        | some ad => exact .inr ⟨ad, rfl, by simp⟩
        | none =>
          cases l with
          | nil => exact .inl rfl
          | cons y l =>
            have := relL_length (y :: l) [] h3
            simp [Nat.add_mul] at this
            exact absurd (by omega) hsz
      · exact .inr ⟨_, rfl, fun j u hu => by rw [add_spot]; exact hcell j u hu⟩
    · simp at he
  · cases he
    simp only [relV] at h
    subst h
    exact ⟨none, 0, [], rfl, rfl, .inl rfl⟩
  · simp at he

theorem run_append_none {T ty e : TypeId} {ei : TI} (hT : P.underlying T = some (.slice e)) (hei : okTI P e ei) (b : Option Addr) (k cap c : Nat) (hk : k ≤ cap) : (Builtin.append_ #[T, T] ty #[.slice b k cap, .slice none 0 c]).run P w = .ok (.slice b k cap) w := by
  cases b <;> simp [Builtin.append_, run_und hT, run_sizeOf_of hei, Builtin.lenOf, hk, Builtin.firstCells, storeCells]

theorem run_append_esl {w : World} {t ty e : TypeId} {i : TypeInfo} {z : Value} {size bytes : Nat} (ht : P.underlying t = some (.slice e)) (hi : P.info? e = some i) (hz : i.zero = some z)
    (hsize : i.size = size) (hby : i.bytes = bytes) (hzs : z.cells.size = size) (b : Addr) (a : Addr) (n c : Nat) (ys : List Value) (hl : ys.length = n * size) (hys : ∀ j u, ys[j]? = some u → w.cell? (a.add j) = some u)
    (h0 : 0 < n) (h63 : n ≤ maxLen) (hbytes : n * bytes ≤ 140737488355328) :
    ∃ v' w', (Builtin.append_ #[t, t] ty #[.slice (some b) 0 0, .slice (some a) n c]).run P w = .ok v' w' ∧ w'.ownsRow 0 e size v' n ys ∧ w.grownBy w' none ∧ v'.ownBlock = some w.heap.size := by
  subst hsize
  subst hby
  have hrun := run_append_grow (P := P) w t ty e i z ht hi hz b 0 0 [] (by simp) (by simp) a n c ys hl hys (by omega) (by simp only [maxLen] at h63; omega) (by
    rw [Nat.zero_add, nextslicecap_zero h0]; omega)
  rw [Nat.zero_add] at hrun
  have hge := grownCap_ge w n 0 e
  have hcm : grownCap w n 0 e ≤ maxLen := grownCap_le_maxLen w n 0 e h63
  refine ⟨_, _, hrun, ⟨hl, .inr ⟨w.heap.size, _, _, rfl, Nat.zero_le _, heap_alloc_new w.drew _, hge, hcm, ?_, ?_⟩⟩, ⟨rfl, rfl, rfl, by simp, fun k hk _ => heap_alloc_old w.drew _ hk⟩, rfl⟩
  · simp only [Array.size_append, List.size_toArray, size_zeroCells, hzs, hl, List.length_nil, Nat.zero_add, ← Nat.add_mul]
    congr 1
    omega
  · simp [hl]

theorem stepApp_sound [Kn] (hΓ : okTab P Γ) {B : Ctx} {S : St} {a : Act} (hn : B.n = n) (hC : RelC B S β Y a w) {d : Nat} (hd : d < n) {T ty : TypeId} {s x : AV} {vs vx : Value} (hs : relV S.live β Y w s vs) (hx : relV S.live β Y w x vx) {K : St → Prop} (h : stepApp Γ S d T s x K) :
    ∃ v w', (Builtin.append_ #[T, T] ty #[vs, vx]).run P w = .ok v w' ∧ ∃ S', Rel B S' (a.put (some d) v) w' ∧ K S' := by
  unfold stepApp at h
  split at h
  · rename_i e sz by' z hT
    have hu : P.underlying T = some (.slice e) := (hΓ.get hT).d
    split at h
    · rename_i ei hE
      have hei := hΓ.get hE
      obtain ⟨i, hi, hi1, hi2, hi3⟩ := hei.get
      split at h
      · exact h.elim
      · rename_i hsz0
        split at h
        · rename_i p e' t l
          split at h
          · rename_i l2 hl2
            obtain ⟨rfl, hts, hby, h63, hp99, hfr, hk⟩ := h
            have hsz : t.size ≠ 0 := by rw [hts]; exact hsz0
            simp only [relV] at hs
            obtain ⟨hpl, xs, ho1, ho2, ho3⟩ := hs
            obtain ⟨A, c, ys, rfl, hy1, hy2⟩ := src_of hsz hx hl2
            have hlv := hC.wr.lv p hpl
            have hkill := hC.kill p hp99
            have hne : ∀ q, q ∈ (S.kill p).live → β q ≠ β p := fun q hq e => (mem_killL.1 hq).2 (hC.wr.inj q p (mem_killL.1 hq).1 hpl e)
            -- the run, and what it leaves
            have main : ∃ v w', (Builtin.append_ #[T, T] ty #[vs, .slice A l2.length c]).run P w = .ok v w' ∧ w'.ownsRow 0 e' t.size v (l.length + l2.length) (xs ++ ys) ∧ w.grownBy w' vs.ownBlock ∧ (v.ownBlock = vs.ownBlock ∨ v.ownBlock = some w.heap.size) := by
              rcases hy2 with hy2 | ⟨ad, rfl, hy2⟩
              · subst hy2
                obtain ⟨cap, rfl, hcap⟩ := own_cell_form ho1 ho2
                have : ys = [] := hy1
                subst this
                cases A with
                | none => exact ⟨_, w, run_append_none hu hei _ _ _ _ hcap, by simpa using ho1, ⟨rfl, rfl, rfl, Nat.le_refl _, fun _ _ _ => rfl⟩, .inl rfl⟩
                | some ad =>
                  obtain ⟨v', w', h1, h2, h3, h4, h5⟩ := Go.run_append_own_at (P := P) w 0 T ty e' i ei.z t.size ei.bytes hu hi hi3 (hi1.trans hts.symm) hi2 (hei.zs.trans hts.symm) (Nat.pos_of_ne_zero hsz) _ l.length xs ho1 ad 0 c [] (by simp) (by simp) (by simp) (by simp only [maxLen]; simp at h63; omega) (by simpa using hby) (Nat.zero_le _)
                  exact ⟨v', w', h1, h2, h3, h5⟩
              · obtain ⟨v', w', h1, h2, h3, h4, h5⟩ := Go.run_append_own_at (P := P) w 0 T ty e' i ei.z t.size ei.bytes hu hi hi3 (hi1.trans hts.symm) hi2 (hei.zs.trans hts.symm) (Nat.pos_of_ne_zero hsz) _ l.length xs ho1 ad l2.length c ys (relL_length l2 ys hy1) hy2 (relL_one hy1) (by simp only [maxLen]; omega) hby (Nat.zero_le _)
                exact ⟨v', w', h1, h2, h3, h5⟩
            obtain ⟨v, w', hrun, hown, hgrow, hblk⟩ := main
            refine ⟨v, w', hrun, _, ?_, hk⟩
            rw [ho2] at hgrow hblk
            have hC' := hkill.turn (w' := w') hne hlv.2.1 hlv.2.2 hgrow
            obtain ⟨g, hg, hg1, hg2⟩ : ∃ g, v.ownBlock = some g ∧ (∀ q, q ∈ (S.kill p).live → β q ≠ g) ∧ (g < w'.heap.size ∧ ¬ Y g ∧ (B.io g ∨ B.w0.heap.size ≤ g)) := by
              have hlt : ∀ g, v.ownBlock = some g → g < w'.heap.size := fun g hg => (hown.lt g hg).2
              rcases hblk with hb | hb
              · exact ⟨β p, hb, hne, hlt _ hb, hlv.2.1, hlv.2.2⟩
              · exact ⟨w.heap.size, hb, fun q hq e => by have := (hC.wr.lv q (mem_killL.1 hq).1).1; omega, hlt _ hb, fun hy => Nat.lt_irrefl _ (hC.wr.yb _ hy), .inr hC.wr.fr.size⟩
            have hN := hC'.name hfr hg1 hg2.1 hg2.2.1 hg2.2.2
            have hYw : ∀ b, Y b → w'.heap[b]? = w.heap[b]? := fun b hb => hgrow.block b (hC.wr.yb b hb) (fun e => hlv.2.1 (Option.some.inj e ▸ hb))
            refine ⟨_, Y, hN.wr, fun k => ?_, hN.boxes, hN.defers, by simp [Act.put, hC.size]⟩
            rw [getD_put a d v k (by rw [hC.size, hn]; exact hd)]
            simp only [getE]
            split
            · simp only [relV]
              refine ⟨List.mem_cons_self .., xs ++ ys, by rw [List.length_append]; exact hown, by simp [hg], ?_⟩
              exact relL_append (relL_mono (fun x c hx => relT_mono (fun _ h => h) hYw t x c hx) l xs ho3) (relL_mono (fun x c hx => relT_mono (fun _ h => h) hYw t x c hx) l2 ys hy1)
            · exact hN.env k
          · exact h.elim
        · split at h
          · rename_i t ht
            split at h
            · rename_i y l2 hl2
              obtain ⟨hts, hby, h63, hfr, hk⟩ := h
              have hsz : t.size ≠ 0 := by rw [hts]; exact hsz0
              simp only [relV] at hs
              subst hs
              obtain ⟨A, c, ys, rfl, hy1, hy2⟩ := src_of hsz hx hl2
              obtain ⟨ad, rfl, hy3⟩ : ∃ ad, A = some ad ∧ ∀ j u, ys[j]? = some u → w.cell? (ad.add j) = some u := by
                rcases hy2 with hy2 | hy2
                · simp at hy2
                · exact hy2
              obtain ⟨v, w', hrun, hown, hgrow, hnil, hblk⟩ := Go.run_append_own_at (P := P) w 0 T ty e i ei.z t.size ei.bytes hu hi hi3 (hi1.trans hts.symm) hi2 (hei.zs.trans hts.symm) (Nat.pos_of_ne_zero hsz) (.slice none 0 0) 0 [] (World.ownsRow_nil w 0 e t.size) ad (y :: l2).length c ys (relL_length _ ys hy1) hy3 (relL_one hy1) (by simp only [maxLen]; omega) (by simpa using hby) (Nat.zero_le _)
              refine ⟨v, w', hrun, _, ?_, hk⟩
              have hx' : Ext w w' := ⟨hgrow.os, hgrow.tape, hgrow.output, hgrow.size, fun k hk _ => hgrow.block k hk (by simp [Value.ownBlock])⟩
              have hC' := hC.ext hx'
              have hg : v.ownBlock = some w.heap.size := by
                rcases hblk with hb | hb
                · rcases hown.2 with ⟨rfl, h0⟩ | ⟨g, cap, cur, rfl, _⟩
                  · simp at h0
                  · simp [Value.ownBlock] at hb
                · exact hb
              have hN := hC'.name hfr (fun q hq e => by have := (hC.wr.lv q hq).1; omega) (hown.lt _ hg).2 (fun hy => Nat.lt_irrefl _ (hC.wr.yb _ hy)) (.inr hC.wr.fr.size)
              refine ⟨_, Y, hN.wr, fun k => ?_, hN.boxes, hN.defers, by simp [Act.put, hC.size]⟩
              rw [getD_put a d v k (by rw [hC.size, hn]; exact hd)]
              simp only [getE]
              split
              · simp only [relV]
                refine ⟨List.mem_cons_self .., ys, by simpa using hown, by simp [hg], ?_⟩
                exact relL_mono (fun x c hx => relT_mono (fun _ h => h) (fun b hb => hx'.heap (hC.wr.yb b hb)) t x c hx) _ ys hy1
              · exact hN.env k
            · exact h.elim
          · exact h.elim
        · split at h
          · rename_i t ht
            split at h
            · rename_i y l2 hl2
              obtain ⟨hts, hby, h63, hfr, hk⟩ := h
              have hsz : t.size ≠ 0 := by rw [hts]; exact hsz0
              simp only [relV] at hs
              obtain ⟨b0, rfl⟩ := hs
              obtain ⟨A, c, ys, rfl, hy1, hy2⟩ := src_of hsz hx hl2
              obtain ⟨ad, rfl, hy3⟩ : ∃ ad, A = some ad ∧ ∀ j u, ys[j]? = some u → w.cell? (ad.add j) = some u := by
                rcases hy2 with hy2 | hy2
                · simp at hy2
                · exact hy2
              obtain ⟨v, w', hrun, hown, hgrow, hg⟩ := run_append_esl (P := P) (w := w) (ty := ty) hu hi hi3 (hi1.trans hts.symm) hi2 (hei.zs.trans hts.symm) b0 ad (y :: l2).length c ys (relL_length _ ys hy1) hy3 (Nat.succ_pos _) (by simp only [maxLen]; omega) hby
              refine ⟨v, w', hrun, _, ?_, hk⟩
              have hx' : Ext w w' := ⟨hgrow.os, hgrow.tape, hgrow.output, hgrow.size, fun k hk _ => hgrow.block k hk (by simp [Value.ownBlock])⟩
              have hC' := hC.ext hx'
              have hN := hC'.name hfr (fun q hq e => by have := (hC.wr.lv q hq).1; omega) (hown.lt _ hg).2 (fun hy => Nat.lt_irrefl _ (hC.wr.yb _ hy)) (.inr hC.wr.fr.size)
              refine ⟨_, Y, hN.wr, fun k => ?_, hN.boxes, hN.defers, by simp [Act.put, hC.size]⟩
              rw [getD_put a d v k (by rw [hC.size, hn]; exact hd)]
              simp only [getE]
              split
              · simp only [relV]
                refine ⟨List.mem_cons_self .., ys, by simpa using hown, by simp [hg], ?_⟩
                exact relL_mono (fun x c hx => relT_mono (fun _ h => h) (fun b hb => hx'.heap (hC.wr.yb b hb)) t x c hx) _ ys hy1
              · exact hN.env k
            · exact h.elim
          · exact h.elim
        · exact h.elim
    · exact h.elim
  · exact h.elim

end
end Go.Proofs.Avx

set_option linter.unusedVariables false
set_option linter.unusedSimpArgs false
namespace Go.Proofs.Avx

/-! ### A store -/
def isOne : AV → Bool
  | .dat (.pair _ _) _ => false
  | .dat .unit _ => false
  | .dat _ _ => true
  | .own .. => true
  | .nilsl => true
  | .ptr .. => true
  | .optr .. => true
  | .rptr .. => true
  | .clo .. => true
  | _ => false
def allOne : List AV → Bool
  | [] => true
  | a :: l => isOne a && allOne l

mutual
/-- No row of this name. -/
def noRow (b : Nat) : AV → Bool
  | .own q _ _ _ => q != b
  | .optr q _ _ _ _ _ => q != b
  | .rptr cs => noRows b cs
  | .clo _ caps => noRows b caps
  | .agg cs => noRows b cs
  | .tup vs => noRows b vs
  | .cnd _ v => noRow b v
  | _ => true
def noRows (b : Nat) : List AV → Bool
  | [] => true
  | a :: l => noRow b a && noRows b l
end
def noRowE (b : Nat) : List (Nat × AV) → Bool
  | [] => true
  | (_, v) :: r => noRow b v && noRowE b r
def noRowB (b : Nat) : List (Nat × List AV) → Bool
  | [] => true
  | (_, v) :: r => noRows b v && noRowB b r

def setB (b : Nat) (cs : List AV) : List (Nat × List AV) → List (Nat × List AV)
  | [] => []
  | (k, v) :: r => if b = k then (k, cs) :: r else (k, v) :: setB b cs r

mutual
def wrV (p : Nat) (t : Ty) (i : Nat) (y : t.D) : AV → AV
  | .own q e t' l => if q = p then (match Ty.to t t' y with | some y' => .own q e t' (l.set i y') | none => .any) else .own q e t' l
  | .optr q e t' l j o => if q = p then (match Ty.to t t' y with | some y' => .optr q e t' (l.set i y') j o | none => .any) else .optr q e t' l j o
  | .rptr cs => .rptr (wrVs p t i y cs)
  | .clo f caps => .clo f (wrVs p t i y caps)
  | .agg cs => .agg (wrVs p t i y cs)
  | .tup vs => .tup (wrVs p t i y vs)
  | .cnd g v => .cnd g (wrV p t i y v)
  | .ptr b o => .ptr b o
  | .dat t' x => .dat t' x
  | .nilsl => .nilsl
  | .esl => .esl
  | .any => .any
def wrVs (p : Nat) (t : Ty) (i : Nat) (y : t.D) : List AV → List AV
  | [] => []
  | a :: l => wrV p t i y a :: wrVs p t i y l
end
def wrE (p : Nat) (t : Ty) (i : Nat) (y : t.D) : List (Nat × AV) → List (Nat × AV)
  | [] => []
  | (k, v) :: r => (k, wrV p t i y v) :: wrE p t i y r
def wrB (p : Nat) (t : Ty) (i : Nat) (y : t.D) : List (Nat × List AV) → List (Nat × List AV)
  | [] => []
  | (b, cs) :: r => (b, wrVs p t i y cs) :: wrB p t i y r

def stepStore (Γ : List (TypeId × TI)) (S : St) (T : TypeId) (a x : AV) (K : St → Prop) : Prop :=
  match Tab.get Γ T, cellsV x with
  | some ti, some new =>
    new.length = ti.size ∧ allOne new = true ∧
    match a with
    | .ptr b o => match getB S.boxes b with
      | some cs => noRowE b S.env = true ∧ noRowB b S.boxes = true ∧ noRows b new = true ∧ o + new.length ≤ cs.length ∧ K { S with boxes := setB b (cs.take o ++ new ++ cs.drop (o + new.length)) S.boxes }
      | none => False
    | .optr p e t l i o =>
      match asDs t ((enc t (l.getD i t.z)).take o ++ new ++ (enc t (l.getD i t.z)).drop (o + new.length)) with
      | some (y, []) => getB S.boxes p = none ∧ i < l.length ∧ o + new.length ≤ t.size ∧ K { S with env := wrE p t i y S.env, boxes := wrB p t i y S.boxes }
      | _ => False
    | _ => False
  | _, _ => False

section
variable {P : Program} {Γ : List (TypeId × TI)} {n : Nat} {L : List Nat} {β : Nat → Nat} {Y : Nat → Prop} {w : World}

theorem one_of {a : AV} {v : Value} (h : relV L β Y w a v) (h1 : isOne a = true) : v.oneCell' = true := by
  unfold isOne at h1
  split at h1 <;> simp only [Bool.false_eq_true] at h1
  · rename_i t x _ _
    cases t <;> simp only [relV, relT] at h <;> first
      | (simp only [List.cons.injEq, and_true] at h; subst h; rfl)
      | (obtain ⟨b, hb, _⟩ := h; simp only [List.cons.injEq, and_true] at hb; subst hb; rfl)
      | (obtain ⟨b, c, hb, _⟩ := h; simp only [List.cons.injEq, and_true] at hb; subst hb; rfl)
      | (obtain ⟨A, cap, xs, hb, _⟩ := h; simp only [List.cons.injEq, and_true] at hb; subst hb; rfl)
      | (rename_i h2 h3; exact (h2 _ _ _ rfl HEq.rfl).elim)
      | (rename_i h2 h3; exact (h3 _ rfl HEq.rfl).elim)
      | simp_all
  · simp only [relV] at h
    obtain ⟨_, xs, h1, h2, _⟩ := h
    obtain ⟨cap, rfl, _⟩ := own_cell_form h1 h2; rfl
  · simp only [relV] at h; subst h; rfl
  · simp only [relV] at h; rw [h.2]; rfl
  · simp only [relV] at h; rw [h.2.2]; rfl
  · simp only [relV] at h; obtain ⟨g, o, xs, rfl, _⟩ := h; rfl
  · simp only [relV] at h; obtain ⟨cs, rfl, _⟩ := h; rfl
theorem ones_of : ∀ {l : List AV} {cs : List Value}, relVs L β Y w l cs → allOne l = true → ∀ u ∈ cs, u.oneCell' = true
  | [], cs, h, _, u, hu => by simp only [relVs] at h; subst h; simp at hu
  | a :: l, cs, h, h1, u, hu => by
    simp only [relVs] at h
    obtain ⟨c, d, rfl, h2, h3⟩ := h
    simp only [allOne, Bool.and_eq_true] at h1
    rcases List.mem_cons.1 hu with rfl | hu
    · exact one_of h2 h1.1
    · exact ones_of h3 h1.2 u hu

theorem run_storeVar {T : TypeId} {ti : TI} (hti : okTI P T ti) {g o : Nat} {T' : TypeId} {cur : Array Value} (hg : w.heap[g]? = some (.cells cur T' (0, 0))) {v : Value} (hs : v.cells.size = ti.size) (hf : o + v.cells.size ≤ cur.size) (h1 : ∀ u ∈ v.cells.toList, u.oneCell' = true) :
    (Instr.storeAt T (.pointer (some ⟨g, o, none⟩)) v).run P w = .ok () (w.setRow g (cur.toList.take o ++ v.cells.toList ++ cur.toList.drop (o + v.cells.size)).toArray) := by
  have := run_storeCells_at P g o T' v.cells.toList 0 cur w hg (by simpa using hf) h1
  simp only [Nat.add_zero] at this
  simp [Instr.storeAt, Instr.sureAddr, storeVar, run_sizeOf_of hti, hs, this]

mutual
theorem relV_box {b : Nat} {w' : World} (hb : b ∈ L) (hinj : ∀ p q, p ∈ L → q ∈ L → β p = β q → p = q) (hY : ¬ Y (β b)) (hw : ∀ k, k ≠ β b → w'.heap[k]? = w.heap[k]?) : ∀ (a : AV) (v : Value), noRow b a = true → relV L β Y w a v → relV L β Y w' a v
  | .dat t x, v, _, h => by simp only [relV] at h ⊢; exact relT_mono (fun _ h => h) (fun g hg => hw g (fun e => hY (e ▸ hg))) t x _ h
  | .own q e t l, v, hn, h => by
    simp only [noRow, bne_iff_ne, ne_eq] at hn
    simp only [relV] at h ⊢
    obtain ⟨hp, xs, h1, h2, h3⟩ := h
    refine ⟨hp, xs, ownsRow_of_block h1 (fun g hg => hw g (fun e => hn (hinj q b hp hb ?_))), h2, relL_mono (fun a c => relT_mono (fun _ h => h) (fun g hg => hw g (fun e => hY (e ▸ hg))) t a c) l xs h3⟩
    rw [h2] at hg; rw [Option.some.inj hg, e]
  | .nilsl, v, _, h => by simp only [relV] at h ⊢; exact h
  | .esl, v, _, h => by simp only [relV] at h ⊢; exact h
  | .ptr c o, v, _, h => by simp only [relV] at h ⊢; exact h
  | .optr q e t l i o, v, hn, h => by
    simp only [noRow, bne_iff_ne, ne_eq] at hn
    simp only [relV] at h ⊢
    obtain ⟨hp, ⟨c, xs, h1, h2, h3⟩, hv⟩ := h
    refine ⟨hp, ⟨c, xs, ownsRow_of_block h1 (fun g hg => hw g (fun e => hn (hinj q b hp hb ?_))), h2, relL_mono (fun a c => relT_mono (fun _ h => h) (fun g hg => hw g (fun e => hY (e ▸ hg))) t a c) l xs h3⟩, hv⟩
    rw [h2] at hg; rw [Option.some.inj hg, e]
  | .rptr cs, v, hn, h => by
    simp only [relV] at h ⊢
    obtain ⟨g, o, xs, hv, hg, hr, hc⟩ := h
    exact ⟨g, o, xs, hv, hg, relVs_box hb hinj hY hw cs xs (by simpa [noRow] using hn) hr, fun j u hu => (World.cell?_of_block (a := ⟨g, o + j, none⟩) (hw g (fun e => hY (e ▸ hg)))).trans (hc j u hu)⟩
  | .clo f caps, v, hn, h => by simp only [relV] at h ⊢; obtain ⟨cs, hv, hr⟩ := h; exact ⟨cs, hv, relVs_box hb hinj hY hw caps cs (by simpa [noRow] using hn) hr⟩
  | .agg l, v, hn, h => by simp only [relV] at h ⊢; obtain ⟨cs, hv, hr⟩ := h; exact ⟨cs, hv, relVs_box hb hinj hY hw l cs (by simpa [noRow] using hn) hr⟩
  | .tup l, v, hn, h => by simp only [relV] at h ⊢; obtain ⟨cs, hv, hr⟩ := h; exact ⟨cs, hv, relVs_box hb hinj hY hw l cs (by simpa [noRow] using hn) hr⟩
  | .cnd g a, v, hn, h => by simp only [relV] at h ⊢; exact fun hg => relV_box hb hinj hY hw a v (by simpa [noRow] using hn) (h hg)
  | .any, v, _, h => by simp only [relV]
theorem relVs_box {b : Nat} {w' : World} (hb : b ∈ L) (hinj : ∀ p q, p ∈ L → q ∈ L → β p = β q → p = q) (hY : ¬ Y (β b)) (hw : ∀ k, k ≠ β b → w'.heap[k]? = w.heap[k]?) : ∀ (l : List AV) (cs : List Value), noRows b l = true → relVs L β Y w l cs → relVs L β Y w' l cs
  | [], cs, _, h => by simp only [relVs] at h ⊢; exact h
  | a :: l, cs, hn, h => by
    simp only [noRows, Bool.and_eq_true] at hn
    simp only [relVs] at h ⊢
    obtain ⟨c, d, e, h1, h2⟩ := h
    exact ⟨c, d, e, relV_box hb hinj hY hw a c hn.1 h1, relVs_box hb hinj hY hw l d hn.2 h2⟩
end
theorem noRowE_get {b : Nat} : ∀ {env : List (Nat × AV)}, noRowE b env = true → ∀ k, noRow b (getE env k) = true
  | [], _, k => by simp [getE, noRow]
  | (j, v) :: r, h, k => by
    simp only [noRowE, Bool.and_eq_true] at h
    simp only [getE]
    split
    · exact h.1
    · exact noRowE_get h.2 k
theorem noRowB_get {b : Nat} : ∀ {bs : List (Nat × List AV)}, noRowB b bs = true → ∀ c cs, getB bs c = some cs → noRows b cs = true
  | [], _, c, cs, h => by simp [getB] at h
  | (j, v) :: r, h, c, cs, hc => by
    simp only [noRowB, Bool.and_eq_true] at h
    simp only [getB] at hc
    split at hc
    · cases hc; exact h.1
    · exact noRowB_get h.2 c cs hc
theorem getB_setB {b : Nat} {cs : List AV} : ∀ {bs : List (Nat × List AV)} {c : Nat} {ds : List AV}, getB (setB b cs bs) c = some ds → (c = b ∧ ds = cs) ∨ (c ≠ b ∧ getB bs c = some ds)
  | [], c, ds, h => by simp [setB, getB] at h
  | (k, v) :: r, c, ds, h => by
    simp only [setB] at h
    split at h
    · rename_i hb
      simp only [getB] at h ⊢
      split at h
      · rename_i hc; cases h; exact .inl ⟨hc.trans hb.symm, rfl⟩
      · rename_i hc; exact .inr ⟨fun e => hc (e.trans hb), by rw [if_neg hc]; exact h⟩
    · rename_i hb
      simp only [getB] at h ⊢
      split at h
      · rename_i hc; cases h; exact .inr ⟨fun e => hb (e.symm.trans hc), by rw [if_pos hc]⟩
      · rename_i hc
        rcases getB_setB h with h | ⟨h1, h2⟩
        · exact .inl h
        · exact .inr ⟨h1, by rw [if_neg hc]; exact h2⟩

theorem storeBox_sound [Kn] (hΓ : okTab P Γ) {B : Ctx} {S : St} {a : Act} (hC : RelC B S β Y a w) {T : TypeId} {ti : TI} (hT : Tab.get Γ T = some ti) {b o : Nat} {cs new : List AV} (hb : getB S.boxes b = some cs) {v : Value} (hnew : relVs S.live β Y w new v.cells.toList)
    (hsz : new.length = ti.size) (hone : allOne new = true) (hE : noRowE b S.env = true) (hB : noRowB b S.boxes = true) (hN : noRows b new = true) (hf : o + new.length ≤ cs.length) :
    ∃ w', (Instr.storeAt T (.pointer (some ⟨β b, o, none⟩)) v).run P w = .ok () w' ∧ RelC B { S with boxes := setB b (cs.take o ++ new ++ cs.drop (o + new.length)) S.boxes } β Y a w' := by
  obtain ⟨hbl, T', cur, h1, h2⟩ := hC.boxes b cs hb
  have hlen := relVs_length hnew
  have hcur := relVs_length h2
  have hvs : v.cells.size = ti.size := by rw [← hsz, ← hlen]; simp
  have hrun := run_storeVar (P := P) (hΓ.get hT) h1 hvs (o := o) (by simp at hcur hlen; omega) (ones_of hnew hone)
  have hlv := hC.wr.lv b hbl
  have hw : ∀ k, k ≠ β b → (w.setRow (β b) (cur.toList.take o ++ v.cells.toList ++ cur.toList.drop (o + v.cells.size)).toArray).heap[k]? = w.heap[k]? := fun k hk => setRow_other w _ k _ hk
  have hsize : (w.setRow (β b) (cur.toList.take o ++ v.cells.toList ++ cur.toList.drop (o + v.cells.size)).toArray).heap.size = w.heap.size := by simp [World.setRow]
  refine ⟨_, hrun, ⟨⟨hC.wr.fr.os, hC.wr.fr.tape, hC.wr.fr.output, by rw [hsize]; exact hC.wr.fr.size, fun k hk hn => ?_⟩, fun g hg => by rw [hsize]; exact hC.wr.yb g hg, hC.wr.yo, fun p hp => by rw [hsize]; exact hC.wr.lv p hp, hC.wr.inj, hC.wr.ib, fun c hc => ?_, Kn.mono hC.wr.kn (fun _ h => h) (fun g hg => hw g (fun e => hlv.2.1 (e ▸ hg)))⟩, fun k => ?_, fun c ds hc => ?_, hC.defers, hC.size⟩
  · rw [hw k (fun e => by subst e; rcases hlv.2.2 with h | h; exact hn h; omega)]
    exact hC.wr.fr.block k hk hn
  · rw [← hC.wr.cp c hc]
    by_cases hcb : β c = β b
    · have := setRow_heap w (β b) cur (cur.toList.take o ++ v.cells.toList ++ cur.toList.drop (o + v.cells.size)).toArray T' (0, 0) h1
      rw [hcb]
      simp only [szB, this, h1, Option.some.injEq, Prod.mk.injEq, and_true, List.size_toArray, List.length_append, List.length_take, List.length_drop, Array.length_toList]
      simp at hcur hlen
      omega
    · exact szB_of (hw _ hcb)
  · exact relV_box hbl hC.wr.inj hlv.2.1 hw _ _ (noRowE_get hE k) (hC.env k)
  · rcases getB_setB hc with ⟨rfl, rfl⟩ | ⟨hne, hc⟩
    · refine ⟨hbl, T', _, setRow_heap w _ cur _ T' (0, 0) h1, ?_⟩
      have k1 := relVs_box hbl hC.wr.inj hlv.2.1 hw _ _ (noRowB_get hB _ _ hb) h2
      have k2 := relVs_splice (off := o) k1 (relVs_box hbl hC.wr.inj hlv.2.1 hw _ _ hN hnew)
      simpa using k2
    · obtain ⟨k1, T2, cur2, k2, k3⟩ := hC.boxes c ds hc
      exact ⟨k1, T2, cur2, (hw _ (fun e => hne (hC.wr.inj c b k1 hbl e))).trans k2, relVs_box hbl hC.wr.inj hlv.2.1 hw _ _ (noRowB_get hB _ _ hc) k3⟩
end
end Go.Proofs.Avx

set_option linter.unusedVariables false
set_option linter.unusedSimpArgs false
namespace Go.Proofs.Avx

/-! ### A store into an owned row -/
section
variable {P : Program} {Γ : List (TypeId × TI)} {n : Nat} {L : List Nat} {β : Nat → Nat} {Y : Nat → Prop} {w : World}

theorem relL_split {t : Ty} : ∀ (l : List t.D) (xs : List Value) (i : Nat), relL (relT Y w t) l xs → i < l.length →
    ∃ A es C, xs = A ++ es ++ C ∧ A.length = i * t.size ∧ relT Y w t (l.getD i t.z) es ∧ ∀ (y : t.D) (es' : List Value), relT Y w t y es' → relL (relT Y w t) (l.set i y) (A ++ es' ++ C)
  | a :: l, xs, 0, ⟨c, d, e, h1, h2⟩, _ => by
    subst e
    exact ⟨[], c, d, rfl, by simp, by simpa using h1, fun y es' hy => ⟨es', d, by simp, hy, h2⟩⟩
  | a :: l, xs, i + 1, ⟨c, d, e, h1, h2⟩, hi => by
    subst e
    obtain ⟨A, es, C, rfl, hA, hx, hs⟩ := relL_split l d i h2 (by simpa using hi)
    have := relT_length t a c h1
    refine ⟨c ++ A, es, C, by simp, by rw [List.length_append, this, hA, Nat.add_mul]; omega, by simpa using hx, fun y es' hy => ?_⟩
    exact ⟨c, A ++ es' ++ C, by simp, h1, hs y es' hy⟩

/-- What the cells of a row are, when a part of one element turns. -/
theorem relL_write {t : Ty} {l : List t.D} {xs : List Value} {i o : Nat} {new : List AV} {vs : List Value} {y : t.D} (h : relL (relT Y w t) l xs) (hi : i < l.length)
    (hn : relVs L β Y w new vs) (hf : o + new.length ≤ t.size) (he : asDs t ((enc t (l.getD i t.z)).take o ++ new ++ (enc t (l.getD i t.z)).drop (o + new.length)) = some (y, [])) :
    relL (relT Y w t) (l.set i y) (xs.take (i * t.size + o) ++ vs ++ xs.drop (i * t.size + o + vs.length)) := by
  obtain ⟨A, es, C, rfl, hA, hx, hs⟩ := relL_split l xs i h hi
  have hsp := relVs_splice (off := o) (relVs_enc t _ es hx) hn
  obtain ⟨c, d, hcd, hc, hd⟩ := asDs_of t _ _ y [] hsp he
  simp only [relVs] at hd
  subst hd
  rw [List.append_nil] at hcd
  have hes := relT_length t _ es hx
  have hvl := relVs_length hn
  have := hs y c hc
  rw [← hcd] at this
  have e1 : (A ++ es ++ C).take (i * t.size + o) = A ++ es.take o := by
    rw [List.append_assoc, List.take_append, List.take_of_length_le (by omega), hA, Nat.add_sub_cancel_left, List.take_append_of_le_length (by omega)]
  have e2 : (A ++ es ++ C).drop (i * t.size + o + vs.length) = es.drop (o + vs.length) ++ C := by
    rw [List.append_assoc, List.drop_append, List.drop_eq_nil_of_le (by omega), hA, show i * t.size + o + vs.length - i * t.size = o + vs.length by omega, List.drop_append_of_le_length (by omega)]
    simp
  rw [e1, e2]
  simpa [List.append_assoc] using this

theorem take_write {α : Type} (cur vs : List α) (off m : Nat) (h : off + vs.length ≤ m) : (cur.take off ++ vs ++ cur.drop (off + vs.length)).take m = (cur.take m).take off ++ vs ++ (cur.take m).drop (off + vs.length) ∨ cur.length < off + vs.length := by
  by_cases hl : off + vs.length ≤ cur.length
  · left
    have hlen : (cur.take off ++ vs).length = off + vs.length := by simp; omega
    rw [List.take_append, List.take_of_length_le (by omega), hlen, List.take_take, Nat.min_eq_left (by omega), ← List.drop_take]
  · right; omega

theorem take_write_lt {α : Type} (cur vs : List α) (off m : Nat) (h : m ≤ off) (hl : off ≤ cur.length) : (cur.take off ++ vs ++ cur.drop (off + vs.length)).take m = cur.take m := by
  rw [List.append_assoc, List.take_append_of_le_length (by simp; omega), List.take_take, Nat.min_eq_left h]

/-- Everything behind a write to the row p, element i of it turned to y. -/
structure Wrote (L : List Nat) (β : Nat → Nat) (Y : Nat → Prop) (w w' : World) (p : Nat) (t : Ty) (i : Nat) (y : t.D) : Prop where
  mem : p ∈ L
  inj : ∀ p q, p ∈ L → q ∈ L → β p = β q → p = q
  ny : ¬ Y (β p)
  other : ∀ k, k ≠ β p → w'.heap[k]? = w.heap[k]?
  own : ∀ (c : Value) (e : TypeId) (l : List t.D) (xs : List Value), w.ownsRow 0 e t.size c l.length xs → c.ownBlock = some (β p) → relL (relT Y w t) l xs →
    ∃ xs', w'.ownsRow 0 e t.size c (l.set i y).length xs' ∧ relL (relT Y w' t) (l.set i y) xs'

mutual
theorem relV_wr {w' : World} {p : Nat} {t : Ty} {i : Nat} {y : t.D} (H : Wrote L β Y w w' p t i y) : ∀ (a : AV) (v : Value), relV L β Y w a v → relV L β Y w' (wrV p t i y a) v
  | .dat t x, v, h => by simp only [wrV, relV] at h ⊢; exact relT_mono (fun _ h => h) (fun g hg => H.other g (fun e => H.ny (e ▸ hg))) t x _ h
  | .own q e t' l, v, h => by
    simp only [wrV]
    split
    · rename_i hq
      subst hq
      simp only [relV] at h
      obtain ⟨hp, xs, h1, h2, h3⟩ := h
      unfold Ty.to
      by_cases ht : t = t'
      · subst ht
        simp only [dif_pos]
        simp only [relV]
        obtain ⟨xs', k1, k2⟩ := H.own v e l xs h1 h2 h3
        exact ⟨hp, xs', k1, h2, k2⟩
      · simp only [dif_neg ht, relV]
    · rename_i hq
      simp only [relV] at h ⊢
      obtain ⟨hp, xs, h1, h2, h3⟩ := h
      refine ⟨hp, xs, ownsRow_of_block h1 (fun g hg => H.other g (fun e => hq (H.inj q p hp H.mem ?_))), h2, relL_mono (fun a c => relT_mono (fun _ h => h) (fun g hg => H.other g (fun e => H.ny (e ▸ hg))) t' a c) l xs h3⟩
      rw [h2] at hg; rw [Option.some.inj hg, e]
  | .nilsl, v, h => by simp only [wrV, relV] at h ⊢; exact h
  | .esl, v, h => by simp only [wrV, relV] at h ⊢; exact h
  | .ptr c o, v, h => by simp only [wrV, relV] at h ⊢; exact h
  | .optr q e t' l j o, v, h => by
    simp only [wrV]
    split
    · rename_i hq
      subst hq
      simp only [relV] at h
      obtain ⟨hp, ⟨c, xs, h1, h2, h3⟩, hv⟩ := h
      unfold Ty.to
      by_cases ht : t = t'
      · subst ht
        simp only [dif_pos]
        simp only [relV]
        obtain ⟨xs', k1, k2⟩ := H.own c e l xs h1 h2 h3
        exact ⟨hp, ⟨c, xs', k1, h2, k2⟩, hv⟩
      · simp only [dif_neg ht, relV]
    · rename_i hq
      simp only [relV] at h ⊢
      obtain ⟨hp, ⟨c, xs, h1, h2, h3⟩, hv⟩ := h
      refine ⟨hp, ⟨c, xs, ownsRow_of_block h1 (fun g hg => H.other g (fun e => hq (H.inj q p hp H.mem ?_))), h2, relL_mono (fun a c => relT_mono (fun _ h => h) (fun g hg => H.other g (fun e => H.ny (e ▸ hg))) t' a c) l xs h3⟩, hv⟩
      rw [h2] at hg; rw [Option.some.inj hg, e]
  | .rptr cs, v, h => by
    simp only [wrV, relV] at h ⊢
    obtain ⟨g, o, xs, hv, hg, hr, hc⟩ := h
    exact ⟨g, o, xs, hv, hg, relVs_wr H cs xs hr, fun j u hu => (World.cell?_of_block (a := ⟨g, o + j, none⟩) (H.other g (fun e => H.ny (e ▸ hg)))).trans (hc j u hu)⟩
  | .clo f caps, v, h => by simp only [wrV, relV] at h ⊢; obtain ⟨cs, hv, hr⟩ := h; exact ⟨cs, hv, relVs_wr H caps cs hr⟩
  | .agg l, v, h => by simp only [wrV, relV] at h ⊢; obtain ⟨cs, hv, hr⟩ := h; exact ⟨cs, hv, relVs_wr H l cs hr⟩
  | .tup l, v, h => by simp only [wrV, relV] at h ⊢; obtain ⟨cs, hv, hr⟩ := h; exact ⟨cs, hv, relVs_wr H l cs hr⟩
  | .cnd g a, v, h => by simp only [wrV, relV] at h ⊢; exact fun hg => relV_wr H a v (h hg)
  | .any, v, h => by simp only [wrV, relV]
theorem relVs_wr {w' : World} {p : Nat} {t : Ty} {i : Nat} {y : t.D} (H : Wrote L β Y w w' p t i y) : ∀ (l : List AV) (cs : List Value), relVs L β Y w l cs → relVs L β Y w' (wrVs p t i y l) cs
  | [], cs, h => by simp only [wrVs, relVs] at h ⊢; exact h
  | a :: l, cs, h => by
    simp only [wrVs, relVs] at h ⊢
    obtain ⟨c, d, e, h1, h2⟩ := h
    exact ⟨c, d, e, relV_wr H a c h1, relVs_wr H l d h2⟩
end
theorem getE_wr {p : Nat} {t : Ty} {i : Nat} {y : t.D} : ∀ (env : List (Nat × AV)) (k : Nat), getE (wrE p t i y env) k = wrV p t i y (getE env k)
  | [], k => by simp [wrE, getE, wrV]
  | (j, v) :: r, k => by
    simp only [wrE, getE]
    split
    · rfl
    · exact getE_wr r k
theorem getB_wr {p : Nat} {t : Ty} {i : Nat} {y : t.D} : ∀ {bs : List (Nat × List AV)} {b : Nat} {cs : List AV}, getB (wrB p t i y bs) b = some cs → ∃ cs0, getB bs b = some cs0 ∧ cs = wrVs p t i y cs0
  | [], b, cs, h => by simp [wrB, getB] at h
  | (j, v) :: r, b, cs, h => by
    simp only [wrB, getB] at h ⊢
    split at h
    · cases h; exact ⟨v, by simp_all, rfl⟩
    · rename_i hne; obtain ⟨cs0, h1, h2⟩ := getB_wr h; exact ⟨cs0, by rw [if_neg hne]; exact h1, h2⟩

theorem storeRow_sound [Kn] (hΓ : okTab P Γ) {B : Ctx} {S : St} {a : Act} (hC : RelC B S β Y a w) {T : TypeId} {ti : TI} (hT : Tab.get Γ T = some ti) {p i o : Nat} {e : TypeId} {t : Ty} {l : List t.D} {new : List AV} {u v : Value} {y : t.D}
    (hu : relV S.live β Y w (.optr p e t l i o) u) (hnew : relVs S.live β Y w new v.cells.toList) (hsz : new.length = ti.size) (hone : allOne new = true)
    (he : asDs t ((enc t (l.getD i t.z)).take o ++ new ++ (enc t (l.getD i t.z)).drop (o + new.length)) = some (y, [])) (hb : getB S.boxes p = none) (hi : i < l.length) (hf : o + new.length ≤ t.size) :
    ∃ w', (Instr.storeAt T u v).run P w = .ok () w' ∧ RelC B { S with env := wrE p t i y S.env, boxes := wrB p t i y S.boxes } β Y a w' := by
  simp only [relV] at hu
  obtain ⟨hp, ⟨c, xs, h1, h2, h3⟩, rfl⟩ := hu
  have hlen := relVs_length hnew
  have hvs : v.cells.size = ti.size := by rw [← hsz, ← hlen]; simp
  have hvl : v.cells.toList.length = new.length := hlen
  have hlv := hC.wr.lv p hp
  have hrow : ∃ cap cur, c = .slice (some ⟨β p, 0, none⟩) l.length cap ∧ w.heap[β p]? = some (.cells cur e (0, 0)) ∧ l.length ≤ cap ∧ cap ≤ maxLen ∧ cur.size = cap * t.size ∧ cur.toList.take (l.length * t.size) = xs := by
    rcases h1.2 with ⟨rfl, _⟩ | ⟨g, cap, cur, rfl, _, hh, r⟩
    · simp [Value.ownBlock] at h2
    · have : g = β p := by simpa [Value.ownBlock] using h2
      subst this
      exact ⟨cap, cur, rfl, hh, r⟩
  obtain ⟨cap, cur, rfl, hh, hnc, hcm, hcs, htk⟩ := hrow
  have hfit : i * t.size + o + new.length ≤ l.length * t.size := by
    have : (i + 1) * t.size ≤ l.length * t.size := Nat.mul_le_mul_right _ hi
    rw [Nat.add_mul] at this; omega
  have hcl : l.length * t.size ≤ cur.size := by rw [hcs]; exact Nat.mul_le_mul_right _ hnc
  have hrun := run_storeVar (P := P) (hΓ.get hT) hh hvs (o := i * t.size + o) (by rw [hvs, ← hsz]; omega) (ones_of hnew hone)
  have hw : ∀ k, k ≠ β p → (w.setRow (β p) (cur.toList.take (i * t.size + o) ++ v.cells.toList ++ cur.toList.drop (i * t.size + o + v.cells.size)).toArray).heap[k]? = w.heap[k]? := fun k hk => setRow_other w _ k _ hk
  have hsize : (w.setRow (β p) (cur.toList.take (i * t.size + o) ++ v.cells.toList ++ cur.toList.drop (i * t.size + o + v.cells.size)).toArray).heap.size = w.heap.size := by simp [World.setRow]
  have hnewh := setRow_heap w (β p) cur (cur.toList.take (i * t.size + o) ++ v.cells.toList ++ cur.toList.drop (i * t.size + o + v.cells.size)).toArray e (0, 0) hh
  have hvsz : v.cells.size = v.cells.toList.length := by simp
  have H : Wrote S.live β Y w (w.setRow (β p) (cur.toList.take (i * t.size + o) ++ v.cells.toList ++ cur.toList.drop (i * t.size + o + v.cells.size)).toArray) p t i y := by
    refine ⟨hp, hC.wr.inj, hlv.2.1, hw, fun c' e' l' xs' g1 g2 g3 => ?_⟩
    have hmono : ∀ {l : List t.D} {xs : List Value}, relL (relT Y w t) l xs → relL (relT Y (w.setRow (β p) (cur.toList.take (i * t.size + o) ++ v.cells.toList ++ cur.toList.drop (i * t.size + o + v.cells.size)).toArray) t) l xs := fun {l xs} h =>
      relL_mono (fun a c => relT_mono (fun _ h => h) (fun g hg => hw g (fun e => hlv.2.1 (e ▸ hg))) t a c) l xs h
    rcases g1.2 with ⟨rfl, _⟩ | ⟨g, cap', cur', rfl, k0, hh', k1, k2, k3, k4⟩
    · simp [Value.ownBlock] at g2
    · have : g = β p := by simpa [Value.ownBlock] using g2
      subst this
      rw [hh] at hh'
      simp only [Option.some.injEq, Obj.cells.injEq, and_true] at hh'
      obtain ⟨rfl, rfl⟩ := hh'
      have hl' : l'.length * t.size ≤ cur.size := by rw [k3]; exact Nat.mul_le_mul_right _ k1
      have hnl : (cur.toList.take (i * t.size + o) ++ v.cells.toList ++ cur.toList.drop (i * t.size + o + v.cells.size)).length = cur.size := by
        simp only [List.length_append, List.length_take, List.length_drop, Array.length_toList]; omega
      by_cases hi' : i < l'.length
      · have hfit' : i * t.size + o + new.length ≤ l'.length * t.size := by
          have : (i + 1) * t.size ≤ l'.length * t.size := Nat.mul_le_mul_right _ hi'
          rw [Nat.add_mul] at this; omega
        -- the element's own cells are the same whatever view they are seen by
        have hsame : (enc t (l'.getD i t.z)).length = (enc t (l'.getD i t.z)).length := rfl
        obtain ⟨A, es, C, hxs, hA, hx, hs⟩ := relL_split l xs i h3 hi
        obtain ⟨A', es', C', hxs', hA', hx', hs'⟩ := relL_split l' xs' i g3 hi'
        have hes := relT_length t _ es hx
        have hes' := relT_length t _ es' hx'
        have hee : es = es' := by
          have q1 : es = (cur.toList.drop (i * t.size)).take t.size := by
            have : xs.drop (i * t.size) = es ++ C := by rw [hxs, List.append_assoc, ← hA, List.drop_left]
            have h' : (xs.drop (i * t.size)).take t.size = es := by rw [this, ← hes, List.take_left]
            rw [← h', ← htk, List.drop_take, List.take_take, Nat.min_eq_left]
            have : (i + 1) * t.size ≤ l.length * t.size := Nat.mul_le_mul_right _ hi
            rw [Nat.add_mul] at this; omega
          have q2 : es' = (cur.toList.drop (i * t.size)).take t.size := by
            have : xs'.drop (i * t.size) = es' ++ C' := by rw [hxs', List.append_assoc, ← hA', List.drop_left]
            have h' : (xs'.drop (i * t.size)).take t.size = es' := by rw [this, ← hes', List.take_left]
            rw [← h', ← k4, List.drop_take, List.take_take, Nat.min_eq_left]
            have : (i + 1) * t.size ≤ l'.length * t.size := Nat.mul_le_mul_right _ hi'
            rw [Nat.add_mul] at this; omega
          rw [q1, q2]
        have hsp := relVs_splice (off := o) (relVs_enc t _ es hx) hnew
        obtain ⟨c2, d2, hcd, hc2, hd2⟩ := asDs_of t _ _ y [] hsp he
        simp only [relVs] at hd2
        subst hd2
        rw [List.append_nil] at hcd
        have hfin := hs' y c2 hc2
        refine ⟨A' ++ c2 ++ C', ⟨by rw [relL_length _ _ hfin], .inr ⟨_, cap', _, by simp, k0, hnewh, by simpa using k1, k2, by rw [← k3, ← hnl, List.size_toArray], ?_⟩⟩, hmono hfin⟩
        rw [List.length_set]
        rw [hvsz]
        show (cur.toList.take (i * t.size + o) ++ v.cells.toList ++ cur.toList.drop (i * t.size + o + v.cells.toList.length)).take (l'.length * t.size) = _
        rcases take_write cur.toList v.cells.toList (i * t.size + o) (l'.length * t.size) (by omega) with ht | ht
        · rw [ht, k4, hxs', ← hcd, hee]
          have e1 : (A' ++ es' ++ C').take (i * t.size + o) = A' ++ es'.take o := by
            rw [List.append_assoc, List.take_append, List.take_of_length_le (by omega), hA', Nat.add_sub_cancel_left, List.take_append_of_le_length (by omega)]
          have e2 : (A' ++ es' ++ C').drop (i * t.size + o + v.cells.toList.length) = es'.drop (o + v.cells.toList.length) ++ C' := by
            rw [List.append_assoc, List.drop_append, List.drop_eq_nil_of_le (by omega), hA', show i * t.size + o + v.cells.toList.length - i * t.size = o + v.cells.toList.length by omega, List.drop_append_of_le_length (by omega)]
            simp
          rw [e1, e2]
          simp [List.append_assoc]
        · simp at ht; omega
      · have hset : l'.set i y = l' := by rw [List.set_eq_of_length_le (by omega)]
        rw [hset]
        refine ⟨xs', ⟨g1.1, .inr ⟨_, cap', _, rfl, k0, hnewh, k1, k2, by rw [← k3, ← hnl, List.size_toArray], ?_⟩⟩, hmono g3⟩
        have hle : l'.length * t.size ≤ i * t.size := Nat.mul_le_mul_right _ (by omega)
        rw [hvsz]
        show (cur.toList.take (i * t.size + o) ++ v.cells.toList ++ cur.toList.drop (i * t.size + o + v.cells.toList.length)).take (l'.length * t.size) = _
        rw [take_write_lt _ _ _ _ (by omega) (by simp; omega), k4]
  refine ⟨_, hrun, ⟨⟨hC.wr.fr.os, hC.wr.fr.tape, hC.wr.fr.output, by rw [hsize]; exact hC.wr.fr.size, fun k hk hn => ?_⟩, fun g hg => by rw [hsize]; exact hC.wr.yb g hg, hC.wr.yo, fun p hp => by rw [hsize]; exact hC.wr.lv p hp, hC.wr.inj, hC.wr.ib, fun c hc => ?_, Kn.mono hC.wr.kn (fun _ h => h) (fun g hg => hw g (fun e => hlv.2.1 (e ▸ hg)))⟩, fun k => ?_, fun c ds hc => ?_, hC.defers, hC.size⟩
  · rw [hw k (fun e => by subst e; rcases hlv.2.2 with h | h; exact hn h; omega)]
    exact hC.wr.fr.block k hk hn
  · rw [← hC.wr.cp c hc]
    by_cases hcb : β c = β p
    · rw [hcb]
      simp only [szB, hnewh, hh, Option.some.injEq, Prod.mk.injEq, and_true, List.size_toArray, List.length_append, List.length_take, List.length_drop, Array.length_toList]
      omega
    · exact szB_of (hw _ hcb)
  · rw [getE_wr]; exact relV_wr H _ _ (hC.env k)
  · obtain ⟨cs0, hc0, rfl⟩ := getB_wr hc
    obtain ⟨k1, T2, cur2, k2, k3⟩ := hC.boxes c cs0 hc0
    have hne : c ≠ p := fun e => by subst e; rw [hb] at hc0; simp at hc0
    exact ⟨k1, T2, cur2, (hw _ (fun e => hne (hC.wr.inj c p k1 hp e))).trans k2, relVs_wr H _ _ k3⟩

theorem stepStore_sound [Kn] (hΓ : okTab P Γ) {B : Ctx} {S : St} {a : Act} (hC : RelC B S β Y a w) {T : TypeId} {x z : AV} {u v : Value} (hx : relV S.live β Y w x u) (hz : relV S.live β Y w z v) {K : St → Prop} (h : stepStore Γ S T x z K) :
    ∃ w', (Instr.storeAt T u v).run P w = .ok () w' ∧ ∃ S', RelC B S' β Y a w' ∧ K S' := by
  unfold stepStore at h
  split at h
  · rename_i ti new hT hnew
    have hn := cells_of hz hnew
    obtain ⟨hsz, hone, h⟩ := h
    split at h
    · rename_i b o
      split at h
      · rename_i cs hb
        obtain ⟨hE, hB, hN, hf, hk⟩ := h
        simp only [relV] at hx
        obtain ⟨hbl, rfl⟩ := hx
        obtain ⟨w', h1, h2⟩ := storeBox_sound hΓ hC hT hb hn hsz hone hE hB hN hf
        exact ⟨w', h1, _, h2, hk⟩
      · exact h.elim
    · rename_i p e t l i o
      split at h
      · rename_i y hy
        obtain ⟨hb, hi, hf, hk⟩ := h
        obtain ⟨w', h1, h2⟩ := storeRow_sound hΓ hC hT hx hn hsz hone hy hb hi hf
        exact ⟨w', h1, _, h2, hk⟩
      · exact h.elim
    · exact h.elim
  · exact h.elim
end
end Go.Proofs.Avx

set_option linter.unusedVariables false
set_option linter.unusedSimpArgs false
namespace Go.Proofs.Avx

/-! ### make -/
def stepMkS (Γ : List (TypeId × TI)) (S : St) (d : Nat) (T : TypeId) (x y : AV) (K : St → Prop) : Prop :=
  match Tab.get Γ T with
  | some { d := .sl e, .. } => match Tab.get Γ e, tyOf 4 Γ e with
    | some ei, some t => match asDs t (zeroC ei) with
      | some (z0, []) => match x, y with
        | .dat (.int _) n, .dat (.int _) m => m = n ∧ 0 ≤ n ∧ (ei.bytes : Int) * n ≤ 281474976710656 ∧ n ≤ 9223372036854775807 ∧ ei.size ≠ 0 ∧ rowN d ∉ S.live ∧
            K { env := (d, .own (rowN d) e t (List.replicate n.toNat z0)) :: S.env, boxes := S.boxes, live := rowN d :: S.live }
        | _, _ => False
      | _ => False
    | _, _ => False
  | _ => False

section
variable {P : Program} {Γ : List (TypeId × TI)} {n : Nat} {L : List Nat} {β : Nat → Nat} {Y : Nat → Prop} {w : World}

theorem relL_replicate {t : Ty} {z : t.D} {zs : List Value} (h : relT Y w t z zs) : ∀ k, relL (relT Y w t) (List.replicate k z) (List.replicate k zs).flatten
  | 0 => by simp [relL]
  | k + 1 => by simp only [List.replicate_succ, List.flatten_cons]; exact ⟨zs, _, rfl, h, relL_replicate h k⟩

theorem stepMkS_sound [Kn] (hΓ : okTab P Γ) {B : Ctx} {S : St} {a : Act} (hn : B.n = n) (hC : RelC B S β Y a w) {d : Nat} (hd : d < n) {T : TypeId} {x y : AV} {vx vy : Value} (hx : relV S.live β Y w x vx) (hy : relV S.live β Y w y vy) {K : St → Prop} (h : stepMkS Γ S d T x y K) :
    ∃ v w', (Instr.makeSlice T vx vy).run P w = .ok v w' ∧ ∃ S', Rel B S' (a.put (some d) v) w' ∧ K S' := by
  unfold stepMkS at h
  split at h
  · rename_i e sz by' z hT
    have hu : P.underlying T = some (.slice e) := (hΓ.get hT).d
    split at h
    · rename_i ei t hE ht
      have hei := hΓ.get hE
      split at h
      · rename_i z0 hz0
        split at h
        · rename_i k1 m k2 m'
          obtain ⟨rfl, h0, hb, h63, hsz, hfr, hk⟩ := h
          simp only [relV, relT, List.cons.injEq, and_true] at hx hy
          subst hx; subst hy
          obtain ⟨i, hi, hi1, hi2, hi3⟩ := hei.get
          have hrun := run_make (P := P) w T e i ei.z hu hi hi3 k1 k2 m' m' h0 (Int.le_refl _) (by rw [hi2]; exact hb) h63
          obtain ⟨c, dd, hcd, hc, hd2⟩ := asDs_of t _ _ z0 [] (zeroC_of hei (L := S.live) (β := β) (Y := Y) (w := w)) hz0
          simp only [relVs] at hd2
          subst hd2
          rw [List.append_nil] at hcd
          have hcells : (madeCells ei.z.cells (m'.toNat * i.size)).toList = (List.replicate m'.toNat ei.z.cells.toList).flatten := by
            rw [← range_mod ei.z.cells m'.toNat, hi1, ← hei.zs]; rfl
          have hrl : relL (relT Y w t) (List.replicate m'.toNat z0) (madeCells ei.z.cells (m'.toNat * i.size)).toList := by
            rw [hcells, hcd]; exact relL_replicate hc _
          have hN := hC.row (p := rowN d) (d := d) hfr (by rw [hn]; exact hd) e hrl (by
            have h63' : (m' : Int).toNat ≤ 9223372036854775807 := Int.toNat_le.2 h63
            simpa [maxLen] using h63')
          refine ⟨_, _, hrun, _, ?_, hk⟩
          simpa using hN
        · exact h.elim
      · exact h.elim
    · exact h.elim
  · exact h.elim
end

/-! ### All operations -/
def stepX [Kn] (P : Program) (Γ : List (TypeId × TI)) (n : Nat) (S : St) (dst : Option Nat) (op : Op) (K : St → Prop) : Prop :=
  match op with
  | .alloc T => stepMk Γ S dst (.alloc T) K
  | .box T x => stepMk Γ S dst (.box T x) K
  | .buildSlice T k parts => stepMk Γ S dst (.buildSlice T k parts) K
  | .makeSlice T x y => match dst with
    | some d => stepMkS Γ S d T (avOf S.env x) (avOf S.env y) K
    | none => False
  | .store T x y => match dst with
    | none => stepStore Γ S T (avOf S.env x) (avOf S.env y) K
    | some _ => False
  | .call { callee := .builtin .append, args := args, argTypes := ts } => match args.toList, ts.toList, dst with
    | [x, y], [T, T'], some d => T' = T ∧ stepApp Γ S d T (avOf S.env x) (avOf S.env y) K
    | _, _, _ => False
  | op => stepC P n S dst op K

/-- A call that is guarded: made if c. -/
def GCall [Kn] (P : Program) (n : Nat) (S : St) (dst : Option Nat) (c : Bool) (f : FuncId) (args : List AV) (K : St → Prop) : Prop :=
  ∀ (B : Ctx) (β : Nat → Nat) (Y : Nat → Prop) (a : Act) (w : World) (vs : List Value), B.n = n → RelC B S β Y a w → (c = true → relVs S.live β Y w args vs) →
    (c = true → Does P f vs.toArray w fun v w' => ∃ S', Rel B S' (a.put dst v) w' ∧ K S') ∧ (c = false → ∃ S', Rel B S' (a.put dst undef) w ∧ K S')

def stepG [Kn] (P : Program) (n : Nat) (S : St) (dst : Option Nat) (c : Bool) (op : Op) (K : St → Prop) : Prop :=
  match op with
  | .call { callee := .value f, args := args, .. } =>
    match avOf S.env f with
    | .clo fid caps => (c = true → guards S.env args.toList = true) ∧ GCall P n S dst c fid (args.toList.map (fun x => (strip (avOf S.env x)).2) ++ caps) K
    | _ => False
  | _ => False

def stepO [Kn] (P : Program) (Γ : List (TypeId × TI)) (n : Nat) (ops : Array Oper) (o : Oper) (S : St) (K : St → Prop) : Prop :=
  dstOk n o.dst = true ∧
  match o.guard with
  | none => match evalOp Γ S o.op with
    | some (ob, r) => ob ∧ K (S.set o.dst r)
    | none => stepX P Γ n S o.dst o.op K
  | some (j, want) => match gval ops S.env j with
    | some (g, b) => match evalOp Γ S o.op with
      | some (ob, r) => g = true ∧ (b = want → ob) ∧ K (S.set o.dst (cndOf (b == want) r))
      | none => g = true ∧ stepG P n S o.dst (b == want) o.op K
    | none => False

def wpA [Kn] (P : Program) (Γ : List (TypeId × TI)) (n : Nat) (ops : Array Oper) : List Oper → St → (St → Prop) → Prop
  | [], S, K => K S
  | o :: rest, S, K => stepO P Γ n ops o S (fun S' => wpA P Γ n ops rest S' K)

section
variable {P : Program} {Γ : List (TypeId × TI)} {n : Nat} {ops : Array Oper}

/-- An operation that hands back a value at once. -/
theorem wp_value {o : Oper} {a : Act} {w w' : World} {v : Value} {K : Act → World → Prop} {Q : Exit → Act → World → Prop} (h : (execOp a.eval o).run P w = .ok (.value v) w') (hk : K (a.put o.dst v) w') : o.wp P a w K Q := by
  unfold Oper.wp
  rw [h]
  exact hk

theorem stepC_sound [Kn] {B : Ctx} {S : St} {β : Nat → Nat} {Y : Nat → Prop} {a : Act} {w : World} (hn : B.n = n) (hC : RelC B S β Y a w) {o : Oper} {K : St → Prop} (h : stepC P n S o.dst o.op K)
    {K' : Act → World → Prop} {Q : Exit → Act → World → Prop} (hK : ∀ S' a' w', Rel B S' a' w' → K S' → K' a' w') : o.wp P a w K' Q := by
  unfold stepC at h
  split at h
  · rename_i f args ts ho
    split at h
    · rename_i fid caps hf
      have hfv := hC.opnd f
      rw [hf] at hfv
      simp only [relV] at hfv
      obtain ⟨cs, hfv, hcs⟩ := hfv
      have hvs := relVs_append (relVs_map (avOf S.env) a.eval args.toList (fun x _ => hC.opnd x)) hcs
      refine Does.wp (f := fid) (vs := (args.toList.map a.eval ++ cs).toArray) ?_ ((h B β Y a w _ hn hC hvs).mono ?_)
      · unfold execOp
        simp only [ho, resolve, hfv, Deferred.ofValue, Sem.run_bind, Sem.run_pure, Result.andThen_ok, invoke]
        congr 1
        congr 1
        apply Array.ext'
        simp
      · rintro v w' ⟨S', hR', hk⟩
        exact hK _ _ _ hR' hk
    · exact h.elim
  · exact h.elim

theorem stepX_sound [Kn] (hΓ : okTab P Γ) {B : Ctx} {S : St} {β : Nat → Nat} {Y : Nat → Prop} {a : Act} {w : World} (hn : B.n = n) (hC : RelC B S β Y a w) {o : Oper} (hd : dstOk n o.dst = true) {K : St → Prop} (h : stepX P Γ n S o.dst o.op K)
    {K' : Act → World → Prop} {Q : Exit → Act → World → Prop} (hK : ∀ S' a' w', Rel B S' a' w' → K S' → K' a' w') : o.wp P a w K' Q := by
  unfold stepX at h
  split at h
  · rename_i T ho
    obtain ⟨v, w', h1, S', h2, h3⟩ := stepMk_sound hΓ hn hC (o := o) hd (by rw [ho]; exact h)
    exact wp_value h1 (hK _ _ _ h2 h3)
  · rename_i T x ho
    obtain ⟨v, w', h1, S', h2, h3⟩ := stepMk_sound hΓ hn hC (o := o) hd (by rw [ho]; exact h)
    exact wp_value h1 (hK _ _ _ h2 h3)
  · rename_i T k parts ho
    obtain ⟨v, w', h1, S', h2, h3⟩ := stepMk_sound hΓ hn hC (o := o) hd (by rw [ho]; exact h)
    exact wp_value h1 (hK _ _ _ h2 h3)
  · rename_i T x y ho
    split at h
    · rename_i d hdst
      obtain ⟨v, w', h1, S', h2, h3⟩ := stepMkS_sound hΓ hn hC (by rw [hdst] at hd; simpa [dstOk] using hd) (hC.opnd x) (hC.opnd y) h
      refine wp_value (w' := w') (v := v) ?_ ?_
      · simp [execOp, ho, h1]
      · rw [hdst]; exact hK _ _ _ h2 h3
    · exact h.elim
  · rename_i T x y ho
    split at h
    · rename_i hdst
      obtain ⟨w', h1, S', h2, h3⟩ := stepStore_sound hΓ hC (hC.opnd x) (hC.opnd y) h
      have hx : (execOp a.eval o).run P w = .ok .skip w' := by simp [execOp, ho, h1]
      unfold Oper.wp
      rw [hx, Oper.upon_skip, hdst]
      exact hK _ _ _ h2.rel h3
    · exact h.elim
  · rename_i args ts ho
    split at h
    · rename_i x y T T' d hx hts hdst
      obtain ⟨rfl, h⟩ := h
      have hargs : args = #[x, y] := by rw [← Array.toArray_toList (xs := args), hx]
      have htss : ts = #[T', T'] := by rw [← Array.toArray_toList (xs := ts), hts]
      obtain ⟨v, w', h1, S', h2, h3⟩ := stepApp_sound (ty := o.type) hΓ hn hC (by rw [hdst] at hd; simpa [dstOk] using hd) (hC.opnd x) (hC.opnd y) h
      refine wp_value (w' := w') (v := v) ?_ ?_
      · subst hargs; subst htss
        simp [execOp, ho, resolve, invoke, builtin, h1]
      · rw [hdst]; exact hK _ _ _ h2 h3
    · exact h.elim
  · exact stepC_sound hn hC h hK

theorem stepO_sound [Kn] (hΓ : okTab P Γ) {o : Oper} {S : St} {K : St → Prop} (h : stepO P Γ n ops o S K) {B : Ctx} {a : Act} {w : World} (hn : B.n = n) (hR : Rel B S a w) {K' : Act → World → Prop} {Q : Exit → Act → World → Prop} (hK' : ∀ S' a' w', Rel B S' a' w' → K S' → K' a' w') :
    if Region.wanted o (yielded ops a.tmps) then o.wp P a w K' Q else K' (a.put o.dst undef) w := by
    simp only [stepO] at h
    obtain ⟨hd, h⟩ := h
    obtain ⟨β, Y, hC⟩ := hR
    split at h
    · rename_i hg
      have hw : Region.wanted o (yielded ops a.tmps) = true := by simp [Region.wanted, hg]
      rw [if_pos hw]
      split at h
      · rename_i ob r he
        obtain ⟨hob, hk⟩ := h
        obtain ⟨v, w', h1, h2, h3⟩ := gives_evalOp hΓ hC he hob
        unfold Oper.wp
        rw [h1]
        simp only [Oper.upon]
        exact hK' _ _ _ (((hC.ext h2).set (dst_lt hn hd) (hC.wr.keepV h2 h3)).rel) hk
      · exact stepX_sound hΓ hn hC hd h hK'
    · rename_i j want hg
      split at h
      · rename_i g b hgv
        split at h
        · rename_i ob r he
          obtain ⟨hgt, hob, hk⟩ := h
          have hy := gval_yield hC hgv hgt
          by_cases hbw : b = want
          · have hw : Region.wanted o (yielded ops a.tmps) = true := by simp [Region.wanted, hg, hy, hbw]
            rw [if_pos hw]
            obtain ⟨v, w', h1, h2, h3⟩ := gives_evalOp hΓ hC he (hob hbw)
            unfold Oper.wp
            rw [h1]
            simp only [Oper.upon]
            refine hK' _ _ _ (((hC.ext h2).set (dst_lt hn hd) ?_).rel) hk
            simp only [cndOf, relV, Bool.and_eq_true]
            exact fun hh => hC.wr.keepV h2 (relV_strip h3 hh.2)
          · have hw : ¬ Region.wanted o (yielded ops a.tmps) = true := by simp [Region.wanted, hg, hy, hbw]
            rw [if_neg hw]
            refine hK' _ _ _ ((hC.set (dst_lt hn hd) ?_).rel) hk
            simp only [cndOf, relV, Bool.and_eq_true, beq_iff_eq]
            exact fun hh => absurd hh.1 hbw
        · obtain ⟨hgt, h⟩ := h
          have hy := gval_yield hC hgv hgt
          unfold stepG at h
          split at h
          · rename_i f args ts ho
            split at h
            · rename_i fid caps hf
              obtain ⟨hgs, h⟩ := h
              have hfv := hC.opnd f
              rw [hf] at hfv
              simp only [relV] at hfv
              obtain ⟨cs, hfv, hcs⟩ := hfv
              have hall : (b == want) = true → ∀ x ∈ args.toList, relV S.live β Y w (strip (avOf S.env x)).2 (a.eval x) := by
                intro hc
                have := hgs hc
                generalize args.toList = l at this
                induction l with
                | nil => intro x hx; simp at hx
                | cons y l ih =>
                  simp only [guards, Bool.and_eq_true] at this
                  intro x hx
                  rcases List.mem_cons.1 hx with rfl | hx
                  · exact relV_strip (hC.opnd x) this.1
                  · exact ih this.2 x hx
              obtain ⟨k1, k2⟩ := h B β Y a w (args.toList.map a.eval ++ cs) hn hC (fun hc => relVs_append (relVs_map _ a.eval args.toList (hall hc)) hcs)
              by_cases hbw : b = want
              · have hw : Region.wanted o (yielded ops a.tmps) = true := by simp [Region.wanted, hg, hy, hbw]
                rw [if_pos hw]
                refine Does.wp (f := fid) (vs := (args.toList.map a.eval ++ cs).toArray) ?_ ((k1 (by simp [hbw])).mono ?_)
                · unfold execOp
                  simp only [ho, resolve, hfv, Deferred.ofValue, Sem.run_bind, Sem.run_pure, Result.andThen_ok, invoke]
                  congr 1
                  congr 1
                  apply Array.ext'
                  simp
                · rintro v w' ⟨S', hR', hk⟩
                  exact hK' _ _ _ hR' hk
              · have hw : ¬ Region.wanted o (yielded ops a.tmps) = true := by simp [Region.wanted, hg, hy, hbw]
                rw [if_neg hw]
                obtain ⟨S', hR', hk⟩ := k2 (by simp [hbw])
                exact hK' _ _ _ hR' hk
            · exact h.elim
          · exact h.elim
      · exact h.elim

theorem wpA_sound [Kn] (hΓ : okTab P Γ) : ∀ (l : List Oper) (S : St) (K : St → Prop), wpA P Γ n ops l S K → AL P n ops l S K
  | [], S, K, h => fun B a w Q hn hR hQ => wpList_nil (hQ S a w hR h)
  | o :: rest, S, K, h => fun B a w Q hn hR hQ => wpList_step fun K' hK' => stepO_sound hΓ h hn hR (fun S' a' w' hR' hk => hK' _ _ (wpA_sound hΓ rest _ K hk B _ w' Q hn hR' hQ))
end
end Go.Proofs.Avx
