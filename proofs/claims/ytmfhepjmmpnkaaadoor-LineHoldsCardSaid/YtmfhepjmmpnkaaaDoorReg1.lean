/-
  A region that draws its order and in which one operation writes into known blocks; the others read or make memory.
-/
import Derived.Test.YtmfhepjmmpnkaaaDoorReg
import Derived.Test.YtmfhepjmmpnkaaaDoorSlice
set_option linter.unusedSimpArgs false
set_option linter.unusedVariables false
namespace Go.Proofs.YtmfhepjmmpnkaaaDoor
open Go.RowKit

/-- What is known of an operation's value: it stands when other blocks than these stay. -/
structure Sq (S : Nat → Prop) where
  is : Value → World → Prop
  stab : ∀ v w1 w2, is v w1 → Chg S w1 w2 → is v w2
def Sq.val {S : Nat → Prop} (v : Value) : Sq S := ⟨fun u _ => u = v, fun _ _ _ h _ => h⟩
theorem RdC.chg {S : Nat → Prop} {w w' : World} {A : Option Addr} {c : Nat} {cs : List Cell} (h : RdC w A c cs) (hb : Chg S w w') (hA : ∀ ad, A = some ad → ¬ S ad.block) : RdC w' A c cs := ⟨h.1, h.2.1, fun hn => by
  obtain ⟨b, off, e, hlt, hr⟩ := h.2.2 hn
  exact ⟨b, off, e, by have := hb.size; omega, (rangeAt_same (fun i => hb.cell (p := ⟨b, i, none⟩) hlt (show ¬ S b from hA ⟨b, off, none⟩ e))).2 hr⟩⟩
theorem own_chg {S : Nat → Prop} {w w' : World} {B k n : Nat} {t : TypeId} {v : Value} {xs : List Value} (h : w.ownsRow B t k v n xs) (hb : Chg S w w') (hv : ∀ b, v.ownBlock = some b → ¬ S b) : w'.ownsRow B t k v n xs := by
  refine ⟨h.1, ?_⟩
  rcases h.2 with h' | ⟨g, cap, cur, rfl, h1, h2, h3⟩
  · exact .inl h'
  · refine .inr ⟨g, cap, cur, rfl, h1, ?_, h3⟩
    rw [hb.block g (Array.getElem?_eq_some_iff.1 h2).1 (hv g rfl)]
    exact h2
def Sq.cells {S : Nat → Prop} (cs : List Cell) : Sq S :=
  ⟨fun u w => ∃ A c, u = .slice A cs.length c ∧ RdC w A c cs ∧ ∀ ad, A = some ad → ¬ S ad.block, fun _ _ _ ⟨A, c, h1, h2, h3⟩ hb => ⟨A, c, h1, h2.chg hb h3, h3⟩⟩
def Sq.own {S : Nat → Prop} (B : Nat) (cs : List Cell) : Sq S :=
  ⟨fun u w => OwnC w B u cs ∧ ∀ b, u.ownBlock = some b → ¬ S b, fun _ _ _ ⟨h1, h2⟩ hb => ⟨own_chg h1 hb h2, h2⟩⟩
def sqOf {S : Nat → Prop} (l : List (Sq S)) (i : Nat) : Sq S := l.getD i (Sq.val undef)
section
variable {P : Program} {Q : Exit → Act → World → Prop} {a0 : Act} {w0 : World} {S : Nat → Prop}
def ΦOne (specs : List (Sq S)) (m : Nat) (Φm : Value → World → Prop) (i : Nat) : Value → World → Prop := if i = m then Φm else (sqOf specs i).is
def ROne (S : Nat → Prop) (m : Nat) (i : Nat) : World → World → Prop := if i = m then Chg S else fun w w2 => Below w.heap.size w w2
def ΨOne (Ψ : World → Prop) (m : Nat) (i : Nat) : World → Prop := if i = m then Ψ else fun _ => True
theorem wp_region_one {id : Nat} {l : List Oper} (hm : P.follows .mixedOrders = true) (hg : growOk l.toArray = true) (hsz : l.toArray.all (fun o => o.dst.all (fun d => decide (d < a0.tmps.size))) = true)
    (S : Nat → Prop) (specs : List (Sq S)) (m : Nat) (Φm : Value → World → Prop) (Ψ : World → Prop) (hΨ0 : Ψ w0.drew)
    (hΨ : ∀ w1 w2, Ψ w1 → Below w1.heap.size w1 w2 → Ψ w2) (hΦ : ∀ v w1 w2, Φm v w1 → Below w1.heap.size w1 w2 → Φm v w2)
    (hstep : RSteps P l.toArray (fun _ => none) Q (ΦOne specs m Φm) (Chg S w0) (ΨOne Ψ m) (ROne S m) a0 0 l)
    (hQ : ∀ (vs : Nat → Value) w, Chg S w0 w → (∀ (i : Nat), i < l.length → i ≠ m → (sqOf specs i).is (vs i) w) → (m < l.length → Φm (vs m) w) → Q .normal (putL vs 0 l a0) w) : (Code.region id l.toArray true).wp P Q a0 w0 := by
  have hc : ∀ i w1 w2, ROne S m i w1 w2 → Chg S w1 w2 := fun i w1 w2 h => by
    unfold ROne at h
    split at h
    · exact h
    · exact Chg.of_below h S
  have hn : ∀ i w1 w2, i ≠ m → ROne S m i w1 w2 → Below w1.heap.size w1 w2 := fun i w1 w2 hi h => by
    unfold ROne at h
    rw [if_neg hi] at h
    exact h
  refine wp_region_regs (tk := fun _ => none) (fun i k h => by cases h) hm hg hsz (Chg.refl _ _).drew (fun i hi => ?_) (fun i j w1 w2 hij _ h1 h2 => ?_) (fun i w1 w2 h1 h2 => h1.trans (hc i w1 w2 h2) (fun _ _ h => h)) (fun i j v w1 w2 hij _ _ _ h1 h2 => ?_) hstep (fun vs w hj h => hQ vs w hj (fun i hi hne => ?_) (fun hi => ?_))
  · unfold ΨOne
    split
    · exact hΨ0
    · trivial
  · unfold ΨOne at h1 ⊢
    split at h1
    · rename_i h
      rw [if_pos h]
      exact hΨ w1 w2 h1 (hn j w1 w2 (fun e => hij (h.trans e.symm)) h2)
    · rename_i h
      rw [if_neg h]
      trivial
  · unfold ΦOne at h1 ⊢
    split at h1
    · rename_i h
      rw [if_pos h]
      exact hΦ v w1 w2 h1 (hn j w1 w2 (fun e => hij (h.trans e.symm)) h2)
    · rename_i h
      rw [if_neg h]
      exact (sqOf specs i).stab v w1 w2 h1 (hc j w1 w2 h2)
  · have := h i hi rfl
    unfold ΦOne at this
    rw [if_neg hne] at this
    exact this
  · have := h m hi rfl
    unfold ΦOne at this
    rw [if_pos rfl] at this
    exact this
/-- What is known of an operation's value: it stands while only memory is made. -/
structure Sr where
  is : Value → World → Prop
  stab : ∀ v w1 w2, is v w1 → Below w1.heap.size w1 w2 → is v w2
def Sr.val (v : Value) : Sr := ⟨fun u _ => u = v, fun _ _ _ h _ => h⟩
def Sr.own (B : Nat) (cs : List Cell) : Sr := ⟨fun u w => OwnC w B u cs, fun _ _ _ h hb => h.bel hb⟩
def srOf (l : List Sr) (i : Nat) : Sr := l.getD i (Sr.val undef)
def setOf (wr : List (Nat × (Nat → Prop))) (j : Nat) : Nat → Prop := ((wr.find? (fun p => p.1 == j)).map (·.2)).getD noBlk
def preOf (pre : List (Nat × (World → Prop))) (j : Nat) : World → Prop := ((pre.find? (fun p => p.1 == j)).map (·.2)).getD (fun _ => True)
theorem setOf_cases (wr : List (Nat × (Nat → Prop))) (j : Nat) : setOf wr j = noBlk ∨ ∃ p ∈ wr, p.1 = j ∧ setOf wr j = p.2 := by
  unfold setOf
  cases h : wr.find? (fun p => p.1 == j) with
  | none => exact .inl rfl
  | some p => exact .inr ⟨p, List.mem_of_find?_eq_some h, by simpa using List.find?_some h, rfl⟩
theorem preOf_cases (pre : List (Nat × (World → Prop))) (j : Nat) : preOf pre j = (fun _ => True) ∨ ∃ p ∈ pre, p.1 = j ∧ preOf pre j = p.2 := by
  unfold preOf
  cases h : pre.find? (fun p => p.1 == j) with
  | none => exact .inl rfl
  | some p => exact .inr ⟨p, List.mem_of_find?_eq_some h, by simpa using List.find?_some h, rfl⟩
theorem chg_none {w1 w2 : World} (h : Chg noBlk w1 w2) : Below w1.heap.size w1 w2 := h.below (Nat.le_refl _) (fun _ _ hf => hf)
/-- Several operations write, each into known blocks; what an operation yielded may be taken by a later one, and is known until then. -/
theorem wp_region_multi {id : Nat} {l : List Oper} (hm : P.follows .mixedOrders = true) (hg : growOk l.toArray = true) (hsz : l.toArray.all (fun o => o.dst.all (fun d => decide (d < a0.tmps.size))) = true)
    (tk : Nat → Option Nat) (htk : ∀ i k, tk i = some k → k < l.length) (T : Nat → Prop) (specs : List Sr) (wr : List (Nat × (Nat → Prop))) (pre : List (Nat × (World → Prop)))
    (hT : ∀ p ∈ wr, ∀ b, b < w0.heap.size → p.2 b → T b)
    (hpre0 : ∀ p ∈ pre, p.2 w0.drew) (hpreB : ∀ p ∈ pre, ∀ w1 w2, p.2 w1 → Below w1.heap.size w1 w2 → p.2 w2) (hpreW : ∀ p ∈ pre, ∀ q ∈ wr, p.1 ≠ q.1 → ∀ w1 w2, p.2 w1 → Chg q.2 w1 w2 → p.2 w2)
    (hW : ∀ q ∈ wr, ∀ i v w1 w2, i ≠ q.1 → tk i ≠ some q.1 → (∀ x, l[i]? = some x → ∀ e ∈ x.after, Region.binds .any e = true → e.on ≠ q.1) → (srOf specs i).is v w1 → Chg q.2 w1 w2 → (srOf specs i).is v w2)
    (hstep : RSteps P l.toArray tk Q (fun i => (srOf specs i).is) (Chg T w0) (preOf pre) (fun j => Chg (setOf wr j)) a0 0 l)
    (hQ : ∀ (vs : Nat → Value) w, Chg T w0 w → (∀ (i : Nat), i < l.length → tk i = none → (srOf specs i).is (vs i) w) → Q .normal (putL vs 0 l a0) w) : (Code.region id l.toArray true).wp P Q a0 w0 := by
  refine wp_region_regs (tk := tk) htk hm hg hsz (Chg.refl _ _).drew (fun i hi => ?_) (fun i j w1 w2 hij _ h1 h2 => ?_) (fun j w1 w2 h1 h2 => ?_) (fun i j v w1 w2 hij h3 h4 _ h1 h2 => ?_) hstep hQ
  · rcases preOf_cases pre i with h | ⟨p, hp, _, h⟩
    · rw [h]; trivial
    · rw [h]; exact hpre0 p hp
  · rcases preOf_cases pre i with h | ⟨p, hp, hpi, h⟩
    · rw [h]; trivial
    · rw [h] at h1 ⊢
      rcases setOf_cases wr j with h' | ⟨q, hq, hqj, h'⟩
      · rw [h'] at h2; exact hpreB p hp w1 w2 h1 (chg_none h2)
      · rw [h'] at h2; exact hpreW p hp q hq (by omega) w1 w2 h1 h2
  · rcases setOf_cases wr j with h' | ⟨q, hq, hqj, h'⟩
    · rw [h'] at h2; exact h1.trans h2 (fun _ _ hf => hf.elim)
    · rw [h'] at h2; exact h1.trans h2 (fun b hb hs => hT q hq b hb hs)
  · rcases setOf_cases wr j with h' | ⟨q, hq, hqj, h'⟩
    · rw [h'] at h2; exact (srOf specs i).stab v w1 w2 h1 (chg_none h2)
    · rw [h'] at h2; subst hqj; exact hW q hq i v w1 w2 hij h3 h4 h1 h2
variable {ops : Array Oper} {o : Oper} {a : Act} {w w2 : World} {v : Value}
/-- A step that only reads: its value. -/
theorem ro_pure {Φ : Value → World → Prop} {R : World → World → Prop} (hw : Region.wanted o (yielded ops a.tmps) = true) (hr : (execOp a.eval o).run P w = .ok (.value v) w) (hv : Φ v w) (hR : R w w) : RStep P ops Q Φ R o a w := rstep_value hw hr hv hR
end
end Go.Proofs.YtmfhepjmmpnkaaaDoor
