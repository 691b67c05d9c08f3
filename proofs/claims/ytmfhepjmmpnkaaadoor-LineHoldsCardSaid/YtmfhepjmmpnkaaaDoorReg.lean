/-
  A region that draws its order, whose operations make memory and write into known blocks: whatever the order, what is known of each operation's value holds at the end. The change that each operation makes is named.
-/
import Derived.Test.YtmfhepjmmpnkaaaDoorGrow
set_option linter.unusedSimpArgs false
set_option linter.unusedVariables false
namespace Go.Proofs.YtmfhepjmmpnkaaaDoor
open Go.RowKit

/-- The new world is the old one but for these blocks, and more of them. -/
structure Chg (S : Nat → Prop) (w w' : World) : Prop where
  os : w'.os = w.os
  tape : w'.tape = w.tape
  output : w'.output = w.output
  size : w.heap.size ≤ w'.heap.size
  block : ∀ k, k < w.heap.size → ¬ S k → w'.heap[k]? = w.heap[k]?
def noBlk : Nat → Prop := fun _ => False
section
variable {S T : Nat → Prop} {a b c w w' : World}
theorem Chg.refl (S : Nat → Prop) (w : World) : Chg S w w := ⟨rfl, rfl, rfl, Nat.le_refl _, fun _ _ _ => rfl⟩
theorem Chg.trans (h : Chg S a b) (k : Chg T b c) (hT : ∀ i, i < a.heap.size → T i → S i) : Chg S a c :=
  ⟨k.os.trans h.os, k.tape.trans h.tape, k.output.trans h.output, Nat.le_trans h.size k.size, fun i hi hn => (k.block i (Nat.lt_of_lt_of_le hi h.size) (fun ht => hn (hT i hi ht))).trans (h.block i hi hn)⟩
theorem Chg.mono (h : Chg S a b) (hT : ∀ i, i < a.heap.size → S i → T i) : Chg T a b := ⟨h.os, h.tape, h.output, h.size, fun k hk hn => h.block k hk (fun hs => hn (hT k hk hs))⟩
theorem Chg.of_below (h : Below w.heap.size w w') (S : Nat → Prop) : Chg S w w' := ⟨h.os, h.tape, h.output, h.size, fun k hk _ => h.block k hk⟩
theorem Chg.below (h : Chg S w w') {B : Nat} (hB : B ≤ w.heap.size) (hS : ∀ k, k < B → ¬ S k) : Below B w w' := ⟨h.os, h.tape, h.output, h.size, fun k hk => h.block k (by omega) (hS k hk)⟩
theorem Chg.of_grown {row : Option Nat} (h : w.grownBy w' row) (S : Nat → Prop) (hS : ∀ k, row = some k → S k) : Chg S w w' := ⟨h.os, h.tape, h.output, h.size, fun k hk hn => h.block k hk (fun e => hn (hS k e.symm))⟩
theorem Chg.then_below (h : Chg S a b) (k : Below b.heap.size b c) : Chg S a c := h.trans (Chg.of_below k noBlk) (fun _ _ hf => hf.elim)
theorem Chg.cell (h : Chg S w w') {p : Addr} (hp : p.block < w.heap.size) (hn : ¬ S p.block) : w'.cell? p = w.cell? p := World.cell?_of_block (w := w) (h.block p.block hp hn)
theorem Chg.alloc (h : Chg S a b) (o : Obj) : Chg S a (b.alloc o) := h.then_below ((Below.refl _ _).alloc (Nat.le_refl _) o)
theorem Chg.drew (h : Chg S a b) : Chg S a b.drew := h.then_below (Below.refl _ _).drew
end

section
variable {P : Program} {ops : Array Oper} {Q : Exit → Act → World → Prop} {a0 : Act}

def RStep (P : Program) (ops : Array Oper) (Q : Exit → Act → World → Prop) (Φ : Value → World → Prop) (R : World → World → Prop) (o : Oper) (a : Act) (w : World) : Prop :=
  if Region.wanted o (yielded ops a.tmps) = true then o.wp P a w (fun a2 w2 => ∃ v, a2 = a.put o.dst v ∧ Φ v w2 ∧ R w w2) Q else Φ undef w ∧ R w w
/-- What operation i is known to have yielded: its temporary's value, if it has one. -/
def yieldOf (a : Act) (d : Option Tmp) : Value := d.elim undef (fun d => a.tmps.getD d undef)
def RKnown (ops : Array Oper) (tk : Nat → Option Nat) (Φ : Nat → Value → World → Prop) (a0 : Act) (i : Nat) (o : Oper) (a : Act) (w : World) : Prop :=
  (∀ e ∈ o.after, Region.binds .any e = true → (tk e.on = none ∨ tk e.on = some i) → ∀ x, ops[e.on]? = some x → ∃ v, (∀ d, x.dst = some d → a.tmps.getD d undef = v) ∧ Φ e.on v w) ∧
  (∀ t, (∀ x ∈ ops, x.dst ≠ some t) → a.tmps.getD t undef = a0.tmps.getD t undef) ∧
  (∀ (j : Nat) (x : Oper), ops[j]? = some x → (∃ e ∈ x.after, Region.binds .any e = true ∧ e.on = i) → ∀ d, x.dst = some d → a.tmps.getD d undef = a0.tmps.getD d undef)
def RInv (ops : Array Oper) (tk : Nat → Option Nat) (Φ : Nat → Value → World → Prop) (J : World → Prop) (Ψ : Nat → World → Prop) (a0 : Act) (listed : Array Bool) (a : Act) (w : World) : Prop :=
  (J w ∧ ∀ i, i < ops.size → listed.getD i false = false → Ψ i w) ∧ a.defers = a0.defers ∧ a.tmps.size = a0.tmps.size ∧
  (∀ (i : Nat) (o : Oper), ops[i]? = some o → listed.getD i false = true → ∃ v, (∀ d, o.dst = some d → a.tmps.getD d undef = v) ∧ ((∀ k, tk i = some k → listed.getD k false = false) → Φ i v w)) ∧
  (∀ t, (∀ x ∈ ops, x.dst ≠ some t) → a.tmps.getD t undef = a0.tmps.getD t undef) ∧
  (∀ (i : Nat) (o : Oper), ops[i]? = some o → listed.getD i false = true → ∀ e ∈ o.after, Region.binds .any e = true → listed.getD e.on false = true) ∧
  (∀ (i : Nat) (o : Oper), ops[i]? = some o → listed.getD i false = false → ∀ d, o.dst = some d → a.tmps.getD d undef = a0.tmps.getD d undef)

open Classical in
theorem reg_any (tk : Nat → Option Nat) (htk : ∀ i k, tk i = some k → k < ops.size) (hg : growOk ops = true) (hsz : ∀ o : Oper, o ∈ ops → ∀ d, o.dst = some d → d < a0.tmps.size) (Φ : Nat → Value → World → Prop) (J : World → Prop) (Ψ : Nat → World → Prop) (R : Nat → World → World → Prop)
    (hΨ : ∀ i j w1 w2, i ≠ j → J w1 → Ψ i w1 → R j w1 w2 → Ψ i w2)
    (hJ : ∀ i w1 w2, J w1 → R i w1 w2 → J w2)
    (hstab : ∀ i j v w1 w2, i ≠ j → tk i ≠ some j → (∀ x, ops[i]? = some x → ∀ e ∈ x.after, Region.binds .any e = true → e.on ≠ j) → J w1 → Φ i v w1 → R j w1 w2 → Φ i v w2)
    (hstep : ∀ (i : Nat) (o : Oper), ops[i]? = some o → ∀ a w, J w → Ψ i w → RKnown ops tk Φ a0 i o a w → RStep P ops Q (Φ i) (R i) o a w)
    (hQ : ∀ (vs : Nat → Value) w, J w → (∀ (i : Nat), i < ops.size → tk i = none → Φ i (vs i) w) → Q .normal (putL vs 0 ops.toList a0) w) :
    ∀ (fuel : Nat) (listed : Array Bool) (a : Act) (w : World), listed.size = ops.size → listed.toList.count false ≤ fuel → RInv ops tk Φ J Ψ a0 listed a w → wpAny P .any ops Q fuel listed a w := by
  have hidx : ∀ {i : Nat} {o : Oper}, ops[i]? = some o → i < ops.size := fun h => (Array.getElem?_eq_some_iff.1 h).1
  have hend : ∀ (listed : Array Bool) (a : Act) (w : World), listed.size = ops.size → RInv ops tk Φ J Ψ a0 listed a w → Region.ready .any ops listed = [] → Q .normal a w := by
    intro listed a w hs ⟨⟨hb, _⟩, hd, hz, hk, ho, _, _⟩ hr
    have hall := ready_none hg hs hr
    have hvs : ∃ vs : Nat → Value, ∀ (i : Nat) (o : Oper), ops[i]? = some o → (∀ d, o.dst = some d → a.tmps.getD d undef = vs i) ∧ (tk i = none → Φ i (vs i) w) := by
      refine ⟨fun i => if h : ∃ v o, ops[i]? = some o ∧ (∀ d, o.dst = some d → a.tmps.getD d undef = v) ∧ (tk i = none → Φ i v w) then h.choose else undef, fun i o ho' => ?_⟩
      obtain ⟨v, hv1, hv2⟩ := hk i o ho' (hall i (hidx ho'))
      have hx : ∃ v o, ops[i]? = some o ∧ (∀ d, o.dst = some d → a.tmps.getD d undef = v) ∧ (tk i = none → Φ i v w) := ⟨v, o, ho', hv1, fun hn => hv2 (fun k hk => by rw [hn] at hk; cases hk)⟩
      simp only [dif_pos hx]
      obtain ⟨o2, h2, h3, h4⟩ := hx.choose_spec
      obtain rfl : o = o2 := Option.some.inj (ho'.symm.trans h2)
      exact ⟨h3, h4⟩
    obtain ⟨vs, hvs⟩ := hvs
    have := hQ vs w hb (fun (i : Nat) hi => (hvs i ops[i] (by simp [hi])).2)
    have heq : putL vs 0 ops.toList a0 = a := by
      have h1 := putL_size vs ops.toList 0 a0
      have h2 := putL_defers vs ops.toList 0 a0
      have h3 : ∀ t, (putL vs 0 ops.toList a0).tmps.getD t undef = a.tmps.getD t undef := by
        intro t
        by_cases ht : ∃ (j : Nat) (o : Oper), ops[j]? = some o ∧ o.dst = some t
        · obtain ⟨j, o, hj, hdt⟩ := ht
          rw [putL_at _ t ops.toList 0 a0 j o (by simpa using hj) hdt (fun i x hx he => growOk_dst hg (by simpa using hx) hj he hdt) (hsz o (Array.mem_of_getElem? hj) t hdt)]
          rw [Nat.zero_add]
          exact ((hvs j o hj).1 t hdt).symm
        · have hno : ∀ x ∈ ops, x.dst ≠ some t := fun x hx he => by
            obtain ⟨j, hj⟩ := Array.getElem?_of_mem hx
            exact ht ⟨j, x, hj, he⟩
          rw [putL_none _ t _ _ _ (fun x hx => hno x (by simpa using hx)), ho t hno]
      generalize putL vs 0 ops.toList a0 = b at h1 h2 h3
      obtain ⟨bt, bd⟩ := b
      obtain ⟨at_, ad⟩ := a
      simp only at h1 h2 h3 hd hz
      rw [Act.mk.injEq]
      refine ⟨?_, by rw [h2, hd]⟩
      apply Array.ext (by omega)
      intro i hi1 hi2
      have := h3 i
      simpa [hi1, hi2] using this
    rw [heq] at this
    exact this
  intro fuel
  induction fuel with
  | zero =>
    intro listed a w hs hc hi
    have hr : Region.ready .any ops listed = [] := by
      apply List.eq_nil_iff_forall_not_mem.2
      intro i hm
      rw [mem_ready] at hm
      obtain ⟨h1, o, h2, _⟩ := hm
      have hlt : i < listed.size := by rw [hs]; exact (Array.getElem?_eq_some_iff.1 h2).1
      have : listed.toList.count false = 0 := by omega
      rw [List.count_eq_zero] at this
      apply this
      simp [hlt] at h1
      rw [← h1]
      simp
    exact ⟨hr, hend listed a w hs hi hr⟩
  | succ fuel ih =>
    intro listed a w hs hc hi
    refine ⟨hend listed a w hs hi, fun i hm => ?_⟩
    have hm' := hm
    rw [mem_ready] at hm'
    obtain ⟨h1, o, h2, h3⟩ := hm'
    have hlt : i < listed.size := by rw [hs]; exact (Array.getElem?_eq_some_iff.1 h2).1
    have hli : listed[i] = false := by simpa [hlt] using h1
    obtain ⟨⟨hb, hpsi⟩, hd, hz, hk, hu, hcl, hun⟩ := hi
    have hkn : RKnown ops tk Φ a0 i o a w := ⟨fun e he hbi hce x hx => (by
      obtain ⟨v, hv1, hv2⟩ := hk e.on x hx (h3 e he hbi)
      refine ⟨v, hv1, hv2 (fun k hk => ?_)⟩
      rcases hce with hce | hce
      · rw [hce] at hk; cases hk
      · rw [hce] at hk; cases hk; simp [hlt, hli]), hu, fun j x hj ⟨e, he, hbi, hei⟩ d hd => hun j x hj (by
      cases hlj : listed.getD j false with
      | false => rfl
      | true => have := hcl j x hj hlj e he hbi; rw [hei] at this; simp [hlt, hli] at this) d hd⟩
    have hst := hstep i o h2 a w hb (hpsi i (by omega) (by simp [hlt, hli])) hkn
    have hnext : ∀ a2 w2, (∃ v, a2 = a.put o.dst v ∧ Φ i v w2 ∧ R i w w2) → wpAny P .any ops Q fuel (listed.setIfInBounds i true) a2 w2 := by
      rintro a2 w2 ⟨v, rfl, hv, hb2⟩
      refine ih _ _ _ (by simpa using hs) ?_ ⟨⟨hJ i w w2 hb hb2, fun j hj hl => ?_⟩, by rw [put_defers]; exact hd, by rw [put_size]; exact hz, ?_, ?_, ?_, ?_⟩
      · rw [Array.toList_setIfInBounds, List.count_set (by simpa using hlt)]
        simp only [Array.getElem_toList, hli]
        have : 0 < listed.toList.count false := List.count_pos_iff.2 (by rw [← hli]; simp)
        simp
        simp at this hc
        omega
      · by_cases hij : i = j
        · subst hij
          simp [hlt] at hl
        · rw [getD_set_ne _ hij] at hl
          exact hΨ j i w w2 (fun e => hij e.symm) hb (hpsi j hj hl) hb2
      · intro j x hj hl
        by_cases hij : i = j
        · subst hij
          rw [h2] at hj
          cases hj
          refine ⟨v, fun d hxd => ?_, fun _ => hv⟩
          rw [hxd, put_same _ _ _ (by rw [hz]; exact hsz _ (Array.mem_of_getElem? h2) d hxd)]
        · rw [getD_set_ne _ hij] at hl
          obtain ⟨u, hu1, hu2⟩ := hk j x hj hl
          refine ⟨u, fun d hxd => ?_, fun hck => hstab j i u w w2 (fun e => hij e.symm) (fun hce => by have := hck i hce; simp [hlt] at this) (fun y hy e he hbi hei => by
            rw [hj] at hy
            cases hy
            have := hcl j x hj hl e he hbi
            rw [hei] at this
            simp [hlt, hli] at this) hb (hu2 (fun k hk => ?_)) hb2⟩
          · rw [put_other _ _ _ _ (fun e => hij (growOk_dst hg h2 hj e hxd))]
            exact hu1 d hxd
          · have := hck k hk
            by_cases hik : i = k
            · subst hik; simp [hlt] at this
            · rwa [getD_set_ne _ hik] at this
      · intro t ht
        rw [put_other _ _ _ _ (ht o (Array.mem_of_getElem? h2))]
        exact hu t ht
      · intro j x hj hl e he hbi
        have hmono : ∀ k, listed.getD k false = true → (listed.setIfInBounds i true).getD k false = true := fun k hk => by
          by_cases hik : i = k
          · subst hik; simp [hlt]
          · rw [getD_set_ne _ hik]; exact hk
        by_cases hij : i = j
        · subst hij
          rw [h2] at hj
          cases hj
          exact hmono _ (h3 e he hbi)
        · rw [getD_set_ne _ hij] at hl
          exact hmono _ (hcl j x hj hl e he hbi)
      · intro j x hj hl d hxd
        have hij : i ≠ j := fun e => by subst e; simp [hlt] at hl
        rw [getD_set_ne _ hij] at hl
        rw [put_other _ _ _ _ (fun e => hij (growOk_dst hg h2 hj e hxd))]
        exact hun j x hj hl d hxd
    unfold wpOp
    simp only [h2]
    unfold RStep at hst
    by_cases hw : Region.wanted o (yielded ops a.tmps) = true
    · rw [if_pos hw] at hst
      rw [if_pos hw]
      exact .inl (Oper.wp_mono hnext hst)
    · rw [if_neg hw] at hst
      rw [if_neg hw]
      exact hnext _ _ ⟨undef, rfl, hst.1, hst.2⟩

/-- The steps, one operation behind the other. -/
def RSteps (P : Program) (ops : Array Oper) (tk : Nat → Option Nat) (Q : Exit → Act → World → Prop) (Φ : Nat → Value → World → Prop) (J : World → Prop) (Ψ : Nat → World → Prop) (R : Nat → World → World → Prop) (a0 : Act) (k : Nat) (l : List Oper) : Prop :=
  ∀ (j : Nat) (o : Oper), l[j]? = some o → ∀ a w, J w → Ψ (k + j) w → RKnown ops tk Φ a0 (k + j) o a w → RStep P ops Q (Φ (k + j)) (R (k + j)) o a w
section
variable {tk : Nat → Option Nat} {Φ : Nat → Value → World → Prop} {J : World → Prop} {Ψ : Nat → World → Prop} {R : Nat → World → World → Prop} {k : Nat} {o : Oper} {r : List Oper}
theorem RSteps.nil : RSteps P ops tk Q Φ J Ψ R a0 k [] := fun j o h => by simp at h
theorem RSteps.cons (h : ∀ a w, J w → Ψ k w → RKnown ops tk Φ a0 k o a w → RStep P ops Q (Φ k) (R k) o a w) (hr : RSteps P ops tk Q Φ J Ψ R a0 (k + 1) r) : RSteps P ops tk Q Φ J Ψ R a0 k (o :: r) := fun j x hx => by
  cases j with
  | zero => simp at hx; subst hx; exact h
  | succ j =>
    have := hr j x (by simpa using hx)
    rw [show k + 1 + j = k + (j + 1) by omega] at this
    exact this
theorem wp_region_regs {id : Nat} {l : List Oper} {w0 : World} (htk : ∀ i k, tk i = some k → k < l.length) (hm : P.follows .mixedOrders = true) (hg : growOk l.toArray = true) (hsz : l.toArray.all (fun o => o.dst.all (fun d => decide (d < a0.tmps.size))) = true)
    (hJ0 : J w0.drew) (hΨ0 : ∀ i, i < l.length → Ψ i w0.drew) (hΨ : ∀ i j w1 w2, i ≠ j → J w1 → Ψ i w1 → R j w1 w2 → Ψ i w2) (hJ : ∀ i w1 w2, J w1 → R i w1 w2 → J w2)
    (hstab : ∀ i j v w1 w2, i ≠ j → tk i ≠ some j → (∀ x, l[i]? = some x → ∀ e ∈ x.after, Region.binds .any e = true → e.on ≠ j) → J w1 → Φ i v w1 → R j w1 w2 → Φ i v w2) (hstep : RSteps P l.toArray tk Q Φ J Ψ R a0 0 l)
    (hQ : ∀ (vs : Nat → Value) w, J w → (∀ (i : Nat), i < l.length → tk i = none → Φ i (vs i) w) → Q .normal (putL vs 0 l a0) w) : (Code.region id l.toArray true).wp P Q a0 w0 := by
  refine wp_region_any hm (reg_any tk (fun i k h => by simpa using htk i k h) hg (fun o ho d hd => ?_) Φ J Ψ R hΨ hJ (fun i j v w1 w2 h1 h2 h3 => hstab i j v w1 w2 h1 h2 (fun x hx => h3 x (by simpa using hx))) (fun i o ho a w hb hp hk => ?_) (fun vs w hb h => hQ vs w hb (fun i hi => h i (by simpa using hi))) l.toArray.size _ a0 _ (by simp) (by simp) ⟨⟨hJ0, fun i hi _ => hΨ0 i (by simpa using hi)⟩, rfl, rfl, fun i o _ hl => ?_, fun _ _ => rfl, fun i o _ hl => ?_, fun _ _ _ _ _ _ => rfl⟩)
  · have := Array.all_eq_true_iff_forall_mem.1 hsz o ho
    simpa [hd] using this
  · have := hstep i o (by simpa using ho) a w hb (by rw [Nat.zero_add]; exact hp) (by rw [Nat.zero_add]; exact hk)
    rwa [Nat.zero_add] at this
  · simp [Array.getElem?_replicate] at hl
    split at hl <;> simp at hl
  · simp [Array.getElem?_replicate] at hl
    split at hl <;> simp at hl
end
theorem rk_same {tk : Nat → Option Nat} {Φ : Nat → Value → World → Prop} {i : Nat} {o : Oper} {a : Act} {w : World} (hk : RKnown ops tk Φ a0 i o a w) (t : Tmp) (h : ops.all (fun x => !decide (x.dst = some t)) = true) : a.tmps.getD t undef = a0.tmps.getD t undef :=
  hk.2.1 t fun x hx e => by have := Array.all_eq_true_iff_forall_mem.1 h x hx; simp [e] at this
/-- What is known of the temporary that operation j wrote. -/
theorem rk_at {tk : Nat → Option Nat} {Φ : Nat → Value → World → Prop} {i : Nat} {o : Oper} {a : Act} {w : World} (hk : RKnown ops tk Φ a0 i o a w) {e : Edge} (he : e ∈ o.after) (hb : Region.binds .any e = true) {x : Oper} (hx : ops[e.on]? = some x) {d : Tmp} (hd : x.dst = some d) (hce : tk e.on = none ∨ tk e.on = some i := by first | exact .inl rfl | exact .inr rfl) : Φ e.on (a.tmps.getD d undef) w := by
  obtain ⟨v, h1, h2⟩ := hk.1 e he hb hce x hx
  rw [h1 d hd]; exact h2
/-- A temporary that a later operation writes is as it was. -/
theorem rk_old {tk : Nat → Option Nat} {Φ : Nat → Value → World → Prop} {i : Nat} {o : Oper} {a : Act} {w : World} (hk : RKnown ops tk Φ a0 i o a w) (j : Nat) {x : Oper} (hx : ops[j]? = some x) {e : Edge} (he : e ∈ x.after) (hb : Region.binds .any e = true) (hi : e.on = i) {d : Tmp} (hd : x.dst = some d) : a.tmps.getD d undef = a0.tmps.getD d undef :=
  hk.2.2 j x hx ⟨e, he, hb, hi⟩ d hd
theorem rk_on {tk : Nat → Option Nat} {Φ : Nat → Value → World → Prop} {i : Nat} {o : Oper} {a : Act} {w : World} (hk : RKnown ops tk Φ a0 i o a w) {e : Edge} (he : e ∈ o.after) (hb : Region.binds .any e = true) {x : Oper} (hx : ops[e.on]? = some x) (hce : tk e.on = none ∨ tk e.on = some i := by first | exact .inl rfl | exact .inr rfl) : ∃ v, Φ e.on v w := by
  obtain ⟨v, _, h2⟩ := hk.1 e he hb hce x hx
  exact ⟨v, h2⟩
section
variable {Φ : Value → World → Prop} {R : World → World → Prop} {o : Oper} {a : Act} {w w2 : World} {v : Value}
theorem rstep_value (hw : Region.wanted o (yielded ops a.tmps) = true) (hr : (execOp a.eval o).run P w = .ok (.value v) w2) (hv : Φ v w2) (hb : R w w2) : RStep P ops Q Φ R o a w := by
  unfold RStep
  rw [if_pos hw]
  unfold Oper.wp
  rw [hr]
  exact ⟨v, rfl, hv, hb⟩
theorem rstep_call {f : FuncId} {args : Array Value} (hw : Region.wanted o (yielded ops a.tmps) = true) (hr : (execOp a.eval o).run P w = .ok (.enter f args) w)
    (hc : Calls P f args w fun e w2 => ∃ v, e = .returned v ∧ Φ v w2 ∧ R w w2) : RStep P ops Q Φ R o a w := by
  unfold RStep
  rw [if_pos hw]
  unfold Oper.wp
  rw [hr]
  exact hc.mono fun e w2 ⟨v, he, hv, hb⟩ => by subst he; exact ⟨v, rfl, hv, hb⟩
theorem rstep_skip (hw : Region.wanted o (yielded ops a.tmps) = false) (hv : Φ undef w) (hb : R w w) : RStep P ops Q Φ R o a w := by
  unfold RStep
  rw [if_neg (by rw [hw]; simp)]
  exact ⟨hv, hb⟩
end
end
end Go.Proofs.YtmfhepjmmpnkaaaDoor
