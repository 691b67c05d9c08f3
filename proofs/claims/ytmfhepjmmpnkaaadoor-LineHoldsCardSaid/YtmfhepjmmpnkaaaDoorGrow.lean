/-
  A region that draws its order and whose operations make memory (literals, calls that only make memory): whatever the order, what is known of each operation's value holds at the end. What each operation yields is a property of its value and of the world that stands when more memory is made.
-/
import Derived.Test.YtmfhepjmmpnkaaaDoorBase
import Derived.Orders
import Derived.RegionTactic
set_option linter.unusedSimpArgs false
set_option linter.unusedVariables false
namespace Go.Proofs.YtmfhepjmmpnkaaaDoor
open Go.RowKit

section
variable {P : Program} {ops : Array Oper} {Q : Exit → Act → World → Prop} {w0 : World} {a0 : Act}

/-- The frame at the end: each operation's temporary holds its value. -/
def putL (vs : Nat → Value) : Nat → List Oper → Act → Act
  | _, [], a => a
  | k, o :: r, a => putL vs (k + 1) r (a.put o.dst (vs k))

theorem put_size (a : Act) (d : Option Tmp) (v : Value) : (a.put d v).tmps.size = a.tmps.size := by cases d <;> simp [Act.put]
theorem put_defers (a : Act) (d : Option Tmp) (v : Value) : (a.put d v).defers = a.defers := by cases d <;> simp [Act.put]
theorem put_same (a : Act) (d : Tmp) (v : Value) (h : d < a.tmps.size) : (a.put (some d) v).tmps.getD d undef = v := by simp [Act.put, h]
theorem put_other (a : Act) (d : Option Tmp) (t : Tmp) (v : Value) (h : d ≠ some t) : (a.put d v).tmps.getD t undef = a.tmps.getD t undef := by
  cases d with
  | none => rfl
  | some d =>
    have : d ≠ t := fun e => h (by rw [e])
    simp [Act.put, Array.getElem?_setIfInBounds, this]

theorem putL_size (vs : Nat → Value) : ∀ (l : List Oper) (k : Nat) (a : Act), (putL vs k l a).tmps.size = a.tmps.size
  | [], _, _ => rfl
  | o :: r, k, a => by rw [putL, putL_size vs r, put_size]
theorem putL_defers (vs : Nat → Value) : ∀ (l : List Oper) (k : Nat) (a : Act), (putL vs k l a).defers = a.defers
  | [], _, _ => rfl
  | o :: r, k, a => by rw [putL, putL_defers vs r, put_defers]
theorem putL_none (vs : Nat → Value) (t : Tmp) : ∀ (l : List Oper) (k : Nat) (a : Act), (∀ o ∈ l, o.dst ≠ some t) → (putL vs k l a).tmps.getD t undef = a.tmps.getD t undef
  | [], _, _, _ => rfl
  | o :: r, k, a, h => by rw [putL, putL_none vs t r _ _ (fun x hx => h x (by simp [hx])), put_other _ _ _ _ (h o (by simp))]
theorem putL_at (vs : Nat → Value) (t : Tmp) : ∀ (l : List Oper) (k : Nat) (a : Act) (j : Nat) (o : Oper), l[j]? = some o → o.dst = some t → (∀ i x, l[i]? = some x → x.dst = some t → i = j) → t < a.tmps.size →
    (putL vs k l a).tmps.getD t undef = vs (k + j)
  | [], _, _, j, o, h, _, _, _ => by simp at h
  | x :: r, k, a, j, o, h, hd, hu, ht => by
    rw [putL]
    cases j with
    | zero =>
      simp at h
      subst h
      rw [putL_none vs t r, hd, put_same _ _ _ ht]
      · simp
      · intro y hy e
        obtain ⟨i, hi⟩ := List.getElem?_of_mem hy
        have := hu (i + 1) y (by simpa using hi) e
        omega
    | succ j =>
      rw [putL_at vs t r (k + 1) _ j o (by simpa using h) hd (fun i y hy e => by have := hu (i + 1) y (by simpa using hy) e; omega) (by rw [put_size]; exact ht)]
      congr 1; omega

/-- The region's form: every edge goes back; no temporary is written twice. -/
def growOk (ops : Array Oper) : Bool :=
  (List.range ops.size).all fun i => ((ops[i]?).map fun o => (o.after.all fun e => decide (e.on < i)) && ((List.range i).all fun j => o.dst.isNone || !decide (((ops[j]?).bind (·.dst)) = o.dst))).getD true
theorem growOk_edge (h : growOk ops = true) {i : Nat} {o : Oper} (ho : ops[i]? = some o) : ∀ e ∈ o.after, e.on < i := by
  have hi : i < ops.size := (Array.getElem?_eq_some_iff.1 ho).1
  have := List.all_eq_true.1 h i (by simp [hi])
  simp only [ho, Option.map_some, Option.getD_some, Bool.and_eq_true] at this
  intro e he
  have := Array.all_eq_true_iff_forall_mem.1 this.1 e he
  simpa using this
theorem growOk_dst (h : growOk ops = true) {i j : Nat} {o x : Oper} {d : Tmp} (ho : ops[i]? = some o) (hx : ops[j]? = some x) (hd : o.dst = some d) (he : x.dst = some d) : i = j := by
  have key : ∀ {i j : Nat} {o x : Oper}, ops[i]? = some o → ops[j]? = some x → o.dst = some d → x.dst = some d → ¬ j < i := by
    intro i j o x ho hx hd he hlt
    have hi : i < ops.size := (Array.getElem?_eq_some_iff.1 ho).1
    have := List.all_eq_true.1 h i (by simp [hi])
    simp only [ho, Option.map_some, Option.getD_some, Bool.and_eq_true] at this
    have := List.all_eq_true.1 this.2 j (by simp [hlt])
    simp [hx, hd, he] at this
  have h1 := key ho hx hd he
  have h2 := key hx ho he hd
  omega

/-- What an operation must do, where it comes up. -/
def GStep (P : Program) (ops : Array Oper) (Q : Exit → Act → World → Prop) (Φ : Value → World → Prop) (o : Oper) (a : Act) (w : World) : Prop :=
  if Region.wanted o (yielded ops a.tmps) = true then o.wp P a w (fun a2 w2 => ∃ v, a2 = a.put o.dst v ∧ Φ v w2 ∧ Below w.heap.size w w2) Q else Φ undef w
/-- What is known where it comes up: of the temporaries that it waits for; the others are as they were. -/
def GKnown (ops : Array Oper) (Φ : Nat → Value → World → Prop) (a0 : Act) (o : Oper) (a : Act) (w : World) : Prop :=
  (∀ e ∈ o.after, Region.binds .any e = true → ∀ x d, ops[e.on]? = some x → x.dst = some d → Φ e.on (a.tmps.getD d undef) w) ∧
  (∀ t, (∀ x ∈ ops, x.dst ≠ some t) → a.tmps.getD t undef = a0.tmps.getD t undef)

def GInv (ops : Array Oper) (Φ : Nat → Value → World → Prop) (a0 : Act) (w0 : World) (listed : Array Bool) (a : Act) (w : World) : Prop :=
  Below w0.heap.size w0 w ∧ a.defers = a0.defers ∧ a.tmps.size = a0.tmps.size ∧
  (∀ (i : Nat) (o : Oper) (d : Tmp), ops[i]? = some o → listed.getD i false = true → o.dst = some d → Φ i (a.tmps.getD d undef) w) ∧
  (∀ t, (∀ x ∈ ops, x.dst ≠ some t) → a.tmps.getD t undef = a0.tmps.getD t undef)

theorem ready_none (h : growOk ops = true) {listed : Array Bool} (hs : listed.size = ops.size) (hr : Region.ready .any ops listed = []) : ∀ i, i < ops.size → listed.getD i false = true := by
  intro i
  induction i using Nat.strongRecOn with
  | _ i ih =>
    intro hi
    cases hl : listed.getD i false with
    | true => rfl
    | false =>
      exfalso
      have ho : ops[i]? = some ops[i] := by simp [hi]
      have : i ∈ Region.ready .any ops listed := by
        rw [mem_ready]
        refine ⟨?_, _, ho, fun e he _ => ?_⟩
        · simp [hs, hi] at hl ⊢; exact hl
        · have := growOk_edge h ho e he
          exact ih e.on this (by omega)
      rw [hr] at this; cases this

theorem grow_any (hg : growOk ops = true) (hsz : ∀ o : Oper, o ∈ ops → ∀ d, o.dst = some d → d < a0.tmps.size) (Φ : Nat → Value → World → Prop)
    (hstab : ∀ i v w1 w2, Φ i v w1 → Below w1.heap.size w1 w2 → Φ i v w2)
    (hstep : ∀ (i : Nat) (o : Oper), ops[i]? = some o → ∀ a w, Below w0.heap.size w0 w → GKnown ops Φ a0 o a w → GStep P ops Q (Φ i) o a w)
    (hQ : ∀ (vs : Nat → Value) w, Below w0.heap.size w0 w → (∀ (i : Nat) (o : Oper) (d : Tmp), ops[i]? = some o → o.dst = some d → Φ i (vs i) w) → Q .normal (putL vs 0 ops.toList a0) w) :
    ∀ (fuel : Nat) (listed : Array Bool) (a : Act) (w : World), listed.size = ops.size → listed.toList.count false ≤ fuel → GInv ops Φ a0 w0 listed a w → wpAny P .any ops Q fuel listed a w := by
  have hend : ∀ (listed : Array Bool) (a : Act) (w : World), listed.size = ops.size → GInv ops Φ a0 w0 listed a w → Region.ready .any ops listed = [] → Q .normal a w := by
    intro listed a w hs ⟨hb, hd, hz, hk, ho⟩ hr
    have hall := ready_none hg hs hr
    have hidx : ∀ {i : Nat} {o : Oper}, ops[i]? = some o → i < ops.size := fun h => (Array.getElem?_eq_some_iff.1 h).1
    have := hQ (fun i => ((ops[i]?).bind (·.dst)).elim undef (fun d => a.tmps.getD d undef)) w hb (fun (i : Nat) (o : Oper) d h1 h2 => by
      simp only [h1, h2, Option.bind_some, Option.elim_some]
      exact hk i o d h1 (hall i (hidx h1)) h2)
    have heq : putL (fun i => ((ops[i]?).bind (·.dst)).elim undef (fun d => a.tmps.getD d undef)) 0 ops.toList a0 = a := by
      have h1 := putL_size (fun i => ((ops[i]?).bind (·.dst)).elim undef (fun d => a.tmps.getD d undef)) ops.toList 0 a0
      have h2 := putL_defers (fun i => ((ops[i]?).bind (·.dst)).elim undef (fun d => a.tmps.getD d undef)) ops.toList 0 a0
      have h3 : ∀ t, (putL (fun i => ((ops[i]?).bind (·.dst)).elim undef (fun d => a.tmps.getD d undef)) 0 ops.toList a0).tmps.getD t undef = a.tmps.getD t undef := by
        intro t
        by_cases ht : ∃ (j : Nat) (o : Oper), ops[j]? = some o ∧ o.dst = some t
        · obtain ⟨j, o, hj, hdt⟩ := ht
          rw [putL_at _ t ops.toList 0 a0 j o (by simpa using hj) hdt (fun i x hx he => growOk_dst hg (by simpa using hx) hj he hdt) (hsz o (Array.mem_of_getElem? hj) t hdt)]
          simp [hj, hdt]
        · have hno : ∀ x ∈ ops, x.dst ≠ some t := fun x hx he => by
            obtain ⟨j, hj⟩ := Array.getElem?_of_mem hx
            exact ht ⟨j, x, hj, he⟩
          rw [putL_none _ t _ _ _ (fun x hx => hno x (by simpa using hx)), ho t hno]
      generalize putL (fun i => ((ops[i]?).bind (·.dst)).elim undef (fun d => a.tmps.getD d undef)) 0 ops.toList a0 = b at h1 h2 h3
      obtain ⟨bt, bd⟩ := b
      obtain ⟨at_, ad⟩ := a
      simp only at h1 h2 h3 hd hz
      rw [Act.mk.injEq]
      refine ⟨?_, by rw [h2, hd]⟩
      apply Array.ext (by omega)
      intro i hi1 hi2
      have := h3 i
      simpa [hi1, hi2] using this
    rw [heq] at this
    exact this
  intro fuel
  induction fuel with
  | zero =>
    intro listed a w hs hc hi
    have hr : Region.ready .any ops listed = [] := by
      apply List.eq_nil_iff_forall_not_mem.2
      intro i hm
      rw [mem_ready] at hm
      obtain ⟨h1, o, h2, _⟩ := hm
      have hlt : i < listed.size := by rw [hs]; exact (Array.getElem?_eq_some_iff.1 h2).1
      have : listed.toList.count false = 0 := by omega
      rw [List.count_eq_zero] at this
      apply this
      simp [hlt] at h1
      rw [← h1]
      simp
    exact ⟨hr, hend listed a w hs hi hr⟩
  | succ fuel ih =>
    intro listed a w hs hc hi
    refine ⟨hend listed a w hs hi, fun i hm => ?_⟩
    have hm' := hm
    rw [mem_ready] at hm'
    obtain ⟨h1, o, h2, h3⟩ := hm'
    have hlt : i < listed.size := by rw [hs]; exact (Array.getElem?_eq_some_iff.1 h2).1
    have hli : listed[i] = false := by simpa [hlt] using h1
    obtain ⟨hb, hd, hz, hk, hu⟩ := hi
    have hkn : GKnown ops Φ a0 o a w := ⟨fun e he hbi x d hx hxd => hk e.on x d hx (h3 e he hbi) hxd, hu⟩
    have hst := hstep i o h2 a w hb hkn
    have hnext : ∀ a2 w2, (∃ v, a2 = a.put o.dst v ∧ Φ i v w2 ∧ Below w.heap.size w w2) → wpAny P .any ops Q fuel (listed.setIfInBounds i true) a2 w2 := by
      rintro a2 w2 ⟨v, rfl, hv, hb2⟩
      refine ih _ _ _ (by simpa using hs) ?_ ⟨hb.trans (hb2.mono hb.size), by rw [put_defers]; exact hd, by rw [put_size]; exact hz, ?_, ?_⟩
      · rw [Array.toList_setIfInBounds, List.count_set (by simpa using hlt)]
        simp only [Array.getElem_toList, hli]
        have : 0 < listed.toList.count false := List.count_pos_iff.2 (by rw [← hli]; simp)
        simp
        simp at this hc
        omega
      · intro j x d hj hl hxd
        by_cases hij : i = j
        · subst hij
          rw [h2] at hj
          cases hj
          rw [hxd, put_same _ _ _ (by rw [hz]; exact hsz _ (Array.mem_of_getElem? h2) d hxd)]
          exact hv
        · rw [getD_set_ne _ hij] at hl
          rw [put_other _ _ _ _ (fun e => hij (growOk_dst hg h2 hj e hxd))]
          exact hstab j _ w w2 (hk j x d hj hl hxd) hb2
      · intro t ht
        rw [put_other _ _ _ _ (ht o (Array.mem_of_getElem? h2))]
        exact hu t ht
    unfold wpOp
    simp only [h2]
    unfold GStep at hst
    by_cases hw : Region.wanted o (yielded ops a.tmps) = true
    · rw [if_pos hw] at hst
      rw [if_pos hw]
      exact .inl (Oper.wp_mono hnext hst)
    · rw [if_neg hw] at hst
      rw [if_neg hw]
      exact hnext _ _ ⟨undef, rfl, hst, Below.refl _ _⟩

theorem wp_region_grow {id : Nat} (hm : P.follows .mixedOrders = true) (hg : growOk ops = true) (hsz : ops.all (fun o => o.dst.all (fun d => decide (d < a0.tmps.size))) = true) (Φ : Nat → Value → World → Prop)
    (hstab : ∀ i v w1 w2, Φ i v w1 → Below w1.heap.size w1 w2 → Φ i v w2)
    (hstep : ∀ (i : Nat) (o : Oper), ops[i]? = some o → ∀ a w, Below w0.heap.size w0 w → GKnown ops Φ a0 o a w → GStep P ops Q (Φ i) o a w)
    (hQ : ∀ (vs : Nat → Value) w, Below w0.heap.size w0 w → (∀ (i : Nat) (o : Oper) (d : Tmp), ops[i]? = some o → o.dst = some d → Φ i (vs i) w) → Q .normal (putL vs 0 ops.toList a0) w) : (Code.region id ops true).wp P Q a0 w0 := by
  refine wp_region_any hm (grow_any hg (fun o ho d hd => ?_) Φ hstab hstep hQ ops.size _ a0 _ (by simp) (by simp) ⟨⟨rfl, rfl, rfl, Nat.le_refl _, fun _ _ => rfl⟩, rfl, rfl, fun i o d _ hl => ?_, fun _ _ => rfl⟩)
  · have := Array.all_eq_true_iff_forall_mem.1 hsz o ho
    simpa [hd] using this
  · simp [Array.getElem?_replicate] at hl
    split at hl <;> simp at hl

/-- The steps, one operation behind the other. -/
def GSteps (P : Program) (ops : Array Oper) (Q : Exit → Act → World → Prop) (Φ : Nat → Value → World → Prop) (a0 : Act) (w0 : World) (k : Nat) (l : List Oper) : Prop :=
  ∀ (j : Nat) (o : Oper), l[j]? = some o → ∀ a w, Below w0.heap.size w0 w → GKnown ops Φ a0 o a w → GStep P ops Q (Φ (k + j)) o a w
theorem GSteps.nil {Φ : Nat → Value → World → Prop} {k : Nat} : GSteps P ops Q Φ a0 w0 k [] := fun j o h => by simp at h
theorem GSteps.cons {Φ : Nat → Value → World → Prop} {k : Nat} {o : Oper} {r : List Oper} (h : ∀ a w, Below w0.heap.size w0 w → GKnown ops Φ a0 o a w → GStep P ops Q (Φ k) o a w) (hr : GSteps P ops Q Φ a0 w0 (k + 1) r) : GSteps P ops Q Φ a0 w0 k (o :: r) := fun j x hx => by
  cases j with
  | zero => simp at hx; subst hx; exact h
  | succ j =>
    have := hr j x (by simpa using hx)
    rw [show k + 1 + j = k + (j + 1) by omega] at this
    exact this
theorem wp_region_grows {id : Nat} {l : List Oper} (hm : P.follows .mixedOrders = true) (hg : growOk l.toArray = true) (hsz : l.toArray.all (fun o => o.dst.all (fun d => decide (d < a0.tmps.size))) = true) (Φ : Nat → Value → World → Prop)
    (hstab : ∀ i v w1 w2, Φ i v w1 → Below w1.heap.size w1 w2 → Φ i v w2) (hstep : GSteps P l.toArray Q Φ a0 w0 0 l)
    (hQ : ∀ (vs : Nat → Value) w, Below w0.heap.size w0 w → (∀ (i : Nat) (o : Oper) (d : Tmp), l[i]? = some o → o.dst = some d → Φ i (vs i) w) → Q .normal (putL vs 0 l a0) w) : (Code.region id l.toArray true).wp P Q a0 w0 :=
  wp_region_grow hm hg hsz Φ hstab (fun i o ho a w hb hk => by have := hstep i o (by simpa using ho) a w hb hk; rwa [Nat.zero_add] at this) (fun vs w hb h => hQ vs w hb (fun i o d ho hd => h i o d (by simpa using ho) hd))
theorem gk_same {Φ : Nat → Value → World → Prop} {o : Oper} {a : Act} {w : World} (hk : GKnown ops Φ a0 o a w) (t : Tmp) (h : ops.all (fun x => !decide (x.dst = some t)) = true) : a.tmps.getD t undef = a0.tmps.getD t undef :=
  hk.2 t fun x hx e => by have := Array.all_eq_true_iff_forall_mem.1 h x hx; simp [e] at this
/-- What a temporary holds at the end. -/
theorem putL_is {l : List Oper} (hg : growOk l.toArray = true) (vs : Nat → Value) (a : Act) (j : Nat) (o : Oper) (t : Tmp) (hj : l[j]? = some o) (hd : o.dst = some t) (ht : t < a.tmps.size) : (putL vs 0 l a).tmps.getD t undef = vs j := by
  rw [putL_at vs t l 0 a j o hj hd (fun i x hx he => growOk_dst (ops := l.toArray) hg (by simpa using hx) (by simpa using hj) he hd) ht, Nat.zero_add]
theorem gstep_value {Φ : Value → World → Prop} {o : Oper} {a : Act} {w w2 : World} {v : Value} (hw : Region.wanted o (yielded ops a.tmps) = true) (hr : (execOp a.eval o).run P w = .ok (.value v) w2) (hv : Φ v w2) (hb : Below w.heap.size w w2) : GStep P ops Q Φ o a w := by
  unfold GStep
  rw [if_pos hw]
  unfold Oper.wp
  rw [hr]
  exact ⟨v, rfl, hv, hb⟩
theorem gstep_call {Φ : Value → World → Prop} {o : Oper} {a : Act} {w : World} {f : FuncId} {args : Array Value} (hw : Region.wanted o (yielded ops a.tmps) = true) (hr : (execOp a.eval o).run P w = .ok (.enter f args) w)
    (hc : Calls P f args w fun e w2 => ∃ v, e = .returned v ∧ Φ v w2 ∧ Below w.heap.size w w2) : GStep P ops Q Φ o a w := by
  unfold GStep
  rw [if_pos hw]
  unfold Oper.wp
  rw [hr]
  exact hc.mono fun e w2 ⟨v, he, hv, hb⟩ => by subst he; exact ⟨v, rfl, hv, hb⟩
theorem gstep_skip {Φ : Value → World → Prop} {o : Oper} {a : Act} {w : World} (hw : Region.wanted o (yielded ops a.tmps) = false) (hv : Φ undef w) : GStep P ops Q Φ o a w := by
  unfold GStep
  rw [if_neg (by rw [hw]; simp)]
  exact hv
theorem wanted_none {o : Oper} {y : Nat → Option Bool} (h : o.guard = none) : Region.wanted o y = true := by simp [Region.wanted, h]
theorem yielded_of {a : Act} {j : Nat} {o : Oper} {d : Tmp} {b : Bool} (ho : ops[j]? = some o) (hd : o.dst = some d) (hv : a.tmps.getD d undef = .bool b) : yielded ops a.tmps j = some b := by
  have : a.tmps[d]? = some (.bool b) := by
    cases h : a.tmps[d]? with
    | none => simp [h, undef] at hv
    | some v => simp [h] at hv; rw [hv]
  simp [yielded, ho, hd, this]
theorem wanted_yes {o : Oper} {a : Act} {j : Nat} {x : Oper} {d : Tmp} {b : Bool} (hg : o.guard = some (j, b)) (ho : ops[j]? = some x) (hd : x.dst = some d) (hv : a.tmps.getD d undef = .bool b) : Region.wanted o (yielded ops a.tmps) = true := by
  simp [Region.wanted, hg, yielded_of ho hd hv]
theorem wanted_no {o : Oper} {a : Act} {j : Nat} {x : Oper} {d : Tmp} {b c : Bool} (hg : o.guard = some (j, b)) (ho : ops[j]? = some x) (hd : x.dst = some d) (hv : a.tmps.getD d undef = .bool c) (hbc : c ≠ b) : Region.wanted o (yielded ops a.tmps) = false := by
  simp [Region.wanted, hg, yielded_of ho hd hv, hbc]
end
end Go.Proofs.YtmfhepjmmpnkaaaDoor
