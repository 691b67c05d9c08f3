/-
  Rows of a call's own at the level of their values: a store into one, a copy within one or into one.
-/
import Derived.Test.YtmfhepjmmpnkaaaDoorSlice
import Derived.Laws.CopyRow
import Derived.Laws.IdiomCopy
import Derived.Laws.MakeOwn
set_option linter.unusedSimpArgs false
set_option linter.unusedVariables false
namespace Go.Proofs.YtmfhepjmmpnkaaaDoor
open Go.RowKit

/-- Values laid over a list from a place on. -/
def over (xs : List Value) (i : Nat) (vs : List Value) : List Value := xs.take i ++ (vs ++ xs.drop (i + vs.length))
theorem over_length {xs : List Value} {i : Nat} {vs : List Value} (h : i + vs.length ≤ xs.length) : (over xs i vs).length = xs.length := by simp [over]; omega
section
variable {P : Program} {w : World} {B g n k cap : Nat} {t : TypeId} {xs : List Value}
theorem own_parts (h : w.ownsRow B t k (.slice (some ⟨g, 0, none⟩) n cap) n xs) : xs.length = n * k ∧ B ≤ g ∧ n ≤ cap ∧ cap ≤ maxLen ∧ ∃ cur, w.heap[g]? = some (.cells cur t (0, 0)) ∧ cur.size = cap * k ∧ cur.toList.take xs.length = xs := by
  rcases h with ⟨h1, ⟨h', _⟩ | ⟨g', cap', cur, h', hb, hg, hnc, hm, hsz, htk⟩⟩
  · simp at h'
  · simp only [Value.slice.injEq, Option.some.injEq, Addr.mk.injEq, and_true, true_and] at h'
    obtain ⟨rfl, rfl⟩ := h'
    exact ⟨h1, hb, hnc, hm, cur, hg, hsz, by rw [h1]; exact htk⟩
theorem own_mk (h1 : xs.length = n * k) (hb : B ≤ g) (hn : n ≤ cap) (hm : cap ≤ maxLen) {cur : Array Value} (hg : w.heap[g]? = some (.cells cur t (0, 0))) (hsz : cur.size = cap * k) (htk : cur.toList.take xs.length = xs) : w.ownsRow B t k (.slice (some ⟨g, 0, none⟩) n cap) n xs :=
  ⟨h1, .inr ⟨g, cap, cur, rfl, hb, hg, hn, hm, hsz, by rw [← h1]; exact htk⟩⟩
theorem grown_setRow (w : World) (g : Nat) (cs : Array Value) : w.grownBy (w.setRow g cs) (some g) := ⟨rfl, rfl, rfl, by simp [World.setRow], fun i _ hi => setRow_other w g i _ (fun e => hi (by rw [e]))⟩
theorem over_take {cur : List Value} {i : Nat} {vs : List Value} (htk : cur.take xs.length = xs) (hi : i + vs.length ≤ xs.length) : (cur.take i ++ vs ++ cur.drop (i + vs.length)).take (over xs i vs).length = over xs i vs := by
  have hX : cur = xs ++ cur.drop xs.length := by conv => lhs; rw [← List.take_append_drop xs.length cur, htk]
  rw [over_length hi]
  rw [hX, List.take_append_of_le_length (l₂ := cur.drop _) (by omega), List.drop_append_of_le_length (by omega), ← List.append_assoc]
  rw [show xs.take i ++ vs ++ xs.drop (i + vs.length) = over xs i vs from by simp [over]]
  rw [← over_length hi, List.take_left']
  rfl
/-- Values stored into it. -/
theorem own_store (h : w.ownsRow B t k (.slice (some ⟨g, 0, none⟩) n cap) n xs) (i : Nat) (vs : List Value) (hi : i + vs.length ≤ xs.length) (h1 : ∀ v ∈ vs, v.oneCell' = true) :
    ∃ W, (storeCells ⟨g, i, none⟩ vs 0).run P w = .ok () W ∧ W.ownsRow B t k (.slice (some ⟨g, 0, none⟩) n cap) n (over xs i vs) ∧ w.grownBy W (some g) := by
  obtain ⟨hl, hb, hnc, hm, cur, hg, hsz, htk⟩ := own_parts h
  have hcl : xs.length ≤ cur.size := by rw [hl, hsz]; exact Nat.mul_le_mul_right k hnc
  have hs := run_storeCells_at (P := P) g i t vs 0 cur w hg (by omega) h1
  refine ⟨_, hs, own_mk (by rw [over_length hi]; exact hl) hb hnc hm (setRow_heap w g cur _ t _ hg) (by simp; omega) ?_, grown_setRow _ _ _⟩
  simp only [Nat.add_zero]
  exact over_take htk hi
/-- A value that it holds. -/
theorem own_cell (h : w.ownsRow B t k (.slice (some ⟨g, 0, none⟩) n cap) n xs) (i : Nat) (v : Value) (hi : xs[i]? = some v) : w.cell? ⟨g, i, none⟩ = some v := by
  obtain ⟨hl, hb, hnc, hm, cur, hg, hsz, htk⟩ := own_parts h
  rw [cell_of_row _ _ _ _ _ _ hg]
  rw [← htk, List.getElem?_take] at hi
  split at hi
  · simpa using hi
  · cases hi
theorem own_free (h : w.ownsRow B t k (.slice (some ⟨g, 0, none⟩) n cap) n xs) (i : Nat) : w.frozen? ⟨g, i, none⟩ = false := by
  obtain ⟨hl, hb, hnc, hm, cur, hg, hsz, htk⟩ := own_parts h
  simp [World.frozen?, hg]
theorem own_lt (h : w.ownsRow B t k (.slice (some ⟨g, 0, none⟩) n cap) n xs) : g < w.heap.size := by
  obtain ⟨hl, hb, hnc, hm, cur, hg, hsz, htk⟩ := own_parts h
  exact (Array.getElem?_eq_some_iff.1 hg).1
/-- copy(dst, src): dst lies in a row of the call's own, src wherever. -/
theorem run_copyK (w : World) (dT sT ty e : TypeId) (g o dLen dCap : Nat) (a : Addr) (sLen sCap k : Nat) (cur : Array Value) (t : TypeId) (cs : List Value)
    (hu : P.underlying dT = some (.slice e)) (hs : (P.info? e).map (·.size) = some k)
    (hg : w.heap[g]? = some (.cells cur t (0, 0))) (hn : cs.length = Nat.min sLen dLen * k)
    (hsrc : ∀ j v, cs[j]? = some v → w.cell? (a.add j) = some v) (hfit : o + cs.length ≤ cur.size) (h1 : ∀ v ∈ cs, v.oneCell' = true) :
    (Builtin.copy_ #[dT, sT] ty #[.slice (some ⟨g, o, none⟩) dLen dCap, .slice (some a) sLen sCap]).run P w =
      .ok (goInt (Nat.min sLen dLen)) (w.setRow g (cur.toList.take o ++ cs ++ cur.toList.drop (o + cs.length)).toArray) := by
  have hl := run_loadCells_list (P := P) w a cs hsrc
  have hst := run_storeCells_at P g o t cs 0 cur w hg (by simpa using hfit) h1
  cases hq : P.info? e with
  | none => simp [hq] at hs
  | some i =>
    have hi : i.size = k := by simpa [hq] using hs
    simp [Builtin.copy_, run_underlying hu, Builtin.lenOf, Builtin.firstCells, sizeOf, typeInfo, hq, hi, ← hn, hl, hst]
theorem run_copyK_none (w : World) (dT sT ty e : TypeId) (dp sp : Option Addr) (dLen dCap sLen sCap k : Nat) (hu : P.underlying dT = some (.slice e)) (hs : (P.info? e).map (·.size) = some k) (h0 : Nat.min sLen dLen = 0) :
    (Builtin.copy_ #[dT, sT] ty #[.slice dp dLen dCap, .slice sp sLen sCap]).run P w = .ok (goInt 0) w := by
  cases hq : P.info? e with
  | none => simp [hq] at hs
  | some i =>
    have hi : i.size = k := by simpa [hq] using hs
    cases sp <;> cases dp <;> simp [Builtin.copy_, run_underlying hu, Builtin.lenOf, Builtin.firstCells, sizeOf, typeInfo, hq, hi, h0, loadCells, loadCellsFrom, storeCells]
/-- copy into a row of the call's own, at element i, of m elements from wherever. -/
theorem own_copy (h : w.ownsRow B t k (.slice (some ⟨g, 0, none⟩) n cap) n xs) (dT sT ty : TypeId) (hu : P.underlying dT = some (.slice t)) (hs : (P.info? t).map (·.size) = some k)
    (dp sp : Option Addr) (dLen dCap sLen sCap : Nat) (i : Nat) (vs : List Value) (hn : vs.length = Nat.min sLen dLen * k) (hi : i + vs.length ≤ xs.length)
    (hpos : 0 < Nat.min sLen dLen → dp = some ⟨g, i, none⟩ ∧ ∃ ad, sp = some ad ∧ ∀ j v, vs[j]? = some v → w.cell? (ad.add j) = some v) (h1 : ∀ v ∈ vs, v.oneCell' = true) :
    ∃ W, (Builtin.copy_ #[dT, sT] ty #[.slice dp dLen dCap, .slice sp sLen sCap]).run P w = .ok (goInt (Nat.min sLen dLen)) W ∧ W.ownsRow B t k (.slice (some ⟨g, 0, none⟩) n cap) n (over xs i vs) ∧ w.grownBy W (some g) := by
  by_cases h0 : Nat.min sLen dLen = 0
  · have : vs = [] := List.eq_nil_of_length_eq_zero (by rw [hn, h0]; simp)
    subst this
    exact ⟨w, by rw [run_copyK_none w dT sT ty t dp sp dLen dCap sLen sCap k hu hs h0, h0]; rfl, by simpa [over] using h, World.grownBy.refl _ _⟩
  · obtain ⟨rfl, ad, rfl, hsrc⟩ := hpos (by omega)
    obtain ⟨hl, hb, hnc, hm, cur, hg, hsz, htk⟩ := own_parts h
    have hcl : xs.length ≤ cur.size := by rw [hl, hsz]; exact Nat.mul_le_mul_right k hnc
    refine ⟨_, run_copyK w dT sT ty t g i dLen dCap ad sLen sCap k cur t vs hu hs hg hn hsrc (by omega) h1, own_mk (by rw [over_length hi]; exact hl) hb hnc hm (setRow_heap w g cur _ t _ hg) (by simp; omega) (over_take htk hi), grown_setRow _ _ _⟩
end
/-- copy as a step of the walk. -/
theorem wpList_copyK {P : Program} {w W : World} {ops : Array Oper} {rest : List Oper} {o : Oper} {a : Act} {Q : Exit → Act → World → Prop} (hgd : o.guard = none) (d s : Operand) (dT sT : TypeId)
    (ho : o.op = .call { callee := .builtin .copy, args := #[d, s], argTypes := #[dT, sT] }) {vd vs : Value} (hd : a.eval d = vd) (hs : a.eval s = vs) {u : Value}
    (hrun : (Builtin.copy_ #[dT, sT] o.type #[vd, vs]).run P w = .ok u W) (h : wpList P ops Q rest (a.put o.dst u) W) : wpList P ops Q (o :: rest) a w := by
  refine wpList_plain hgd fun K hK => ?_
  unfold Oper.wp
  simp [execOp, ho, resolve, invoke, builtin, hd, hs, hrun, Result.andThen]
  exact hK _ _ h
end Go.Proofs.YtmfhepjmmpnkaaaDoor
