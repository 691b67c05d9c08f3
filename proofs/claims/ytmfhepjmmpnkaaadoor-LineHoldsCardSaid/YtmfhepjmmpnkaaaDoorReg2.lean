/-
  Steps of regions on cells and lines: calls, appends, stores of a line.
-/
import Derived.Test.YtmfhepjmmpnkaaaDoorReg1
import Derived.Test.YtmfhepjmmpnkaaaDoorLine3
set_option linter.unusedSimpArgs false
set_option linter.unusedVariables false
namespace Go.Proofs.YtmfhepjmmpnkaaaDoor
open Go.RowKit

theorem Blk.chg {S : Nat → Prop} {w w' : World} {g : Nat} {t : TypeId} {cs : Array Value} (h : Blk w g t cs) (hc : Chg S w w') (hn : ¬ S g) : Blk w' g t cs := (hc.block g h.lt hn).trans h
/-- An owned slice's value, and a line of one. -/
def Sq.line {S : Nat → Prop} (B : Nat) (cs : List Cell) (s : Bool) : Sq S :=
  ⟨fun u w => ∃ v, u = .agg #[v, .bool s] ∧ OwnC w B v cs ∧ ∀ b, v.ownBlock = some b → ¬ S b, fun _ _ _ ⟨v, h1, h2, h3⟩ hb => ⟨v, h1, own_chg h2 hb h3, h3⟩⟩
section
variable {ops : Array Oper} {Q : Exit → Act → World → Prop} {o : Oper} {a : Act} {w : World} {Φ : Value → World → Prop} {R : World → World → Prop}
theorem rstep_store {P : Program} {w2 : World} (hw : Region.wanted o (yielded ops a.tmps) = true) (hd : o.dst = none) (hr : (execOp a.eval o).run P w = .ok .skip w2) (hv : Φ undef w2) (hb : R w w2) : RStep P ops Q Φ R o a w := by
  unfold RStep
  rw [if_pos hw]
  unfold Oper.wp
  rw [hr]
  exact ⟨undef, (by rw [hd]), hv, hb⟩
theorem ro_call {f : FuncId} {xs : Array Operand} {args : Array Value} {ts : Array TypeId} (hw : Region.wanted o (yielded ops a.tmps) = true) (ho : o.op = .call { callee := .value (.func f), args := xs, argTypes := ts }) (hx : xs.map a.eval = args)
    (hf : ∀ (vs : Array Value) (w : World), (callFunc f vs).run Tryd.prog w = .ok (.enter f vs) w) (hc : Calls Tryd.prog f args w fun e w2 => ∃ v, e = .returned v ∧ Φ v w2 ∧ R w w2) : RStep Tryd.prog ops Q Φ R o a w := by
  refine rstep_call (f := f) (args := args) hw ?_ hc
  unfold execOp
  subst hx
  simp only [ho, resolve, invoke, Sem.run_bind, Sem.run_pure, Result.andThen_ok, Act.eval]
  simp [go_sem, hf]
theorem ro_app (hw : Region.wanted o (yielded ops a.tmps) = true) (s x : Operand) (ho : o.op = .call { callee := .builtin .append, args := #[s, x], argTypes := #[43, 43] })
    (B : Nat) (v : Value) (cs : List Cell) (hs : a.eval s = v) (hown : OwnC w B v cs) (A : Option Addr) (c : Nat) (ds : List Cell) (hx : a.eval x = .slice A ds.length c) (hr : RdC w A c ds) (hlen : cs.length + ds.length ≤ 1000000) (hbase : B ≤ w.heap.size)
    (h : ∀ v' w', OwnC w' B v' (cs ++ ds) → w.grownBy w' v.ownBlock → (v'.ownBlock = v.ownBlock ∨ v'.ownBlock = some w.heap.size) → Φ v' w' ∧ R w w') : RStep Tryd.prog ops Q Φ R o a w := by
  obtain ⟨i, hi, hz0, hz1, hz2⟩ := info_parts cell_info
  obtain ⟨h1, h2, h3⟩ := hr
  cases A with
  | none =>
    obtain rfl := h2 rfl
    obtain rfl : ds = [] := List.eq_nil_of_length_eq_zero (by omega)
    have hrun := run_append_owned_none (P := Tryd.prog) (w := w) B 43 o.type 30 i 16 Tryd.underlying43 hi v cs.length (flat cs) hown
    obtain ⟨g1, g2⟩ := h v w (by simpa using hown) (World.grownBy.refl w _) (.inl rfl)
    refine rstep_value hw ?_ g1 g2
    simp [execOp, ho, resolve, invoke, builtin, hs, hx, hrun, Result.andThen]
  | some ad =>
    obtain ⟨v', w', hrun, g1, g2, g3, g4⟩ := run_append_own_at (P := Tryd.prog) w B 43 o.type 30 i _ 16 64 Tryd.underlying43 hi hz0 hz1 hz2 (by simp [Value.cells, cv_size]) (by omega) v cs.length (flat cs) hown ad ds.length c (flat ds) (flat_length ds) (by
      intro j u hu
      have hj : j < ds.length * 16 := by have := (List.getElem?_eq_some_iff.1 hu).1; rwa [flat_length] at this
      obtain ⟨b, off, e, _, hr⟩ := h3 (by omega)
      cases e
      rw [add_at]; exact hr j u hu) (flat_one ds) (by simp only [maxLen]; omega) (by omega) hbase
    obtain ⟨k1, k2⟩ := h v' w' (by unfold OwnC; rw [flat_append, List.length_append]; exact g1) g2 g4
    refine rstep_value hw ?_ k1 k2
    simp [execOp, ho, resolve, invoke, builtin, hs, hx, hrun, Result.andThen]
end
end Go.Proofs.YtmfhepjmmpnkaaaDoor
