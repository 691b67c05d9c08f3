/-
  line.New, Of, Equal, Copy and the reference's New, Used, Same, Copy.
-/
import Derived.Test.YtmfhepjmmpnkaaaDoorRep
import Derived.Test.YtmfhepjmmpnkaaaDoorStain
set_option linter.unusedSimpArgs false
set_option linter.unusedVariables false
namespace Go.Proofs.YtmfhepjmmpnkaaaDoor
open Go.RowKit

/-- What gives a line of its own, and an error; or a line alone. -/
def LineEnd (l : List Cell) (s : Bool) (n : Int) (w : World) (e : Ending) (w' : World) : Prop := ∃ v, e = .returned (.tuple #[.agg #[v, .bool s], .int .i64 n]) ∧ OwnC w' w.heap.size v l ∧ Below w.heap.size w w'
def Line1End (l : List Cell) (s : Bool) (w : World) (e : Ending) (w' : World) : Prop := ∃ v, e = .returned (.agg #[v, .bool s]) ∧ OwnC w' w.heap.size v l ∧ Below w.heap.size w w'

/-- A line stored into its box. -/
def setLine (w : World) (g : Nat) (v : Value) (s : Bool) : World := (w.setCell ⟨g, 0, none⟩ v).setCell ⟨g, 1, none⟩ (.bool s)
theorem chg_setCell (w : World) (a : Addr) (u : Value) : Chg (fun k => k = a.block) w (w.setCell a u) := ⟨rfl, rfl, rfl, by simp [World.setCell], fun k _ hn => Below.heap_setCell w a u k hn⟩
theorem chg_setLine (w : World) (g : Nat) (v : Value) (s : Bool) : Chg (fun k => k = g) w (setLine w g v s) := (chg_setCell w ⟨g, 0, none⟩ v).trans (chg_setCell _ ⟨g, 1, none⟩ _) (fun _ _ h => h)
theorem blk_setLine {w : World} {g : Nat} {t : TypeId} {a b : Value} (h : Blk w g t #[a, b]) (v : Value) (s : Bool) : Blk (setLine w g v s) g t #[v, .bool s] := (h.set_ 0 v).set_ 1 (.bool s)
theorem own_from {w : World} {B : Nat} {v : Value} {cs : List Cell} (h : OwnC w B v cs) : ∀ b, v.ownBlock = some b → B ≤ b := fun b hb => (World.ownsRow.lt h b hb).1
theorem fin_line {w w1 : World} {g B : Nat} {t : TypeId} {a b v : Value} {l : List Cell} (s : Bool) (hB : Below w.heap.size w w1) (hk : Blk w1 g t #[a, b]) (hg : w.heap.size ≤ g) (ho : OwnC w1 B v l) (hgB : g < B) :
    Blk (setLine w1 g v s) g t #[v, .bool s] ∧ OwnC (setLine w1 g v s) w.heap.size v l ∧ Below w.heap.size w (setLine w1 g v s) :=
  ⟨blk_setLine hk v s, OwnC.low (own_chg ho (chg_setLine w1 g v s) (fun b hb he => by have := own_from ho b hb; omega)) (by omega), hB.trans ((chg_setLine w1 g v s).below hB.size (fun k hk he => by omega))⟩
theorem line_size : (Tryd.prog.info? 59).map (·.size) = some 2 := by kernel_rfl

set_option maxHeartbeats 400000 in
theorem lineNew_yes (n : Nat) (hn : n ≤ 1000) (w : World) : Calls Tryd.prog 77 #[.int .i64 n] w (LineEnd (empties n) false 0 w) := by
  go_enter Tryd.func77, Tryd.ntmps77
  go_wp2_with fail
  refine (lineEmpties_any n hn _).mono ?_
  rintro e w1 ⟨v, rfl, ho, hb⟩
  obtain ⟨hk, hb1⟩ := box1 hb
  obtain ⟨A, c, rfl, -⟩ := ho.form
  have HF := Lib.hid (fin_line false hb1 hk (Nat.le_refl _) ho (by simp))
  obtain ⟨hx, hf, hz⟩ := hk.facts
  clear ho hb hb1 hk
  go_wp2_with fail
  refine bodyPost_ret (results_ct Tryd.results77 _ _ w.heap.size _ _ rfl HF.out.1 Tryd.underlying59 rfl line_size) rfl ?_
  exact ⟨_, rfl, HF.out.2⟩
theorem fin_none (w : World) (t : TypeId) : Blk (w.alloc (.cells #[.slice none 0 0, .bool false] t)) w.heap.size t #[.slice none 0 0, .bool false] := Blk.new _ _ _
theorem lineNew_no (n : Int) (hn : n < 0 ∨ 1000 < n) (w : World) : Calls Tryd.prog 77 #[.int .i64 n] w (LineEnd [] false 2 w) := by
  rcases hn with h | h
  · go_enter Tryd.func77, Tryd.ntmps77
    go_wp2_with fail
    refine bodyPost_ret (results_ct Tryd.results77 _ _ w.heap.size _ _ rfl (Blk.new w 59 #[.slice none 0 0, .bool false]) Tryd.underlying59 rfl line_size) rfl ?_
    exact ⟨_, rfl, OwnC.nil _ _, belA _ _⟩
  · have h0 : ¬ n < 0 := by omega
    go_enter Tryd.func77, Tryd.ntmps77
    go_wp2_with fail
    refine bodyPost_ret (results_ct Tryd.results77 _ _ w.heap.size _ _ rfl (Blk.new w 59 #[.slice none 0 0, .bool false]) Tryd.underlying59 rfl line_size) rfl ?_
    exact ⟨_, rfl, OwnC.nil _ _, belA _ _⟩

set_option maxRecDepth 100000 in
set_option maxHeartbeats 1000000 in
theorem r06Used_any (A : Option Addr) (c : Nat) (cs : List Cell) (s : Bool) (w : World) (ha : RdC w A c cs) (hn : cs.length ≤ 1000000) :
    Calls Tryd.prog 49 #[.agg #[.slice A cs.length c, .bool s]] w fun e w' => e = .returned (.int .i64 (usedOf cs)) ∧ Below w.heap.size w w' := by
  have HA := Lib.hid ha
  clear ha
  go_enter Tryd.func49, Tryd.ntmps49
  go_wp2_with fail
  go_loopw [3, 4] (fun u i wr => ∃ k : Nat, k ≤ cs.length ∧ i = .int .i64 k ∧ u = .int .i64 (usedOf (cs.take k)) ∧ Blk wr w.heap.size 59 #[.slice A cs.length c, .bool s] ∧ Below w.heap.size w wr) (fun _ i _ => cs.length - (intOf i).toNat)
  case atStart => exact ⟨0, Nat.zero_le _, rfl, rfl, Blk.new _ _ _, belA _ _⟩
  case round =>
    obtain ⟨k, hk, rfl, rfl, hx, hb⟩ := hrel
    have HX := Lib.hid hx
    have HB := Lib.hid hb
    obtain ⟨hc1, hf1, hz1⟩ := hx.facts
    clear hx hb
    by_cases hlt : k < cs.length
    · obtain ⟨b1, o1, rfl, hz2, hr1⟩ := (HA.out.bel HB.out).at_ hlt
      have hc2 := elem_cell hr1 hlt
      clear hr1
      by_cases he : cs[k] = cEmp
      · have he' : decide (cs[k] = (⟨0, 0, 0, 0, 1, pen0⟩ : Cell)) = true := by simpa [cEmp, blank] using he
        have HS := Lib.hid (show usedOf (cs.take (k + 1)) = usedOf (cs.take k) by rw [usedOf_take hlt, if_pos he])
        clear he
        go_wp2_with fail
        go_roundw
        case rel => exact ⟨k + 1, by omega, by go_num, by rw [HS.out], HX.out, HB.out⟩
        case measure => simp [intOf]; omega
      · have he' : decide (cs[k] = (⟨0, 0, 0, 0, 1, pen0⟩ : Cell)) = false := by simpa [cEmp, blank] using he
        have HS := Lib.hid (show usedOf (cs.take (k + 1)) = k + 1 by rw [usedOf_take hlt, if_neg he])
        clear he
        go_wp2_with fail
        go_roundw
        case rel => exact ⟨k + 1, by omega, by go_num, by rw [HS.out]; go_num, HX.out, HB.out⟩
        case measure => simp [intOf]; omega
    · have HS := Lib.hid (show usedOf (cs.take k) = usedOf cs by rw [List.take_of_length_le (by omega)])
      go_wp2_with fail
      go_ret
      exact ⟨by rw [← HS.out]; rfl, HB.out⟩
end Go.Proofs.YtmfhepjmmpnkaaaDoor
