/-
  The reference's Fit.
-/
import Derived.Test.YtmfhepjmmpnkaaaDoorLine5
set_option linter.unusedSimpArgs false
set_option linter.unusedVariables false
namespace Go.Proofs.YtmfhepjmmpnkaaaDoor
open Go.RowKit

def lenAt (g : Nat) (w : World) : Nat := match w.cell? ⟨g, 0, none⟩ with
  | some (.slice _ k _) => k
  | _ => 0
theorem lenAt_of {w : World} {g k c : Nat} {t : TypeId} {A : Option Addr} {b : Value} (h : Blk w g t #[.slice A k c, b]) : lenAt g w = k := by simp [lenAt, h.cell]
theorem r04fix_take (A : Option Addr) (c : Nat) (cs : List Cell) (m : Nat) (w : World) (ha : RdC w A c cs) (hn : cs.length ≤ 100000) (hm : m ≤ cs.length) : Calls Tryd.prog 28 #[.slice A m c] w (OwnEnd (fixL (cs.take m)) w) := by
  have := r04Fix_any A c (cs.take m) w (ha.upto _) (by simp; omega)
  rw [show (cs.take m).length = m by simp; omega] at this
  exact this
def fitUp (n k : Nat) (cs : List Cell) : List Cell := fixL (cs.take (min n cs.length)) ++ empties (k - min n cs.length)
theorem fitUp_len {n k : Nat} {cs : List Cell} (h : min n cs.length ≤ k) : (fitUp n k cs).length = k := by simp [fitUp, fixL_length, empties]; omega
theorem fitUp_snoc {n k : Nat} {cs : List Cell} (h : min n cs.length ≤ k) : fitUp n k cs ++ [blank pen0] = fitUp n (k + 1) cs := by
  unfold fitUp; rw [List.append_assoc, emp_snoc]; congr 2; omega
set_option maxRecDepth 100000 in
set_option maxHeartbeats 2000000 in
theorem r06Fit_any (A : Option Addr) (c : Nat) (cs : List Cell) (s : Bool) (n : Nat) (hn2 : n ≤ 1000) (w : World) (ha : RdC w A c cs) (hn : cs.length ≤ 100000) :
    Calls Tryd.prog 61 #[.agg #[.slice A cs.length c, .bool s], .int .i64 n] w (Line1End (fitTo n cs) s w) := by
  have HA := Lib.hid ha
  have hru := run_upto
  clear ha
  have HM := Lib.hid (show (if cs.length < n then (cs.length : Int) else (n : Int)) = ((min n cs.length : Nat) : Int) by split <;> omega)
  go_enter Tryd.func61, Tryd.ntmps61
  go_upto_region 2 with (fail)
  have K0 := Lib.hid (((Blk.new w 59 #[.slice A cs.length c, .bool s]).alloc (.cells #[.slice none 0 0, .bool false] 59)).alloc (.cells #[.slice none 0 0, .bool s] 59))
  have K1 := Lib.hid (show Blk (((w.alloc (.cells #[.slice A cs.length c, .bool s] 59)).alloc (.cells #[.slice none 0 0, .bool false] 59)).alloc (.cells #[.slice none 0 0, .bool s] 59)) (w.heap.size + 1) 59 #[.slice none 0 0, .bool false] by have := (Blk.new (w.alloc (.cells #[.slice A cs.length c, .bool s] 59)) 59 #[.slice none 0 0, .bool false]).alloc (.cells #[.slice none 0 0, .bool s] 59); simpa using this)
  have K2 := Lib.hid (show Blk (((w.alloc (.cells #[.slice A cs.length c, .bool s] 59)).alloc (.cells #[.slice none 0 0, .bool false] 59)).alloc (.cells #[.slice none 0 0, .bool s] 59)) (w.heap.size + 1 + 1) 59 #[.slice none 0 0, .bool s] by have := Blk.new ((w.alloc (.cells #[.slice A cs.length c, .bool s] 59)).alloc (.cells #[.slice none 0 0, .bool false] 59)) 59 #[.slice none 0 0, .bool s]; simpa using this)
  have HB := Lib.hid (bel1 (bel1 (belA ((w.alloc (.cells #[.slice A cs.length c, .bool s] 59)).alloc (.cells #[.slice none 0 0, .bool false] 59)) (.cells #[.slice none 0 0, .bool s] 59))))
  have HZ := Lib.hid (show w.heap.size + 3 ≤ (((w.alloc (.cells #[.slice A cs.length c, .bool s] 59)).alloc (.cells #[.slice none 0 0, .bool false] 59)).alloc (.cells #[.slice none 0 0, .bool s] 59)).heap.size by simp)
  generalize (((w.alloc (.cells #[.slice A cs.length c, .bool s] 59)).alloc (.cells #[.slice none 0 0, .bool false] 59)).alloc (.cells #[.slice none 0 0, .bool s] 59)) = W at K0 K1 K2 HB HZ ⊢
  clear hru HM
  rcases Nat.lt_or_ge cs.length n with hcn | hcn
  · have hcc : cs.length ≤ c := HA.out.1
    have HME := Lib.hid (show min n cs.length = cs.length by omega)
    obtain ⟨hx0, hf0, hz0⟩ := K0.out.facts
    go_wp2_with fail
    refine (r04fix_take A c cs (cs.length) _ (HA.out.bel HB.out) (by omega) (by omega)).mono ?_
    rintro e w1 ⟨v, rfl, ho, hb⟩
    rw [show fixL (cs.take (cs.length)) = fitUp n (cs.length) cs from by unfold fitUp; rw [HME.out]; simp [empties]] at ho
    obtain ⟨A1, c1, rfl, -⟩ := ho.formN (fitUp_len (Nat.le_of_eq HME.out))
    have HO1 := Lib.hid (ho.low (show w.heap.size + 3 ≤ W.heap.size from HZ.out))
    have K01 := Lib.hid (K0.out.bel hb)
    have K11 := Lib.hid (K1.out.bel hb)
    have K21 := Lib.hid (K2.out.bel hb)
    have HB1 := Lib.hid (HB.out.trans (hb.mono HB.out.size))
    obtain ⟨hx2, hf2, hz2⟩ := K21.out.facts
    clear ho hb hx0 hf0 hz0
    go_wp2_with fail
    have CS := Lib.hid (chg_setCell w1 ⟨w.heap.size + 1 + 1, 0, none⟩ (.slice A1 (cs.length) c1))
    go_loopw [] (fun wr => ∃ k : Nat, min n cs.length ≤ k ∧ k ≤ n ∧ (∃ A c, Blk wr (w.heap.size + 1 + 1) 59 #[.slice A k c, .bool s] ∧ OwnC wr (w.heap.size + 3) (.slice A k c) (fitUp n k cs)) ∧ Blk wr (w.heap.size + 1) 59 #[.slice none 0 0, .bool false] ∧ Below w.heap.size w wr) (fun wr => n - lenAt (w.heap.size + 1 + 1) wr)
    case atStart => exact ⟨cs.length, Nat.le_of_eq HME.out, by omega, ⟨A1, c1, K21.out.set_ 0 _, own_chg HO1.out CS.out (fun b hb he => by have := own_from HO1.out b hb; have he' : b = w.heap.size + 1 + 1 := he; omega)⟩, K11.out.far (by simp) _, HB1.out.setCell (by show w.heap.size ≤ w.heap.size + 1 + 1; omega) _⟩
    case round =>
      obtain ⟨k, hk1, hk2, ⟨A2, c2, hx2, ho⟩, hx1, hb⟩ := hrel
      have HO := Lib.hid ho
      have KK2 := Lib.hid hx2
      have KK1 := Lib.hid hx1
      have HBB := Lib.hid hb
      have HL := Lib.hid (lenAt_of hx2)
      obtain ⟨hc2, hf2, hz2⟩ := hx2.facts
      obtain ⟨hc1, hf1, hz1⟩ := hx1.facts
      clear hx1 hx2 ho hb
      by_cases hlt : k < n
      · go_wp2_with (first | (refine wpList_bs1 rfl _ rfl (blank pen0) rfl ?_) | (at_builtin; (refine wpList_appC rfl _ _ rfl (w.heap.size + 3) (.slice A2 k c2) (fitUp n k cs) rfl (HO.out.alloc _) _ 1 [blank pen0] rfl (RdC.lit _ _) (by rw [fitUp_len hk1]; simp; omega) (by have := HBB.out.size; have := KK2.out.lt; simp; omega) ?_); intro v1 w4 hown hg hat; rw [fitUp_snoc hk1] at hown; obtain ⟨A3, c3, rfl, -⟩ := hown.formN (fitUp_len (by omega)); have HO2 := Lib.hid hown; have K2' := Lib.hid ((KK2.out.alloc (.cells (fv [blank pen0]) 30)).grown hg (fun e => by have := own_from HO.out _ e.symm; omega)); have K1' := Lib.hid ((KK1.out.alloc (.cells (fv [blank pen0]) 30)).grown hg (fun e => by have := own_from HO.out _ e.symm; omega)); have HB' := Lib.hid ((HBB.out.alloc HBB.out.size (.cells (fv [blank pen0]) 30)).grown hg (by have := HBB.out.size; simp; omega) (fun q hq => by have := own_from HO.out q hq; omega)); clear hown hg hat hc1 hf1 hz1 hc2 hf2 hz2; obtain ⟨hc1, hf1, hz1⟩ := K1'.out.facts; obtain ⟨hc2, hf2, hz2⟩ := K2'.out.facts))
        have CT := chg_setCell w4 ⟨w.heap.size + 1 + 1, 0, none⟩ (.slice A3 (k + 1) c3)
        have KN := K2'.out.set_ 0 (.slice A3 (k + 1) c3)
        have HN := Lib.hid (lenAt_of (k := k + 1) (A := A3) (c := c3) (b := .bool s) KN)
        go_roundw
        case rel => exact ⟨k + 1, by omega, by omega, ⟨A3, c3, KN, own_chg HO2.out CT (fun b hb he => by have := own_from HO2.out b hb; have he' : b = w.heap.size + 1 + 1 := he; omega)⟩, K1'.out.far (by simp) _, HB'.out.setCell (by show w.heap.size ≤ w.heap.size + 1 + 1; omega) _⟩
        case measure => rw [HN.out, HL.out]; omega
      · obtain rfl : k = n := by omega
        go_wp2_with fail
        have HE : fitUp k k cs = fitTo k cs := fit_eq k cs
        have HF := fin_line (w := w) (g := w.heap.size + 1) (v := .slice A2 k c2) (l := fitTo k cs) s HBB.out KK1.out (by omega) (by rw [← HE]; exact HO.out) (by omega)
        refine bodyPost_ret (results_c1 Tryd.results61 _ _ (w.heap.size + 1) _ _ rfl HF.1 Tryd.underlying59 rfl line_size) rfl ?_
        exact ⟨_, rfl, HF.2⟩
  · have hcc : cs.length ≤ c := HA.out.1
    have HME := Lib.hid (show min n cs.length = n by omega)
    obtain ⟨hx0, hf0, hz0⟩ := K0.out.facts
    go_wp2_with fail
    refine (r04fix_take A c cs (n) _ (HA.out.bel HB.out) (by omega) (by omega)).mono ?_
    rintro e w1 ⟨v, rfl, ho, hb⟩
    rw [show fixL (cs.take (n)) = fitUp n (n) cs from by unfold fitUp; rw [HME.out]; simp [empties]] at ho
    obtain ⟨A1, c1, rfl, -⟩ := ho.formN (fitUp_len (Nat.le_of_eq HME.out))
    have HO1 := Lib.hid (ho.low (show w.heap.size + 3 ≤ W.heap.size from HZ.out))
    have K01 := Lib.hid (K0.out.bel hb)
    have K11 := Lib.hid (K1.out.bel hb)
    have K21 := Lib.hid (K2.out.bel hb)
    have HB1 := Lib.hid (HB.out.trans (hb.mono HB.out.size))
    obtain ⟨hx2, hf2, hz2⟩ := K21.out.facts
    clear ho hb hx0 hf0 hz0
    go_wp2_with fail
    have CS := Lib.hid (chg_setCell w1 ⟨w.heap.size + 1 + 1, 0, none⟩ (.slice A1 (n) c1))
    go_loopw [] (fun wr => ∃ k : Nat, min n cs.length ≤ k ∧ k ≤ n ∧ (∃ A c, Blk wr (w.heap.size + 1 + 1) 59 #[.slice A k c, .bool s] ∧ OwnC wr (w.heap.size + 3) (.slice A k c) (fitUp n k cs)) ∧ Blk wr (w.heap.size + 1) 59 #[.slice none 0 0, .bool false] ∧ Below w.heap.size w wr) (fun wr => n - lenAt (w.heap.size + 1 + 1) wr)
    case atStart => exact ⟨n, Nat.le_of_eq HME.out, by omega, ⟨A1, c1, K21.out.set_ 0 _, own_chg HO1.out CS.out (fun b hb he => by have := own_from HO1.out b hb; have he' : b = w.heap.size + 1 + 1 := he; omega)⟩, K11.out.far (by simp) _, HB1.out.setCell (by show w.heap.size ≤ w.heap.size + 1 + 1; omega) _⟩
    case round =>
      obtain ⟨k, hk1, hk2, ⟨A2, c2, hx2, ho⟩, hx1, hb⟩ := hrel
      have HO := Lib.hid ho
      have KK2 := Lib.hid hx2
      have KK1 := Lib.hid hx1
      have HBB := Lib.hid hb
      have HL := Lib.hid (lenAt_of hx2)
      obtain ⟨hc2, hf2, hz2⟩ := hx2.facts
      obtain ⟨hc1, hf1, hz1⟩ := hx1.facts
      clear hx1 hx2 ho hb
      by_cases hlt : k < n
      · exfalso; omega
      · obtain rfl : k = n := by omega
        go_wp2_with fail
        have HE : fitUp k k cs = fitTo k cs := fit_eq k cs
        have HF := fin_line (w := w) (g := w.heap.size + 1) (v := .slice A2 k c2) (l := fitTo k cs) s HBB.out KK1.out (by omega) (by rw [← HE]; exact HO.out) (by omega)
        refine bodyPost_ret (results_c1 Tryd.results61 _ _ (w.heap.size + 1) _ _ rfl HF.1 Tryd.underlying59 rfl line_size) rfl ?_
        exact ⟨_, rfl, HF.2⟩
end Go.Proofs.YtmfhepjmmpnkaaaDoor
