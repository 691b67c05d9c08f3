/-
  The reference's Put.
-/
import Derived.Test.YtmfhepjmmpnkaaaDoorLine7
set_option linter.unusedSimpArgs false
set_option linter.unusedVariables false
namespace Go.Proofs.YtmfhepjmmpnkaaaDoor
open Go.RowKit

theorem r04fix_drop (A : Option Addr) (c : Nat) (cs : List Cell) (k : Nat) (w : World) (ha : RdC w A c cs) (hn : cs.length ≤ 100000) (hk : k ≤ cs.length) : Calls Tryd.prog 28 #[.slice (tailA A c k) (cs.length - k) (c - k)] w (OwnEnd (fixL (cs.drop k)) w) := by
  have := r04Fix_any (tailA A c k) (c - k) (cs.drop k) w (ha.from k hk) (by simp; omega)
  rw [show (cs.drop k).length = cs.length - k by simp] at this
  exact this
theorem r4row_is {cs : List Cell} {x : Bool} (h : rowOk cs = x) (A : Option Addr) (c : Nat) (w : World) (ha : RdC w A c cs) (hn : cs.length ≤ 1000000) :
    Calls Tryd.prog 23 #[.slice A cs.length c] w fun e w' => e = .returned (.bool x) ∧ Below w.heap.size w w' := h ▸ r04Row_any A c cs w ha hn
/-- The slice behind at, as the walk spells it. -/
theorem r04fix_drop0 (A : Option Addr) (cs : List Cell) (k : Nat) (w : World) (ha : RdC w A k cs) (hn : cs.length ≤ 100000) (hk : k ≤ cs.length) : Calls Tryd.prog 28 #[.slice A 0 0] w (OwnEnd (fixL (cs.drop k)) w) := by
  have := r04fix_drop A k cs k w ha hn hk
  rwa [show tailA A k k = A by simp [tailA], Nat.sub_self, show cs.length - k = 0 by have := ha.1; omega] at this
theorem r04fix_drop1 (A : Option Addr) (c : Nat) (cs : List Cell) (k : Nat) (w : World) (ha : RdC w A c cs) (hn : cs.length ≤ 100000) (hk : k ≤ cs.length) (hc : ¬ c = k) : Calls Tryd.prog 28 #[.slice (A.map (fun x => x.add (k * 16))) (cs.length - k) (c - k)] w (OwnEnd (fixL (cs.drop k)) w) := by
  have := r04fix_drop A c cs k w ha hn hk
  rwa [show tailA A c k = A.map (fun x => x.add (k * 16)) by simp [tailA, hc]] at this
set_option maxRecDepth 100000 in
set_option maxHeartbeats 2000000 in
theorem r06Put_yes (A : Option Addr) (c : Nat) (cs : List Cell) (s : Bool) (at_ : Nat) (A2 : Option Addr) (c2 : Nat) (ds : List Cell) (w : World) (ht : Tabs w) (ha : RdC w A c cs) (hd : RdC w A2 c2 ds) (hn : cs.length ≤ 1000) (hn2 : ds.length ≤ 1000) (hv : lineOk cs = true) (hr : rowOk ds = true) (hat : at_ + ds.length ≤ cs.length) :
    Calls Tryd.prog 62 #[.agg #[.slice A cs.length c, .bool s], .int .i64 at_, .slice A2 ds.length c2] w (LineEnd (putAt at_ ds cs) s 0 w) := by
  have HT := Lib.hid ht
  have HA0 := Lib.hid ha
  have HD0 := Lib.hid hd
  have HV := Lib.hid hv
  have HR := Lib.hid hr
  have hcc : cs.length ≤ c := ha.1
  clear ha ht hv hd hr
  by_cases hck : c = at_ + ds.length
  · subst hck
    go_enter Tryd.func62, Tryd.ntmps62
    go_wp2_with fail
    refine (r6valid_is HV.out _ _ _ _ ((HT.out.bel (belA _ _)).bel (belA _ _)) ((HA0.out.alloc _).alloc _) (by omega)).mono ?_
    rintro e W1 ⟨rfl, hb⟩
    obtain ⟨k0, k1, hb1⟩ := box2 hb
    have K01 := Lib.hid k0
    have K11 := Lib.hid k1
    have HB1 := Lib.hid hb1
    clear hb k0 k1 hb1
    go_wp2_with fail
    refine (r4row_is HR.out _ _ _ (HD0.out.bel HB1.out) (by omega)).mono ?_
    rintro e W ⟨rfl, hb⟩
    have K0 := Lib.hid (K01.out.bel hb)
    have K1 := Lib.hid (K11.out.bel hb)
    have HB := Lib.hid (HB1.out.trans (hb.mono HB1.out.size))
    have HZ := Lib.hid (show w.heap.size + 2 ≤ W.heap.size by have := K1.out.lt; omega)
    obtain ⟨hx0, hf0, hz0⟩ := K0.out.facts
    clear hb K01 K11 HB1
    go_wp2_with fail
    refine (r04fix_take A _ cs at_ _ (HA0.out.bel HB.out) (by omega) (by omega)).mono ?_
    rintro e w3 ⟨v3, rfl, ho3, hb3⟩
    have K03 := Lib.hid (K0.out.bel hb3)
    have K13 := Lib.hid (K1.out.bel hb3)
    have HB3 := Lib.hid (HB.out.trans (hb3.mono HB.out.size))
    have HZ3 := Lib.hid (show w.heap.size + 2 ≤ w3.heap.size by have := K13.out.lt; omega)
    have HO3 := Lib.hid (ho3.low HZ.out)
    obtain ⟨A3, c3, rfl, -⟩ := ho3.form
    clear ho3 hb3 hx0 hf0 hz0
    obtain ⟨hx0, hf0, hz0⟩ := K03.out.facts
    go_wp2_with (at_builtin; (refine wpList_appC rfl _ _ rfl (w.heap.size + 2) _ (fixL (cs.take at_)) rfl HO3.out A2 c2 ds rfl (HD0.out.bel HB3.out) (by rw [fixL_length]; simp; omega) HZ3.out ?_); intro v4 w4 hown hg hat4; have HO4 := Lib.hid hown; have K04 := Lib.hid (K03.out.grown hg (fun e => by have := own_from HO3.out _ e.symm; omega)); have K14 := Lib.hid (K13.out.grown hg (fun e => by have := own_from HO3.out _ e.symm; omega)); have HB4 := Lib.hid (HB3.out.grown hg (by have := HZ3.out; omega) (fun q hq => by have := own_from HO3.out q hq; omega)); clear hown hg hat4 hx0 hf0 hz0; obtain ⟨hx0, hf0, hz0⟩ := K04.out.facts)
    refine (r04fix_drop0 A cs (at_ + ds.length) _ (HA0.out.bel HB4.out) (by omega) (by omega)).mono ?_
    rintro e w5 ⟨v5, rfl, ho5, hb5⟩
    obtain ⟨A5, c5, rfl, hr5⟩ := ho5.form
    have HR5 := Lib.hid hr5
    have HO5 := Lib.hid (HO4.out.bel hb5)
    have K05 := Lib.hid (K04.out.bel hb5)
    have K15 := Lib.hid (K14.out.bel hb5)
    have HB5 := Lib.hid (HB4.out.trans (hb5.mono HB4.out.size))
    have HZ5 := Lib.hid (show w.heap.size + 2 ≤ w5.heap.size by have := K15.out.lt; omega)
    clear ho5 hb5 hr5 hx0 hf0 hz0
    obtain ⟨A4, c4, hv4, -⟩ := HO5.out.form
    have HV4 := Lib.hid hv4
    clear hv4
    go_wp2_with (at_builtin; (refine wpList_appC rfl _ _ rfl (w.heap.size + 2) v4 _ rfl HO5.out A5 c5 _ rfl HR5.out (by rw [List.length_append, fixL_length, fixL_length]; simp; omega) HZ5.out ?_); intro v6 w6 hown hg hat6; have HO6 := Lib.hid hown; obtain ⟨A6, c6, rfl, -⟩ := hown.formN (show _ = cs.length from putAt_length (at_ := at_) (ds := ds) (cs := cs) (by omega)); have K06 := Lib.hid (K05.out.grown hg (fun e => by have := own_from HO5.out _ e.symm; omega)); have K16 := Lib.hid (K15.out.grown hg (fun e => by have := own_from HO5.out _ e.symm; omega)); have HB6 := Lib.hid (HB5.out.grown hg (by have := HZ5.out; omega) (fun q hq => by have := own_from HO5.out q hq; omega)); clear hown hg hat6; obtain ⟨hx0, hf0, hz0⟩ := K06.out.facts; obtain ⟨hx1, hf1, hz1⟩ := K16.out.facts)
    have HF := fin_line (w := w) (g := w.heap.size + 1) (l := putAt at_ ds cs) s HB6.out K16.out (by omega) HO6.out (by omega)
    refine bodyPost_ret (results_ct Tryd.results62 _ _ (w.heap.size + 1) _ _ rfl HF.1 Tryd.underlying59 rfl line_size) rfl ?_
    exact ⟨_, rfl, HF.2⟩
  · have HCK := Lib.hid hck
    go_enter Tryd.func62, Tryd.ntmps62
    go_wp2_with fail
    refine (r6valid_is HV.out _ _ _ _ ((HT.out.bel (belA _ _)).bel (belA _ _)) ((HA0.out.alloc _).alloc _) (by omega)).mono ?_
    rintro e W1 ⟨rfl, hb⟩
    obtain ⟨k0, k1, hb1⟩ := box2 hb
    have K01 := Lib.hid k0
    have K11 := Lib.hid k1
    have HB1 := Lib.hid hb1
    clear hb k0 k1 hb1
    go_wp2_with fail
    refine (r4row_is HR.out _ _ _ (HD0.out.bel HB1.out) (by omega)).mono ?_
    rintro e W ⟨rfl, hb⟩
    have K0 := Lib.hid (K01.out.bel hb)
    have K1 := Lib.hid (K11.out.bel hb)
    have HB := Lib.hid (HB1.out.trans (hb.mono HB1.out.size))
    have HZ := Lib.hid (show w.heap.size + 2 ≤ W.heap.size by have := K1.out.lt; omega)
    obtain ⟨hx0, hf0, hz0⟩ := K0.out.facts
    clear hb K01 K11 HB1
    go_wp2_with fail
    refine (r04fix_take A _ cs at_ _ (HA0.out.bel HB.out) (by omega) (by omega)).mono ?_
    rintro e w3 ⟨v3, rfl, ho3, hb3⟩
    have K03 := Lib.hid (K0.out.bel hb3)
    have K13 := Lib.hid (K1.out.bel hb3)
    have HB3 := Lib.hid (HB.out.trans (hb3.mono HB.out.size))
    have HZ3 := Lib.hid (show w.heap.size + 2 ≤ w3.heap.size by have := K13.out.lt; omega)
    have HO3 := Lib.hid (ho3.low HZ.out)
    obtain ⟨A3, c3, rfl, -⟩ := ho3.form
    clear ho3 hb3 hx0 hf0 hz0
    obtain ⟨hx0, hf0, hz0⟩ := K03.out.facts
    go_wp2_with (at_builtin; (refine wpList_appC rfl _ _ rfl (w.heap.size + 2) _ (fixL (cs.take at_)) rfl HO3.out A2 c2 ds rfl (HD0.out.bel HB3.out) (by rw [fixL_length]; simp; omega) HZ3.out ?_); intro v4 w4 hown hg hat4; have HO4 := Lib.hid hown; have K04 := Lib.hid (K03.out.grown hg (fun e => by have := own_from HO3.out _ e.symm; omega)); have K14 := Lib.hid (K13.out.grown hg (fun e => by have := own_from HO3.out _ e.symm; omega)); have HB4 := Lib.hid (HB3.out.grown hg (by have := HZ3.out; omega) (fun q hq => by have := own_from HO3.out q hq; omega)); clear hown hg hat4 hx0 hf0 hz0; obtain ⟨hx0, hf0, hz0⟩ := K04.out.facts)
    refine (r04fix_drop1 A c cs (at_ + ds.length) _ (HA0.out.bel HB4.out) (by omega) (by omega) HCK.out).mono ?_
    rintro e w5 ⟨v5, rfl, ho5, hb5⟩
    obtain ⟨A5, c5, rfl, hr5⟩ := ho5.form
    have HR5 := Lib.hid hr5
    have HO5 := Lib.hid (HO4.out.bel hb5)
    have K05 := Lib.hid (K04.out.bel hb5)
    have K15 := Lib.hid (K14.out.bel hb5)
    have HB5 := Lib.hid (HB4.out.trans (hb5.mono HB4.out.size))
    have HZ5 := Lib.hid (show w.heap.size + 2 ≤ w5.heap.size by have := K15.out.lt; omega)
    clear ho5 hb5 hr5 hx0 hf0 hz0
    obtain ⟨A4, c4, hv4, -⟩ := HO5.out.form
    have HV4 := Lib.hid hv4
    clear hv4
    go_wp2_with (at_builtin; (refine wpList_appC rfl _ _ rfl (w.heap.size + 2) v4 _ rfl HO5.out A5 c5 _ rfl HR5.out (by rw [List.length_append, fixL_length, fixL_length]; simp; omega) HZ5.out ?_); intro v6 w6 hown hg hat6; have HO6 := Lib.hid hown; obtain ⟨A6, c6, rfl, -⟩ := hown.formN (show _ = cs.length from putAt_length (at_ := at_) (ds := ds) (cs := cs) (by omega)); have K06 := Lib.hid (K05.out.grown hg (fun e => by have := own_from HO5.out _ e.symm; omega)); have K16 := Lib.hid (K15.out.grown hg (fun e => by have := own_from HO5.out _ e.symm; omega)); have HB6 := Lib.hid (HB5.out.grown hg (by have := HZ5.out; omega) (fun q hq => by have := own_from HO5.out q hq; omega)); clear hown hg hat6; obtain ⟨hx0, hf0, hz0⟩ := K06.out.facts; obtain ⟨hx1, hf1, hz1⟩ := K16.out.facts)
    have HF := fin_line (w := w) (g := w.heap.size + 1) (l := putAt at_ ds cs) s HB6.out K16.out (by omega) HO6.out (by omega)
    refine bodyPost_ret (results_ct Tryd.results62 _ _ (w.heap.size + 1) _ _ rfl HF.1 Tryd.underlying59 rfl line_size) rfl ?_
    exact ⟨_, rfl, HF.2⟩
set_option maxRecDepth 100000 in
set_option maxHeartbeats 2000000 in
theorem r06Put_no (A : Option Addr) (c : Nat) (cs : List Cell) (s : Bool) (at_ : Int) (hbd : -9223372036854775808 ≤ at_ ∧ at_ ≤ 9223372036854775807) (A2 : Option Addr) (c2 : Nat) (ds : List Cell) (w : World) (ht : Tabs w) (ha : RdC w A c cs) (hd : RdC w A2 c2 ds) (hn : cs.length ≤ 1000) (hn2 : ds.length ≤ 1000) (n : Int)
    (hor : (lineOk cs = false ∧ n = 2) ∨ (lineOk cs = true ∧ rowOk ds = false ∧ n = 2) ∨ (lineOk cs = true ∧ rowOk ds = true ∧ n = 3 ∧ ¬ (0 ≤ at_ ∧ at_ + ds.length ≤ cs.length))) :
    Calls Tryd.prog 62 #[.agg #[.slice A cs.length c, .bool s], .int .i64 at_, .slice A2 ds.length c2] w (LineEnd [] false n w) := by
  have HT := Lib.hid ht
  have HA0 := Lib.hid ha
  have HD0 := Lib.hid hd
  clear ha ht hd
  rcases hor with ⟨hv, rfl⟩ | ⟨hv, hr, rfl⟩ | ⟨hv, hr, rfl, hat⟩
  · have HV := Lib.hid hv
    clear hv
    go_enter Tryd.func62, Tryd.ntmps62
    go_wp2_with fail
    refine (r6valid_is HV.out _ _ _ _ ((HT.out.bel (belA _ _)).bel (belA _ _)) ((HA0.out.alloc _).alloc _) (by omega)).mono ?_
    rintro e W1 ⟨rfl, hb⟩
    obtain ⟨k0, k1, hb1⟩ := box2 hb
    have K11 := Lib.hid k1
    have HB1 := Lib.hid hb1
    obtain ⟨hx0, hf0, hz0⟩ := k1.facts
    clear hb k0 k1 hb1
    go_wp2_with fail
    have HF := fin_line (w := w) (g := w.heap.size + 1) (v := .slice none 0 0) (l := []) false HB1.out K11.out (by omega) (OwnC.nil W1 (w.heap.size + 2)) (by omega)
    refine bodyPost_ret (results_ct Tryd.results62 _ _ (w.heap.size + 1) _ _ rfl HF.1 Tryd.underlying59 rfl line_size) rfl ?_
    exact ⟨_, rfl, HF.2⟩
  all_goals
    have HV := Lib.hid hv
    have HR := Lib.hid hr
    clear hv hr
  case' inr.inr =>
    have hat' : at_ < 0 ∨ (0 ≤ at_ ∧ cs.length < at_) ∨ (0 ≤ at_ ∧ at_ ≤ cs.length ∧ (cs.length : Int) < at_ + ds.length) := by omega
    clear hat
    rcases hat' with h1 | ⟨h1, h2⟩ | ⟨h1, h2, h3⟩
  all_goals
    go_enter Tryd.func62, Tryd.ntmps62
    go_wp2_with fail
    refine (r6valid_is HV.out _ _ _ _ ((HT.out.bel (belA _ _)).bel (belA _ _)) ((HA0.out.alloc _).alloc _) (by omega)).mono ?_
    rintro e W1 ⟨rfl, hb⟩
    obtain ⟨k0, k1, hb1⟩ := box2 hb
    have K01 := Lib.hid k0
    have K11 := Lib.hid k1
    have HB1 := Lib.hid hb1
    clear hb k0 k1 hb1
    go_wp2_with fail
    refine (r4row_is HR.out _ _ _ (HD0.out.bel HB1.out) (by omega)).mono ?_
    rintro e W ⟨rfl, hb⟩
    have K0 := Lib.hid (K01.out.bel hb)
    have K1 := Lib.hid (K11.out.bel hb)
    have HB := Lib.hid (HB1.out.trans (hb.mono HB1.out.size))
    obtain ⟨hx0, hf0, hz0⟩ := K0.out.facts
    obtain ⟨hx1, hf1, hz1⟩ := K1.out.facts
    clear hb K01 K11 HB1
    go_wp2_with fail
    have HF := fin_line (w := w) (g := w.heap.size + 1) (v := .slice none 0 0) (l := []) false HB.out K1.out (by omega) (OwnC.nil W (w.heap.size + 2)) (by omega)
    refine bodyPost_ret (results_ct Tryd.results62 _ _ (w.heap.size + 1) _ _ rfl HF.1 Tryd.underlying59 rfl line_size) rfl ?_
    exact ⟨_, rfl, HF.2⟩
theorem r06Put_any (A : Option Addr) (c : Nat) (cs : List Cell) (s : Bool) (at_ : Int) (hbd : -9223372036854775808 ≤ at_ ∧ at_ ≤ 9223372036854775807) (A2 : Option Addr) (c2 : Nat) (ds : List Cell) (w : World) (ht : Tabs w) (ha : RdC w A c cs) (hd : RdC w A2 c2 ds) (hn : cs.length ≤ 1000) (hn2 : ds.length ≤ 1000) :
    Calls Tryd.prog 62 #[.agg #[.slice A cs.length c, .bool s], .int .i64 at_, .slice A2 ds.length c2] w (LineEnd (putOf at_ ds cs s).1 (putOf at_ ds cs s).2.1 (putOf at_ ds cs s).2.2 w) := by
  unfold putOf
  cases hv : lineOk cs
  · exact r06Put_no A c cs s at_ hbd A2 c2 ds w ht ha hd hn hn2 2 (.inl ⟨hv, rfl⟩)
  cases hr : rowOk ds
  · exact r06Put_no A c cs s at_ hbd A2 c2 ds w ht ha hd hn hn2 2 (.inr (.inl ⟨hv, hr, rfl⟩))
  rw [if_pos ⟨rfl, rfl⟩]
  split
  · rename_i h
    obtain ⟨k, rfl⟩ := Int.eq_ofNat_of_zero_le h.1
    exact r06Put_yes A c cs s k A2 c2 ds w ht ha hd hn hn2 hv hr (by omega)
  · rename_i h
    exact r06Put_no A c cs s at_ hbd A2 c2 ds w ht ha hd hn hn2 3 (.inr (.inr ⟨hv, hr, rfl, h⟩))
end Go.Proofs.YtmfhepjmmpnkaaaDoor
