/-
  line.Trim and the reference's Copy, Trim.
-/
import Derived.Test.YtmfhepjmmpnkaaaDoorReg2
set_option linter.unusedSimpArgs false
set_option linter.unusedVariables false
namespace Go.Proofs.YtmfhepjmmpnkaaaDoor
open Go.RowKit

/-- The other spelling of a temporary's value. -/
theorem gd {xs : Array Value} {i : Nat} {v : Value} (h : xs.getD i undef = v) : xs[i]?.getD undef = v := by rw [← Array.getD_eq_getD_getElem?]; exact h
theorem run_upto (w : World) (A : Option Addr) (n c u : Nat) (hu : u ≤ n) (hc : n ≤ c) (hA : A = none → c = 0) (h63 : n ≤ 9223372036854775807) : (Instr.slice 43 (.slice A n c) none (some (.int .i64 u)) none).run Tryd.prog w = .ok (.slice A u c) w := by
  have h1 : u ≤ c := by omega
  cases A with
  | none =>
    obtain rfl := hA rfl
    obtain rfl : u = 0 := by omega
    obtain rfl : n = 0 := by omega
    simp [go_sem]
  | some ad =>
    simp [go_sem, h1]
theorem RdC.upto {w : World} {A : Option Addr} {c : Nat} {cs : List Cell} (h : RdC w A c cs) (u : Nat) : RdC w A c (cs.take u) := ⟨by have := h.1; simp; omega, h.2.1, fun hn => by
  obtain ⟨b, off, e, hlt, hr⟩ := h.2.2 (by simp at hn; omega)
  exact ⟨b, off, e, hlt, RdC.take hr u⟩⟩
theorem RdC.old {w : World} {A : Option Addr} {c : Nat} {cs : List Cell} (h : RdC w A c cs) (hn : 0 < cs.length) : ∀ ad, A = some ad → ad.block < w.heap.size := fun ad e => by
  obtain ⟨b, off, e', hlt, _⟩ := h.2.2 hn
  rw [e] at e'
  cases e'
  exact hlt
/-- What a region that writes blocks of its own alone leaves of what came in. -/
theorem RdC.chgNew {S : Nat → Prop} {w w' : World} {A : Option Addr} {c : Nat} {cs : List Cell} {B : Nat} (h : RdC w A c cs) (hb : Chg S w w') (hS : ∀ b, b < w.heap.size → ¬ S b) : RdC w' A c cs := ⟨h.1, h.2.1, fun hn => by
  obtain ⟨b, off, e, hlt, hr⟩ := h.2.2 hn
  exact ⟨b, off, e, by have := hb.size; omega, (rangeAt_same (fun i => hb.cell (p := ⟨b, i, none⟩) hlt (hS b hlt))).2 hr⟩⟩
set_option maxRecDepth 100000 in
set_option maxHeartbeats 1000000 in
theorem r06Copy_any (A : Option Addr) (c : Nat) (cs : List Cell) (s : Bool) (w : World) (ha : RdC w A c cs) (hn : cs.length ≤ 1000000) :
    Calls Tryd.prog 54 #[.agg #[.slice A cs.length c, .bool s]] w (Line1End cs s w) := by
  have HA := Lib.hid ((ha.alloc (.cells #[.slice A cs.length c, .bool s] 59)).alloc (.cells #[.slice none 0 0, .bool false] 59))
  have HA0 := Lib.hid ha
  clear ha
  go_enter Tryd.func54, Tryd.ntmps54
  go_wp2_with fail
  have K0 := Lib.hid ((Blk.new w 59 #[.slice A cs.length c, .bool s]).alloc (.cells #[.slice none 0 0, .bool false] 59))
  have K1 := Lib.hid (show Blk ((w.alloc (.cells #[.slice A cs.length c, .bool s] 59)).alloc (.cells #[.slice none 0 0, .bool false] 59)) (w.heap.size + 1) 59 #[.slice none 0 0, .bool false] by have := Blk.new (w.alloc (.cells #[.slice A cs.length c, .bool s] 59)) 59 #[.slice none 0 0, .bool false]; simpa using this)
  have HB := Lib.hid (bel1 (belA (w.alloc (.cells #[.slice A cs.length c, .bool s] 59)) (.cells #[.slice none 0 0, .bool false] 59)))
  have HZ := Lib.hid (show ((w.alloc (.cells #[.slice A cs.length c, .bool s] 59)).alloc (.cells #[.slice none 0 0, .bool false] 59)).heap.size = w.heap.size + 2 by simp)
  generalize (w.alloc (.cells #[.slice A cs.length c, .bool s] 59)).alloc (.cells #[.slice none 0 0, .bool false] 59) = W at HA K0 K1 HB HZ ⊢
  refine wp_region_one (by kernel_rfl) (by kernel_rfl) (by kernel_rfl) (fun b => b = w.heap.size + 1)
    [.val (.pointer (some ⟨w.heap.size, 0, none⟩)), .val (.slice A cs.length c), .own (w.heap.size + 2) cs, .val (.pointer (some ⟨w.heap.size, 1, none⟩)), .val (.bool s), .line (w.heap.size + 2) cs s] 6
    (fun _ wz => ∃ v, Blk wz (w.heap.size + 1) 59 #[v, .bool s] ∧ OwnC wz (w.heap.size + 2) v cs)
    (fun wz => Blk wz (w.heap.size + 1) 59 #[.slice none 0 0, .bool false]) K1.out (fun _ _ h hb => h.bel hb) (fun _ _ _ ⟨v, h1, h2⟩ hb => ⟨v, h1.bel hb, h2.bel hb⟩) ?_ ?_
  · refine RSteps.cons (fun a w' hc hp hk => ?_) ?_
    · have e1 : a.tmps.getD 1 undef = (.pointer (some ⟨w.heap.size, 0, none⟩) : Value) := (rk_same hk 1 (by kernel_rfl)).trans rfl
      exact ro_pure (v := .pointer (some ⟨w.heap.size, 0, none⟩)) (wanted_none rfl) (by simp [execOp, Act.eval, e1, go_sem]) rfl (Below.refl _ _)
    refine RSteps.cons (fun a w' hc hp hk => ?_) ?_
    · have e3 : a.tmps.getD 3 undef = (.pointer (some ⟨w.heap.size, 0, none⟩) : Value) := (rk_at hk (e := ⟨0, .data⟩) (by simp) rfl rfl rfl)
      have hx := (K0.out.chg hc (show ¬ w.heap.size = w.heap.size + 1 by omega)).cell
      exact ro_pure (v := .slice A cs.length c) (wanted_none rfl) (by simp [execOp, Act.eval, e3, go_sem, hx]) rfl (Below.refl _ _)
    refine RSteps.cons (fun a w' hc hp hk => ?_) ?_
    · have e4 : a.tmps.getD 4 undef = (.slice A cs.length c : Value) := (rk_at hk (e := ⟨1, .data⟩) (by simp) rfl rfl rfl)
      exact ro_app (wanted_none rfl) _ _ rfl (w.heap.size + 2) (.slice none 0 0) [] rfl (OwnC.nil w' _) A c cs e4 (HA0.out.chgNew (B := 0) ((Chg.of_below HB.out _).trans hc (fun _ _ h => h)) (fun b hb he => by omega)) (by simp; omega) (by have := hc.size; have := HZ.out; omega) (fun v' w2 hown hg hat => ⟨⟨by rw [List.nil_append] at hown; exact hown, fun b hb he => by have := own_from hown b hb; omega⟩, (Below.refl _ _).grown hg (Nat.le_refl _) (by simp [Value.ownBlock])⟩)
    refine RSteps.cons (fun a w' hc hp hk => ?_) ?_
    · have e1 : a.tmps.getD 1 undef = (.pointer (some ⟨w.heap.size, 0, none⟩) : Value) := (rk_same hk 1 (by kernel_rfl)).trans rfl
      exact ro_pure (v := .pointer (some ⟨w.heap.size, 1, none⟩)) (wanted_none rfl) (by simp [execOp, Act.eval, e1, go_sem]) rfl (Below.refl _ _)
    refine RSteps.cons (fun a w' hc hp hk => ?_) ?_
    · have e6 : a.tmps.getD 6 undef = (.pointer (some ⟨w.heap.size, 1, none⟩) : Value) := (rk_at hk (e := ⟨3, .data⟩) (by simp) rfl rfl rfl)
      have hx := (K0.out.chg hc (show ¬ w.heap.size = w.heap.size + 1 by omega)).cell
      exact ro_pure (v := .bool s) (wanted_none rfl) (by simp [execOp, Act.eval, e6, go_sem, hx]) rfl (Below.refl _ _)
    refine RSteps.cons (fun a w' hc hp hk => ?_) ?_
    · obtain ⟨hown, hnot⟩ : OwnC w' (w.heap.size + 2) (a.tmps.getD 5 undef) cs ∧ ∀ b, (a.tmps.getD 5 undef).ownBlock = some b → ¬ b = w.heap.size + 1 := (rk_at hk (e := ⟨2, .data⟩) (by simp) rfl rfl rfl)
      have e7 : a.tmps.getD 7 undef = (.bool s : Value) := (rk_at hk (e := ⟨4, .data⟩) (by simp) rfl rfl rfl)
      generalize e5 : a.tmps.getD 5 undef = u at hown hnot
      obtain ⟨A9, c9, rfl, -⟩ := hown.form
      exact ro_pure (v := .agg #[.slice A9 cs.length c9, .bool s]) (wanted_none rfl) (by have f5 := gd e5; have f7 := gd e7; simp [execOp, Act.eval, f5, f7, go_sem]) ⟨_, rfl, hown, hnot⟩ (Below.refl _ _)
    refine RSteps.cons (fun a w' hc hp hk => ?_) ?_
    · obtain ⟨v, e8, hown, hnot⟩ : ∃ v, a.tmps.getD 8 undef = .agg #[v, .bool s] ∧ OwnC w' (w.heap.size + 2) v cs ∧ ∀ b, v.ownBlock = some b → ¬ b = w.heap.size + 1 := (rk_at hk (e := ⟨5, .data⟩) (by simp) rfl rfl rfl)
      have e2 : a.tmps.getD 2 undef = (.pointer (some ⟨w.heap.size + 1, 0, none⟩) : Value) := (rk_same hk 2 (by kernel_rfl)).trans rfl
      obtain ⟨A9, c9, rfl, -⟩ := hown.form
      have hp' : Blk w' (w.heap.size + 1) 59 #[.slice none 0 0, .bool false] := hp
      obtain ⟨hx, hf, hz⟩ := hp'.facts
      refine rstep_store (w2 := setLine w' (w.heap.size + 1) (.slice A9 cs.length c9) s) (wanted_none rfl) rfl ?_ ⟨_, blk_setLine hp' _ _, own_chg hown (chg_setLine _ _ _ _) hnot⟩ (chg_setLine _ _ _ _)
      simp [execOp, Act.eval, e2, e8, go_sem, hx, hf, hz, setLine]
    exact RSteps.nil
  · intro vs wz hc hv h6
    obtain ⟨v, hblk, hown⟩ := h6 (by decide)
    simp only [putL, Act.put, List.setIfInBounds_toArray, List.set_cons_succ, List.set_cons_zero]
    go_wp2_with fail
    refine bodyPost_ret (results_c1 Tryd.results54 _ _ (w.heap.size + 1) _ _ rfl hblk Tryd.underlying59 rfl line_size) rfl ?_
    exact ⟨_, rfl, hown.low (by omega), HB.out.trans (hc.below HB.out.size (fun k hk he => by omega))⟩
-- GENERATED BY genline.py
def trimOf (cs : List Cell) (s : Bool) : List Cell × Bool × Int := if lineOk cs = true then (trimL cs, s, 0) else ([], false, 2)
theorem trim_clone (A : Option Addr) (c : Nat) (cs : List Cell) (w : World) (ha : RdC w A c cs) (hn : cs.length ≤ 1000000) : Calls Tryd.prog 78 #[.slice A (usedOf cs) c] w (OwnEnd (trimL cs) w) := by
  have := clone_any A c (trimL cs) w (ha.upto _) (by have := usedOf_le cs; rw [trim_length]; omega)
  rwa [trim_length] at this
set_option maxRecDepth 100000 in
set_option maxHeartbeats 1000000 in
theorem lineTrim_any (A : Option Addr) (c : Nat) (cs : List Cell) (s : Bool) (w : World) (ht : Tabs w) (ha : RdC w A c cs) (hn : cs.length ≤ 1000000) :
    Calls Tryd.prog 58 #[.agg #[.slice A cs.length c, .bool s]] w (LineEnd (trimOf cs s).1 (trimOf cs s).2.1 (trimOf cs s).2.2 w) := by
  have HT := Lib.hid ht
  have HA0 := Lib.hid ha
  clear ha ht
  cases hv : lineOk cs
  · have HO := Lib.hid (show trimOf cs s = ([], false, 2) by simp [trimOf, hv])
    have HV := Lib.hid hv
    clear hv
    go_enter Tryd.func58, Tryd.ntmps58
    go_wp2_with fail
    refine (lvalid_is HV.out _ _ _ _ ((HT.out.bel (belA _ _)).bel (belA _ _)) ((HA0.out.alloc _).alloc _) hn).mono ?_
    rintro e w1 ⟨rfl, hb⟩
    obtain ⟨k0, k1, hb1⟩ := box2 hb
    obtain ⟨hx0, hf0, hz0⟩ := k1.facts
    have K1 := Lib.hid k1
    have HB := Lib.hid hb1
    clear hb k0 k1 hb1
    go_wp2_with fail
    have HF := fin_line (w := w) (g := w.heap.size + 1) (v := .slice none 0 0) (l := []) false HB.out K1.out (by omega) (OwnC.nil w1 (w.heap.size + 2)) (by omega)
    refine bodyPost_ret (results_ct Tryd.results58 _ _ (w.heap.size + 1) _ _ rfl HF.1 Tryd.underlying59 rfl line_size) rfl ?_
    exact ⟨_, by rw [HO.out]; rfl, by rw [HO.out]; exact HF.2.1, HF.2.2⟩
  · have HO := Lib.hid (show trimOf cs s = (trimL cs, s, 0) by simp [trimOf, hv])
    rw [HO.out]
    have HV := Lib.hid hv
    clear hv HO
    go_enter Tryd.func58, Tryd.ntmps58
    go_wp2_with fail
    refine (lvalid_is HV.out _ _ _ _ ((HT.out.bel (belA _ _)).bel (belA _ _)) ((HA0.out.alloc _).alloc _) hn).mono ?_
    rintro e W ⟨rfl, hb⟩
    obtain ⟨k0, k1, hb1⟩ := box2 hb
    have K0 := Lib.hid k0
    have K1 := Lib.hid k1
    have HB := Lib.hid hb1
    have HZ := Lib.hid (show w.heap.size + 2 ≤ W.heap.size by have := k1.lt; omega)
    clear hb k0 k1 hb1
    go_wp2_with fail
    refine wp_region_one (by kernel_rfl) (by kernel_rfl) (by kernel_rfl) (fun b => b = w.heap.size + 1)
      [.val (.pointer (some ⟨w.heap.size, 0, none⟩)), .val (.slice A cs.length c), .val (.agg #[.slice A cs.length c, .bool s]), .val (.int .i64 (usedOf cs)), .val (.slice A (usedOf cs) c), .own (w.heap.size + 2) (trimL cs), .val (.pointer (some ⟨w.heap.size, 1, none⟩)), .val (.bool s), .line (w.heap.size + 2) (trimL cs) s, .val undef, .val (.int .i64 0)] 9
      (fun _ wz => ∃ v, Blk wz (w.heap.size + 1) 59 #[v, .bool s] ∧ OwnC wz (w.heap.size + 2) v (trimL cs))
      (fun wz => Blk wz (w.heap.size + 1) 59 #[.slice none 0 0, .bool false]) K1.out (fun _ _ h hb => h.bel hb) (fun _ _ _ ⟨v, h1, h2⟩ hb => ⟨v, h1.bel hb, h2.bel hb⟩) ?_ ?_
    · refine RSteps.cons (fun a w' hc hp hk => ?_) ?_
      · have e1 : a.tmps.getD 1 undef = (.pointer (some ⟨w.heap.size, 0, none⟩) : Value) := (rk_same hk 1 (by kernel_rfl)).trans rfl
        have f1 := gd e1
        exact ro_pure (v := .pointer (some ⟨w.heap.size, 0, none⟩)) (wanted_none rfl) (by simp [execOp, Act.eval, e1, f1, go_sem]) rfl (Below.refl _ _)
      refine RSteps.cons (fun a w' hc hp hk => ?_) ?_
      · have e8 : a.tmps.getD 8 undef = (.pointer (some ⟨w.heap.size, 0, none⟩) : Value) := (rk_at hk (e := ⟨0, .data⟩) (by simp) rfl rfl rfl)
        have f8 := gd e8
        have hx := (K0.out.chg hc (show ¬ w.heap.size = w.heap.size + 1 by omega)).cell
        exact ro_pure (v := .slice A cs.length c) (wanted_none rfl) (by simp [execOp, Act.eval, e8, f8, go_sem, hx]) rfl (Below.refl _ _)
      refine RSteps.cons (fun a w' hc hp hk => ?_) ?_
      · have e1 : a.tmps.getD 1 undef = (.pointer (some ⟨w.heap.size, 0, none⟩) : Value) := (rk_same hk 1 (by kernel_rfl)).trans rfl
        have f1 := gd e1
        have hx := (K0.out.chg hc (show ¬ w.heap.size = w.heap.size + 1 by omega)).cell
        exact ro_pure (v := .agg #[.slice A cs.length c, .bool s]) (wanted_none rfl) (by simp [execOp, Act.eval, e1, f1, go_sem, hx]) rfl (Below.refl _ _)
      refine RSteps.cons (fun a w' hc hp hk => ?_) ?_
      · have e10 : a.tmps.getD 10 undef = (.agg #[.slice A cs.length c, .bool s] : Value) := (rk_at hk (e := ⟨2, .data⟩) (by simp) rfl rfl rfl)
        have f10 := gd e10
        exact ro_call (wanted_none rfl) rfl (by simp only [List.map_toArray, List.map_cons, List.map_nil, Act.eval, e10]) (fun _ _ => by kernel_rfl) ((lineUsed_any A c cs s w' (HA0.out.chgNew (B := 0) ((Chg.of_below HB.out _).trans hc (fun _ _ h => h)) (fun b hb he => by omega)) hn).mono fun e w2 ⟨h1, h2⟩ => ⟨_, h1, rfl, h2⟩)
      refine RSteps.cons (fun a w' hc hp hk => ?_) ?_
      · have e9 : a.tmps.getD 9 undef = (.slice A cs.length c : Value) := (rk_at hk (e := ⟨1, .data⟩) (by simp) rfl rfl rfl)
        have f9 := gd e9
        have e11 : a.tmps.getD 11 undef = (.int .i64 (usedOf cs) : Value) := (rk_at hk (e := ⟨3, .data⟩) (by simp) rfl rfl rfl)
        have f11 := gd e11
        exact ro_pure (v := .slice A (usedOf cs) c) (wanted_none rfl) (by simp [execOp, Act.eval, e9, f9, e11, f11, go_sem, run_upto w' A cs.length c (usedOf cs) (usedOf_le cs) (HA0.out.chgNew (B := 0) ((Chg.of_below HB.out _).trans hc (fun _ _ h => h)) (fun b hb he => by omega)).1 (HA0.out.chgNew (B := 0) ((Chg.of_below HB.out _).trans hc (fun _ _ h => h)) (fun b hb he => by omega)).2.1 (by omega)]) rfl (Below.refl _ _)
      refine RSteps.cons (fun a w' hc hp hk => ?_) ?_
      · have e12 : a.tmps.getD 12 undef = (.slice A (usedOf cs) c : Value) := (rk_at hk (e := ⟨4, .data⟩) (by simp) rfl rfl rfl)
        have f12 := gd e12
        exact ro_call (wanted_none rfl) rfl (by simp only [List.map_toArray, List.map_cons, List.map_nil, Act.eval, e12]) (fun _ _ => by kernel_rfl) ((trim_clone _ _ _ _ (HA0.out.chgNew (B := 0) ((Chg.of_below HB.out _).trans hc (fun _ _ h => h)) (fun b hb he => by omega)) hn).mono fun e w2 ⟨v, h1, h2, h3⟩ => ⟨v, h1, ⟨h2.low (by have := hc.size; have := HZ.out; omega), fun b hb he => by have := own_from h2 b hb; have := hc.size; have := HZ.out; omega⟩, h3⟩)
      refine RSteps.cons (fun a w' hc hp hk => ?_) ?_
      · have e1 : a.tmps.getD 1 undef = (.pointer (some ⟨w.heap.size, 0, none⟩) : Value) := (rk_same hk 1 (by kernel_rfl)).trans rfl
        have f1 := gd e1
        exact ro_pure (v := .pointer (some ⟨w.heap.size, 1, none⟩)) (wanted_none rfl) (by simp [execOp, Act.eval, e1, f1, go_sem]) rfl (Below.refl _ _)
      refine RSteps.cons (fun a w' hc hp hk => ?_) ?_
      · have e14 : a.tmps.getD 14 undef = (.pointer (some ⟨w.heap.size, 1, none⟩) : Value) := (rk_at hk (e := ⟨6, .data⟩) (by simp) rfl rfl rfl)
        have f14 := gd e14
        have hx := (K0.out.chg hc (show ¬ w.heap.size = w.heap.size + 1 by omega)).cell
        exact ro_pure (v := .bool s) (wanted_none rfl) (by simp [execOp, Act.eval, e14, f14, go_sem, hx]) rfl (Below.refl _ _)
      refine RSteps.cons (fun a w' hc hp hk => ?_) ?_
      · have e15 : a.tmps.getD 15 undef = (.bool s : Value) := (rk_at hk (e := ⟨7, .data⟩) (by simp) rfl rfl rfl)
        have f15 := gd e15
        obtain ⟨hown, hnot⟩ : OwnC w' (w.heap.size + 2) (a.tmps.getD 13 undef) (trimL cs) ∧ ∀ b, ((a.tmps.getD 13 undef)).ownBlock = some b → ¬ b = w.heap.size + 1 := (rk_at hk (e := ⟨5, .data⟩) (by simp) rfl rfl rfl)
        generalize e13 : a.tmps.getD 13 undef = u at hown hnot
        obtain ⟨A9, c9, rfl, -⟩ := hown.form
        exact ro_pure (v := .agg #[.slice A9 (trimL cs).length c9, .bool s]) (wanted_none rfl) (by have f13 := gd e13; simp [execOp, Act.eval, f13, f15, go_sem]) ⟨_, rfl, hown, hnot⟩ (Below.refl _ _)
      refine RSteps.cons (fun a w' hc hp hk => ?_) ?_
      · have e2 : a.tmps.getD 2 undef = (.pointer (some ⟨w.heap.size + 1, 0, none⟩) : Value) := (rk_same hk 2 (by kernel_rfl)).trans rfl
        have f2 := gd e2
        obtain ⟨v, e16, hown, hnot⟩ : ∃ v, (a.tmps.getD 16 undef) = .agg #[v, .bool s] ∧ OwnC w' (w.heap.size + 2) v (trimL cs) ∧ ∀ b, v.ownBlock = some b → ¬ b = w.heap.size + 1 := (rk_at hk (e := ⟨8, .data⟩) (by simp) rfl rfl rfl)
        obtain ⟨A9, c9, rfl, -⟩ := hown.form
        have f16 := gd e16
        have hp' : Blk w' (w.heap.size + 1) 59 #[.slice none 0 0, .bool false] := hp
        obtain ⟨hx, hf, hz⟩ := hp'.facts
        refine rstep_store (w2 := setLine w' (w.heap.size + 1) (.slice A9 (trimL cs).length c9) s) (wanted_none rfl) rfl ?_ ⟨_, blk_setLine hp' _ _, own_chg hown (chg_setLine _ _ _ _) hnot⟩ (chg_setLine _ _ _ _)
        simp [execOp, Act.eval, e2, f2, e16, f16, go_sem, hx, hf, hz, setLine]
      refine RSteps.cons (fun a w' hc hp hk => ?_) ?_
      · exact ro_pure (v := .int .i64 0) (wanted_none rfl) (by simp [execOp, Act.eval, go_sem]) rfl (Below.refl _ _)
      exact RSteps.nil
    · intro vs wz hc hv h6
      obtain ⟨v, hblk, hown⟩ := h6 (by decide)
      have q10 : vs 10 = .int .i64 0 := hv 10 (by decide) (by decide)
      simp only [putL, Act.put, Nat.zero_add, Nat.reduceAdd, q10, List.setIfInBounds_toArray, List.set_cons_succ, List.set_cons_zero]
      go_wp2_with fail
      all_goals
        refine bodyPost_ret (results_ct Tryd.results58 _ _ (w.heap.size + 1) _ _ rfl hblk Tryd.underlying59 rfl line_size) rfl ?_
        exact ⟨_, rfl, hown.low (by omega), HB.out.trans (hc.below HB.out.size (fun k hk he => by omega))⟩
set_option maxRecDepth 100000 in
set_option maxHeartbeats 1000000 in
theorem r06Trim_any (A : Option Addr) (c : Nat) (cs : List Cell) (s : Bool) (w : World) (ha : RdC w A c cs) (hn : cs.length ≤ 1000000) :
    Calls Tryd.prog 59 #[.agg #[.slice A cs.length c, .bool s]] w (Line1End (trimL cs) s w) := by
  have HA0 := Lib.hid ha
  clear ha
  go_enter Tryd.func59, Tryd.ntmps59
  go_wp2_with fail
  have K0 := Lib.hid ((Blk.new w 59 #[.slice A cs.length c, .bool s]).alloc (.cells #[.slice none 0 0, .bool false] 59))
  have K1 := Lib.hid (show Blk ((w.alloc (.cells #[.slice A cs.length c, .bool s] 59)).alloc (.cells #[.slice none 0 0, .bool false] 59)) (w.heap.size + 1) 59 #[.slice none 0 0, .bool false] by have := Blk.new (w.alloc (.cells #[.slice A cs.length c, .bool s] 59)) 59 #[.slice none 0 0, .bool false]; simpa using this)
  have HB := Lib.hid (bel1 (belA (w.alloc (.cells #[.slice A cs.length c, .bool s] 59)) (.cells #[.slice none 0 0, .bool false] 59)))
  have HZ := Lib.hid (show w.heap.size + 2 ≤ ((w.alloc (.cells #[.slice A cs.length c, .bool s] 59)).alloc (.cells #[.slice none 0 0, .bool false] 59)).heap.size by simp)
  generalize (w.alloc (.cells #[.slice A cs.length c, .bool s] 59)).alloc (.cells #[.slice none 0 0, .bool false] 59) = W at K0 K1 HB HZ ⊢
  refine wp_region_one (by kernel_rfl) (by kernel_rfl) (by kernel_rfl) (fun b => b = w.heap.size + 1)
    [.val (.pointer (some ⟨w.heap.size, 0, none⟩)), .val (.slice A cs.length c), .val (.agg #[.slice A cs.length c, .bool s]), .val (.int .i64 (usedOf cs)), .val (.slice A (usedOf cs) c), .own (w.heap.size + 2) (trimL cs), .val (.pointer (some ⟨w.heap.size, 1, none⟩)), .val (.bool s), .line (w.heap.size + 2) (trimL cs) s, .val undef] 9
    (fun _ wz => ∃ v, Blk wz (w.heap.size + 1) 59 #[v, .bool s] ∧ OwnC wz (w.heap.size + 2) v (trimL cs))
    (fun wz => Blk wz (w.heap.size + 1) 59 #[.slice none 0 0, .bool false]) K1.out (fun _ _ h hb => h.bel hb) (fun _ _ _ ⟨v, h1, h2⟩ hb => ⟨v, h1.bel hb, h2.bel hb⟩) ?_ ?_
  · refine RSteps.cons (fun a w' hc hp hk => ?_) ?_
    · have e1 : a.tmps.getD 1 undef = (.pointer (some ⟨w.heap.size, 0, none⟩) : Value) := (rk_same hk 1 (by kernel_rfl)).trans rfl
      have f1 := gd e1
      exact ro_pure (v := .pointer (some ⟨w.heap.size, 0, none⟩)) (wanted_none rfl) (by simp [execOp, Act.eval, e1, f1, go_sem]) rfl (Below.refl _ _)
    refine RSteps.cons (fun a w' hc hp hk => ?_) ?_
    · have e3 : a.tmps.getD 3 undef = (.pointer (some ⟨w.heap.size, 0, none⟩) : Value) := (rk_at hk (e := ⟨0, .data⟩) (by simp) rfl rfl rfl)
      have f3 := gd e3
      have hx := (K0.out.chg hc (show ¬ w.heap.size = w.heap.size + 1 by omega)).cell
      exact ro_pure (v := .slice A cs.length c) (wanted_none rfl) (by simp [execOp, Act.eval, e3, f3, go_sem, hx]) rfl (Below.refl _ _)
    refine RSteps.cons (fun a w' hc hp hk => ?_) ?_
    · have e1 : a.tmps.getD 1 undef = (.pointer (some ⟨w.heap.size, 0, none⟩) : Value) := (rk_same hk 1 (by kernel_rfl)).trans rfl
      have f1 := gd e1
      have hx := (K0.out.chg hc (show ¬ w.heap.size = w.heap.size + 1 by omega)).cell
      exact ro_pure (v := .agg #[.slice A cs.length c, .bool s]) (wanted_none rfl) (by simp [execOp, Act.eval, e1, f1, go_sem, hx]) rfl (Below.refl _ _)
    refine RSteps.cons (fun a w' hc hp hk => ?_) ?_
    · have e5 : a.tmps.getD 5 undef = (.agg #[.slice A cs.length c, .bool s] : Value) := (rk_at hk (e := ⟨2, .data⟩) (by simp) rfl rfl rfl)
      have f5 := gd e5
      exact ro_call (wanted_none rfl) rfl (by simp only [List.map_toArray, List.map_cons, List.map_nil, Act.eval, e5]) (fun _ _ => by kernel_rfl) ((r06Used_any A c cs s w' (HA0.out.chgNew (B := 0) ((Chg.of_below HB.out _).trans hc (fun _ _ h => h)) (fun b hb he => by omega)) hn).mono fun e w2 ⟨h1, h2⟩ => ⟨_, h1, rfl, h2⟩)
    refine RSteps.cons (fun a w' hc hp hk => ?_) ?_
    · have e4 : a.tmps.getD 4 undef = (.slice A cs.length c : Value) := (rk_at hk (e := ⟨1, .data⟩) (by simp) rfl rfl rfl)
      have f4 := gd e4
      have e6 : a.tmps.getD 6 undef = (.int .i64 (usedOf cs) : Value) := (rk_at hk (e := ⟨3, .data⟩) (by simp) rfl rfl rfl)
      have f6 := gd e6
      exact ro_pure (v := .slice A (usedOf cs) c) (wanted_none rfl) (by simp [execOp, Act.eval, e4, f4, e6, f6, go_sem, run_upto w' A cs.length c (usedOf cs) (usedOf_le cs) (HA0.out.chgNew (B := 0) ((Chg.of_below HB.out _).trans hc (fun _ _ h => h)) (fun b hb he => by omega)).1 (HA0.out.chgNew (B := 0) ((Chg.of_below HB.out _).trans hc (fun _ _ h => h)) (fun b hb he => by omega)).2.1 (by omega)]) rfl (Below.refl _ _)
    refine RSteps.cons (fun a w' hc hp hk => ?_) ?_
    · have e7 : a.tmps.getD 7 undef = (.slice A (usedOf cs) c : Value) := (rk_at hk (e := ⟨4, .data⟩) (by simp) rfl rfl rfl)
      have f7 := gd e7
      exact ro_app (wanted_none rfl) _ _ rfl (w.heap.size + 2) (.slice none 0 0) [] rfl (OwnC.nil w' _) A c (trimL cs) (by rw [trim_length]; exact e7) ((HA0.out.chgNew (B := 0) ((Chg.of_below HB.out _).trans hc (fun _ _ h => h)) (fun b hb he => by omega)).upto _) (by have := trim_length cs; have := usedOf_le cs; simp; omega) (by have := hc.size; have := HZ.out; omega) (fun v' w2 hown hg hat => ⟨⟨by rw [List.nil_append] at hown; exact hown, fun b hb he => by have := own_from hown b hb; omega⟩, (Below.refl _ _).grown hg (Nat.le_refl _) (by simp [Value.ownBlock])⟩)
    refine RSteps.cons (fun a w' hc hp hk => ?_) ?_
    · have e1 : a.tmps.getD 1 undef = (.pointer (some ⟨w.heap.size, 0, none⟩) : Value) := (rk_same hk 1 (by kernel_rfl)).trans rfl
      have f1 := gd e1
      exact ro_pure (v := .pointer (some ⟨w.heap.size, 1, none⟩)) (wanted_none rfl) (by simp [execOp, Act.eval, e1, f1, go_sem]) rfl (Below.refl _ _)
    refine RSteps.cons (fun a w' hc hp hk => ?_) ?_
    · have e9 : a.tmps.getD 9 undef = (.pointer (some ⟨w.heap.size, 1, none⟩) : Value) := (rk_at hk (e := ⟨6, .data⟩) (by simp) rfl rfl rfl)
      have f9 := gd e9
      have hx := (K0.out.chg hc (show ¬ w.heap.size = w.heap.size + 1 by omega)).cell
      exact ro_pure (v := .bool s) (wanted_none rfl) (by simp [execOp, Act.eval, e9, f9, go_sem, hx]) rfl (Below.refl _ _)
    refine RSteps.cons (fun a w' hc hp hk => ?_) ?_
    · have e10 : a.tmps.getD 10 undef = (.bool s : Value) := (rk_at hk (e := ⟨7, .data⟩) (by simp) rfl rfl rfl)
      have f10 := gd e10
      obtain ⟨hown, hnot⟩ : OwnC w' (w.heap.size + 2) (a.tmps.getD 8 undef) (trimL cs) ∧ ∀ b, ((a.tmps.getD 8 undef)).ownBlock = some b → ¬ b = w.heap.size + 1 := (rk_at hk (e := ⟨5, .data⟩) (by simp) rfl rfl rfl)
      generalize e8 : a.tmps.getD 8 undef = u at hown hnot
      obtain ⟨A9, c9, rfl, -⟩ := hown.form
      exact ro_pure (v := .agg #[.slice A9 (trimL cs).length c9, .bool s]) (wanted_none rfl) (by have f8 := gd e8; simp [execOp, Act.eval, f8, f10, go_sem]) ⟨_, rfl, hown, hnot⟩ (Below.refl _ _)
    refine RSteps.cons (fun a w' hc hp hk => ?_) ?_
    · have e2 : a.tmps.getD 2 undef = (.pointer (some ⟨w.heap.size + 1, 0, none⟩) : Value) := (rk_same hk 2 (by kernel_rfl)).trans rfl
      have f2 := gd e2
      obtain ⟨v, e11, hown, hnot⟩ : ∃ v, (a.tmps.getD 11 undef) = .agg #[v, .bool s] ∧ OwnC w' (w.heap.size + 2) v (trimL cs) ∧ ∀ b, v.ownBlock = some b → ¬ b = w.heap.size + 1 := (rk_at hk (e := ⟨8, .data⟩) (by simp) rfl rfl rfl)
      obtain ⟨A9, c9, rfl, -⟩ := hown.form
      have f11 := gd e11
      have hp' : Blk w' (w.heap.size + 1) 59 #[.slice none 0 0, .bool false] := hp
      obtain ⟨hx, hf, hz⟩ := hp'.facts
      refine rstep_store (w2 := setLine w' (w.heap.size + 1) (.slice A9 (trimL cs).length c9) s) (wanted_none rfl) rfl ?_ ⟨_, blk_setLine hp' _ _, own_chg hown (chg_setLine _ _ _ _) hnot⟩ (chg_setLine _ _ _ _)
      simp [execOp, Act.eval, e2, f2, e11, f11, go_sem, hx, hf, hz, setLine]
    exact RSteps.nil
  · intro vs wz hc hv h6
    obtain ⟨v, hblk, hown⟩ := h6 (by decide)
    simp only [putL, Act.put, List.setIfInBounds_toArray, List.set_cons_succ, List.set_cons_zero]
    go_wp2_with fail
    all_goals
      refine bodyPost_ret (results_c1 Tryd.results59 _ _ (w.heap.size + 1) _ _ rfl hblk Tryd.underlying59 rfl line_size) rfl ?_
      exact ⟨_, rfl, hown.low (by omega), HB.out.trans (hc.below HB.out.size (fun k hk he => by omega))⟩
end Go.Proofs.YtmfhepjmmpnkaaaDoor
