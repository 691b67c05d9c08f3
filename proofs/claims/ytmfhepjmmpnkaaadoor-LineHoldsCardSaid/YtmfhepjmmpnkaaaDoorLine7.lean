/-
  line.Put.
-/
import Derived.Test.YtmfhepjmmpnkaaaDoorCat
set_option linter.unusedSimpArgs false
set_option linter.unusedVariables false
namespace Go.Proofs.YtmfhepjmmpnkaaaDoor
open Go.RowKit

/-- Where a slice stands from element k on. -/
def tailA (A : Option Addr) (c k : Nat) : Option Addr := if c = k then A else A.map (·.add (k * 16))
theorem run_from (w : World) (A : Option Addr) (n c k : Nat) (hk : k ≤ n) (hc : n ≤ c) (hA : A = none → c = 0) (h63 : n ≤ 9223372036854775807) : (Instr.slice 43 (.slice A n c) (some (.int .i64 k)) none none).run Tryd.prog w = .ok (.slice (tailA A c k) (n - k) (c - k)) w := by
  cases A with
  | none =>
    obtain rfl := hA rfl
    obtain rfl : n = 0 := by omega
    obtain rfl : k = 0 := by omega
    simp [go_sem, tailA]
  | some ad => simp [go_sem, hk, tailA]
theorem RdC.from {w : World} {A : Option Addr} {c : Nat} {cs : List Cell} (h : RdC w A c cs) (k : Nat) (hk : k ≤ cs.length) : RdC w (tailA A c k) (c - k) (cs.drop k) := by
  refine ⟨by have := h.1; simp; omega, fun e => ?_, fun hn => ?_⟩
  · unfold tailA at e
    split at e
    · omega
    · have : A = none := by cases A with
        | none => rfl
        | some ad => cases e
      have := h.2.1 this
      omega
  · simp at hn
    obtain ⟨b, off, e, hlt, hr⟩ := h.2.2 (by omega)
    subst e
    unfold tailA
    rw [if_neg (by have := h.1; omega)]
    exact ⟨b, off + k * 16, by simp [add_at], hlt, RdC.drop hr k⟩
theorem fix_drop (A : Option Addr) (c : Nat) (cs : List Cell) (k : Nat) (w : World) (ha : RdC w A c cs) (hn : cs.length ≤ 100000) (hk : k ≤ cs.length) : Calls Tryd.prog 26 #[.slice (tailA A c k) (cs.length - k) (c - k)] w (OwnEnd (fixL (cs.drop k)) w) := by
  have := cellFix_any (tailA A c k) (c - k) (cs.drop k) w (ha.from k hk) (by simp; omega)
  rw [show (cs.drop k).length = cs.length - k by simp] at this
  exact this
theorem RdC.chgP {S : Nat → Prop} {w w' : World} {A : Option Addr} {c : Nat} {cs : List Cell} (h : RdC w A c cs) (hb : Chg S w w') (hA : 0 < cs.length → ∀ ad, A = some ad → ¬ S ad.block) : RdC w' A c cs := ⟨h.1, h.2.1, fun hn => by
  obtain ⟨b, off, e, hlt, hr⟩ := h.2.2 hn
  exact ⟨b, off, e, by have := hb.size; omega, (rangeAt_same (fun i => hb.cell (p := ⟨b, i, none⟩) hlt (show ¬ S b from hA hn ⟨b, off, none⟩ e))).2 hr⟩⟩
/-- A slice of three slices of cells. -/
def Sq.three {S : Nat → Prop} (l0 l1 l2 : List Cell) : Sq S :=
  ⟨fun u w => ∃ b A0 c0 A1 c1 A2 c2, u = .slice (some ⟨b, 0, none⟩) 3 3 ∧ Blk w b 43 #[.slice A0 l0.length c0, .slice A1 l1.length c1, .slice A2 l2.length c2] ∧ (¬ S b) ∧ RdC w A0 c0 l0 ∧ (0 < l0.length → ∀ ad, A0 = some ad → ¬ S ad.block) ∧ RdC w A1 c1 l1 ∧ (0 < l1.length → ∀ ad, A1 = some ad → ¬ S ad.block) ∧ RdC w A2 c2 l2 ∧ (0 < l2.length → ∀ ad, A2 = some ad → ¬ S ad.block),
    fun _ _ _ ⟨b, A0, c0, A1, c1, A2, c2, h1, h2, h3, h4, h5, h6, h7, h8, h9⟩ hb => ⟨b, A0, c0, A1, c1, A2, c2, h1, h2.chg hb h3, h3, h4.chgP hb h5, h5, h6.chgP hb h7, h7, h8.chgP hb h9, h9⟩⟩
theorem run_bsC3 (A0 A1 A2 : Option Addr) (n0 c0 n1 c1 n2 c2 : Nat) (w : World) : (Instr.buildSlice 111 3 #[(0, .slice A0 n0 c0), (1, .slice A1 n1 c1), (2, .slice A2 n2 c2)]).run Tryd.prog w = .ok (.slice (some ⟨w.heap.size, 0, none⟩) 3 3) (w.alloc (.cells #[.slice A0 n0 c0, .slice A1 n1 c1, .slice A2 n2 c2] 43)) := by kernel_rfl
def putOf (at_ : Int) (ds cs : List Cell) (s : Bool) : List Cell × Bool × Int :=
  if lineOk cs = true ∧ rowOk ds = true then (if 0 ≤ at_ ∧ at_ + ds.length ≤ cs.length then (putAt at_.toNat ds cs, s, 0) else ([], false, 3)) else ([], false, 2)
theorem prow_is {cs : List Cell} {x : Bool} (h : rowOk cs = x) (A : Option Addr) (c : Nat) (w : World) (ht : Tabs w) (ha : RdC w A c cs) (hn : cs.length ≤ 1000000) :
    Calls Tryd.prog 22 #[.slice A cs.length c] w fun e w' => e = .returned (.bool x) ∧ Below w.heap.size w w' := h ▸ cellRow_any A c cs w ht ha hn
set_option maxRecDepth 100000 in
set_option maxHeartbeats 2000000 in
theorem linePut_yes (A : Option Addr) (c : Nat) (cs : List Cell) (s : Bool) (at_ : Nat) (A2 : Option Addr) (c2 : Nat) (ds : List Cell) (w : World) (ht : Tabs w) (ha : RdC w A c cs) (hd : RdC w A2 c2 ds) (hn : cs.length ≤ 1000) (hn2 : ds.length ≤ 1000) (hv : lineOk cs = true) (hr : rowOk ds = true) (hat : at_ + ds.length ≤ cs.length) :
    Calls Tryd.prog 63 #[.agg #[.slice A cs.length c, .bool s], .int .i64 at_, .slice A2 ds.length c2] w (LineEnd (putAt at_ ds cs) s 0 w) := by
  have HT := Lib.hid ht
  have HA0 := Lib.hid ha
  have HD0 := Lib.hid hd
  have HV := Lib.hid hv
  have HR := Lib.hid hr
  clear ha ht hv hd hr
  go_enter Tryd.func63, Tryd.ntmps63
  go_wp2_with fail
  refine (lvalid_is HV.out _ _ _ _ ((HT.out.bel (belA _ _)).bel (belA _ _)) ((HA0.out.alloc _).alloc _) (by omega)).mono ?_
  rintro e W1 ⟨rfl, hb⟩
  obtain ⟨k0, k1, hb1⟩ := box2 hb
  have K01 := Lib.hid k0
  have K11 := Lib.hid k1
  have HB1 := Lib.hid hb1
  clear hb k0 k1 hb1
  go_wp2_with fail
  refine (prow_is HR.out _ _ _ (HT.out.bel HB1.out) (HD0.out.bel HB1.out) (by omega)).mono ?_
  rintro e W ⟨rfl, hb⟩
  have K0 := Lib.hid (K01.out.bel hb)
  have K1 := Lib.hid (K11.out.bel hb)
  have HB := Lib.hid (HB1.out.trans (hb.mono HB1.out.size))
  have HZ := Lib.hid (show w.heap.size + 2 ≤ W.heap.size by have := K1.out.lt; omega)
  obtain ⟨hx0, hf0, hz0⟩ := K0.out.facts
  have hru := fun w' => run_from w' A cs.length c (at_ + ds.length) hat HA0.out.1 HA0.out.2.1 (by omega)
  clear hb K01 K11 HB1
  go_upto_region 6 with (fail)
  clear hx0 hf0 hz0 hru
  refine wp_region_one (by kernel_rfl) (by kernel_rfl) (by kernel_rfl) (fun b => b = w.heap.size + 1)
    [.val (.pointer (some ⟨w.heap.size, 0, none⟩)), .val (.slice A cs.length c), .val (.int .i64 at_), .val (.slice A at_ c), .own (w.heap.size + 2) (fixL (cs.take at_)), .val (.slice A2 ds.length c2), .val (.slice (tailA A c (at_ + ds.length)) (cs.length - (at_ + ds.length)) (c - (at_ + ds.length))), .own (w.heap.size + 2) (fixL (cs.drop (at_ + ds.length))), .three (fixL (cs.take at_)) ds (fixL (cs.drop (at_ + ds.length))), .own (w.heap.size + 2) (putAt at_ ds cs), .val (.pointer (some ⟨w.heap.size, 1, none⟩)), .val (.bool s), .line (w.heap.size + 2) (putAt at_ ds cs) s, .val undef, .val (.int .i64 0)] 13
    (fun _ wz => ∃ v, Blk wz (w.heap.size + 1) 59 #[v, .bool s] ∧ OwnC wz (w.heap.size + 2) v (putAt at_ ds cs))
    (fun wz => Blk wz (w.heap.size + 1) 59 #[.slice none 0 0, .bool false]) K1.out (fun _ _ h hb => h.bel hb) (fun _ _ _ ⟨v, h1, h2⟩ hb => ⟨v, h1.bel hb, h2.bel hb⟩) ?_ ?_
  · refine RSteps.cons (fun a w' hc hp hk => ?_) ?_
    · have e3 : a.tmps.getD 3 undef = (.pointer (some ⟨w.heap.size, 0, none⟩) : Value) := (rk_same hk 3 (by kernel_rfl)).trans rfl
      have f3 := gd e3
      exact ro_pure (v := .pointer (some ⟨w.heap.size, 0, none⟩)) (wanted_none rfl) (by simp [execOp, Act.eval, e3, f3, go_sem]) rfl (Below.refl _ _)
    refine RSteps.cons (fun a w' hc hp hk => ?_) ?_
    · have e47 : a.tmps.getD 47 undef = (.pointer (some ⟨w.heap.size, 0, none⟩) : Value) := (rk_at hk (e := ⟨0, .data⟩) (by simp) rfl rfl rfl)
      have f47 := gd e47
      have hx := (K0.out.chg hc (show ¬ w.heap.size = w.heap.size + 1 by omega)).cell
      exact ro_pure (v := .slice A cs.length c) (wanted_none rfl) (by simp [execOp, Act.eval, e47, f47, go_sem, hx]) rfl (Below.refl _ _)
    refine RSteps.cons (fun a w' hc hp hk => ?_) ?_
    · have e1 : a.tmps.getD 1 undef = (.int .i64 at_ : Value) := (rk_same hk 1 (by kernel_rfl)).trans rfl
      have f1 := gd e1
      exact ro_pure (v := .int .i64 at_) (wanted_none rfl) (by simp [execOp, Act.eval, e1, f1, go_sem]) rfl (Below.refl _ _)
    refine RSteps.cons (fun a w' hc hp hk => ?_) ?_
    · have e48 : a.tmps.getD 48 undef = (.slice A cs.length c : Value) := (rk_at hk (e := ⟨1, .data⟩) (by simp) rfl rfl rfl)
      have f48 := gd e48
      have e49 : a.tmps.getD 49 undef = (.int .i64 at_ : Value) := (rk_at hk (e := ⟨2, .data⟩) (by simp) rfl rfl rfl)
      have f49 := gd e49
      exact ro_pure (v := .slice A at_ c) (wanted_none rfl) (by simp [execOp, Act.eval, e48, f48, e49, f49, go_sem, run_upto w' A cs.length c at_ (by omega) (HA0.out.chgNew (B := 0) ((Chg.of_below HB.out _).trans hc (fun _ _ h => h)) (fun b hb he => by omega)).1 (HA0.out.chgNew (B := 0) ((Chg.of_below HB.out _).trans hc (fun _ _ h => h)) (fun b hb he => by omega)).2.1 (by omega)]) rfl (Below.refl _ _)
    refine RSteps.cons (fun a w' hc hp hk => ?_) ?_
    · have e50 : a.tmps.getD 50 undef = (.slice A at_ c : Value) := (rk_at hk (e := ⟨3, .data⟩) (by simp) rfl rfl rfl)
      have f50 := gd e50
      exact ro_call (wanted_none rfl) rfl (by simp only [List.map_toArray, List.map_cons, List.map_nil, Act.eval, e50]) (fun _ _ => by kernel_rfl) ((fix_take A c cs at_ w' (HA0.out.chgNew (B := 0) ((Chg.of_below HB.out _).trans hc (fun _ _ h => h)) (fun b hb he => by omega)) (by omega) (by omega)).mono fun e w2 ⟨v, h1, h2, h3⟩ => ⟨v, h1, ⟨h2.low (by have := hc.size; have := HZ.out; omega), fun b hb he => by have := own_from h2 b hb; have := hc.size; have := HZ.out; omega⟩, h3⟩)
    refine RSteps.cons (fun a w' hc hp hk => ?_) ?_
    · have e2 : a.tmps.getD 2 undef = (.slice A2 ds.length c2 : Value) := (rk_same hk 2 (by kernel_rfl)).trans rfl
      have f2 := gd e2
      exact ro_pure (v := .slice A2 ds.length c2) (wanted_none rfl) (by simp [execOp, Act.eval, e2, f2, go_sem]) rfl (Below.refl _ _)
    refine RSteps.cons (fun a w' hc hp hk => ?_) ?_
    · have e8 : a.tmps.getD 8 undef = (.slice (tailA A c (at_ + ds.length)) (cs.length - (at_ + ds.length)) (c - (at_ + ds.length)) : Value) := (rk_same hk 8 (by kernel_rfl)).trans rfl
      have f8 := gd e8
      exact ro_pure (v := .slice (tailA A c (at_ + ds.length)) (cs.length - (at_ + ds.length)) (c - (at_ + ds.length))) (wanted_none rfl) (by simp [execOp, Act.eval, e8, f8, go_sem]) rfl (Below.refl _ _)
    refine RSteps.cons (fun a w' hc hp hk => ?_) ?_
    · have e53 : a.tmps.getD 53 undef = (.slice (tailA A c (at_ + ds.length)) (cs.length - (at_ + ds.length)) (c - (at_ + ds.length)) : Value) := (rk_at hk (e := ⟨6, .data⟩) (by simp) rfl rfl rfl)
      have f53 := gd e53
      exact ro_call (wanted_none rfl) rfl (by simp only [List.map_toArray, List.map_cons, List.map_nil, Act.eval, e53]) (fun _ _ => by kernel_rfl) ((fix_drop A c cs (at_ + ds.length) w' (HA0.out.chgNew (B := 0) ((Chg.of_below HB.out _).trans hc (fun _ _ h => h)) (fun b hb he => by omega)) (by omega) (by omega)).mono fun e w2 ⟨v, h1, h2, h3⟩ => ⟨v, h1, ⟨h2.low (by have := hc.size; have := HZ.out; omega), fun b hb he => by have := own_from h2 b hb; have := hc.size; have := HZ.out; omega⟩, h3⟩)
    refine RSteps.cons (fun a w' hc hp hk => ?_) ?_
    · have e52 : a.tmps.getD 52 undef = (.slice A2 ds.length c2 : Value) := (rk_at hk (e := ⟨5, .data⟩) (by simp) rfl rfl rfl)
      have f52 := gd e52
      obtain ⟨h51, n51⟩ : OwnC w' (w.heap.size + 2) (a.tmps.getD 51 undef) (fixL (cs.take at_)) ∧ ∀ b, ((a.tmps.getD 51 undef)).ownBlock = some b → ¬ b = w.heap.size + 1 := (rk_at hk (e := ⟨4, .data⟩) (by simp) rfl rfl rfl)
      obtain ⟨h54, n54⟩ : OwnC w' (w.heap.size + 2) (a.tmps.getD 54 undef) (fixL (cs.drop (at_ + ds.length))) ∧ ∀ b, ((a.tmps.getD 54 undef)).ownBlock = some b → ¬ b = w.heap.size + 1 := (rk_at hk (e := ⟨7, .data⟩) (by simp) rfl rfl rfl)
      generalize e51 : a.tmps.getD 51 undef = u51 at h51 n51
      generalize e54 : a.tmps.getD 54 undef = u54 at h54 n54
      obtain ⟨A0, c0, rfl, r0⟩ := h51.form
      obtain ⟨A4, c4, rfl, r4⟩ := h54.form
      have f51 := gd e51
      have f54 := gd e54
      refine rstep_value (v := .slice (some ⟨w'.heap.size, 0, none⟩) 3 3) (w2 := w'.alloc (.cells #[.slice A0 (fixL (cs.take at_)).length c0, .slice A2 ds.length c2, .slice A4 (fixL (cs.drop (at_ + ds.length))).length c4] 43)) (wanted_none rfl) ?_ ⟨_, _, _, _, _, _, _, rfl, Blk.new _ _ _, (by have := hc.size; have := HZ.out; show ¬ w'.heap.size = w.heap.size + 1; omega), r0.alloc _, (fun _ ad he => n51 ad.block (by rw [he]; rfl)), (HD0.out.chgNew (B := 0) ((Chg.of_below HB.out _).trans hc (fun _ _ h => h)) (fun b hb he => by omega)).alloc _, (fun hp ad he => by have := HD0.out.old hp ad he; show ¬ ad.block = w.heap.size + 1; omega), r4.alloc _, (fun _ ad he => n54 ad.block (by rw [he]; rfl))⟩ (belA _ _)
      simp [execOp, Act.eval, f51, e52, f52, f54, go_sem, run_bsC3]
    refine RSteps.cons (fun a w' hc hp hk => ?_) ?_
    · obtain ⟨b, A0, c0, A1, c1, A3, c3, e55, hb, -, r0, -, r1, -, r3, -⟩ : ∃ b A0 c0 A1 c1 A2 c2, (a.tmps.getD 55 undef) = .slice (some ⟨b, 0, none⟩) 3 3 ∧ Blk w' b 43 #[.slice A0 (fixL (cs.take at_)).length c0, .slice A1 ds.length c1, .slice A2 (fixL (cs.drop (at_ + ds.length))).length c2] ∧ (¬ b = w.heap.size + 1) ∧ RdC w' A0 c0 (fixL (cs.take at_)) ∧ (0 < (fixL (cs.take at_)).length → ∀ ad, A0 = some ad → ¬ ad.block = w.heap.size + 1) ∧ RdC w' A1 c1 ds ∧ (0 < ds.length → ∀ ad, A1 = some ad → ¬ ad.block = w.heap.size + 1) ∧ RdC w' A2 c2 (fixL (cs.drop (at_ + ds.length))) ∧ (0 < (fixL (cs.drop (at_ + ds.length))).length → ∀ ad, A2 = some ad → ¬ ad.block = w.heap.size + 1) := (rk_at hk (e := ⟨8, .data⟩) (by simp) rfl rfl rfl)
      exact ro_call (wanted_none rfl) rfl (by simp only [List.map_toArray, List.map_cons, List.map_nil, Act.eval, e55]) (fun _ _ => by kernel_rfl) ((concat3 b A0 A1 A3 c0 c1 c3 _ _ _ w' hb r0 r1 r3 (by rw [fixL_length]; simp; omega) (by omega) (by rw [fixL_length]; simp; omega)).mono fun e w2 ⟨v, h1, h2, h3⟩ => ⟨v, h1, ⟨h2.low (by have := hc.size; have := HZ.out; omega), fun b hb he => by have := own_from h2 b hb; have := hc.size; have := HZ.out; omega⟩, h3⟩)
    refine RSteps.cons (fun a w' hc hp hk => ?_) ?_
    · have e3 : a.tmps.getD 3 undef = (.pointer (some ⟨w.heap.size, 0, none⟩) : Value) := (rk_same hk 3 (by kernel_rfl)).trans rfl
      have f3 := gd e3
      exact ro_pure (v := .pointer (some ⟨w.heap.size, 1, none⟩)) (wanted_none rfl) (by simp [execOp, Act.eval, e3, f3, go_sem]) rfl (Below.refl _ _)
    refine RSteps.cons (fun a w' hc hp hk => ?_) ?_
    · have e57 : a.tmps.getD 57 undef = (.pointer (some ⟨w.heap.size, 1, none⟩) : Value) := (rk_at hk (e := ⟨10, .data⟩) (by simp) rfl rfl rfl)
      have f57 := gd e57
      have hx := (K0.out.chg hc (show ¬ w.heap.size = w.heap.size + 1 by omega)).cell
      exact ro_pure (v := .bool s) (wanted_none rfl) (by simp [execOp, Act.eval, e57, f57, go_sem, hx]) rfl (Below.refl _ _)
    refine RSteps.cons (fun a w' hc hp hk => ?_) ?_
    · have e58 : a.tmps.getD 58 undef = (.bool s : Value) := (rk_at hk (e := ⟨11, .data⟩) (by simp) rfl rfl rfl)
      have f58 := gd e58
      obtain ⟨hown, hnot⟩ : OwnC w' (w.heap.size + 2) (a.tmps.getD 56 undef) (putAt at_ ds cs) ∧ ∀ b, ((a.tmps.getD 56 undef)).ownBlock = some b → ¬ b = w.heap.size + 1 := (rk_at hk (e := ⟨9, .data⟩) (by simp) rfl rfl rfl)
      generalize e56 : a.tmps.getD 56 undef = u at hown hnot
      obtain ⟨A9, c9, rfl, -⟩ := hown.form
      exact ro_pure (v := .agg #[.slice A9 (putAt at_ ds cs).length c9, .bool s]) (wanted_none rfl) (by have f56 := gd e56; simp [execOp, Act.eval, f56, f58, go_sem]) ⟨_, rfl, hown, hnot⟩ (Below.refl _ _)
    refine RSteps.cons (fun a w' hc hp hk => ?_) ?_
    · have e6 : a.tmps.getD 6 undef = (.pointer (some ⟨w.heap.size + 1, 0, none⟩) : Value) := (rk_same hk 6 (by kernel_rfl)).trans rfl
      have f6 := gd e6
      obtain ⟨v, e59, hown, hnot⟩ : ∃ v, (a.tmps.getD 59 undef) = .agg #[v, .bool s] ∧ OwnC w' (w.heap.size + 2) v (putAt at_ ds cs) ∧ ∀ b, v.ownBlock = some b → ¬ b = w.heap.size + 1 := (rk_at hk (e := ⟨12, .data⟩) (by simp) rfl rfl rfl)
      obtain ⟨A9, c9, rfl, -⟩ := hown.form
      have f59 := gd e59
      have hp' : Blk w' (w.heap.size + 1) 59 #[.slice none 0 0, .bool false] := hp
      obtain ⟨hx, hf, hz⟩ := hp'.facts
      refine rstep_store (w2 := setLine w' (w.heap.size + 1) (.slice A9 (putAt at_ ds cs).length c9) s) (wanted_none rfl) rfl ?_ ⟨_, blk_setLine hp' _ _, own_chg hown (chg_setLine _ _ _ _) hnot⟩ (chg_setLine _ _ _ _)
      simp [execOp, Act.eval, e6, f6, e59, f59, go_sem, hx, hf, hz, setLine]
    refine RSteps.cons (fun a w' hc hp hk => ?_) ?_
    · exact ro_pure (v := .int .i64 0) (wanted_none rfl) (by simp [execOp, Act.eval, go_sem]) rfl (Below.refl _ _)
    exact RSteps.nil
  · intro vs wz hc hv h6
    obtain ⟨v, hblk, hown⟩ := h6 (by decide)
    have q14 : vs 14 = .int .i64 0 := hv 14 (by decide) (by decide)
    simp only [putL, Act.put, Nat.zero_add, Nat.reduceAdd, q14, List.setIfInBounds_toArray, List.set_cons_succ, List.set_cons_zero]
    go_wp2_with fail
    all_goals
      refine bodyPost_ret (results_ct Tryd.results63 _ _ (w.heap.size + 1) _ _ rfl hblk Tryd.underlying59 rfl line_size) rfl ?_
      exact ⟨_, rfl, hown.low (by omega), HB.out.trans (hc.below HB.out.size (fun k hk he => by omega))⟩
set_option maxRecDepth 100000 in
set_option maxHeartbeats 2000000 in
theorem linePut_no (A : Option Addr) (c : Nat) (cs : List Cell) (s : Bool) (at_ : Int) (hbd : -9223372036854775808 ≤ at_ ∧ at_ ≤ 9223372036854775807) (A2 : Option Addr) (c2 : Nat) (ds : List Cell) (w : World) (ht : Tabs w) (ha : RdC w A c cs) (hd : RdC w A2 c2 ds) (hn : cs.length ≤ 1000) (hn2 : ds.length ≤ 1000) (n : Int)
    (hor : (lineOk cs = false ∧ n = 2) ∨ (lineOk cs = true ∧ rowOk ds = false ∧ n = 2) ∨ (lineOk cs = true ∧ rowOk ds = true ∧ n = 3 ∧ ¬ (0 ≤ at_ ∧ at_ + ds.length ≤ cs.length))) :
    Calls Tryd.prog 63 #[.agg #[.slice A cs.length c, .bool s], .int .i64 at_, .slice A2 ds.length c2] w (LineEnd [] false n w) := by
  have HT := Lib.hid ht
  have HA0 := Lib.hid ha
  have HD0 := Lib.hid hd
  clear ha ht hd
  rcases hor with ⟨hv, rfl⟩ | ⟨hv, hr, rfl⟩ | ⟨hv, hr, rfl, hat⟩
  · have HV := Lib.hid hv
    clear hv
    go_enter Tryd.func63, Tryd.ntmps63
    go_wp2_with fail
    refine (lvalid_is HV.out _ _ _ _ ((HT.out.bel (belA _ _)).bel (belA _ _)) ((HA0.out.alloc _).alloc _) (by omega)).mono ?_
    rintro e W1 ⟨rfl, hb⟩
    obtain ⟨k0, k1, hb1⟩ := box2 hb
    have K11 := Lib.hid k1
    have HB1 := Lib.hid hb1
    obtain ⟨hx0, hf0, hz0⟩ := k1.facts
    clear hb k0 k1 hb1
    go_wp2_with fail
    have HF := fin_line (w := w) (g := w.heap.size + 1) (v := .slice none 0 0) (l := []) false HB1.out K11.out (by omega) (OwnC.nil W1 (w.heap.size + 2)) (by omega)
    refine bodyPost_ret (results_ct Tryd.results63 _ _ (w.heap.size + 1) _ _ rfl HF.1 Tryd.underlying59 rfl line_size) rfl ?_
    exact ⟨_, rfl, HF.2⟩
  all_goals
    have HV := Lib.hid hv
    have HR := Lib.hid hr
    clear hv hr
  case' inr.inr =>
    have hat' : at_ < 0 ∨ (0 ≤ at_ ∧ cs.length < at_) ∨ (0 ≤ at_ ∧ at_ ≤ cs.length ∧ (cs.length : Int) - at_ < ds.length) := by omega
    clear hat
    rcases hat' with h1 | ⟨h1, h2⟩ | ⟨h1, h2, h3⟩
  all_goals
    go_enter Tryd.func63, Tryd.ntmps63
    go_wp2_with fail
    refine (lvalid_is HV.out _ _ _ _ ((HT.out.bel (belA _ _)).bel (belA _ _)) ((HA0.out.alloc _).alloc _) (by omega)).mono ?_
    rintro e W1 ⟨rfl, hb⟩
    obtain ⟨k0, k1, hb1⟩ := box2 hb
    have K01 := Lib.hid k0
    have K11 := Lib.hid k1
    have HB1 := Lib.hid hb1
    clear hb k0 k1 hb1
    go_wp2_with fail
    refine (prow_is HR.out _ _ _ (HT.out.bel HB1.out) (HD0.out.bel HB1.out) (by omega)).mono ?_
    rintro e W ⟨rfl, hb⟩
    have K0 := Lib.hid (K01.out.bel hb)
    have K1 := Lib.hid (K11.out.bel hb)
    have HB := Lib.hid (HB1.out.trans (hb.mono HB1.out.size))
    obtain ⟨hx0, hf0, hz0⟩ := K0.out.facts
    obtain ⟨hx1, hf1, hz1⟩ := K1.out.facts
    clear hb K01 K11 HB1
    go_wp2_with fail
    have HF := fin_line (w := w) (g := w.heap.size + 1) (v := .slice none 0 0) (l := []) false HB.out K1.out (by omega) (OwnC.nil W (w.heap.size + 2)) (by omega)
    refine bodyPost_ret (results_ct Tryd.results63 _ _ (w.heap.size + 1) _ _ rfl HF.1 Tryd.underlying59 rfl line_size) rfl ?_
    exact ⟨_, rfl, HF.2⟩
theorem linePut_any (A : Option Addr) (c : Nat) (cs : List Cell) (s : Bool) (at_ : Int) (hbd : -9223372036854775808 ≤ at_ ∧ at_ ≤ 9223372036854775807) (A2 : Option Addr) (c2 : Nat) (ds : List Cell) (w : World) (ht : Tabs w) (ha : RdC w A c cs) (hd : RdC w A2 c2 ds) (hn : cs.length ≤ 1000) (hn2 : ds.length ≤ 1000) :
    Calls Tryd.prog 63 #[.agg #[.slice A cs.length c, .bool s], .int .i64 at_, .slice A2 ds.length c2] w (LineEnd (putOf at_ ds cs s).1 (putOf at_ ds cs s).2.1 (putOf at_ ds cs s).2.2 w) := by
  unfold putOf
  cases hv : lineOk cs
  · exact linePut_no A c cs s at_ hbd A2 c2 ds w ht ha hd hn hn2 2 (.inl ⟨hv, rfl⟩)
  cases hr : rowOk ds
  · exact linePut_no A c cs s at_ hbd A2 c2 ds w ht ha hd hn hn2 2 (.inr (.inl ⟨hv, hr, rfl⟩))
  rw [if_pos ⟨rfl, rfl⟩]
  split
  · rename_i h
    obtain ⟨k, rfl⟩ := Int.eq_ofNat_of_zero_le h.1
    exact linePut_yes A c cs s k A2 c2 ds w ht ha hd hn hn2 hv hr (by omega)
  · rename_i h
    exact linePut_no A c cs s at_ hbd A2 c2 ds w ht ha hd hn hn2 3 (.inr (.inr ⟨hv, hr, rfl, h⟩))
end Go.Proofs.YtmfhepjmmpnkaaaDoor
