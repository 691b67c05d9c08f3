/-
  cell.Mark and the reference's: a cell with one more mark, or an error.
-/
import Derived.Test.YtmfhepjmmpnkaaaDoorCell2
set_option linter.unusedSimpArgs false
set_option linter.unusedVariables false
namespace Go.Proofs.YtmfhepjmmpnkaaaDoor
open Go.RowKit

def markOf (c : Cell) (r : Int) : Cell × Int :=
  if c.ok = false ∨ ¬ wOf r = 0 then (cell0, 2) else if c.rune = 0 then (cell0, 8) else if c.m0 = 0 then ({ c with m0 := r }, 0) else if c.m1 = 0 then ({ c with m1 := r }, 0) else if c.m2 = 0 then ({ c with m2 := r }, 0) else (cell0, 7)

theorem results_ct {fn : Func} {p t : Tmp} {ty tt : TypeId} {P : Program} (h : fn.results = #[.cell p ty, .tmp t]) (tmps : Array Value) (w : World) (g : Nat) (cs : Array Value) (d : TypeDesc)
    (hp : tmps.getD p undef = .pointer (some ⟨g, 0, none⟩)) (hg : Blk w g tt cs)
    (hu : P.underlying ty = some d) (hd : d.isRow = true) (hi : (P.info? ty).map (·.size) = some cs.size) :
    (results fn tmps).run P w = .ok (.tuple #[.agg cs, tmps.getD t undef]) w := by
  have hp' : tmps[p]?.getD undef = .pointer (some ⟨g, 0, none⟩) := by simpa using hp
  simp [results, h, hp', asAddr, run_loadVar_mid w g 0 ty cs.toList d hg.range hu hd (by simpa using hi)]

/-- Two boxes that the walk made, behind a call that only makes memory. -/
theorem box_call2 {w w2 : World} {c d : Array Value} {t u : TypeId} {B : Nat} (hb : Below B ((w.alloc (.cells c t)).alloc (.cells d u)) w2) (hB : w.heap.size + 1 < B) : Blk w2 w.heap.size t c ∧ Blk w2 (w.heap.size + 1) u d ∧ Below w.heap.size w w2 :=
  ⟨((Blk.new w t c).alloc _).below hb (by omega), (show Blk ((w.alloc (.cells c t)).alloc (.cells d u)) (w.heap.size + 1) u d from heap_alloc2_new w _ _).below hb hB, (((Below.refl _ _).alloc (Nat.le_refl _) _).alloc (by simp) _).trans (hb.mono (by omega))⟩
theorem valid_yes {c : Cell} (h : c.ok = true) (w : World) (ht : Tabs w) : Calls Tryd.prog 32 #[.agg (cv c)] w fun e w' => e = .returned (.bool true) ∧ Below w.heap.size w w' := h ▸ cellValid_any c w ht
theorem valid_no {c : Cell} (h : c.ok = false) (w : World) (ht : Tabs w) : Calls Tryd.prog 32 #[.agg (cv c)] w fun e w' => e = .returned (.bool false) ∧ Below w.heap.size w w' := h ▸ cellValid_any c w ht
theorem r04valid_yes {c : Cell} (h : c.ok = true) (w : World) : Calls Tryd.prog 34 #[.agg (cv c)] w fun e w' => e = .returned (.bool true) ∧ Below w.heap.size w w' := h ▸ r04Valid_any c w
theorem r04valid_no {c : Cell} (h : c.ok = false) (w : World) : Calls Tryd.prog 34 #[.agg (cv c)] w fun e w' => e = .returned (.bool false) ∧ Below w.heap.size w w' := h ▸ r04Valid_any c w
/-- What the walk asks of a block into which a whole cell is stored. -/
theorem Blk.put {w : World} {g : Nat} {d : Cell} (h : Blk w g 30 (cv d)) (c : Cell) : (storeCells ⟨g, 0, none⟩ (cv c).toList 0).run Tryd.prog w = .ok () (w.setRow g (cv c)) := store_cv_row w g _ c h (cv_size d)
theorem below_row {w0 w : World} {g : Nat} (h : Below w0.heap.size w0 w) (hg : w0.heap.size ≤ g) (cs : Array Value) : Below w0.heap.size w0 (w.setRow g cs) :=
  h.trans ⟨rfl, rfl, rfl, by simp, fun k hk => setRow_other w g k cs (by omega)⟩
/-- The end of a walk that stored a whole cell into its result. -/
def MarkEnd (c : Cell) (r : Int) (w : World) (e : Ending) (w' : World) : Prop := e = .returned (.tuple #[.agg (cv (markOf c r).1), .int .i64 (markOf c r).2]) ∧ Below w.heap.size w w'

set_option maxRecDepth 100000 in
set_option maxHeartbeats 4000000 in
theorem cellMark_any (c : Cell) (r : Int) (w : World) (ht : Tabs w) : Calls Tryd.prog 31 #[.agg (cv c), .int .i32 r] w (MarkEnd c r w) := by
  have HT := Lib.hid ht
  clear ht
  cases hv : c.ok
  · have HV := Lib.hid hv
    have HO := Lib.hid (show markOf c r = (cell0, 2) by simp [markOf, hv])
    clear hv
    go_enter Tryd.func31, Tryd.ntmps31
    go_wp2_with fail
    refine (valid_no HV.out _ (HT.out.bel (((Below.refl _ _).alloc (Nat.le_refl _) _).alloc (by simp) _))).mono ?_
    rintro e w1 ⟨rfl, hb⟩
    obtain ⟨k0, k1, hb1⟩ := box_call2 hb (by simp)
    have K0 := Lib.hid k0
    have K1 := Lib.hid k1
    have HB := Lib.hid hb1
    obtain ⟨hx0, hf0, hz0, hca0, hpa0⟩ := k0.box
    have hz1 := k1.lt
    have hst := k1.put
    clear hb hb1 k0 k1
    go_wp2_with fail
    refine bodyPost_ret (results_ct Tryd.results31 _ _ (w.heap.size + 1) (cv cell0) _ rfl (K1.out.row _) Tryd.underlying30 rfl cell_size) rfl ?_
    exact ⟨by rw [HO.out]; rfl, below_row HB.out (by omega) _⟩
  have HV := Lib.hid hv
  by_cases hw : wOf r = 0
  case neg =>
    have hw' := bne_yes hw
    have HO := Lib.hid (show markOf c r = (cell0, 2) by simp [markOf, hw])
    clear hv hw
    go_enter Tryd.func31, Tryd.ntmps31
    go_wp2_with fail
    refine (valid_yes HV.out _ (HT.out.bel (((Below.refl _ _).alloc (Nat.le_refl _) _).alloc (by simp) _))).mono ?_
    rintro e w1 ⟨rfl, hb⟩
    obtain ⟨k0, k1, hb1⟩ := box_call2 hb (by simp)
    have K0 := Lib.hid k0
    have K1 := Lib.hid k1
    have HB := Lib.hid hb1
    obtain ⟨hx0, hf0, hz0, hca0, hpa0⟩ := k0.box
    have hz1 := k1.lt
    have hst := k1.put
    clear hb hb1 k0 k1
    go_wp2_with fail
    clear hx0 hf0 hz0 hca0 hpa0 hz1 hst
    refine (widthOf_any _ _ (HT.out.bel HB.out)).mono ?_
    rintro e w2 ⟨rfl, hb2⟩
    have K0 := Lib.hid (K0.out.bel hb2)
    have K1 := Lib.hid (K1.out.bel hb2)
    have HB := Lib.hid (HB.out.trans (hb2.mono HB.out.size))
    obtain ⟨hx0, hf0, hz0, hca0, hpa0⟩ := K0.out.box
    have hz1 := K1.out.lt
    have hst := K1.out.put
    clear hb2
    go_wp2_with fail
    refine bodyPost_ret (results_ct Tryd.results31 _ _ (w.heap.size + 1) (cv cell0) _ rfl (K1.out.row _) Tryd.underlying30 rfl cell_size) rfl ?_
    exact ⟨by rw [HO.out]; rfl, below_row HB.out (by omega) _⟩
  have hw' := bne_no hw
  by_cases hr : c.rune = 0
  · have hr' := beq_yes hr
    have hrd : (!decide (c.rune = 0)) = false := by simp [hr]
    have HO := Lib.hid (show markOf c r = (cell0, 8) by simp [markOf, hv, hw, hr])
    clear hv hw hr
    go_enter Tryd.func31, Tryd.ntmps31
    go_wp2_with fail
    refine (valid_yes HV.out _ (HT.out.bel (((Below.refl _ _).alloc (Nat.le_refl _) _).alloc (by simp) _))).mono ?_
    rintro e w1 ⟨rfl, hb⟩
    obtain ⟨k0, k1, hb1⟩ := box_call2 hb (by simp)
    have K0 := Lib.hid k0
    have K1 := Lib.hid k1
    have HB := Lib.hid hb1
    obtain ⟨hx0, hf0, hz0, hca0, hpa0⟩ := k0.box
    have hz1 := k1.lt
    have hst := k1.put
    clear hb hb1 k0 k1
    go_wp2_with fail
    clear hx0 hf0 hz0 hca0 hpa0 hz1 hst
    refine (widthOf_any _ _ (HT.out.bel HB.out)).mono ?_
    rintro e w2 ⟨rfl, hb2⟩
    have K0 := Lib.hid (K0.out.bel hb2)
    have K1 := Lib.hid (K1.out.bel hb2)
    have HB := Lib.hid (HB.out.trans (hb2.mono HB.out.size))
    obtain ⟨hx0, hf0, hz0, hca0, hpa0⟩ := K0.out.box
    have hz1 := K1.out.lt
    have hst := K1.out.put
    clear hb2
    go_wp2_with fail
    clear hx0 hf0 hz0 hca0 hpa0 hz1 hst
    refine (cellWritten_any _ _).mono ?_
    rintro e w3 ⟨rfl, hb3⟩
    have K0 := Lib.hid (K0.out.bel hb3)
    have K1 := Lib.hid (K1.out.bel hb3)
    have HB := Lib.hid (HB.out.trans (hb3.mono HB.out.size))
    obtain ⟨hx0, hf0, hz0, hca0, hpa0⟩ := K0.out.box
    have hz1 := K1.out.lt
    have hst := K1.out.put
    clear hb3
    obtain ⟨w2, rfl⟩ : ∃ w2 : World, w2 = w3 := ⟨_, rfl⟩
    rw [hrd]
    go_wp2_with fail
    refine bodyPost_ret (results_ct Tryd.results31 _ _ (w.heap.size + 1) (cv cell0) _ rfl (K1.out.row _) Tryd.underlying30 rfl cell_size) rfl ?_
    exact ⟨by rw [HO.out]; rfl, below_row HB.out (by omega) _⟩
  have hr' := beq_no hr
  have hrd : (!decide (c.rune = 0)) = true := by simp [hr]
  have hmo : c.marksOk = true := by have := hv; simp only [Cell.ok, hr, if_false, Bool.and_eq_true] at this; exact this.2.1
  have HMO := Lib.hid hmo
  clear hmo
  by_cases h0 : c.m0 = 0
  case pos =>
    have HO := Lib.hid (show markOf c r = ({ c with m0 := r }, 0) by simp [markOf, hv, hw, hr, h0])
    have HNM := Lib.hid (show c.nMarks = 0 by simp [Cell.nMarks, h0])
    have hb0_ := beq_yes h0
    clear hv hw hr h0
    have HK := Lib.hid hb0_
    clear hb0_
    go_enter Tryd.func31, Tryd.ntmps31
    go_wp2_with fail
    refine (valid_yes HV.out _ (HT.out.bel (((Below.refl _ _).alloc (Nat.le_refl _) _).alloc (by simp) _))).mono ?_
    rintro e w1 ⟨rfl, hb⟩
    obtain ⟨k0, k1, hb1⟩ := box_call2 hb (by simp)
    have K0 := Lib.hid k0
    have K1 := Lib.hid k1
    have HB := Lib.hid hb1
    obtain ⟨hx0, hf0, hz0, hca0, hpa0⟩ := k0.box
    have hz1 := k1.lt
    have hst := k1.put
    clear hb hb1 k0 k1
    go_wp2_with fail
    clear hx0 hf0 hz0 hca0 hpa0 hz1 hst
    refine (widthOf_any _ _ (HT.out.bel HB.out)).mono ?_
    rintro e w2 ⟨rfl, hb2⟩
    have K0 := Lib.hid (K0.out.bel hb2)
    have K1 := Lib.hid (K1.out.bel hb2)
    have HB := Lib.hid (HB.out.trans (hb2.mono HB.out.size))
    obtain ⟨hx0, hf0, hz0, hca0, hpa0⟩ := K0.out.box
    have hz1 := K1.out.lt
    have hst := K1.out.put
    clear hb2
    go_wp2_with fail
    clear hx0 hf0 hz0 hca0 hpa0 hz1 hst
    refine (cellWritten_any _ _).mono ?_
    rintro e w3 ⟨rfl, hb3⟩
    have K0 := Lib.hid (K0.out.bel hb3)
    have K1 := Lib.hid (K1.out.bel hb3)
    have HB := Lib.hid (HB.out.trans (hb3.mono HB.out.size))
    obtain ⟨hx0, hf0, hz0, hca0, hpa0⟩ := K0.out.box
    have hz1 := K1.out.lt
    have hst := K1.out.put
    clear hb3
    obtain ⟨w2, rfl⟩ : ∃ w2 : World, w2 = w3 := ⟨_, rfl⟩
    rw [hrd]
    have KS := Lib.hid (K0.out.set_ 1 (.int .i32 r))
    have KT := Lib.hid (K1.out.far (p := ⟨w.heap.size, 1, none⟩) (by simp) (.int .i32 r))
    have hca' : cellAt (w2.setCell ⟨w.heap.size, 1, none⟩ (.int .i32 r)) w.heap.size 0 = some { c with m0 := r } := Blk.cellAt (t := 30) (by have := KS.out; rwa [cv_set1] at this)
    have hst' := KT.out.put
    go_wp2_with fail
    go_loop [25] (fun i => ∃ j : Nat, j ≤ 0 ∧ i = .int .i64 j) (fun i => 3 - (intOf i).toNat)
    case atStart => exact ⟨0, by omega, rfl⟩
    case round =>
      obtain ⟨j, hj, rfl⟩ := hrel
      have hj4 : j = 0 := by omega
      clear hj
      rcases hj4 with rfl
      · have hb0_ := HK.out
        go_wp2_with fail
        refine bodyPost_ret (results_ct Tryd.results31 _ _ (w.heap.size + 1) (cv { c with m0 := r }) _ rfl (KT.out.row _) Tryd.underlying30 rfl cell_size) rfl ?_
        exact ⟨by rw [HO.out]; rfl, below_row (HB.out.setCell (p := ⟨w.heap.size, 1, none⟩) (Nat.le_refl _) _) (by omega) _⟩
  by_cases h1 : c.m1 = 0
  case pos =>
    have HO := Lib.hid (show markOf c r = ({ c with m1 := r }, 0) by simp [markOf, hv, hw, hr, h0, h1])
    have HNM := Lib.hid (show c.nMarks = 1 by simp [Cell.nMarks, h0, h1])
    have hb0_ := beq_no h0
    have hb1_ := beq_yes h1
    clear hv hw hr h0 h1
    have HK := Lib.hid hb1_
    clear hb1_
    go_enter Tryd.func31, Tryd.ntmps31
    go_wp2_with fail
    refine (valid_yes HV.out _ (HT.out.bel (((Below.refl _ _).alloc (Nat.le_refl _) _).alloc (by simp) _))).mono ?_
    rintro e w1 ⟨rfl, hb⟩
    obtain ⟨k0, k1, hb1⟩ := box_call2 hb (by simp)
    have K0 := Lib.hid k0
    have K1 := Lib.hid k1
    have HB := Lib.hid hb1
    obtain ⟨hx0, hf0, hz0, hca0, hpa0⟩ := k0.box
    have hz1 := k1.lt
    have hst := k1.put
    clear hb hb1 k0 k1
    go_wp2_with fail
    clear hx0 hf0 hz0 hca0 hpa0 hz1 hst
    refine (widthOf_any _ _ (HT.out.bel HB.out)).mono ?_
    rintro e w2 ⟨rfl, hb2⟩
    have K0 := Lib.hid (K0.out.bel hb2)
    have K1 := Lib.hid (K1.out.bel hb2)
    have HB := Lib.hid (HB.out.trans (hb2.mono HB.out.size))
    obtain ⟨hx0, hf0, hz0, hca0, hpa0⟩ := K0.out.box
    have hz1 := K1.out.lt
    have hst := K1.out.put
    clear hb2
    go_wp2_with fail
    clear hx0 hf0 hz0 hca0 hpa0 hz1 hst
    refine (cellWritten_any _ _).mono ?_
    rintro e w3 ⟨rfl, hb3⟩
    have K0 := Lib.hid (K0.out.bel hb3)
    have K1 := Lib.hid (K1.out.bel hb3)
    have HB := Lib.hid (HB.out.trans (hb3.mono HB.out.size))
    obtain ⟨hx0, hf0, hz0, hca0, hpa0⟩ := K0.out.box
    have hz1 := K1.out.lt
    have hst := K1.out.put
    clear hb3
    obtain ⟨w2, rfl⟩ : ∃ w2 : World, w2 = w3 := ⟨_, rfl⟩
    rw [hrd]
    have KS := Lib.hid (K0.out.set_ 2 (.int .i32 r))
    have KT := Lib.hid (K1.out.far (p := ⟨w.heap.size, 2, none⟩) (by simp) (.int .i32 r))
    have hca' : cellAt (w2.setCell ⟨w.heap.size, 2, none⟩ (.int .i32 r)) w.heap.size 0 = some { c with m1 := r } := Blk.cellAt (t := 30) (by have := KS.out; rwa [cv_set2] at this)
    have hst' := KT.out.put
    go_wp2_with fail
    go_loop [25] (fun i => ∃ j : Nat, j ≤ 1 ∧ i = .int .i64 j) (fun i => 3 - (intOf i).toNat)
    case atStart => exact ⟨0, by omega, rfl⟩
    case round =>
      obtain ⟨j, hj, rfl⟩ := hrel
      have hj4 : j = 0 ∨ j = 1 := by omega
      clear hj
      rcases hj4 with rfl | rfl
      · go_wp2_with fail
        go_round
        case rel => exact ⟨1, by omega, rfl⟩
        case measure => simp [intOf]
      · have hb1_ := HK.out
        go_wp2_with fail
        refine bodyPost_ret (results_ct Tryd.results31 _ _ (w.heap.size + 1) (cv { c with m1 := r }) _ rfl (KT.out.row _) Tryd.underlying30 rfl cell_size) rfl ?_
        exact ⟨by rw [HO.out]; rfl, below_row (HB.out.setCell (p := ⟨w.heap.size, 2, none⟩) (Nat.le_refl _) _) (by omega) _⟩
  by_cases h2 : c.m2 = 0
  case pos =>
    have HO := Lib.hid (show markOf c r = ({ c with m2 := r }, 0) by simp [markOf, hv, hw, hr, h0, h1, h2])
    have HNM := Lib.hid (show c.nMarks = 2 by simp [Cell.nMarks, h0, h1, h2])
    have hb0_ := beq_no h0
    have hb1_ := beq_no h1
    have hb2_ := beq_yes h2
    clear hv hw hr h0 h1 h2
    have HK := Lib.hid hb2_
    clear hb2_
    go_enter Tryd.func31, Tryd.ntmps31
    go_wp2_with fail
    refine (valid_yes HV.out _ (HT.out.bel (((Below.refl _ _).alloc (Nat.le_refl _) _).alloc (by simp) _))).mono ?_
    rintro e w1 ⟨rfl, hb⟩
    obtain ⟨k0, k1, hb1⟩ := box_call2 hb (by simp)
    have K0 := Lib.hid k0
    have K1 := Lib.hid k1
    have HB := Lib.hid hb1
    obtain ⟨hx0, hf0, hz0, hca0, hpa0⟩ := k0.box
    have hz1 := k1.lt
    have hst := k1.put
    clear hb hb1 k0 k1
    go_wp2_with fail
    clear hx0 hf0 hz0 hca0 hpa0 hz1 hst
    refine (widthOf_any _ _ (HT.out.bel HB.out)).mono ?_
    rintro e w2 ⟨rfl, hb2⟩
    have K0 := Lib.hid (K0.out.bel hb2)
    have K1 := Lib.hid (K1.out.bel hb2)
    have HB := Lib.hid (HB.out.trans (hb2.mono HB.out.size))
    obtain ⟨hx0, hf0, hz0, hca0, hpa0⟩ := K0.out.box
    have hz1 := K1.out.lt
    have hst := K1.out.put
    clear hb2
    go_wp2_with fail
    clear hx0 hf0 hz0 hca0 hpa0 hz1 hst
    refine (cellWritten_any _ _).mono ?_
    rintro e w3 ⟨rfl, hb3⟩
    have K0 := Lib.hid (K0.out.bel hb3)
    have K1 := Lib.hid (K1.out.bel hb3)
    have HB := Lib.hid (HB.out.trans (hb3.mono HB.out.size))
    obtain ⟨hx0, hf0, hz0, hca0, hpa0⟩ := K0.out.box
    have hz1 := K1.out.lt
    have hst := K1.out.put
    clear hb3
    obtain ⟨w2, rfl⟩ : ∃ w2 : World, w2 = w3 := ⟨_, rfl⟩
    rw [hrd]
    have KS := Lib.hid (K0.out.set_ 3 (.int .i32 r))
    have KT := Lib.hid (K1.out.far (p := ⟨w.heap.size, 3, none⟩) (by simp) (.int .i32 r))
    have hca' : cellAt (w2.setCell ⟨w.heap.size, 3, none⟩ (.int .i32 r)) w.heap.size 0 = some { c with m2 := r } := Blk.cellAt (t := 30) (by have := KS.out; rwa [cv_set3] at this)
    have hst' := KT.out.put
    go_wp2_with fail
    go_loop [25] (fun i => ∃ j : Nat, j ≤ 2 ∧ i = .int .i64 j) (fun i => 3 - (intOf i).toNat)
    case atStart => exact ⟨0, by omega, rfl⟩
    case round =>
      obtain ⟨j, hj, rfl⟩ := hrel
      have hj4 : j = 0 ∨ j = 1 ∨ j = 2 := by omega
      clear hj
      rcases hj4 with rfl | rfl | rfl
      · go_wp2_with fail
        go_round
        case rel => exact ⟨1, by omega, rfl⟩
        case measure => simp [intOf]
      · go_wp2_with fail
        go_round
        case rel => exact ⟨2, by omega, rfl⟩
        case measure => simp [intOf]
      · have hb2_ := HK.out
        go_wp2_with fail
        refine bodyPost_ret (results_ct Tryd.results31 _ _ (w.heap.size + 1) (cv { c with m2 := r }) _ rfl (KT.out.row _) Tryd.underlying30 rfl cell_size) rfl ?_
        exact ⟨by rw [HO.out]; rfl, below_row (HB.out.setCell (p := ⟨w.heap.size, 3, none⟩) (Nat.le_refl _) _) (by omega) _⟩
  have HO := Lib.hid (show markOf c r = (cell0, 7) by simp [markOf, hv, hw, hr, h0, h1, h2])
  have HNM := Lib.hid (show c.nMarks = 3 by simp [Cell.nMarks, h0, h1, h2])
  have hb0_ := beq_no h0
  have hb1_ := beq_no h1
  have hb2_ := beq_no h2
  clear hv hw hr h0 h1 h2
  go_enter Tryd.func31, Tryd.ntmps31
  go_wp2_with fail
  refine (valid_yes HV.out _ (HT.out.bel (((Below.refl _ _).alloc (Nat.le_refl _) _).alloc (by simp) _))).mono ?_
  rintro e w1 ⟨rfl, hb⟩
  obtain ⟨k0, k1, hb1⟩ := box_call2 hb (by simp)
  have K0 := Lib.hid k0
  have K1 := Lib.hid k1
  have HB := Lib.hid hb1
  obtain ⟨hx0, hf0, hz0, hca0, hpa0⟩ := k0.box
  have hz1 := k1.lt
  have hst := k1.put
  clear hb hb1 k0 k1
  go_wp2_with fail
  clear hx0 hf0 hz0 hca0 hpa0 hz1 hst
  refine (widthOf_any _ _ (HT.out.bel HB.out)).mono ?_
  rintro e w2 ⟨rfl, hb2⟩
  have K0 := Lib.hid (K0.out.bel hb2)
  have K1 := Lib.hid (K1.out.bel hb2)
  have HB := Lib.hid (HB.out.trans (hb2.mono HB.out.size))
  obtain ⟨hx0, hf0, hz0, hca0, hpa0⟩ := K0.out.box
  have hz1 := K1.out.lt
  have hst := K1.out.put
  clear hb2
  go_wp2_with fail
  clear hx0 hf0 hz0 hca0 hpa0 hz1 hst
  refine (cellWritten_any _ _).mono ?_
  rintro e w3 ⟨rfl, hb3⟩
  have K0 := Lib.hid (K0.out.bel hb3)
  have K1 := Lib.hid (K1.out.bel hb3)
  have HB := Lib.hid (HB.out.trans (hb3.mono HB.out.size))
  obtain ⟨hx0, hf0, hz0, hca0, hpa0⟩ := K0.out.box
  have hz1 := K1.out.lt
  have hst := K1.out.put
  clear hb3
  obtain ⟨w2, rfl⟩ : ∃ w2 : World, w2 = w3 := ⟨_, rfl⟩
  rw [hrd]
  go_wp2_with fail
  go_loop [25] (fun i => ∃ j : Nat, j ≤ 3 ∧ i = .int .i64 j) (fun i => 3 - (intOf i).toNat)
  case atStart => exact ⟨0, by omega, rfl⟩
  case round =>
    obtain ⟨j, hj, rfl⟩ := hrel
    have hj4 : j = 0 ∨ j = 1 ∨ j = 2 ∨ j = 3 := by omega
    clear hj
    rcases hj4 with rfl | rfl | rfl | rfl
    · go_wp2_with fail
      go_round
      case rel => exact ⟨1, by omega, rfl⟩
      case measure => simp [intOf]
    · go_wp2_with fail
      go_round
      case rel => exact ⟨2, by omega, rfl⟩
      case measure => simp [intOf]
    · go_wp2_with fail
      go_round
      case rel => exact ⟨3, by omega, rfl⟩
      case measure => simp [intOf]
    · skip
      go_wp2_with fail
      refine bodyPost_ret (results_ct Tryd.results31 _ _ (w.heap.size + 1) (cv cell0) _ rfl (K1.out.row _) Tryd.underlying30 rfl cell_size) rfl ?_
      exact ⟨by rw [HO.out]; rfl, below_row HB.out (by omega) _⟩

set_option maxRecDepth 100000 in
set_option maxHeartbeats 4000000 in
theorem r04Mark_any (c : Cell) (r : Int) (w : World) : Calls Tryd.prog 20 #[.agg (cv c), .int .i32 r] w (MarkEnd c r w) := by
  cases hv : c.ok
  · have HV := Lib.hid hv
    have HO := Lib.hid (show markOf c r = (cell0, 2) by simp [markOf, hv])
    clear hv
    go_enter Tryd.func20, Tryd.ntmps20
    go_wp2_with fail
    refine (r04valid_no HV.out _).mono ?_
    rintro e w1 ⟨rfl, hb⟩
    obtain ⟨k0, k1, hb1⟩ := box_call2 hb (by simp)
    have K0 := Lib.hid k0
    have K1 := Lib.hid k1
    have HB := Lib.hid hb1
    obtain ⟨hx0, hf0, hz0, hca0, hpa0⟩ := k0.box
    have hz1 := k1.lt
    have hst := k1.put
    clear hb hb1 k0 k1
    go_wp2_with fail
    refine bodyPost_ret (results_ct Tryd.results20 _ _ (w.heap.size + 1) (cv cell0) _ rfl (K1.out.row _) Tryd.underlying30 rfl cell_size) rfl ?_
    exact ⟨by rw [HO.out]; rfl, below_row HB.out (by omega) _⟩
  have HV := Lib.hid hv
  by_cases hw : wOf r = 0
  case neg =>
    have hw' := bne_yes hw
    have HO := Lib.hid (show markOf c r = (cell0, 2) by simp [markOf, hw])
    clear hv hw
    go_enter Tryd.func20, Tryd.ntmps20
    go_wp2_with fail
    refine (r04valid_yes HV.out _).mono ?_
    rintro e w1 ⟨rfl, hb⟩
    obtain ⟨k0, k1, hb1⟩ := box_call2 hb (by simp)
    have K0 := Lib.hid k0
    have K1 := Lib.hid k1
    have HB := Lib.hid hb1
    obtain ⟨hx0, hf0, hz0, hca0, hpa0⟩ := k0.box
    have hz1 := k1.lt
    have hst := k1.put
    clear hb hb1 k0 k1
    go_wp2_with fail
    clear hx0 hf0 hz0 hca0 hpa0 hz1 hst
    refine (r02Of_any _ _).mono ?_
    rintro e w2 ⟨rfl, hb2⟩
    have K0 := Lib.hid (K0.out.bel hb2)
    have K1 := Lib.hid (K1.out.bel hb2)
    have HB := Lib.hid (HB.out.trans (hb2.mono HB.out.size))
    obtain ⟨hx0, hf0, hz0, hca0, hpa0⟩ := K0.out.box
    have hz1 := K1.out.lt
    have hst := K1.out.put
    clear hb2
    go_wp2_with fail
    refine bodyPost_ret (results_ct Tryd.results20 _ _ (w.heap.size + 1) (cv cell0) _ rfl (K1.out.row _) Tryd.underlying30 rfl cell_size) rfl ?_
    exact ⟨by rw [HO.out]; rfl, below_row HB.out (by omega) _⟩
  have hw' := bne_no hw
  by_cases hr : c.rune = 0
  · have hr' := beq_yes hr
    have hrd : (!decide (c.rune = 0)) = false := by simp [hr]
    have HO := Lib.hid (show markOf c r = (cell0, 8) by simp [markOf, hv, hw, hr])
    clear hv hw hr
    go_enter Tryd.func20, Tryd.ntmps20
    go_wp2_with fail
    refine (r04valid_yes HV.out _).mono ?_
    rintro e w1 ⟨rfl, hb⟩
    obtain ⟨k0, k1, hb1⟩ := box_call2 hb (by simp)
    have K0 := Lib.hid k0
    have K1 := Lib.hid k1
    have HB := Lib.hid hb1
    obtain ⟨hx0, hf0, hz0, hca0, hpa0⟩ := k0.box
    have hz1 := k1.lt
    have hst := k1.put
    clear hb hb1 k0 k1
    go_wp2_with fail
    clear hx0 hf0 hz0 hca0 hpa0 hz1 hst
    refine (r02Of_any _ _).mono ?_
    rintro e w2 ⟨rfl, hb2⟩
    have K0 := Lib.hid (K0.out.bel hb2)
    have K1 := Lib.hid (K1.out.bel hb2)
    have HB := Lib.hid (HB.out.trans (hb2.mono HB.out.size))
    obtain ⟨hx0, hf0, hz0, hca0, hpa0⟩ := K0.out.box
    have hz1 := K1.out.lt
    have hst := K1.out.put
    clear hb2
    go_wp2_with fail
    refine bodyPost_ret (results_ct Tryd.results20 _ _ (w.heap.size + 1) (cv cell0) _ rfl (K1.out.row _) Tryd.underlying30 rfl cell_size) rfl ?_
    exact ⟨by rw [HO.out]; rfl, below_row HB.out (by omega) _⟩
  have hr' := beq_no hr
  have hrd : (!decide (c.rune = 0)) = true := by simp [hr]
  have hmo : c.marksOk = true := by have := hv; simp only [Cell.ok, hr, if_false, Bool.and_eq_true] at this; exact this.2.1
  have HMO := Lib.hid hmo
  clear hmo
  by_cases h0 : c.m0 = 0
  case pos =>
    have HO := Lib.hid (show markOf c r = ({ c with m0 := r }, 0) by simp [markOf, hv, hw, hr, h0])
    have HNM := Lib.hid (show c.nMarks = 0 by simp [Cell.nMarks, h0])
    have hb0_ := beq_yes h0
    clear hv hw hr h0
    have HK := Lib.hid hb0_
    clear hb0_
    go_enter Tryd.func20, Tryd.ntmps20
    go_wp2_with fail
    refine (r04valid_yes HV.out _).mono ?_
    rintro e w1 ⟨rfl, hb⟩
    obtain ⟨k0, k1, hb1⟩ := box_call2 hb (by simp)
    have K0 := Lib.hid k0
    have K1 := Lib.hid k1
    have HB := Lib.hid hb1
    obtain ⟨hx0, hf0, hz0, hca0, hpa0⟩ := k0.box
    have hz1 := k1.lt
    have hst := k1.put
    clear hb hb1 k0 k1
    go_wp2_with fail
    clear hx0 hf0 hz0 hca0 hpa0 hz1 hst
    refine (r02Of_any _ _).mono ?_
    rintro e w2 ⟨rfl, hb2⟩
    have K0 := Lib.hid (K0.out.bel hb2)
    have K1 := Lib.hid (K1.out.bel hb2)
    have HB := Lib.hid (HB.out.trans (hb2.mono HB.out.size))
    obtain ⟨hx0, hf0, hz0, hca0, hpa0⟩ := K0.out.box
    have hz1 := K1.out.lt
    have hst := K1.out.put
    clear hb2
    go_wp2_with fail
    clear hx0 hf0 hz0 hca0 hpa0 hz1 hst
    refine (r04marks_any _ _).mono ?_
    rintro e w3 ⟨⟨q, rfl, hq⟩, hb3⟩
    rw [HMO.out, hq HMO.out, HNM.out]
    have K0 := Lib.hid (K0.out.bel hb3)
    have K1 := Lib.hid (K1.out.bel hb3)
    have HB := Lib.hid (HB.out.trans (hb3.mono HB.out.size))
    obtain ⟨hx0, hf0, hz0, hca0, hpa0⟩ := K0.out.box
    have hz1 := K1.out.lt
    have hst := K1.out.put
    clear hb3 hq
    have KS := Lib.hid (K0.out.set_ 1 (.int .i32 r))
    have KT := Lib.hid (K1.out.far (p := ⟨w.heap.size, 1, none⟩) (by simp) (.int .i32 r))
    have hca' : cellAt (w3.setCell ⟨w.heap.size, 1, none⟩ (.int .i32 r)) w.heap.size 0 = some { c with m0 := r } := Blk.cellAt (t := 30) (by have := KS.out; rwa [cv_set1] at this)
    have hst' := KT.out.put
    go_wp2_with fail
    refine bodyPost_ret (results_ct Tryd.results20 _ _ (w.heap.size + 1) (cv { c with m0 := r }) _ rfl (KT.out.row _) Tryd.underlying30 rfl cell_size) rfl ?_
    exact ⟨by rw [HO.out]; rfl, below_row (HB.out.setCell (p := ⟨w.heap.size, 1, none⟩) (Nat.le_refl _) _) (by omega) _⟩
  by_cases h1 : c.m1 = 0
  case pos =>
    have HO := Lib.hid (show markOf c r = ({ c with m1 := r }, 0) by simp [markOf, hv, hw, hr, h0, h1])
    have HNM := Lib.hid (show c.nMarks = 1 by simp [Cell.nMarks, h0, h1])
    have hb0_ := beq_no h0
    have hb1_ := beq_yes h1
    clear hv hw hr h0 h1
    have HK := Lib.hid hb1_
    clear hb1_
    go_enter Tryd.func20, Tryd.ntmps20
    go_wp2_with fail
    refine (r04valid_yes HV.out _).mono ?_
    rintro e w1 ⟨rfl, hb⟩
    obtain ⟨k0, k1, hb1⟩ := box_call2 hb (by simp)
    have K0 := Lib.hid k0
    have K1 := Lib.hid k1
    have HB := Lib.hid hb1
    obtain ⟨hx0, hf0, hz0, hca0, hpa0⟩ := k0.box
    have hz1 := k1.lt
    have hst := k1.put
    clear hb hb1 k0 k1
    go_wp2_with fail
    clear hx0 hf0 hz0 hca0 hpa0 hz1 hst
    refine (r02Of_any _ _).mono ?_
    rintro e w2 ⟨rfl, hb2⟩
    have K0 := Lib.hid (K0.out.bel hb2)
    have K1 := Lib.hid (K1.out.bel hb2)
    have HB := Lib.hid (HB.out.trans (hb2.mono HB.out.size))
    obtain ⟨hx0, hf0, hz0, hca0, hpa0⟩ := K0.out.box
    have hz1 := K1.out.lt
    have hst := K1.out.put
    clear hb2
    go_wp2_with fail
    clear hx0 hf0 hz0 hca0 hpa0 hz1 hst
    refine (r04marks_any _ _).mono ?_
    rintro e w3 ⟨⟨q, rfl, hq⟩, hb3⟩
    rw [HMO.out, hq HMO.out, HNM.out]
    have K0 := Lib.hid (K0.out.bel hb3)
    have K1 := Lib.hid (K1.out.bel hb3)
    have HB := Lib.hid (HB.out.trans (hb3.mono HB.out.size))
    obtain ⟨hx0, hf0, hz0, hca0, hpa0⟩ := K0.out.box
    have hz1 := K1.out.lt
    have hst := K1.out.put
    clear hb3 hq
    have KS := Lib.hid (K0.out.set_ 2 (.int .i32 r))
    have KT := Lib.hid (K1.out.far (p := ⟨w.heap.size, 2, none⟩) (by simp) (.int .i32 r))
    have hca' : cellAt (w3.setCell ⟨w.heap.size, 2, none⟩ (.int .i32 r)) w.heap.size 0 = some { c with m1 := r } := Blk.cellAt (t := 30) (by have := KS.out; rwa [cv_set2] at this)
    have hst' := KT.out.put
    go_wp2_with fail
    refine bodyPost_ret (results_ct Tryd.results20 _ _ (w.heap.size + 1) (cv { c with m1 := r }) _ rfl (KT.out.row _) Tryd.underlying30 rfl cell_size) rfl ?_
    exact ⟨by rw [HO.out]; rfl, below_row (HB.out.setCell (p := ⟨w.heap.size, 2, none⟩) (Nat.le_refl _) _) (by omega) _⟩
  by_cases h2 : c.m2 = 0
  case pos =>
    have HO := Lib.hid (show markOf c r = ({ c with m2 := r }, 0) by simp [markOf, hv, hw, hr, h0, h1, h2])
    have HNM := Lib.hid (show c.nMarks = 2 by simp [Cell.nMarks, h0, h1, h2])
    have hb0_ := beq_no h0
    have hb1_ := beq_no h1
    have hb2_ := beq_yes h2
    clear hv hw hr h0 h1 h2
    have HK := Lib.hid hb2_
    clear hb2_
    go_enter Tryd.func20, Tryd.ntmps20
    go_wp2_with fail
    refine (r04valid_yes HV.out _).mono ?_
    rintro e w1 ⟨rfl, hb⟩
    obtain ⟨k0, k1, hb1⟩ := box_call2 hb (by simp)
    have K0 := Lib.hid k0
    have K1 := Lib.hid k1
    have HB := Lib.hid hb1
    obtain ⟨hx0, hf0, hz0, hca0, hpa0⟩ := k0.box
    have hz1 := k1.lt
    have hst := k1.put
    clear hb hb1 k0 k1
    go_wp2_with fail
    clear hx0 hf0 hz0 hca0 hpa0 hz1 hst
    refine (r02Of_any _ _).mono ?_
    rintro e w2 ⟨rfl, hb2⟩
    have K0 := Lib.hid (K0.out.bel hb2)
    have K1 := Lib.hid (K1.out.bel hb2)
    have HB := Lib.hid (HB.out.trans (hb2.mono HB.out.size))
    obtain ⟨hx0, hf0, hz0, hca0, hpa0⟩ := K0.out.box
    have hz1 := K1.out.lt
    have hst := K1.out.put
    clear hb2
    go_wp2_with fail
    clear hx0 hf0 hz0 hca0 hpa0 hz1 hst
    refine (r04marks_any _ _).mono ?_
    rintro e w3 ⟨⟨q, rfl, hq⟩, hb3⟩
    rw [HMO.out, hq HMO.out, HNM.out]
    have K0 := Lib.hid (K0.out.bel hb3)
    have K1 := Lib.hid (K1.out.bel hb3)
    have HB := Lib.hid (HB.out.trans (hb3.mono HB.out.size))
    obtain ⟨hx0, hf0, hz0, hca0, hpa0⟩ := K0.out.box
    have hz1 := K1.out.lt
    have hst := K1.out.put
    clear hb3 hq
    have KS := Lib.hid (K0.out.set_ 3 (.int .i32 r))
    have KT := Lib.hid (K1.out.far (p := ⟨w.heap.size, 3, none⟩) (by simp) (.int .i32 r))
    have hca' : cellAt (w3.setCell ⟨w.heap.size, 3, none⟩ (.int .i32 r)) w.heap.size 0 = some { c with m2 := r } := Blk.cellAt (t := 30) (by have := KS.out; rwa [cv_set3] at this)
    have hst' := KT.out.put
    go_wp2_with fail
    refine bodyPost_ret (results_ct Tryd.results20 _ _ (w.heap.size + 1) (cv { c with m2 := r }) _ rfl (KT.out.row _) Tryd.underlying30 rfl cell_size) rfl ?_
    exact ⟨by rw [HO.out]; rfl, below_row (HB.out.setCell (p := ⟨w.heap.size, 3, none⟩) (Nat.le_refl _) _) (by omega) _⟩
  have HO := Lib.hid (show markOf c r = (cell0, 7) by simp [markOf, hv, hw, hr, h0, h1, h2])
  have HNM := Lib.hid (show c.nMarks = 3 by simp [Cell.nMarks, h0, h1, h2])
  have hb0_ := beq_no h0
  have hb1_ := beq_no h1
  have hb2_ := beq_no h2
  clear hv hw hr h0 h1 h2
  go_enter Tryd.func20, Tryd.ntmps20
  go_wp2_with fail
  refine (r04valid_yes HV.out _).mono ?_
  rintro e w1 ⟨rfl, hb⟩
  obtain ⟨k0, k1, hb1⟩ := box_call2 hb (by simp)
  have K0 := Lib.hid k0
  have K1 := Lib.hid k1
  have HB := Lib.hid hb1
  obtain ⟨hx0, hf0, hz0, hca0, hpa0⟩ := k0.box
  have hz1 := k1.lt
  have hst := k1.put
  clear hb hb1 k0 k1
  go_wp2_with fail
  clear hx0 hf0 hz0 hca0 hpa0 hz1 hst
  refine (r02Of_any _ _).mono ?_
  rintro e w2 ⟨rfl, hb2⟩
  have K0 := Lib.hid (K0.out.bel hb2)
  have K1 := Lib.hid (K1.out.bel hb2)
  have HB := Lib.hid (HB.out.trans (hb2.mono HB.out.size))
  obtain ⟨hx0, hf0, hz0, hca0, hpa0⟩ := K0.out.box
  have hz1 := K1.out.lt
  have hst := K1.out.put
  clear hb2
  go_wp2_with fail
  clear hx0 hf0 hz0 hca0 hpa0 hz1 hst
  refine (r04marks_any _ _).mono ?_
  rintro e w3 ⟨⟨q, rfl, hq⟩, hb3⟩
  rw [HMO.out, hq HMO.out, HNM.out]
  have K0 := Lib.hid (K0.out.bel hb3)
  have K1 := Lib.hid (K1.out.bel hb3)
  have HB := Lib.hid (HB.out.trans (hb3.mono HB.out.size))
  obtain ⟨hx0, hf0, hz0, hca0, hpa0⟩ := K0.out.box
  have hz1 := K1.out.lt
  have hst := K1.out.put
  clear hb3 hq
  go_wp2_with fail
  refine bodyPost_ret (results_ct Tryd.results20 _ _ (w.heap.size + 1) (cv cell0) _ rfl (K1.out.row _) Tryd.underlying30 rfl cell_size) rfl ?_
  exact ⟨by rw [HO.out]; rfl, below_row HB.out (by omega) _⟩

end Go.Proofs.YtmfhepjmmpnkaaaDoor
