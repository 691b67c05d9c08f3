/-
  Part 3 of the texts on which the proofs of this seat stand: each part says ahead of it what it shows.
-/
import Derived.Test.YtppijfjigcoifaaDoorM2
import Derived.Lib.MinMax

/-
  slices.Clone of lines: of their heads. Appending heads.
-/
set_option linter.unusedSimpArgs false
set_option linter.unusedVariables false
namespace Go.Proofs.YtppijfjigcoifaaDoor
open Go.RowKit

theorem eql_nilL (w : World) (a : Option Addr) (n c : Nat) : (binOp .eql 30 (.slice a n c) (.slice none 0 0)).run Tryd.prog w = .ok (.bool a.isNone) w := Lib.run_eql_slice_nil w 30 39 a n c 0 0 Tryd.underlying30
section
variable {w0 w : World} {os : List Ob} {v : Value} {hp : List (Value × Bool)}
/-- append(v, s...) onto heads: s reads as further heads. -/
theorem run_appH (hS : Objs w0 w os) {k : Nat} (hk : os[k]? = some (.heads v hp)) {ad : Addr} {m c : Nat} {ds : List (Value × Bool)} (hm : m = ds.length) (hmc : m ≤ c) (hr : ∀ (i : Nat) (x : Value), (flat2 ds)[i]? = some x → w.cell? (ad.add i) = some x) (h1 : ∀ x ∈ ds, x.1.oneCell' = true) (hlen : hp.length + ds.length ≤ 1000000) (ty : TypeId) :
    ∃ v' w', (Builtin.append_ #[30, 30] ty #[v, .slice (some ad) m c]).run Tryd.prog w = .ok v' w' ∧ Objs w0 w' (os.set k (.heads v' (hp ++ ds))) ∧ ∃ A' c', v' = .slice A' (hp.length + ds.length) c' := by
  subst hm
  obtain ⟨i, hi, hz0, hz1, hz2⟩ := info_parts line_info
  have ho := hS.headsOwn hk
  obtain ⟨v', w', hrun, g1, g2, g3, g4⟩ := run_append_own_at (P := Tryd.prog) (w := w) 0 30 ty 39 i _ 2 32 Tryd.underlying30 hi hz0 hz1 hz2 (by simp [Value.cells]) (by omega) v hp.length (flat2 hp) ho ad ds.length c (flat2 ds) (flat2_length ds) hr (flat2_one h1) (by simp only [maxLen]; omega) (by omega) (Nat.zero_le _)
  have hrow : w'.ownsRow 0 39 2 v' (hp ++ ds).length (flat2 (hp ++ ds)) := by rw [flat2_append, List.length_append]; exact g1
  obtain ⟨A', c', e, _⟩ := own_form hrow
  refine ⟨v', w', hrun, hS.upd hk (fun F hF => ?_), A', c', by simpa using e⟩
  refine ⟨fun b => v'.ownBlock = some b, Chg.of_grown g2 F (fun b hb => (hF.2 b).2 hb), ⟨hrow, fun _ => Iff.rfl⟩, fun b hb => ?_⟩
  rcases g4 with g4 | g4
  · exact .inl ((hF.2 b).2 (by rw [← g4]; exact hb))
  · rw [g4] at hb; cases hb; exact .inr (Nat.le_refl _)
/-- An empty slice of lines of the call's own. -/
theorem Objs.emptyHeads (h : Objs w0 w os) : Objs w0 (w.alloc (.cells #[] 39)) (.heads (.slice (some ⟨w.heap.size, 0, none⟩) 0 0) [] :: os) :=
  h.cons (Below.alloc (Below.refl _ _) (Nat.le_refl _) _) (G := fun b => b = w.heap.size) ⟨own_mk (by simp [flat2]) (Nat.zero_le _) (Nat.le_refl _) (by simp [maxLen]) (heap_alloc_new w _) (by simp) (by simp [flat2]), fun b => by simp [Value.ownBlock]; exact eq_comm⟩ (fun b hb => by omega)
/-- What a part of heads reads as. -/
theorem Objs.headsSub (h : Objs w0 w os) {k g n c a m : Nat} (hk : os[k]? = some (.heads (.slice (some ⟨g, 0, none⟩) n c) hp)) (ham : a + m ≤ hp.length) (i : Nat) (x : Value) (hx : (flat2 ((hp.drop a).take m))[i]? = some x) : w.cell? ((⟨g, a * 2, none⟩ : Addr).add i) = some x := by
  have ho := h.headsOwn hk
  obtain rfl : n = hp.length := by obtain ⟨A', c', e, -⟩ := own_form ho; simp only [Value.slice.injEq] at e; exact e.2.1
  rw [add_at]
  refine own_cell ho _ _ ?_
  rw [← flat2_take, ← flat2_drop, List.getElem?_take, List.getElem?_drop] at hx
  split at hx
  · exact hx
  · cases hx
set_option maxRecDepth 100000 in
set_option maxHeartbeats 1000000 in
/-- slices.Clone of a part of heads. -/
theorem clone_front {g n c a m cc : Nat} (hS : Objs w0 w (.heads (.slice (some ⟨g, 0, none⟩) n c) hp :: os)) (h1 : ∀ x ∈ hp, x.1.oneCell' = true) (ham : a + m ≤ hp.length) (hmc : m ≤ cc) (hlen : hp.length ≤ 1000000) :
    Calls Tryd.prog 88 #[.slice (some ⟨g, a * 2, none⟩) m cc] w fun e w' => ∃ A' c', e = .returned (.slice A' m c') ∧ Objs w0 w' (.heads (.slice A' m c') ((hp.drop a).take m) :: .heads (.slice (some ⟨g, 0, none⟩) n c) hp :: os) := by
  have hml : ((hp.drop a).take m).length = m := by simp; omega
  have hS2 := hS.emptyHeads
  obtain ⟨v', w', hr, hS3, A', c', hv⟩ := run_appH hS2 (k := 0) rfl (ad := ⟨g, a * 2, none⟩) (m := m) (c := cc) (ds := (hp.drop a).take m) hml.symm hmc (fun i x hx => hS2.headsSub (k := 1) rfl ham i x hx) (fun x hx => h1 x (List.mem_of_mem_drop (List.mem_of_mem_take hx))) (by rw [hml]; simp; omega) 30
  rw [hml] at hv
  simp only [List.length_nil, Nat.zero_add] at hv
  subst hv
  have S := Lib.hid (show Objs w0 w' (.heads (.slice A' m c') ((hp.drop a).take m) :: .heads (.slice (some ⟨g, 0, none⟩) n c) hp :: os) from hS3)
  have HR := Lib.hid hr
  clear hS hS2 hS3 h1 hml hr
  have hq := eql_nilL
  go_enter Tryd.func88, Tryd.ntmps88
  go_wp2_with (at_builtin; refine wpList_app _ _ (wanted_none rfl) rfl rfl rfl HR.out ?_)
  go_ret
  exact ⟨A', c', rfl, S.out⟩
end
end Go.Proofs.YtppijfjigcoifaaDoor

/-
  Put: a cell is put into a grid.
-/
set_option linter.unusedSimpArgs false
set_option linter.unusedVariables false
namespace Go.Proofs.YtppijfjigcoifaaDoor
open Go.RowKit

/-- A cell put into a row. -/
def putC (j : Nat) (x : Cell) (cs : List Cell) : List Cell :=
  let l := (brk (j + x.width.toNat) (brk j cs)).set j x
  if x.width = 2 then l.set (j + 1) (spacer x.pen) else l
theorem putC_length (j : Nat) (x : Cell) (cs : List Cell) : (putC j x cs).length = cs.length := by
  unfold putC
  simp only
  split <;> simp [brk_length]
theorem ok_w12 {x : Cell} (h : x.ok = true) (h0 : ¬ x.width = 0) : x.width = 1 ∨ x.width = 2 := by
  rcases ok_width h with h1 | h1 | h1
  · exact absurd h1 h0
  · exact .inl h1
  · exact .inr h1
section
variable {w0 w : World} {os : List Ob} {p cols : Nat} {L : List Ln}
/-- A grid with one row out, and back. -/
theorem Objs.openAt {t : TypeId} {cols : Int} {i : Nat} {l : Ln} (h : Objs w0 w (.grid p t cols L :: os)) (hl : L[i]? = some l) : ∃ v b, Objs w0 w (.cells b l.1 :: .linesx v L i b :: .box p t #[.int .i64 cols, v] :: os) := by
  obtain ⟨v, h1⟩ := h.openGrid (k := 0) rfl
  obtain ⟨b, h2⟩ := h1.openRow (k := 0) rfl hl
  exact ⟨v, b, h2⟩
theorem Objs.closeAt {t : TypeId} {cols : Int} {v b : Value} {i : Nat} {l : Ln} {cs : List Cell} (h : Objs w0 w (.cells b cs :: .linesx v L i b :: .box p t #[.int .i64 cols, v] :: os)) (hl : L[i]? = some l) : Objs w0 w (.grid p t cols (L.set i (cs, l.2)) :: os) := by
  have h1 := h.closeRow (k := 0) (s := l.2) rfl (by rw [hl]; rfl)
  exact (h1 : Objs w0 w (.lines v _ :: .box p t _ :: os)).closeGrid (k := 0) rfl
/-- The two ahead change places. -/
theorem Objs.swap {a b : Ob} (h : Objs w0 w (a :: b :: os)) : Objs w0 w (b :: a :: os) := by
  have h1 := h.lift (k := 1) (o := b) rfl
  exact h1.del 2
set_option maxHeartbeats 400000 in
theorem Put_out (row col : Int) (x : Cell) (hS : Objs w0 w (.grid p 58 cols L :: os)) (hc : 0 < cols) (hno : ¬ ((0 ≤ row ∧ row < L.length) ∧ 0 ≤ col ∧ col < cols)) :
    Calls Tryd.prog 33 #[.pointer (some ⟨p, 0, none⟩), .int .i64 row, .int .i64 col, .agg (cv x)] w fun e w' => e = .returned (.int .i64 3) ∧ Objs w0 w' (.grid p 58 cols L :: os) := by
  have S := Lib.hid hS
  have HE := Lib.hid (show atE row col cols L = 3 by unfold atE; rw [if_neg hno])
  clear hS hno
  go_enter Tryd.func33, Tryd.ntmps33
  go_wp2_with fail
  refine (at_any _ _ S.out.alloc1 (k := 1) rfl hc).mono ?_
  rw [HE.out]
  rintro e w1 ⟨rfl, hS⟩
  have S1 := Lib.hid hS
  clear hS S
  go_wp2_with fail
  go_ret
  exact ⟨rfl, S1.out.tail⟩
set_option maxRecDepth 100000 in
set_option maxHeartbeats 2000000 in
theorem Put_bad1 {i j : Nat} (x : Cell) (hT : Tabs w0) (hS : Objs w0 w (.grid p 58 cols L :: os)) (hc : 0 < cols) (hcm : cols ≤ 1000) (hi : i < L.length) (hj : j < cols) (hv : x.ok = false) :
    Calls Tryd.prog 33 #[.pointer (some ⟨p, 0, none⟩), .int .i64 i, .int .i64 j, .agg (cv x)] w fun e w' => e = .returned (.int .i64 2) ∧ Objs w0 w' (.grid p 58 cols L :: os) := by
  have S := Lib.hid hS
  have HT := Lib.hid hT
  have HE := Lib.hid (show atE i j cols L = 0 by unfold atE; rw [if_pos ⟨⟨by omega, by omega⟩, by omega, by omega⟩])
  clear hS hT
  have HV := Lib.hid hv
  clear hv
  go_enter Tryd.func33, Tryd.ntmps33
  go_wp2_with fail
  refine (at_any _ _ S.out.alloc1 (k := 1) rfl hc).mono ?_
  rw [HE.out]
  rintro e w1 ⟨rfl, hS⟩
  have S1 := Lib.hid hS
  clear hS S
  generalize w.heap.size = b7 at S1 ⊢
  go_upto_region 4 with (fail)
  refine wp_region_stage (w0 := w0) (os := os) (by kernel_rfl) (by kernel_rfl) (by kernel_rfl) [] [[0], [], [], [], [], [], [], [], [], [], [], [], [], [], [], [], [], [], []] [.box b7 71 (cv x), .grid p 58 cols L] (fun i u => match i with | 0 => u = (.agg (cv x) : Value) | 1 => u = (.bool false : Value) | 2 => u = (.bool true : Value) | 3 => u = (.bool true : Value) | 4 => True | 5 => True | 6 => True | 7 => u = (.bool true : Value) | 8 => u = (.bool true : Value) | 9 => True | 10 => True | 11 => True | 12 => True | 13 => True | 14 => True | 15 => True | 16 => True | 17 => True | 18 => u = (.bool true : Value) | _ => True) (fun vs => [.box b7 71 (cv x), .grid p 58 cols L]) (by kernel_rfl) (fun vs => by rfl) S1.out ?_ ?_
  · refine SSteps.cons (fun a w' vs σ hS hl hs hk => ?_) ?_
    · have e7 : a.tmps.getD 7 undef = (.pointer (some ⟨b7, 0, none⟩) : Value) := (sk_old hk 7 (by kernel_rfl)).trans rfl
      have f7 := gd e7
      have hx := (hS.box (sg (hs 0 (by decide)))).box.2.2.2.1
      exact ro_pure (v := .agg (cv x)) (wanted_none rfl) (by simp [execOp, Act.eval, e7, f7, go_sem, hx]) (sp_same (by kernel_rfl) hl hs hS (show (.agg (cv x) : Value) = _ from rfl)) trivial
    refine SSteps.cons (fun a w' vs σ hS hl hs hk => ?_) ?_
    · have e18 : a.tmps.getD 18 undef = (.agg (cv x) : Value) := (sk_val hk 0 (by kernel_rfl) rfl rfl).trans ((hk.1 0 (by kernel_rfl)).1)
      have f18 := gd e18
      exact ro_call (f := 72) (wanted_none rfl) rfl (by simp only [List.map_toArray, List.map_cons, List.map_nil, Act.eval, e18] <;> rfl) (fun _ _ => by kernel_rfl) ((valid_no HV.out w' (hS.tabs HT.out)).mono fun e w2 ⟨h1, h2⟩ => ⟨_, h1, sp_same (by kernel_rfl) hl hs (hS.bel h2) rfl, trivial⟩)
    refine SSteps.cons (fun a w' vs σ hS hl hs hk => ?_) ?_
    · have e19 : a.tmps.getD 19 undef = (.bool false : Value) := (sk_val hk 1 (by kernel_rfl) rfl rfl).trans ((hk.1 1 (by kernel_rfl)).1)
      have f19 := gd e19
      exact ro_pure (v := .bool true) (wanted_none rfl) (by simp [execOp, Act.eval, e19, f19, go_sem]) (sp_same (by kernel_rfl) hl hs hS (show (.bool true : Value) = _ from rfl)) trivial
    refine SSteps.cons (fun a w' vs σ hS hl hs hk => ?_) ?_
    · have e20 : a.tmps.getD 20 undef = (.bool true : Value) := (sk_val hk 2 (by kernel_rfl) rfl rfl).trans ((hk.1 2 (by kernel_rfl)).1)
      have f20 := gd e20
      exact ro_pure (v := .bool true) (wanted_none rfl) (by simp [execOp, Act.eval, e20, f20, go_sem]) (sp_same (by kernel_rfl) hl hs hS (show (.bool true : Value) = _ from rfl)) trivial
    refine SSteps.cons (fun a w' vs σ hS hl hs hk => ?_) ?_
    · exact rs_skip (wanted_no rfl rfl rfl (show _ = _ from (sk_val hk 3 (by kernel_rfl) rfl rfl).trans ((hk.1 3 (by kernel_rfl)).1)) (by decide)) (sp_same (by kernel_rfl) hl hs hS trivial)
    refine SSteps.cons (fun a w' vs σ hS hl hs hk => ?_) ?_
    · exact rs_skip (wanted_no rfl rfl rfl (show _ = _ from (sk_val hk 3 (by kernel_rfl) rfl rfl).trans ((hk.1 3 (by kernel_rfl)).1)) (by decide)) (sp_same (by kernel_rfl) hl hs hS trivial)
    refine SSteps.cons (fun a w' vs σ hS hl hs hk => ?_) ?_
    · exact rs_skip (wanted_no rfl rfl rfl (show _ = _ from (sk_val hk 3 (by kernel_rfl) rfl rfl).trans ((hk.1 3 (by kernel_rfl)).1)) (by decide)) (sp_same (by kernel_rfl) hl hs hS trivial)
    refine SSteps.cons (fun a w' vs σ hS hl hs hk => ?_) ?_
    · have e21 : a.tmps.getD 21 undef = (.bool true : Value) := (sk_val hk 3 (by kernel_rfl) rfl rfl).trans ((hk.1 3 (by kernel_rfl)).1)
      have f21 := gd e21
      have e24 : a.tmps.getD 24 undef = vs 6 := sk_val hk 6 (by kernel_rfl) rfl rfl
      have p24 : (fun u : Value => True) (vs 6) := (hk.1 6 (by kernel_rfl)).1
      have f24 := gd e24
      exact ro_pure (v := .bool true) (wanted_none rfl) (by simp [execOp, Act.eval, e21, f21, e24, f24, go_sem]) (sp_same (by kernel_rfl) hl hs hS (show (.bool true : Value) = _ from rfl)) trivial
    refine SSteps.cons (fun a w' vs σ hS hl hs hk => ?_) ?_
    · have e25 : a.tmps.getD 25 undef = (.bool true : Value) := (sk_val hk 7 (by kernel_rfl) rfl rfl).trans ((hk.1 7 (by kernel_rfl)).1)
      have f25 := gd e25
      exact ro_pure (v := .bool true) (wanted_none rfl) (by simp [execOp, Act.eval, e25, f25, go_sem]) (sp_same (by kernel_rfl) hl hs hS (show (.bool true : Value) = _ from rfl)) trivial
    refine SSteps.cons (fun a w' vs σ hS hl hs hk => ?_) ?_
    · exact rs_skip (wanted_no rfl rfl rfl (show _ = _ from (sk_val hk 8 (by kernel_rfl) rfl rfl).trans ((hk.1 8 (by kernel_rfl)).1)) (by decide)) (sp_same (by kernel_rfl) hl hs hS trivial)
    refine SSteps.cons (fun a w' vs σ hS hl hs hk => ?_) ?_
    · exact rs_skip (wanted_no rfl rfl rfl (show _ = _ from (sk_val hk 8 (by kernel_rfl) rfl rfl).trans ((hk.1 8 (by kernel_rfl)).1)) (by decide)) (sp_same (by kernel_rfl) hl hs hS trivial)
    refine SSteps.cons (fun a w' vs σ hS hl hs hk => ?_) ?_
    · exact rs_skip (wanted_no rfl rfl rfl (show _ = _ from (sk_val hk 8 (by kernel_rfl) rfl rfl).trans ((hk.1 8 (by kernel_rfl)).1)) (by decide)) (sp_same (by kernel_rfl) hl hs hS trivial)
    refine SSteps.cons (fun a w' vs σ hS hl hs hk => ?_) ?_
    · exact rs_skip (wanted_no rfl rfl rfl (show _ = _ from (sk_val hk 8 (by kernel_rfl) rfl rfl).trans ((hk.1 8 (by kernel_rfl)).1)) (by decide)) (sp_same (by kernel_rfl) hl hs hS trivial)
    refine SSteps.cons (fun a w' vs σ hS hl hs hk => ?_) ?_
    · exact rs_skip (wanted_no rfl rfl rfl (show _ = _ from (sk_val hk 8 (by kernel_rfl) rfl rfl).trans ((hk.1 8 (by kernel_rfl)).1)) (by decide)) (sp_same (by kernel_rfl) hl hs hS trivial)
    refine SSteps.cons (fun a w' vs σ hS hl hs hk => ?_) ?_
    · exact rs_skip (wanted_no rfl rfl rfl (show _ = _ from (sk_val hk 8 (by kernel_rfl) rfl rfl).trans ((hk.1 8 (by kernel_rfl)).1)) (by decide)) (sp_same (by kernel_rfl) hl hs hS trivial)
    refine SSteps.cons (fun a w' vs σ hS hl hs hk => ?_) ?_
    · exact rs_skip (wanted_no rfl rfl rfl (show _ = _ from (sk_val hk 8 (by kernel_rfl) rfl rfl).trans ((hk.1 8 (by kernel_rfl)).1)) (by decide)) (sp_same (by kernel_rfl) hl hs hS trivial)
    refine SSteps.cons (fun a w' vs σ hS hl hs hk => ?_) ?_
    · exact rs_skip (wanted_no rfl rfl rfl (show _ = _ from (sk_val hk 8 (by kernel_rfl) rfl rfl).trans ((hk.1 8 (by kernel_rfl)).1)) (by decide)) (sp_same (by kernel_rfl) hl hs hS trivial)
    refine SSteps.cons (fun a w' vs σ hS hl hs hk => ?_) ?_
    · exact rs_skip (wanted_no rfl rfl rfl (show _ = _ from (sk_val hk 8 (by kernel_rfl) rfl rfl).trans ((hk.1 8 (by kernel_rfl)).1)) (by decide)) (sp_same (by kernel_rfl) hl hs hS trivial)
    refine SSteps.cons (fun a w' vs σ hS hl hs hk => ?_) ?_
    · have e26 : a.tmps.getD 26 undef = (.bool true : Value) := (sk_val hk 8 (by kernel_rfl) rfl rfl).trans ((hk.1 8 (by kernel_rfl)).1)
      have f26 := gd e26
      have e35 : a.tmps.getD 35 undef = vs 17 := sk_val hk 17 (by kernel_rfl) rfl rfl
      have p35 : (fun u : Value => True) (vs 17) := (hk.1 17 (by kernel_rfl)).1
      have f35 := gd e35
      exact ro_pure (v := .bool true) (wanted_none rfl) (by simp [execOp, Act.eval, e26, f26, e35, f35, go_sem]) (sp_same (by kernel_rfl) hl hs hS (show (.bool true : Value) = _ from rfl)) trivial
    exact SSteps.nil
  · intro vs w' hS hv
    have q0 := (show vs 0 = (.agg (cv x) : Value) from hv 0 (by decide))
    have q1 := (show vs 1 = (.bool false : Value) from hv 1 (by decide))
    have q2 := (show vs 2 = (.bool true : Value) from hv 2 (by decide))
    have q3 := (show vs 3 = (.bool true : Value) from hv 3 (by decide))
    have q7 := (show vs 7 = (.bool true : Value) from hv 7 (by decide))
    have q8 := (show vs 8 = (.bool true : Value) from hv 8 (by decide))
    have q18 := (show vs 18 = (.bool true : Value) from hv 18 (by decide))
    have S2 := Lib.hid hS
    simp only [putL, Act.put, Nat.zero_add, Nat.reduceAdd, List.setIfInBounds_toArray, List.set_cons_succ, List.set_cons_zero, q0, q1, q2, q3, q7, q8, q18]
    clear hS hv q0 q1 q2 q3 q7 q8 q18
    go_wp2_with fail
    go_ret
    exact ⟨rfl, S2.out.tail⟩
set_option maxRecDepth 100000 in
set_option maxHeartbeats 2000000 in
theorem Put_bad2 {i j : Nat} (x : Cell) (hT : Tabs w0) (hS : Objs w0 w (.grid p 58 cols L :: os)) (hc : 0 < cols) (hcm : cols ≤ 1000) (hi : i < L.length) (hj : j < cols) (hv : x.ok = true) (hw : x.width = 0) :
    Calls Tryd.prog 33 #[.pointer (some ⟨p, 0, none⟩), .int .i64 i, .int .i64 j, .agg (cv x)] w fun e w' => e = .returned (.int .i64 2) ∧ Objs w0 w' (.grid p 58 cols L :: os) := by
  have S := Lib.hid hS
  have HT := Lib.hid hT
  have HE := Lib.hid (show atE i j cols L = 0 by unfold atE; rw [if_pos ⟨⟨by omega, by omega⟩, by omega, by omega⟩])
  clear hS hT
  have HV := Lib.hid hv
  have hw0 := beq_yes hw
  have HW := Lib.hid hw
  clear hv hw
  go_enter Tryd.func33, Tryd.ntmps33
  go_wp2_with fail
  refine (at_any _ _ S.out.alloc1 (k := 1) rfl hc).mono ?_
  rw [HE.out]
  rintro e w1 ⟨rfl, hS⟩
  have S1 := Lib.hid hS
  clear hS S
  generalize w.heap.size = b7 at S1 ⊢
  go_upto_region 4 with (fail)
  refine wp_region_stage (w0 := w0) (os := os) (by kernel_rfl) (by kernel_rfl) (by kernel_rfl) [] [[0], [], [], [], [], [0], [], [], [], [], [], [], [], [], [], [], [], [], []] [.box b7 71 (cv x), .grid p 58 cols L] (fun i u => match i with | 0 => u = (.agg (cv x) : Value) | 1 => u = (.bool true : Value) | 2 => u = (.bool false : Value) | 3 => u = (.bool false : Value) | 4 => u = (.pointer (some ⟨b7, 4, none⟩) : Value) | 5 => u = (.int .i64 x.width : Value) | 6 => u = (.bool true : Value) | 7 => u = (.bool true : Value) | 8 => u = (.bool true : Value) | 9 => True | 10 => True | 11 => True | 12 => True | 13 => True | 14 => True | 15 => True | 16 => True | 17 => True | 18 => u = (.bool true : Value) | _ => True) (fun vs => [.box b7 71 (cv x), .grid p 58 cols L]) (by kernel_rfl) (fun vs => by rfl) S1.out ?_ ?_
  · refine SSteps.cons (fun a w' vs σ hS hl hs hk => ?_) ?_
    · have e7 : a.tmps.getD 7 undef = (.pointer (some ⟨b7, 0, none⟩) : Value) := (sk_old hk 7 (by kernel_rfl)).trans rfl
      have f7 := gd e7
      have hx := (hS.box (sg (hs 0 (by decide)))).box.2.2.2.1
      exact ro_pure (v := .agg (cv x)) (wanted_none rfl) (by simp [execOp, Act.eval, e7, f7, go_sem, hx]) (sp_same (by kernel_rfl) hl hs hS (show (.agg (cv x) : Value) = _ from rfl)) trivial
    refine SSteps.cons (fun a w' vs σ hS hl hs hk => ?_) ?_
    · have e18 : a.tmps.getD 18 undef = (.agg (cv x) : Value) := (sk_val hk 0 (by kernel_rfl) rfl rfl).trans ((hk.1 0 (by kernel_rfl)).1)
      have f18 := gd e18
      exact ro_call (f := 72) (wanted_none rfl) rfl (by simp only [List.map_toArray, List.map_cons, List.map_nil, Act.eval, e18] <;> rfl) (fun _ _ => by kernel_rfl) ((valid_yes HV.out w' (hS.tabs HT.out)).mono fun e w2 ⟨h1, h2⟩ => ⟨_, h1, sp_same (by kernel_rfl) hl hs (hS.bel h2) rfl, trivial⟩)
    refine SSteps.cons (fun a w' vs σ hS hl hs hk => ?_) ?_
    · have e19 : a.tmps.getD 19 undef = (.bool true : Value) := (sk_val hk 1 (by kernel_rfl) rfl rfl).trans ((hk.1 1 (by kernel_rfl)).1)
      have f19 := gd e19
      exact ro_pure (v := .bool false) (wanted_none rfl) (by simp [execOp, Act.eval, e19, f19, go_sem]) (sp_same (by kernel_rfl) hl hs hS (show (.bool false : Value) = _ from rfl)) trivial
    refine SSteps.cons (fun a w' vs σ hS hl hs hk => ?_) ?_
    · have e20 : a.tmps.getD 20 undef = (.bool false : Value) := (sk_val hk 2 (by kernel_rfl) rfl rfl).trans ((hk.1 2 (by kernel_rfl)).1)
      have f20 := gd e20
      exact ro_pure (v := .bool false) (wanted_none rfl) (by simp [execOp, Act.eval, e20, f20, go_sem]) (sp_same (by kernel_rfl) hl hs hS (show (.bool false : Value) = _ from rfl)) trivial
    refine SSteps.cons (fun a w' vs σ hS hl hs hk => ?_) ?_
    · have e7 : a.tmps.getD 7 undef = (.pointer (some ⟨b7, 0, none⟩) : Value) := (sk_old hk 7 (by kernel_rfl)).trans rfl
      have f7 := gd e7
      exact ro_pure (v := .pointer (some ⟨b7, 4, none⟩)) (wanted_yes rfl rfl rfl (show _ = _ from (sk_val hk 3 (by kernel_rfl) rfl rfl).trans ((hk.1 3 (by kernel_rfl)).1))) (by simp [execOp, Act.eval, e7, f7, go_sem]) (sp_same (by kernel_rfl) hl hs hS (show (.pointer (some ⟨b7, 4, none⟩) : Value) = _ from rfl)) trivial
    refine SSteps.cons (fun a w' vs σ hS hl hs hk => ?_) ?_
    · have e22 : a.tmps.getD 22 undef = (.pointer (some ⟨b7, 4, none⟩) : Value) := (sk_val hk 4 (by kernel_rfl) rfl rfl).trans ((hk.1 4 (by kernel_rfl)).1)
      have f22 := gd e22
      have hx := (hS.box (sg (hs 0 (by decide)))).box.1
      exact ro_pure (v := .int .i64 x.width) (wanted_yes rfl rfl rfl (show _ = _ from (sk_val hk 3 (by kernel_rfl) rfl rfl).trans ((hk.1 3 (by kernel_rfl)).1))) (by simp [execOp, Act.eval, e22, f22, go_sem, hx]) (sp_same (by kernel_rfl) hl hs hS (show (.int .i64 x.width : Value) = _ from rfl)) trivial
    refine SSteps.cons (fun a w' vs σ hS hl hs hk => ?_) ?_
    · have e23 : a.tmps.getD 23 undef = (.int .i64 x.width : Value) := (sk_val hk 5 (by kernel_rfl) rfl rfl).trans ((hk.1 5 (by kernel_rfl)).1)
      have f23 := gd e23
      exact ro_pure (v := .bool true) (wanted_yes rfl rfl rfl (show _ = _ from (sk_val hk 3 (by kernel_rfl) rfl rfl).trans ((hk.1 3 (by kernel_rfl)).1))) (by simp [execOp, Act.eval, e23, f23, go_sem, hw0]) (sp_same (by kernel_rfl) hl hs hS (show (.bool true : Value) = _ from rfl)) trivial
    refine SSteps.cons (fun a w' vs σ hS hl hs hk => ?_) ?_
    · have e21 : a.tmps.getD 21 undef = (.bool false : Value) := (sk_val hk 3 (by kernel_rfl) rfl rfl).trans ((hk.1 3 (by kernel_rfl)).1)
      have f21 := gd e21
      have e24 : a.tmps.getD 24 undef = (.bool true : Value) := (sk_val hk 6 (by kernel_rfl) rfl rfl).trans ((hk.1 6 (by kernel_rfl)).1)
      have f24 := gd e24
      exact ro_pure (v := .bool true) (wanted_none rfl) (by simp [execOp, Act.eval, e21, f21, e24, f24, go_sem]) (sp_same (by kernel_rfl) hl hs hS (show (.bool true : Value) = _ from rfl)) trivial
    refine SSteps.cons (fun a w' vs σ hS hl hs hk => ?_) ?_
    · have e25 : a.tmps.getD 25 undef = (.bool true : Value) := (sk_val hk 7 (by kernel_rfl) rfl rfl).trans ((hk.1 7 (by kernel_rfl)).1)
      have f25 := gd e25
      exact ro_pure (v := .bool true) (wanted_none rfl) (by simp [execOp, Act.eval, e25, f25, go_sem]) (sp_same (by kernel_rfl) hl hs hS (show (.bool true : Value) = _ from rfl)) trivial
    refine SSteps.cons (fun a w' vs σ hS hl hs hk => ?_) ?_
    · exact rs_skip (wanted_no rfl rfl rfl (show _ = _ from (sk_val hk 8 (by kernel_rfl) rfl rfl).trans ((hk.1 8 (by kernel_rfl)).1)) (by decide)) (sp_same (by kernel_rfl) hl hs hS trivial)
    refine SSteps.cons (fun a w' vs σ hS hl hs hk => ?_) ?_
    · exact rs_skip (wanted_no rfl rfl rfl (show _ = _ from (sk_val hk 8 (by kernel_rfl) rfl rfl).trans ((hk.1 8 (by kernel_rfl)).1)) (by decide)) (sp_same (by kernel_rfl) hl hs hS trivial)
    refine SSteps.cons (fun a w' vs σ hS hl hs hk => ?_) ?_
    · exact rs_skip (wanted_no rfl rfl rfl (show _ = _ from (sk_val hk 8 (by kernel_rfl) rfl rfl).trans ((hk.1 8 (by kernel_rfl)).1)) (by decide)) (sp_same (by kernel_rfl) hl hs hS trivial)
    refine SSteps.cons (fun a w' vs σ hS hl hs hk => ?_) ?_
    · exact rs_skip (wanted_no rfl rfl rfl (show _ = _ from (sk_val hk 8 (by kernel_rfl) rfl rfl).trans ((hk.1 8 (by kernel_rfl)).1)) (by decide)) (sp_same (by kernel_rfl) hl hs hS trivial)
    refine SSteps.cons (fun a w' vs σ hS hl hs hk => ?_) ?_
    · exact rs_skip (wanted_no rfl rfl rfl (show _ = _ from (sk_val hk 8 (by kernel_rfl) rfl rfl).trans ((hk.1 8 (by kernel_rfl)).1)) (by decide)) (sp_same (by kernel_rfl) hl hs hS trivial)
    refine SSteps.cons (fun a w' vs σ hS hl hs hk => ?_) ?_
    · exact rs_skip (wanted_no rfl rfl rfl (show _ = _ from (sk_val hk 8 (by kernel_rfl) rfl rfl).trans ((hk.1 8 (by kernel_rfl)).1)) (by decide)) (sp_same (by kernel_rfl) hl hs hS trivial)
    refine SSteps.cons (fun a w' vs σ hS hl hs hk => ?_) ?_
    · exact rs_skip (wanted_no rfl rfl rfl (show _ = _ from (sk_val hk 8 (by kernel_rfl) rfl rfl).trans ((hk.1 8 (by kernel_rfl)).1)) (by decide)) (sp_same (by kernel_rfl) hl hs hS trivial)
    refine SSteps.cons (fun a w' vs σ hS hl hs hk => ?_) ?_
    · exact rs_skip (wanted_no rfl rfl rfl (show _ = _ from (sk_val hk 8 (by kernel_rfl) rfl rfl).trans ((hk.1 8 (by kernel_rfl)).1)) (by decide)) (sp_same (by kernel_rfl) hl hs hS trivial)
    refine SSteps.cons (fun a w' vs σ hS hl hs hk => ?_) ?_
    · exact rs_skip (wanted_no rfl rfl rfl (show _ = _ from (sk_val hk 8 (by kernel_rfl) rfl rfl).trans ((hk.1 8 (by kernel_rfl)).1)) (by decide)) (sp_same (by kernel_rfl) hl hs hS trivial)
    refine SSteps.cons (fun a w' vs σ hS hl hs hk => ?_) ?_
    · have e26 : a.tmps.getD 26 undef = (.bool true : Value) := (sk_val hk 8 (by kernel_rfl) rfl rfl).trans ((hk.1 8 (by kernel_rfl)).1)
      have f26 := gd e26
      have e35 : a.tmps.getD 35 undef = vs 17 := sk_val hk 17 (by kernel_rfl) rfl rfl
      have p35 : (fun u : Value => True) (vs 17) := (hk.1 17 (by kernel_rfl)).1
      have f35 := gd e35
      exact ro_pure (v := .bool true) (wanted_none rfl) (by simp [execOp, Act.eval, e26, f26, e35, f35, go_sem]) (sp_same (by kernel_rfl) hl hs hS (show (.bool true : Value) = _ from rfl)) trivial
    exact SSteps.nil
  · intro vs w' hS hv
    have q0 := (show vs 0 = (.agg (cv x) : Value) from hv 0 (by decide))
    have q1 := (show vs 1 = (.bool true : Value) from hv 1 (by decide))
    have q2 := (show vs 2 = (.bool false : Value) from hv 2 (by decide))
    have q3 := (show vs 3 = (.bool false : Value) from hv 3 (by decide))
    have q4 := (show vs 4 = (.pointer (some ⟨b7, 4, none⟩) : Value) from hv 4 (by decide))
    have q5 := (show vs 5 = (.int .i64 x.width : Value) from hv 5 (by decide))
    have q6 := (show vs 6 = (.bool true : Value) from hv 6 (by decide))
    have q7 := (show vs 7 = (.bool true : Value) from hv 7 (by decide))
    have q8 := (show vs 8 = (.bool true : Value) from hv 8 (by decide))
    have q18 := (show vs 18 = (.bool true : Value) from hv 18 (by decide))
    have S2 := Lib.hid hS
    simp only [putL, Act.put, Nat.zero_add, Nat.reduceAdd, List.setIfInBounds_toArray, List.set_cons_succ, List.set_cons_zero, q0, q1, q2, q3, q4, q5, q6, q7, q8, q18]
    clear hS hv q0 q1 q2 q3 q4 q5 q6 q7 q8 q18
    go_wp2_with fail
    go_ret
    exact ⟨rfl, S2.out.tail⟩
set_option maxRecDepth 100000 in
set_option maxHeartbeats 2000000 in
theorem Put_bad3 {i j : Nat} (x : Cell) (hT : Tabs w0) (hS : Objs w0 w (.grid p 58 cols L :: os)) (hc : 0 < cols) (hcm : cols ≤ 1000) (hi : i < L.length) (hj : j < cols) (hv : x.ok = true) (hw : ¬ x.width = 0) (hov : (cols : Int) < j + x.width) :
    Calls Tryd.prog 33 #[.pointer (some ⟨p, 0, none⟩), .int .i64 i, .int .i64 j, .agg (cv x)] w fun e w' => e = .returned (.int .i64 2) ∧ Objs w0 w' (.grid p 58 cols L :: os) := by
  have S := Lib.hid hS
  have HT := Lib.hid hT
  have HE := Lib.hid (show atE i j cols L = 0 by unfold atE; rw [if_pos ⟨⟨by omega, by omega⟩, by omega, by omega⟩])
  clear hS hT
  have HV := Lib.hid hv
  have hw0 := beq_no hw
  have hxw : 0 ≤ x.width ∧ x.width ≤ 2 := by rcases ok_width hv with h | h | h <;> omega
  have hsum : IntKind.i64.wrap ((j : Int) + x.width) = j + x.width := IntWalk.i64_in _ (by omega)
  have HW := Lib.hid hw
  clear hv hw
  go_enter Tryd.func33, Tryd.ntmps33
  go_wp2_with fail
  refine (at_any _ _ S.out.alloc1 (k := 1) rfl hc).mono ?_
  rw [HE.out]
  rintro e w1 ⟨rfl, hS⟩
  have S1 := Lib.hid hS
  clear hS S
  generalize w.heap.size = b7 at S1 ⊢
  go_upto_region 4 with (fail)
  refine wp_region_stage (w0 := w0) (os := os) (by kernel_rfl) (by kernel_rfl) (by kernel_rfl) [] [[0], [], [], [], [], [0], [], [], [], [], [], [0], [], [], [], [], [1], [], []] [.box b7 71 (cv x), .grid p 58 cols L] (fun i u => match i with | 0 => u = (.agg (cv x) : Value) | 1 => u = (.bool true : Value) | 2 => u = (.bool false : Value) | 3 => u = (.bool false : Value) | 4 => u = (.pointer (some ⟨b7, 4, none⟩) : Value) | 5 => u = (.int .i64 x.width : Value) | 6 => u = (.bool false : Value) | 7 => u = (.bool false : Value) | 8 => u = (.bool false : Value) | 9 => u = (.int .i64 ↑j : Value) | 10 => u = (.pointer (some ⟨b7, 4, none⟩) : Value) | 11 => u = (.int .i64 x.width : Value) | 12 => u = (.int .i64 (↑j + x.width) : Value) | 13 => u = (.pointer (some ⟨p, 0, none⟩) : Value) | 14 => u = (.pointer (some ⟨p, 0, none⟩) : Value) | 15 => u = (.pointer (some ⟨p, 0, none⟩) : Value) | 16 => u = (.int .i64 ↑cols : Value) | 17 => u = (.bool true : Value) | 18 => u = (.bool true : Value) | _ => True) (fun vs => [.box b7 71 (cv x), .grid p 58 cols L]) (by kernel_rfl) (fun vs => by rfl) S1.out ?_ ?_
  · refine SSteps.cons (fun a w' vs σ hS hl hs hk => ?_) ?_
    · have e7 : a.tmps.getD 7 undef = (.pointer (some ⟨b7, 0, none⟩) : Value) := (sk_old hk 7 (by kernel_rfl)).trans rfl
      have f7 := gd e7
      have hx := (hS.box (sg (hs 0 (by decide)))).box.2.2.2.1
      exact ro_pure (v := .agg (cv x)) (wanted_none rfl) (by simp [execOp, Act.eval, e7, f7, go_sem, hx]) (sp_same (by kernel_rfl) hl hs hS (show (.agg (cv x) : Value) = _ from rfl)) trivial
    refine SSteps.cons (fun a w' vs σ hS hl hs hk => ?_) ?_
    · have e18 : a.tmps.getD 18 undef = (.agg (cv x) : Value) := (sk_val hk 0 (by kernel_rfl) rfl rfl).trans ((hk.1 0 (by kernel_rfl)).1)
      have f18 := gd e18
      exact ro_call (f := 72) (wanted_none rfl) rfl (by simp only [List.map_toArray, List.map_cons, List.map_nil, Act.eval, e18] <;> rfl) (fun _ _ => by kernel_rfl) ((valid_yes HV.out w' (hS.tabs HT.out)).mono fun e w2 ⟨h1, h2⟩ => ⟨_, h1, sp_same (by kernel_rfl) hl hs (hS.bel h2) rfl, trivial⟩)
    refine SSteps.cons (fun a w' vs σ hS hl hs hk => ?_) ?_
    · have e19 : a.tmps.getD 19 undef = (.bool true : Value) := (sk_val hk 1 (by kernel_rfl) rfl rfl).trans ((hk.1 1 (by kernel_rfl)).1)
      have f19 := gd e19
      exact ro_pure (v := .bool false) (wanted_none rfl) (by simp [execOp, Act.eval, e19, f19, go_sem]) (sp_same (by kernel_rfl) hl hs hS (show (.bool false : Value) = _ from rfl)) trivial
    refine SSteps.cons (fun a w' vs σ hS hl hs hk => ?_) ?_
    · have e20 : a.tmps.getD 20 undef = (.bool false : Value) := (sk_val hk 2 (by kernel_rfl) rfl rfl).trans ((hk.1 2 (by kernel_rfl)).1)
      have f20 := gd e20
      exact ro_pure (v := .bool false) (wanted_none rfl) (by simp [execOp, Act.eval, e20, f20, go_sem]) (sp_same (by kernel_rfl) hl hs hS (show (.bool false : Value) = _ from rfl)) trivial
    refine SSteps.cons (fun a w' vs σ hS hl hs hk => ?_) ?_
    · have e7 : a.tmps.getD 7 undef = (.pointer (some ⟨b7, 0, none⟩) : Value) := (sk_old hk 7 (by kernel_rfl)).trans rfl
      have f7 := gd e7
      exact ro_pure (v := .pointer (some ⟨b7, 4, none⟩)) (wanted_yes rfl rfl rfl (show _ = _ from (sk_val hk 3 (by kernel_rfl) rfl rfl).trans ((hk.1 3 (by kernel_rfl)).1))) (by simp [execOp, Act.eval, e7, f7, go_sem]) (sp_same (by kernel_rfl) hl hs hS (show (.pointer (some ⟨b7, 4, none⟩) : Value) = _ from rfl)) trivial
    refine SSteps.cons (fun a w' vs σ hS hl hs hk => ?_) ?_
    · have e22 : a.tmps.getD 22 undef = (.pointer (some ⟨b7, 4, none⟩) : Value) := (sk_val hk 4 (by kernel_rfl) rfl rfl).trans ((hk.1 4 (by kernel_rfl)).1)
      have f22 := gd e22
      have hx := (hS.box (sg (hs 0 (by decide)))).box.1
      exact ro_pure (v := .int .i64 x.width) (wanted_yes rfl rfl rfl (show _ = _ from (sk_val hk 3 (by kernel_rfl) rfl rfl).trans ((hk.1 3 (by kernel_rfl)).1))) (by simp [execOp, Act.eval, e22, f22, go_sem, hx]) (sp_same (by kernel_rfl) hl hs hS (show (.int .i64 x.width : Value) = _ from rfl)) trivial
    refine SSteps.cons (fun a w' vs σ hS hl hs hk => ?_) ?_
    · have e23 : a.tmps.getD 23 undef = (.int .i64 x.width : Value) := (sk_val hk 5 (by kernel_rfl) rfl rfl).trans ((hk.1 5 (by kernel_rfl)).1)
      have f23 := gd e23
      exact ro_pure (v := .bool false) (wanted_yes rfl rfl rfl (show _ = _ from (sk_val hk 3 (by kernel_rfl) rfl rfl).trans ((hk.1 3 (by kernel_rfl)).1))) (by simp [execOp, Act.eval, e23, f23, go_sem, hw0]) (sp_same (by kernel_rfl) hl hs hS (show (.bool false : Value) = _ from rfl)) trivial
    refine SSteps.cons (fun a w' vs σ hS hl hs hk => ?_) ?_
    · have e21 : a.tmps.getD 21 undef = (.bool false : Value) := (sk_val hk 3 (by kernel_rfl) rfl rfl).trans ((hk.1 3 (by kernel_rfl)).1)
      have f21 := gd e21
      have e24 : a.tmps.getD 24 undef = (.bool false : Value) := (sk_val hk 6 (by kernel_rfl) rfl rfl).trans ((hk.1 6 (by kernel_rfl)).1)
      have f24 := gd e24
      exact ro_pure (v := .bool false) (wanted_none rfl) (by simp [execOp, Act.eval, e21, f21, e24, f24, go_sem]) (sp_same (by kernel_rfl) hl hs hS (show (.bool false : Value) = _ from rfl)) trivial
    refine SSteps.cons (fun a w' vs σ hS hl hs hk => ?_) ?_
    · have e25 : a.tmps.getD 25 undef = (.bool false : Value) := (sk_val hk 7 (by kernel_rfl) rfl rfl).trans ((hk.1 7 (by kernel_rfl)).1)
      have f25 := gd e25
      exact ro_pure (v := .bool false) (wanted_none rfl) (by simp [execOp, Act.eval, e25, f25, go_sem]) (sp_same (by kernel_rfl) hl hs hS (show (.bool false : Value) = _ from rfl)) trivial
    refine SSteps.cons (fun a w' vs σ hS hl hs hk => ?_) ?_
    · have e2 : a.tmps.getD 2 undef = (.int .i64 ↑j : Value) := (sk_old hk 2 (by kernel_rfl)).trans rfl
      have f2 := gd e2
      exact ro_pure (v := .int .i64 ↑j) (wanted_yes rfl rfl rfl (show _ = _ from (sk_val hk 8 (by kernel_rfl) rfl rfl).trans ((hk.1 8 (by kernel_rfl)).1))) (by simp [execOp, Act.eval, e2, f2, go_sem]) (sp_same (by kernel_rfl) hl hs hS (show (.int .i64 ↑j : Value) = _ from rfl)) trivial
    refine SSteps.cons (fun a w' vs σ hS hl hs hk => ?_) ?_
    · have e7 : a.tmps.getD 7 undef = (.pointer (some ⟨b7, 0, none⟩) : Value) := (sk_old hk 7 (by kernel_rfl)).trans rfl
      have f7 := gd e7
      exact ro_pure (v := .pointer (some ⟨b7, 4, none⟩)) (wanted_yes rfl rfl rfl (show _ = _ from (sk_val hk 8 (by kernel_rfl) rfl rfl).trans ((hk.1 8 (by kernel_rfl)).1))) (by simp [execOp, Act.eval, e7, f7, go_sem]) (sp_same (by kernel_rfl) hl hs hS (show (.pointer (some ⟨b7, 4, none⟩) : Value) = _ from rfl)) trivial
    refine SSteps.cons (fun a w' vs σ hS hl hs hk => ?_) ?_
    · have e28 : a.tmps.getD 28 undef = (.pointer (some ⟨b7, 4, none⟩) : Value) := (sk_val hk 10 (by kernel_rfl) rfl rfl).trans ((hk.1 10 (by kernel_rfl)).1)
      have f28 := gd e28
      have hx := (hS.box (sg (hs 0 (by decide)))).box.1
      exact ro_pure (v := .int .i64 x.width) (wanted_yes rfl rfl rfl (show _ = _ from (sk_val hk 8 (by kernel_rfl) rfl rfl).trans ((hk.1 8 (by kernel_rfl)).1))) (by simp [execOp, Act.eval, e28, f28, go_sem, hx]) (sp_same (by kernel_rfl) hl hs hS (show (.int .i64 x.width : Value) = _ from rfl)) trivial
    refine SSteps.cons (fun a w' vs σ hS hl hs hk => ?_) ?_
    · have e27 : a.tmps.getD 27 undef = (.int .i64 ↑j : Value) := (sk_val hk 9 (by kernel_rfl) rfl rfl).trans ((hk.1 9 (by kernel_rfl)).1)
      have f27 := gd e27
      have e29 : a.tmps.getD 29 undef = (.int .i64 x.width : Value) := (sk_val hk 11 (by kernel_rfl) rfl rfl).trans ((hk.1 11 (by kernel_rfl)).1)
      have f29 := gd e29
      exact ro_pure (v := .int .i64 (↑j + x.width)) (wanted_yes rfl rfl rfl (show _ = _ from (sk_val hk 8 (by kernel_rfl) rfl rfl).trans ((hk.1 8 (by kernel_rfl)).1))) (by simp [execOp, Act.eval, e27, f27, e29, f29, go_sem, hsum]) (sp_same (by kernel_rfl) hl hs hS (show (.int .i64 (↑j + x.width) : Value) = _ from rfl)) trivial
    refine SSteps.cons (fun a w' vs σ hS hl hs hk => ?_) ?_
    · have e0 : a.tmps.getD 0 undef = (.pointer (some ⟨p, 0, none⟩) : Value) := (sk_old hk 0 (by kernel_rfl)).trans rfl
      have f0 := gd e0
      exact ro_pure (v := .pointer (some ⟨p, 0, none⟩)) (wanted_yes rfl rfl rfl (show _ = _ from (sk_val hk 8 (by kernel_rfl) rfl rfl).trans ((hk.1 8 (by kernel_rfl)).1))) (by simp [execOp, Act.eval, e0, f0, go_sem]) (sp_same (by kernel_rfl) hl hs hS (show (.pointer (some ⟨p, 0, none⟩) : Value) = _ from rfl)) trivial
    refine SSteps.cons (fun a w' vs σ hS hl hs hk => ?_) ?_
    · have e31 : a.tmps.getD 31 undef = (.pointer (some ⟨p, 0, none⟩) : Value) := (sk_val hk 13 (by kernel_rfl) rfl rfl).trans ((hk.1 13 (by kernel_rfl)).1)
      have f31 := gd e31
      exact ro_pure (v := .pointer (some ⟨p, 0, none⟩)) (wanted_yes rfl rfl rfl (show _ = _ from (sk_val hk 8 (by kernel_rfl) rfl rfl).trans ((hk.1 8 (by kernel_rfl)).1))) (by simp [execOp, Act.eval, e31, f31, go_sem]) (sp_same (by kernel_rfl) hl hs hS (show (.pointer (some ⟨p, 0, none⟩) : Value) = _ from rfl)) trivial
    refine SSteps.cons (fun a w' vs σ hS hl hs hk => ?_) ?_
    · have e32 : a.tmps.getD 32 undef = (.pointer (some ⟨p, 0, none⟩) : Value) := (sk_val hk 14 (by kernel_rfl) rfl rfl).trans ((hk.1 14 (by kernel_rfl)).1)
      have f32 := gd e32
      exact ro_pure (v := .pointer (some ⟨p, 0, none⟩)) (wanted_yes rfl rfl rfl (show _ = _ from (sk_val hk 8 (by kernel_rfl) rfl rfl).trans ((hk.1 8 (by kernel_rfl)).1))) (by simp [execOp, Act.eval, e32, f32, go_sem]) (sp_same (by kernel_rfl) hl hs hS (show (.pointer (some ⟨p, 0, none⟩) : Value) = _ from rfl)) trivial
    refine SSteps.cons (fun a w' vs σ hS hl hs hk => ?_) ?_
    · have e33 : a.tmps.getD 33 undef = (.pointer (some ⟨p, 0, none⟩) : Value) := (sk_val hk 15 (by kernel_rfl) rfl rfl).trans ((hk.1 15 (by kernel_rfl)).1)
      have f33 := gd e33
      obtain ⟨A1, c1, hB1, -, -⟩ := hS.gridRd (sg (hs 1 (by decide)))
      have hx := hB1.cell
      exact ro_pure (v := .int .i64 ↑cols) (wanted_yes rfl rfl rfl (show _ = _ from (sk_val hk 8 (by kernel_rfl) rfl rfl).trans ((hk.1 8 (by kernel_rfl)).1))) (by simp [execOp, Act.eval, e33, f33, go_sem, hx]) (sp_same (by kernel_rfl) hl hs hS (show (.int .i64 ↑cols : Value) = _ from rfl)) trivial
    refine SSteps.cons (fun a w' vs σ hS hl hs hk => ?_) ?_
    · have e30 : a.tmps.getD 30 undef = (.int .i64 (↑j + x.width) : Value) := (sk_val hk 12 (by kernel_rfl) rfl rfl).trans ((hk.1 12 (by kernel_rfl)).1)
      have f30 := gd e30
      have e34 : a.tmps.getD 34 undef = (.int .i64 ↑cols : Value) := (sk_val hk 16 (by kernel_rfl) rfl rfl).trans ((hk.1 16 (by kernel_rfl)).1)
      have f34 := gd e34
      exact ro_pure (v := .bool true) (wanted_yes rfl rfl rfl (show _ = _ from (sk_val hk 8 (by kernel_rfl) rfl rfl).trans ((hk.1 8 (by kernel_rfl)).1))) (by simp [execOp, Act.eval, e30, f30, e34, f34, go_sem, hov]) (sp_same (by kernel_rfl) hl hs hS (show (.bool true : Value) = _ from rfl)) trivial
    refine SSteps.cons (fun a w' vs σ hS hl hs hk => ?_) ?_
    · have e26 : a.tmps.getD 26 undef = (.bool false : Value) := (sk_val hk 8 (by kernel_rfl) rfl rfl).trans ((hk.1 8 (by kernel_rfl)).1)
      have f26 := gd e26
      have e35 : a.tmps.getD 35 undef = (.bool true : Value) := (sk_val hk 17 (by kernel_rfl) rfl rfl).trans ((hk.1 17 (by kernel_rfl)).1)
      have f35 := gd e35
      exact ro_pure (v := .bool true) (wanted_none rfl) (by simp [execOp, Act.eval, e26, f26, e35, f35, go_sem]) (sp_same (by kernel_rfl) hl hs hS (show (.bool true : Value) = _ from rfl)) trivial
    exact SSteps.nil
  · intro vs w' hS hv
    have q0 := (show vs 0 = (.agg (cv x) : Value) from hv 0 (by decide))
    have q1 := (show vs 1 = (.bool true : Value) from hv 1 (by decide))
    have q2 := (show vs 2 = (.bool false : Value) from hv 2 (by decide))
    have q3 := (show vs 3 = (.bool false : Value) from hv 3 (by decide))
    have q4 := (show vs 4 = (.pointer (some ⟨b7, 4, none⟩) : Value) from hv 4 (by decide))
    have q5 := (show vs 5 = (.int .i64 x.width : Value) from hv 5 (by decide))
    have q6 := (show vs 6 = (.bool false : Value) from hv 6 (by decide))
    have q7 := (show vs 7 = (.bool false : Value) from hv 7 (by decide))
    have q8 := (show vs 8 = (.bool false : Value) from hv 8 (by decide))
    have q9 := (show vs 9 = (.int .i64 ↑j : Value) from hv 9 (by decide))
    have q10 := (show vs 10 = (.pointer (some ⟨b7, 4, none⟩) : Value) from hv 10 (by decide))
    have q11 := (show vs 11 = (.int .i64 x.width : Value) from hv 11 (by decide))
    have q12 := (show vs 12 = (.int .i64 (↑j + x.width) : Value) from hv 12 (by decide))
    have q13 := (show vs 13 = (.pointer (some ⟨p, 0, none⟩) : Value) from hv 13 (by decide))
    have q14 := (show vs 14 = (.pointer (some ⟨p, 0, none⟩) : Value) from hv 14 (by decide))
    have q15 := (show vs 15 = (.pointer (some ⟨p, 0, none⟩) : Value) from hv 15 (by decide))
    have q16 := (show vs 16 = (.int .i64 ↑cols : Value) from hv 16 (by decide))
    have q17 := (show vs 17 = (.bool true : Value) from hv 17 (by decide))
    have q18 := (show vs 18 = (.bool true : Value) from hv 18 (by decide))
    have S2 := Lib.hid hS
    simp only [putL, Act.put, Nat.zero_add, Nat.reduceAdd, List.setIfInBounds_toArray, List.set_cons_succ, List.set_cons_zero, q0, q1, q2, q3, q4, q5, q6, q7, q8, q9, q10, q11, q12, q13, q14, q15, q16, q17, q18]
    clear hS hv q0 q1 q2 q3 q4 q5 q6 q7 q8 q9 q10 q11 q12 q13 q14 q15 q16 q17 q18
    go_wp2_with fail
    go_ret
    exact ⟨rfl, S2.out.tail⟩
set_option maxRecDepth 100000 in
set_option maxHeartbeats 4000000 in
theorem Put_yes {i j : Nat} {l : Ln} (x : Cell) (hT : Tabs w0) (hS : Objs w0 w (.grid p 58 cols L :: os)) (hc : 0 < cols) (hcm : cols ≤ 1000) (hl : L[i]? = some l) (hrow : l.1.length = cols) (hv : x.ok = true) (hw : ¬ x.width = 0) (hfit : (j : Int) + x.width ≤ cols) :
    Calls Tryd.prog 33 #[.pointer (some ⟨p, 0, none⟩), .int .i64 i, .int .i64 j, .agg (cv x)] w fun e w' => e = .returned (.int .i64 0) ∧ Objs w0 w' (.grid p 58 cols (L.set i (putC j x l.1, l.2)) :: os) := by
  have S := Lib.hid hS
  have hi : i < L.length := (List.getElem?_eq_some_iff.1 hl).1
  have hxw : 1 ≤ x.width ∧ x.width ≤ 2 := by rcases ok_w12 hv hw with h | h <;> omega
  have hj : j < cols := by omega
  have HL := Lib.hid hl
  have HT := Lib.hid hT
  have HE := Lib.hid (show atE i j cols L = 0 by unfold atE; rw [if_pos ⟨⟨by omega, by omega⟩, by omega, by omega⟩])
  have HV := Lib.hid hv
  have hw0 := beq_no hw
  have hsum : IntKind.i64.wrap ((j : Int) + x.width) = j + x.width := IntWalk.i64_in _ (by omega)
  have hov : ¬ ((cols : Int) < j + x.width) := by omega
  have HROW := Lib.hid hrow
  have hlr : l.1.length ≤ 1000 := by omega
  have hjr : j < l.1.length := by omega
  clear hS hT hl hv hw hrow
  go_enter Tryd.func33, Tryd.ntmps33
  go_wp2_with fail
  refine (at_any _ _ S.out.alloc1 (k := 1) rfl hc).mono ?_
  rw [HE.out]
  rintro e w1 ⟨rfl, hS⟩
  have S1 := Lib.hid hS
  clear hS S
  generalize w.heap.size = b7 at S1 ⊢
  go_upto_region 4 with (fail)
  refine wp_region_stage (w0 := w0) (os := os) (by kernel_rfl) (by kernel_rfl) (by kernel_rfl) [] [[0], [], [], [], [], [0], [], [], [], [], [], [0], [], [], [], [], [1], [], []] [.box b7 71 (cv x), .grid p 58 cols L] (fun i u => match i with | 0 => u = (.agg (cv x) : Value) | 1 => u = (.bool true : Value) | 2 => u = (.bool false : Value) | 3 => u = (.bool false : Value) | 4 => u = (.pointer (some ⟨b7, 4, none⟩) : Value) | 5 => u = (.int .i64 x.width : Value) | 6 => u = (.bool false : Value) | 7 => u = (.bool false : Value) | 8 => u = (.bool false : Value) | 9 => u = (.int .i64 ↑j : Value) | 10 => u = (.pointer (some ⟨b7, 4, none⟩) : Value) | 11 => u = (.int .i64 x.width : Value) | 12 => u = (.int .i64 (↑j + x.width) : Value) | 13 => u = (.pointer (some ⟨p, 0, none⟩) : Value) | 14 => u = (.pointer (some ⟨p, 0, none⟩) : Value) | 15 => u = (.pointer (some ⟨p, 0, none⟩) : Value) | 16 => u = (.int .i64 ↑cols : Value) | 17 => u = (.bool false : Value) | 18 => u = (.bool false : Value) | _ => True) (fun vs => [.box b7 71 (cv x), .grid p 58 cols L]) (by kernel_rfl) (fun vs => by rfl) S1.out ?_ ?_
  · refine SSteps.cons (fun a w' vs σ hS hl hs hk => ?_) ?_
    · have e7 : a.tmps.getD 7 undef = (.pointer (some ⟨b7, 0, none⟩) : Value) := (sk_old hk 7 (by kernel_rfl)).trans rfl
      have f7 := gd e7
      have hx := (hS.box (sg (hs 0 (by decide)))).box.2.2.2.1
      exact ro_pure (v := .agg (cv x)) (wanted_none rfl) (by simp [execOp, Act.eval, e7, f7, go_sem, hx]) (sp_same (by kernel_rfl) hl hs hS (show (.agg (cv x) : Value) = _ from rfl)) trivial
    refine SSteps.cons (fun a w' vs σ hS hl hs hk => ?_) ?_
    · have e18 : a.tmps.getD 18 undef = (.agg (cv x) : Value) := (sk_val hk 0 (by kernel_rfl) rfl rfl).trans ((hk.1 0 (by kernel_rfl)).1)
      have f18 := gd e18
      exact ro_call (f := 72) (wanted_none rfl) rfl (by simp only [List.map_toArray, List.map_cons, List.map_nil, Act.eval, e18] <;> rfl) (fun _ _ => by kernel_rfl) ((valid_yes HV.out w' (hS.tabs HT.out)).mono fun e w2 ⟨h1, h2⟩ => ⟨_, h1, sp_same (by kernel_rfl) hl hs (hS.bel h2) rfl, trivial⟩)
    refine SSteps.cons (fun a w' vs σ hS hl hs hk => ?_) ?_
    · have e19 : a.tmps.getD 19 undef = (.bool true : Value) := (sk_val hk 1 (by kernel_rfl) rfl rfl).trans ((hk.1 1 (by kernel_rfl)).1)
      have f19 := gd e19
      exact ro_pure (v := .bool false) (wanted_none rfl) (by simp [execOp, Act.eval, e19, f19, go_sem]) (sp_same (by kernel_rfl) hl hs hS (show (.bool false : Value) = _ from rfl)) trivial
    refine SSteps.cons (fun a w' vs σ hS hl hs hk => ?_) ?_
    · have e20 : a.tmps.getD 20 undef = (.bool false : Value) := (sk_val hk 2 (by kernel_rfl) rfl rfl).trans ((hk.1 2 (by kernel_rfl)).1)
      have f20 := gd e20
      exact ro_pure (v := .bool false) (wanted_none rfl) (by simp [execOp, Act.eval, e20, f20, go_sem]) (sp_same (by kernel_rfl) hl hs hS (show (.bool false : Value) = _ from rfl)) trivial
    refine SSteps.cons (fun a w' vs σ hS hl hs hk => ?_) ?_
    · have e7 : a.tmps.getD 7 undef = (.pointer (some ⟨b7, 0, none⟩) : Value) := (sk_old hk 7 (by kernel_rfl)).trans rfl
      have f7 := gd e7
      exact ro_pure (v := .pointer (some ⟨b7, 4, none⟩)) (wanted_yes rfl rfl rfl (show _ = _ from (sk_val hk 3 (by kernel_rfl) rfl rfl).trans ((hk.1 3 (by kernel_rfl)).1))) (by simp [execOp, Act.eval, e7, f7, go_sem]) (sp_same (by kernel_rfl) hl hs hS (show (.pointer (some ⟨b7, 4, none⟩) : Value) = _ from rfl)) trivial
    refine SSteps.cons (fun a w' vs σ hS hl hs hk => ?_) ?_
    · have e22 : a.tmps.getD 22 undef = (.pointer (some ⟨b7, 4, none⟩) : Value) := (sk_val hk 4 (by kernel_rfl) rfl rfl).trans ((hk.1 4 (by kernel_rfl)).1)
      have f22 := gd e22
      have hx := (hS.box (sg (hs 0 (by decide)))).box.1
      exact ro_pure (v := .int .i64 x.width) (wanted_yes rfl rfl rfl (show _ = _ from (sk_val hk 3 (by kernel_rfl) rfl rfl).trans ((hk.1 3 (by kernel_rfl)).1))) (by simp [execOp, Act.eval, e22, f22, go_sem, hx]) (sp_same (by kernel_rfl) hl hs hS (show (.int .i64 x.width : Value) = _ from rfl)) trivial
    refine SSteps.cons (fun a w' vs σ hS hl hs hk => ?_) ?_
    · have e23 : a.tmps.getD 23 undef = (.int .i64 x.width : Value) := (sk_val hk 5 (by kernel_rfl) rfl rfl).trans ((hk.1 5 (by kernel_rfl)).1)
      have f23 := gd e23
      exact ro_pure (v := .bool false) (wanted_yes rfl rfl rfl (show _ = _ from (sk_val hk 3 (by kernel_rfl) rfl rfl).trans ((hk.1 3 (by kernel_rfl)).1))) (by simp [execOp, Act.eval, e23, f23, go_sem, hw0]) (sp_same (by kernel_rfl) hl hs hS (show (.bool false : Value) = _ from rfl)) trivial
    refine SSteps.cons (fun a w' vs σ hS hl hs hk => ?_) ?_
    · have e21 : a.tmps.getD 21 undef = (.bool false : Value) := (sk_val hk 3 (by kernel_rfl) rfl rfl).trans ((hk.1 3 (by kernel_rfl)).1)
      have f21 := gd e21
      have e24 : a.tmps.getD 24 undef = (.bool false : Value) := (sk_val hk 6 (by kernel_rfl) rfl rfl).trans ((hk.1 6 (by kernel_rfl)).1)
      have f24 := gd e24
      exact ro_pure (v := .bool false) (wanted_none rfl) (by simp [execOp, Act.eval, e21, f21, e24, f24, go_sem]) (sp_same (by kernel_rfl) hl hs hS (show (.bool false : Value) = _ from rfl)) trivial
    refine SSteps.cons (fun a w' vs σ hS hl hs hk => ?_) ?_
    · have e25 : a.tmps.getD 25 undef = (.bool false : Value) := (sk_val hk 7 (by kernel_rfl) rfl rfl).trans ((hk.1 7 (by kernel_rfl)).1)
      have f25 := gd e25
      exact ro_pure (v := .bool false) (wanted_none rfl) (by simp [execOp, Act.eval, e25, f25, go_sem]) (sp_same (by kernel_rfl) hl hs hS (show (.bool false : Value) = _ from rfl)) trivial
    refine SSteps.cons (fun a w' vs σ hS hl hs hk => ?_) ?_
    · have e2 : a.tmps.getD 2 undef = (.int .i64 ↑j : Value) := (sk_old hk 2 (by kernel_rfl)).trans rfl
      have f2 := gd e2
      exact ro_pure (v := .int .i64 ↑j) (wanted_yes rfl rfl rfl (show _ = _ from (sk_val hk 8 (by kernel_rfl) rfl rfl).trans ((hk.1 8 (by kernel_rfl)).1))) (by simp [execOp, Act.eval, e2, f2, go_sem]) (sp_same (by kernel_rfl) hl hs hS (show (.int .i64 ↑j : Value) = _ from rfl)) trivial
    refine SSteps.cons (fun a w' vs σ hS hl hs hk => ?_) ?_
    · have e7 : a.tmps.getD 7 undef = (.pointer (some ⟨b7, 0, none⟩) : Value) := (sk_old hk 7 (by kernel_rfl)).trans rfl
      have f7 := gd e7
      exact ro_pure (v := .pointer (some ⟨b7, 4, none⟩)) (wanted_yes rfl rfl rfl (show _ = _ from (sk_val hk 8 (by kernel_rfl) rfl rfl).trans ((hk.1 8 (by kernel_rfl)).1))) (by simp [execOp, Act.eval, e7, f7, go_sem]) (sp_same (by kernel_rfl) hl hs hS (show (.pointer (some ⟨b7, 4, none⟩) : Value) = _ from rfl)) trivial
    refine SSteps.cons (fun a w' vs σ hS hl hs hk => ?_) ?_
    · have e28 : a.tmps.getD 28 undef = (.pointer (some ⟨b7, 4, none⟩) : Value) := (sk_val hk 10 (by kernel_rfl) rfl rfl).trans ((hk.1 10 (by kernel_rfl)).1)
      have f28 := gd e28
      have hx := (hS.box (sg (hs 0 (by decide)))).box.1
      exact ro_pure (v := .int .i64 x.width) (wanted_yes rfl rfl rfl (show _ = _ from (sk_val hk 8 (by kernel_rfl) rfl rfl).trans ((hk.1 8 (by kernel_rfl)).1))) (by simp [execOp, Act.eval, e28, f28, go_sem, hx]) (sp_same (by kernel_rfl) hl hs hS (show (.int .i64 x.width : Value) = _ from rfl)) trivial
    refine SSteps.cons (fun a w' vs σ hS hl hs hk => ?_) ?_
    · have e27 : a.tmps.getD 27 undef = (.int .i64 ↑j : Value) := (sk_val hk 9 (by kernel_rfl) rfl rfl).trans ((hk.1 9 (by kernel_rfl)).1)
      have f27 := gd e27
      have e29 : a.tmps.getD 29 undef = (.int .i64 x.width : Value) := (sk_val hk 11 (by kernel_rfl) rfl rfl).trans ((hk.1 11 (by kernel_rfl)).1)
      have f29 := gd e29
      exact ro_pure (v := .int .i64 (↑j + x.width)) (wanted_yes rfl rfl rfl (show _ = _ from (sk_val hk 8 (by kernel_rfl) rfl rfl).trans ((hk.1 8 (by kernel_rfl)).1))) (by simp [execOp, Act.eval, e27, f27, e29, f29, go_sem, hsum]) (sp_same (by kernel_rfl) hl hs hS (show (.int .i64 (↑j + x.width) : Value) = _ from rfl)) trivial
    refine SSteps.cons (fun a w' vs σ hS hl hs hk => ?_) ?_
    · have e0 : a.tmps.getD 0 undef = (.pointer (some ⟨p, 0, none⟩) : Value) := (sk_old hk 0 (by kernel_rfl)).trans rfl
      have f0 := gd e0
      exact ro_pure (v := .pointer (some ⟨p, 0, none⟩)) (wanted_yes rfl rfl rfl (show _ = _ from (sk_val hk 8 (by kernel_rfl) rfl rfl).trans ((hk.1 8 (by kernel_rfl)).1))) (by simp [execOp, Act.eval, e0, f0, go_sem]) (sp_same (by kernel_rfl) hl hs hS (show (.pointer (some ⟨p, 0, none⟩) : Value) = _ from rfl)) trivial
    refine SSteps.cons (fun a w' vs σ hS hl hs hk => ?_) ?_
    · have e31 : a.tmps.getD 31 undef = (.pointer (some ⟨p, 0, none⟩) : Value) := (sk_val hk 13 (by kernel_rfl) rfl rfl).trans ((hk.1 13 (by kernel_rfl)).1)
      have f31 := gd e31
      exact ro_pure (v := .pointer (some ⟨p, 0, none⟩)) (wanted_yes rfl rfl rfl (show _ = _ from (sk_val hk 8 (by kernel_rfl) rfl rfl).trans ((hk.1 8 (by kernel_rfl)).1))) (by simp [execOp, Act.eval, e31, f31, go_sem]) (sp_same (by kernel_rfl) hl hs hS (show (.pointer (some ⟨p, 0, none⟩) : Value) = _ from rfl)) trivial
    refine SSteps.cons (fun a w' vs σ hS hl hs hk => ?_) ?_
    · have e32 : a.tmps.getD 32 undef = (.pointer (some ⟨p, 0, none⟩) : Value) := (sk_val hk 14 (by kernel_rfl) rfl rfl).trans ((hk.1 14 (by kernel_rfl)).1)
      have f32 := gd e32
      exact ro_pure (v := .pointer (some ⟨p, 0, none⟩)) (wanted_yes rfl rfl rfl (show _ = _ from (sk_val hk 8 (by kernel_rfl) rfl rfl).trans ((hk.1 8 (by kernel_rfl)).1))) (by simp [execOp, Act.eval, e32, f32, go_sem]) (sp_same (by kernel_rfl) hl hs hS (show (.pointer (some ⟨p, 0, none⟩) : Value) = _ from rfl)) trivial
    refine SSteps.cons (fun a w' vs σ hS hl hs hk => ?_) ?_
    · have e33 : a.tmps.getD 33 undef = (.pointer (some ⟨p, 0, none⟩) : Value) := (sk_val hk 15 (by kernel_rfl) rfl rfl).trans ((hk.1 15 (by kernel_rfl)).1)
      have f33 := gd e33
      obtain ⟨A1, c1, hB1, -, -⟩ := hS.gridRd (sg (hs 1 (by decide)))
      have hx := hB1.cell
      exact ro_pure (v := .int .i64 ↑cols) (wanted_yes rfl rfl rfl (show _ = _ from (sk_val hk 8 (by kernel_rfl) rfl rfl).trans ((hk.1 8 (by kernel_rfl)).1))) (by simp [execOp, Act.eval, e33, f33, go_sem, hx]) (sp_same (by kernel_rfl) hl hs hS (show (.int .i64 ↑cols : Value) = _ from rfl)) trivial
    refine SSteps.cons (fun a w' vs σ hS hl hs hk => ?_) ?_
    · have e30 : a.tmps.getD 30 undef = (.int .i64 (↑j + x.width) : Value) := (sk_val hk 12 (by kernel_rfl) rfl rfl).trans ((hk.1 12 (by kernel_rfl)).1)
      have f30 := gd e30
      have e34 : a.tmps.getD 34 undef = (.int .i64 ↑cols : Value) := (sk_val hk 16 (by kernel_rfl) rfl rfl).trans ((hk.1 16 (by kernel_rfl)).1)
      have f34 := gd e34
      exact ro_pure (v := .bool false) (wanted_yes rfl rfl rfl (show _ = _ from (sk_val hk 8 (by kernel_rfl) rfl rfl).trans ((hk.1 8 (by kernel_rfl)).1))) (by simp [execOp, Act.eval, e30, f30, e34, f34, go_sem, hov]) (sp_same (by kernel_rfl) hl hs hS (show (.bool false : Value) = _ from rfl)) trivial
    refine SSteps.cons (fun a w' vs σ hS hl hs hk => ?_) ?_
    · have e26 : a.tmps.getD 26 undef = (.bool false : Value) := (sk_val hk 8 (by kernel_rfl) rfl rfl).trans ((hk.1 8 (by kernel_rfl)).1)
      have f26 := gd e26
      have e35 : a.tmps.getD 35 undef = (.bool false : Value) := (sk_val hk 17 (by kernel_rfl) rfl rfl).trans ((hk.1 17 (by kernel_rfl)).1)
      have f35 := gd e35
      exact ro_pure (v := .bool false) (wanted_none rfl) (by simp [execOp, Act.eval, e26, f26, e35, f35, go_sem]) (sp_same (by kernel_rfl) hl hs hS (show (.bool false : Value) = _ from rfl)) trivial
    exact SSteps.nil
  · intro vs w' hS hv
    have q0 := (show vs 0 = (.agg (cv x) : Value) from hv 0 (by decide))
    have q1 := (show vs 1 = (.bool true : Value) from hv 1 (by decide))
    have q2 := (show vs 2 = (.bool false : Value) from hv 2 (by decide))
    have q3 := (show vs 3 = (.bool false : Value) from hv 3 (by decide))
    have q4 := (show vs 4 = (.pointer (some ⟨b7, 4, none⟩) : Value) from hv 4 (by decide))
    have q5 := (show vs 5 = (.int .i64 x.width : Value) from hv 5 (by decide))
    have q6 := (show vs 6 = (.bool false : Value) from hv 6 (by decide))
    have q7 := (show vs 7 = (.bool false : Value) from hv 7 (by decide))
    have q8 := (show vs 8 = (.bool false : Value) from hv 8 (by decide))
    have q9 := (show vs 9 = (.int .i64 ↑j : Value) from hv 9 (by decide))
    have q10 := (show vs 10 = (.pointer (some ⟨b7, 4, none⟩) : Value) from hv 10 (by decide))
    have q11 := (show vs 11 = (.int .i64 x.width : Value) from hv 11 (by decide))
    have q12 := (show vs 12 = (.int .i64 (↑j + x.width) : Value) from hv 12 (by decide))
    have q13 := (show vs 13 = (.pointer (some ⟨p, 0, none⟩) : Value) from hv 13 (by decide))
    have q14 := (show vs 14 = (.pointer (some ⟨p, 0, none⟩) : Value) from hv 14 (by decide))
    have q15 := (show vs 15 = (.pointer (some ⟨p, 0, none⟩) : Value) from hv 15 (by decide))
    have q16 := (show vs 16 = (.int .i64 ↑cols : Value) from hv 16 (by decide))
    have q17 := (show vs 17 = (.bool false : Value) from hv 17 (by decide))
    have q18 := (show vs 18 = (.bool false : Value) from hv 18 (by decide))
    have S2 := Lib.hid hS
    simp only [putL, Act.put, Nat.zero_add, Nat.reduceAdd, List.setIfInBounds_toArray, List.set_cons_succ, List.set_cons_zero, q0, q1, q2, q3, q4, q5, q6, q7, q8, q9, q10, q11, q12, q13, q14, q15, q16, q17, q18]
    clear hS hv q0 q1 q2 q3 q4 q5 q6 q7 q8 q9 q10 q11 q12 q13 q14 q15 q16 q17 q18
    clear hsum hw0 hov
    obtain ⟨v, b, hS3⟩ := S2.out.swap.openAt HL.out
    obtain ⟨A, c, rfl, -⟩ := hS3.cellsRd (k := 0) rfl
    obtain ⟨g, rfl, -, -, -, -⟩ := (hS3.own (k := 0) rfl).head (by omega)
    obtain ⟨gr, cr, rfl, h1, h2, h3, h4, h5, h6, h7⟩ := hS3.linesxRd (k := 1) rfl
    obtain ⟨hx2, hf2, hz2⟩ := (hS3.box (k := 2) rfl).facts
    have hlen2 : L.length ≤ 9223372036854775807 := by unfold maxLen at h2; omega
    have S3 := Lib.hid hS3
    clear hS3 h1 h2 h6
    go_wp2_with fail
    refine (split_at S3.out rfl rfl (by omega) (by omega)).mono ?_
    rintro e w4 ⟨rfl, hS4⟩
    have S4 := Lib.hid hS4
    obtain ⟨hx7, hf7, hz7, hc7, hp7⟩ := (hS4.box (k := 3) rfl).box
    clear hS4 hx2 hf2 hz2 h4 h5 h7
    go_wp2_with fail
    refine (split_at (c := j + x.width.toNat) S4.out (by rw [brk_length]) (by omega) (by rw [brk_length]; omega) (by omega)).mono ?_
    rintro e w5 ⟨rfl, hS5⟩
    obtain ⟨W, hst, ho, hg⟩ := (hS5.own (k := 0) rfl).putAt (k := j) (by rw [brk_length, brk_length]; omega) x
    have hS6 := hS5.cellsUpd (k := 0) rfl ho hg
    clear hx7 hf7 hz7 hc7 hp7
    obtain ⟨hx5, hf5, hz5, hc5, hp5⟩ := (hS5.box (k := 3) rfl).box
    obtain ⟨hx7, hf7, hz7, hc7, hp7⟩ := (hS6.box (k := 3) rfl).box
    have S6 := Lib.hid hS6
    clear hS5 hS6 ho hg
    by_cases hw2 : x.width = 2
    · have hw2' := beq_yes hw2
      have HP := Lib.hid (show putC j x l.1 = (((brk (j + x.width.toNat) (brk j l.1)).set j x).set (j + 1) (spacer x.pen)) from if_pos hw2)
      have HW2 := Lib.hid hw2
      clear hw2
      have hj2 : j + 1 < l.1.length := by have := HW2.out; have := HROW.out; omega
      go_wp2_with fail
      refine (pure_call (cellSpacer_any _ _) S6.out).mono ?_
      rintro e w7 ⟨rfl, hS7⟩
      obtain ⟨W2, hst2, ho2, hg2⟩ := (hS7.own (k := 0) rfl).putAt (k := j + 1) (by rw [List.length_set, brk_length, brk_length]; have := HW2.out; have := HROW.out; omega) (spacer x.pen)
      have S8 := Lib.hid (hS7.cellsUpd (k := 0) rfl ho2 hg2)
      clear ho2 hg2
      clear hS7
      have HF := S8.out.closeAt HL.out
      rw [← HP.out] at HF
      go_wp2_with fail
      go_ret
      exact ⟨rfl, HF.drop2⟩
    · have hw2' := beq_no hw2
      have HP := Lib.hid (show putC j x l.1 = ((brk (j + x.width.toNat) (brk j l.1)).set j x) by unfold putC; rw [if_neg hw2])
      clear hw2
      have HF := S6.out.closeAt HL.out
      rw [← HP.out] at HF
      go_wp2_with fail
      go_ret
      exact ⟨rfl, HF.drop2⟩
end
end Go.Proofs.YtppijfjigcoifaaDoor

/-
  Clear and Shift of the program's grid.
-/
set_option linter.unusedSimpArgs false
set_option linter.unusedVariables false
namespace Go.Proofs.YtppijfjigcoifaaDoor
open Go.RowKit

def clearC (f t : Nat) (q : Pen) (cs : List Cell) : List Cell := if f < t then wipeC f (t - f) q (brk t (brk f cs)) else cs
theorem clearC_length {f t : Nat} {q : Pen} {cs : List Cell} (h : t ≤ cs.length) : (clearC f t q cs).length = cs.length := by
  unfold clearC
  split
  · rw [wipeC_length (by rw [brk_length, brk_length]; omega), brk_length, brk_length]
  · rfl
/-- Cells moved to the right, to the left, by k. -/
def shiftR (j k : Nat) (q : Pen) (cs : List Cell) : List Cell := let l := brk (cs.length - k) (brk j cs); l.take j ++ (List.replicate k (blank q) ++ (l.drop j).take (cs.length - k - j))
def shiftL (j k : Nat) (q : Pen) (cs : List Cell) : List Cell := let l := brk (j + k) (brk j cs); l.take j ++ (l.drop (j + k) ++ List.replicate k (blank q))
theorem shiftR_length {j k : Nat} {q : Pen} {cs : List Cell} (h : j + k ≤ cs.length) : (shiftR j k q cs).length = cs.length := by
  simp only [shiftR, List.length_append, List.length_take, List.length_drop, List.length_replicate, brk_length]; omega
theorem shiftL_length {j k : Nat} {q : Pen} {cs : List Cell} (h : j + k ≤ cs.length) : (shiftL j k q cs).length = cs.length := by
  simp only [shiftL, List.length_append, List.length_take, List.length_drop, List.length_replicate, brk_length]; omega
/-- What the program's moves make: to the right. -/
theorem shiftR_is {j k : Nat} {q : Pen} {l : List Cell} (h : j + k ≤ l.length) :
    wipeC j k q (l.take (j + k) ++ ((l.drop j).take (l.length - k - j) ++ l.drop (j + k + (l.length - k - j)))) = l.take j ++ (List.replicate k (blank q) ++ (l.drop j).take (l.length - k - j)) := by
  unfold wipeC
  have e1 : l.drop (j + k + (l.length - k - j)) = [] := List.drop_eq_nil_of_le (by omega)
  rw [e1, List.append_nil]
  have hlen : (l.take (j + k)).length = j + k := by simp; omega
  rw [List.take_append_of_le_length (by omega), List.take_take, Nat.min_eq_left (by omega), List.drop_left' hlen]
  simp
theorem shiftL_is {j k : Nat} {q : Pen} {l : List Cell} (h : j + k ≤ l.length) :
    wipeC (l.length - k) k q (l.take j ++ ((l.drop (j + k)).take (l.length - (j + k)) ++ l.drop (j + (l.length - (j + k))))) = l.take j ++ (l.drop (j + k) ++ List.replicate k (blank q)) := by
  unfold wipeC
  have e1 : (l.drop (j + k)).take (l.length - (j + k)) = l.drop (j + k) := List.take_of_length_le (by simp)
  rw [e1]
  have hlen : (l.take j ++ l.drop (j + k)).length = l.length - k := by simp; omega
  rw [List.drop_eq_nil_of_le (i := l.length - k + k) (by simp only [List.length_append, List.length_take, List.length_drop]; omega), ← List.append_assoc, List.take_left' hlen, List.append_nil, List.append_assoc]
section
variable {w0 w : World} {os : List Ob} {p cols : Nat} {L : List Ln}
set_option maxRecDepth 100000 in
set_option maxHeartbeats 4000000 in
theorem Shift_right {i j k : Nat} {l : Ln} (q : Pen) (hT : Tabs w0) (hS : Objs w0 w (.grid p 58 cols L :: os)) (hc : 0 < cols) (hcm : cols ≤ 1000) (hl : L[i]? = some l) (hrow : l.1.length = cols) (hq : q.ok = true) (n : Int) (hj : j < cols) (hn : 0 < n) (hn2 : n ≤ 9223372036854775807) (hk : (k : Int) = min n ((cols - j : Nat) : Int)) :
    Calls Tryd.prog 52 #[.pointer (some ⟨p, 0, none⟩), .int .i64 i, .int .i64 j, .int .i64 n, .agg (pv q)] w fun e w' => e = .returned (.int .i64 0) ∧ Objs w0 w' (.grid p 58 cols (L.set i (shiftR j k q l.1, l.2)) :: os) := by
  have S := Lib.hid hS
  have hi : i < L.length := (List.getElem?_eq_some_iff.1 hl).1
  have HL := Lib.hid hl
  have HT := Lib.hid hT
  have HQ := Lib.hid hq
  have HROW := Lib.hid hrow
  have hlr : l.1.length ≤ 1000 := by omega
  have hlr2 : cols ≤ l.1.length := by omega
  have hlr3 : l.1.length ≤ cols := by omega
  have HE := Lib.hid (show atE i j cols L = 0 by unfold atE; rw [if_pos ⟨⟨by omega, by omega⟩, by omega, by omega⟩])
  have hkj : j + k ≤ cols := by omega
  have hk1 : 1 ≤ k := by omega
  have hn0 : (n == 0) = false := by simp; omega
  have HP := Lib.hid (show wipeC j (j + k - j) q ((brk (cols - k) (brk j l.1)).take (j + k) ++ (((brk (cols - k) (brk j l.1)).drop j).take (cols - k - j) ++ (brk (cols - k) (brk j l.1)).drop (j + k + (cols - k - j)))) = shiftR j k q l.1 by
    have hb : (brk (cols - k) (brk j l.1)).length = cols := by rw [brk_length, brk_length, hrow]
    have h := shiftR_is (j := j) (k := k) (q := q) (l := brk (cols - k) (brk j l.1)) (by omega)
    rw [hb] at h
    rw [show j + k - j = k by omega, h]
    unfold shiftR
    rw [hrow])
  have hmin : min n ((cols : Int) - j) = (k : Int) := by omega
  clear hS hT hl hrow hq hk
  go_enter Tryd.func52, Tryd.ntmps52
  go_wp2_with fail
  refine (at_any i j S.out.alloc1 (k := 1) rfl hc).mono ?_
  rw [HE.out]
  rintro e w1 ⟨rfl, hS⟩
  have S1 := Lib.hid hS
  obtain ⟨A0, c0, hB0, -, -⟩ := hS.gridRd (k := 1) rfl
  obtain ⟨hx0, hf0, hz0⟩ := hB0.facts
  obtain ⟨hx9, hf9, hz9, hp9⟩ := (hS.box (k := 0) rfl).pbox
  clear hS S hB0
  generalize w.heap.size = b9 at S1 hx9 hf9 hz9 hp9 ⊢
  go_wp2_with fail
  refine (inked_is HQ.out HT.out S1.out).mono ?_
  rintro e w2 ⟨rfl, hS⟩
  have S2 := Lib.hid hS
  clear hS hx0 hf0 hz0 hx9 hf9 hz9 hp9
  obtain ⟨v, b, hS3⟩ := S2.out.swap.openAt HL.out
  obtain ⟨A, c, rfl, hrd⟩ := hS3.cellsRd (k := 0) rfl
  have hnc : l.1.length ≤ c := hrd.1
  obtain ⟨g, rfl, -, -, -, -⟩ := (hS3.own (k := 0) rfl).head (by omega)
  obtain ⟨gr, cr, rfl, h1, h2, h3, h4, h5, h6, h7⟩ := hS3.linesxRd (k := 1) rfl
  obtain ⟨hx2, hf2, hz2⟩ := (hS3.box (k := 2) rfl).facts
  have hlen2 : L.length ≤ 9223372036854775807 := by unfold maxLen at h2; omega
  have S3 := Lib.hid hS3
  clear hS3 h1 h2 h6 hrd
  go_wp2_with fail
  refine (split_at (c := j) S3.out rfl rfl (by omega) (by omega)).mono ?_
  rintro e w4 ⟨rfl, hS4⟩
  have S4 := Lib.hid hS4
  obtain ⟨hx2, hf2, hz2⟩ := (hS4.box (k := 2) rfl).facts
  clear hS4 h4 h5 h7
  go_wp2_with fail
  refine (split_at (n := (cols : Int) - k) (c := cols - k) S4.out (by rw [brk_length]) (by omega) (by rw [brk_length]; omega) (by omega)).mono ?_
  rintro e w5 ⟨rfl, hS5⟩
  have S5 := Lib.hid hS5
  have HW1 := Lib.hid (show IntKind.i64.wrap ((j : Int) + k) = ((j + k : Nat) : Int) by rw [IntWalk.i64_in _ (by omega)]; omega)
  have HW2 := Lib.hid (show IntKind.i64.wrap ((cols : Int) - k) = ((cols - k : Nat) : Int) by rw [IntWalk.i64_in _ (by omega)]; omega)
  clear hmin hn0
  clear hS5 hx2 hf2 hz2
  go_upto_region 14 with (fail)
  refine wp_region_stage (w0 := w0) (os := os) (by kernel_rfl) (by kernel_rfl) (by kernel_rfl) [(0, 14, [], fun vs => .cells (.slice (some ⟨g, 0, none⟩) l.1.length c) ((brk (cols - k) (brk j l.1)).take (j + k) ++ (((brk (cols - k) (brk j l.1)).drop j).take (cols - k - j) ++ (brk (cols - k) (brk j l.1)).drop (j + k + (cols - k - j)))))] [[], [], [], [], [], [], [], [], [], [], [2], [], [], [], [0]] [.cells (.slice (some ⟨g, 0, none⟩) l.1.length c) (brk (cols - k) (brk j l.1)), .linesx (.slice (some ⟨gr, 0, none⟩) L.length cr) L i (.slice (some ⟨g, 0, none⟩) l.1.length c), .box p 58 #[.int .i64 ↑cols, .slice (some ⟨gr, 0, none⟩) L.length cr], .box b9 54 (pv q)] (fun i u => match i with | 0 => u = (.slice (some ⟨g, 0, none⟩) l.1.length c : Value) | 1 => u = (.int .i64 ↑j : Value) | 2 => u = (.int .i64 ↑k : Value) | 3 => u = (.int .i64 ↑(j + k) : Value) | 4 => u = (.slice (tailA (some ⟨g, 0, none⟩) c (j + k)) (l.1.length - (j + k)) (c - (j + k)) : Value) | 5 => u = (.slice (some ⟨g, 0, none⟩) l.1.length c : Value) | 6 => u = (.int .i64 ↑j : Value) | 7 => u = (.pointer (some ⟨p, 0, none⟩) : Value) | 8 => u = (.pointer (some ⟨p, 0, none⟩) : Value) | 9 => u = (.pointer (some ⟨p, 0, none⟩) : Value) | 10 => u = (.int .i64 ↑cols : Value) | 11 => u = (.int .i64 ↑k : Value) | 12 => u = (.int .i64 ↑(cols - k) : Value) | 13 => u = (.slice (some ⟨g, j * 16, none⟩) (cols - k - j) (c - j) : Value) | 14 => True | _ => True) (fun vs => [.cells (.slice (some ⟨g, 0, none⟩) l.1.length c) ((brk (cols - k) (brk j l.1)).take (j + k) ++ (((brk (cols - k) (brk j l.1)).drop j).take (cols - k - j) ++ (brk (cols - k) (brk j l.1)).drop (j + k + (cols - k - j)))), .linesx (.slice (some ⟨gr, 0, none⟩) L.length cr) L i (.slice (some ⟨g, 0, none⟩) l.1.length c), .box p 58 #[.int .i64 ↑cols, .slice (some ⟨gr, 0, none⟩) L.length cr], .box b9 54 (pv q)]) (by kernel_rfl) (fun vs => by rfl) S5.out ?_ ?_
  · refine SSteps.cons (fun a w' vs σ hS hl hs hk => ?_) ?_
    · have e12 : a.tmps.getD 12 undef = (.slice (some ⟨g, 0, none⟩) l.1.length c : Value) := (sk_old hk 12 (by kernel_rfl)).trans rfl
      have f12 := gd e12
      exact ro_pure (v := .slice (some ⟨g, 0, none⟩) l.1.length c) (wanted_none rfl) (by simp [execOp, Act.eval, e12, f12, go_sem]) (sp_same (by kernel_rfl) hl hs hS (show (.slice (some ⟨g, 0, none⟩) l.1.length c : Value) = _ from rfl)) trivial
    refine SSteps.cons (fun a w' vs σ hS hl hs hk => ?_) ?_
    · have e2 : a.tmps.getD 2 undef = (.int .i64 ↑j : Value) := (sk_old hk 2 (by kernel_rfl)).trans rfl
      have f2 := gd e2
      exact ro_pure (v := .int .i64 ↑j) (wanted_none rfl) (by simp [execOp, Act.eval, e2, f2, go_sem]) (sp_same (by kernel_rfl) hl hs hS (show (.int .i64 ↑j : Value) = _ from rfl)) trivial
    refine SSteps.cons (fun a w' vs σ hS hl hs hk => ?_) ?_
    · have e14 : a.tmps.getD 14 undef = (.int .i64 ↑k : Value) := (sk_old hk 14 (by kernel_rfl)).trans rfl
      have f14 := gd e14
      exact ro_pure (v := .int .i64 ↑k) (wanted_none rfl) (by simp [execOp, Act.eval, e14, f14, go_sem]) (sp_same (by kernel_rfl) hl hs hS (show (.int .i64 ↑k : Value) = _ from rfl)) trivial
    refine SSteps.cons (fun a w' vs σ hS hl hs hk => ?_) ?_
    · have e62 : a.tmps.getD 62 undef = (.int .i64 ↑j : Value) := (sk_val hk 1 (by kernel_rfl) rfl rfl).trans ((hk.1 1 (by kernel_rfl)).1)
      have f62 := gd e62
      have e63 : a.tmps.getD 63 undef = (.int .i64 ↑k : Value) := (sk_val hk 2 (by kernel_rfl) rfl rfl).trans ((hk.1 2 (by kernel_rfl)).1)
      have f63 := gd e63
      exact ro_pure (v := .int .i64 ↑(j + k)) (wanted_none rfl) (by simp [execOp, Act.eval, e62, f62, e63, f63, go_sem, HW1.out]) (sp_same (by kernel_rfl) hl hs hS (show (.int .i64 ↑(j + k) : Value) = _ from rfl)) trivial
    refine SSteps.cons (fun a w' vs σ hS hl hs hk => ?_) ?_
    · have e61 : a.tmps.getD 61 undef = (.slice (some ⟨g, 0, none⟩) l.1.length c : Value) := (sk_val hk 0 (by kernel_rfl) rfl rfl).trans ((hk.1 0 (by kernel_rfl)).1)
      have f61 := gd e61
      have e64 : a.tmps.getD 64 undef = (.int .i64 ↑(j + k) : Value) := (sk_val hk 3 (by kernel_rfl) rfl rfl).trans ((hk.1 3 (by kernel_rfl)).1)
      have f64 := gd e64
      exact rs_run (wanted_none rfl) (exec_slice rfl (by simp [Act.eval, e61, f61, e64, f64]) (by simp [Act.eval, e61, f61, e64, f64]; try rfl) (by simp [Act.eval, e61, f61, e64, f64]; try rfl) (run_from w' (some ⟨g, 0, none⟩) l.1.length c (j + k) (by omega) (by omega) (fun h => by cases h) (by omega))) (sp_same (by kernel_rfl) hl hs hS (show (.slice (tailA (some ⟨g, 0, none⟩) c (j + k)) (l.1.length - (j + k)) (c - (j + k)) : Value) = _ from rfl))
    refine SSteps.cons (fun a w' vs σ hS hl hs hk => ?_) ?_
    · have e12 : a.tmps.getD 12 undef = (.slice (some ⟨g, 0, none⟩) l.1.length c : Value) := (sk_old hk 12 (by kernel_rfl)).trans rfl
      have f12 := gd e12
      exact ro_pure (v := .slice (some ⟨g, 0, none⟩) l.1.length c) (wanted_none rfl) (by simp [execOp, Act.eval, e12, f12, go_sem]) (sp_same (by kernel_rfl) hl hs hS (show (.slice (some ⟨g, 0, none⟩) l.1.length c : Value) = _ from rfl)) trivial
    refine SSteps.cons (fun a w' vs σ hS hl hs hk => ?_) ?_
    · have e2 : a.tmps.getD 2 undef = (.int .i64 ↑j : Value) := (sk_old hk 2 (by kernel_rfl)).trans rfl
      have f2 := gd e2
      exact ro_pure (v := .int .i64 ↑j) (wanted_none rfl) (by simp [execOp, Act.eval, e2, f2, go_sem]) (sp_same (by kernel_rfl) hl hs hS (show (.int .i64 ↑j : Value) = _ from rfl)) trivial
    refine SSteps.cons (fun a w' vs σ hS hl hs hk => ?_) ?_
    · have e0 : a.tmps.getD 0 undef = (.pointer (some ⟨p, 0, none⟩) : Value) := (sk_old hk 0 (by kernel_rfl)).trans rfl
      have f0 := gd e0
      exact ro_pure (v := .pointer (some ⟨p, 0, none⟩)) (wanted_none rfl) (by simp [execOp, Act.eval, e0, f0, go_sem]) (sp_same (by kernel_rfl) hl hs hS (show (.pointer (some ⟨p, 0, none⟩) : Value) = _ from rfl)) trivial
    refine SSteps.cons (fun a w' vs σ hS hl hs hk => ?_) ?_
    · have e68 : a.tmps.getD 68 undef = (.pointer (some ⟨p, 0, none⟩) : Value) := (sk_val hk 7 (by kernel_rfl) rfl rfl).trans ((hk.1 7 (by kernel_rfl)).1)
      have f68 := gd e68
      exact ro_pure (v := .pointer (some ⟨p, 0, none⟩)) (wanted_none rfl) (by simp [execOp, Act.eval, e68, f68, go_sem]) (sp_same (by kernel_rfl) hl hs hS (show (.pointer (some ⟨p, 0, none⟩) : Value) = _ from rfl)) trivial
    refine SSteps.cons (fun a w' vs σ hS hl hs hk => ?_) ?_
    · have e69 : a.tmps.getD 69 undef = (.pointer (some ⟨p, 0, none⟩) : Value) := (sk_val hk 8 (by kernel_rfl) rfl rfl).trans ((hk.1 8 (by kernel_rfl)).1)
      have f69 := gd e69
      exact ro_pure (v := .pointer (some ⟨p, 0, none⟩)) (wanted_none rfl) (by simp [execOp, Act.eval, e69, f69, go_sem]) (sp_same (by kernel_rfl) hl hs hS (show (.pointer (some ⟨p, 0, none⟩) : Value) = _ from rfl)) trivial
    refine SSteps.cons (fun a w' vs σ hS hl hs hk => ?_) ?_
    · have e70 : a.tmps.getD 70 undef = (.pointer (some ⟨p, 0, none⟩) : Value) := (sk_val hk 9 (by kernel_rfl) rfl rfl).trans ((hk.1 9 (by kernel_rfl)).1)
      have f70 := gd e70
      have hx := (hS.box (sg (hs 2 (by decide)))).cell
      exact ro_pure (v := .int .i64 ↑cols) (wanted_none rfl) (by simp [execOp, Act.eval, e70, f70, go_sem, hx]) (sp_same (by kernel_rfl) hl hs hS (show (.int .i64 ↑cols : Value) = _ from rfl)) trivial
    refine SSteps.cons (fun a w' vs σ hS hl hs hk => ?_) ?_
    · have e14 : a.tmps.getD 14 undef = (.int .i64 ↑k : Value) := (sk_old hk 14 (by kernel_rfl)).trans rfl
      have f14 := gd e14
      exact ro_pure (v := .int .i64 ↑k) (wanted_none rfl) (by simp [execOp, Act.eval, e14, f14, go_sem]) (sp_same (by kernel_rfl) hl hs hS (show (.int .i64 ↑k : Value) = _ from rfl)) trivial
    refine SSteps.cons (fun a w' vs σ hS hl hs hk => ?_) ?_
    · have e71 : a.tmps.getD 71 undef = (.int .i64 ↑cols : Value) := (sk_val hk 10 (by kernel_rfl) rfl rfl).trans ((hk.1 10 (by kernel_rfl)).1)
      have f71 := gd e71
      have e72 : a.tmps.getD 72 undef = (.int .i64 ↑k : Value) := (sk_val hk 11 (by kernel_rfl) rfl rfl).trans ((hk.1 11 (by kernel_rfl)).1)
      have f72 := gd e72
      exact ro_pure (v := .int .i64 ↑(cols - k)) (wanted_none rfl) (by simp [execOp, Act.eval, e71, f71, e72, f72, go_sem, HW2.out]) (sp_same (by kernel_rfl) hl hs hS (show (.int .i64 ↑(cols - k) : Value) = _ from rfl)) trivial
    refine SSteps.cons (fun a w' vs σ hS hl hs hk => ?_) ?_
    · have e66 : a.tmps.getD 66 undef = (.slice (some ⟨g, 0, none⟩) l.1.length c : Value) := (sk_val hk 5 (by kernel_rfl) rfl rfl).trans ((hk.1 5 (by kernel_rfl)).1)
      have f66 := gd e66
      have e67 : a.tmps.getD 67 undef = (.int .i64 ↑j : Value) := (sk_val hk 6 (by kernel_rfl) rfl rfl).trans ((hk.1 6 (by kernel_rfl)).1)
      have f67 := gd e67
      have e73 : a.tmps.getD 73 undef = (.int .i64 ↑(cols - k) : Value) := (sk_val hk 12 (by kernel_rfl) rfl rfl).trans ((hk.1 12 (by kernel_rfl)).1)
      have f73 := gd e73
      exact rs_run (wanted_none rfl) (exec_slice rfl (by simp [Act.eval, e66, f66, e67, f67, e73, f73]) (by simp [Act.eval, e66, f66, e67, f67, e73, f73]; try rfl) (by simp [Act.eval, e66, f66, e67, f67, e73, f73]; try rfl) (run_mid w' g l.1.length c j (cols - k) (by omega) (by omega) (by omega) (by omega) (by omega))) (sp_same (by kernel_rfl) hl hs hS (show (.slice (some ⟨g, j * 16, none⟩) (cols - k - j) (c - j) : Value) = _ from rfl))
    refine SSteps.cons (fun a w' vs σ hS hl hs hk => ?_) ?_
    · have e65 : a.tmps.getD 65 undef = (.slice (tailA (some ⟨g, 0, none⟩) c (j + k)) (l.1.length - (j + k)) (c - (j + k)) : Value) := (sk_val hk 4 (by kernel_rfl) rfl rfl).trans ((hk.1 4 (by kernel_rfl)).1)
      have f65 := gd e65
      have e74 : a.tmps.getD 74 undef = (.slice (some ⟨g, j * 16, none⟩) (cols - k - j) (c - j) : Value) := (sk_val hk 13 (by kernel_rfl) rfl rfl).trans ((hk.1 13 (by kernel_rfl)).1)
      have f74 := gd e74
      have h0 : σ[0]? = some (.cells (.slice (some ⟨g, 0, none⟩) l.1.length c) (brk (cols - k) (brk j l.1))) := hs 0 (by decide)
      obtain ⟨W, hr, hW⟩ := run_copyO hS (sg h0) (j + k) (j) (cols - k - j) (tailA (some ⟨g, 0, none⟩) c (j + k)) (some ⟨g, j * 16, none⟩) (l.1.length - (j + k)) (c - (j + k)) (cols - k - j) (c - j) (by show min (cols - k - j) (l.1.length - (j + k)) = _; omega) (by rw [brk_length, brk_length]; omega) (by rw [brk_length, brk_length]; omega) (fun hp => ⟨tailA_at (by omega), rfl⟩) 3
      exact rs_run (wanted_none rfl) (exec_copy rfl (by simp only [Act.eval]; exact e65) (by simp only [Act.eval]; exact e74) hr) (sp_set 0 _ (by kernel_rfl) (by simp) (by decide) hl hs (by rfl) hW trivial)
    exact SSteps.nil
  · intro vs w' hS hv
    have q0 := (show vs 0 = (.slice (some ⟨g, 0, none⟩) l.1.length c : Value) from hv 0 (by decide))
    have q1 := (show vs 1 = (.int .i64 ↑j : Value) from hv 1 (by decide))
    have q2 := (show vs 2 = (.int .i64 ↑k : Value) from hv 2 (by decide))
    have q3 := (show vs 3 = (.int .i64 ↑(j + k) : Value) from hv 3 (by decide))
    have q4 := (show vs 4 = (.slice (tailA (some ⟨g, 0, none⟩) c (j + k)) (l.1.length - (j + k)) (c - (j + k)) : Value) from hv 4 (by decide))
    have q5 := (show vs 5 = (.slice (some ⟨g, 0, none⟩) l.1.length c : Value) from hv 5 (by decide))
    have q6 := (show vs 6 = (.int .i64 ↑j : Value) from hv 6 (by decide))
    have q7 := (show vs 7 = (.pointer (some ⟨p, 0, none⟩) : Value) from hv 7 (by decide))
    have q8 := (show vs 8 = (.pointer (some ⟨p, 0, none⟩) : Value) from hv 8 (by decide))
    have q9 := (show vs 9 = (.pointer (some ⟨p, 0, none⟩) : Value) from hv 9 (by decide))
    have q10 := (show vs 10 = (.int .i64 ↑cols : Value) from hv 10 (by decide))
    have q11 := (show vs 11 = (.int .i64 ↑k : Value) from hv 11 (by decide))
    have q12 := (show vs 12 = (.int .i64 ↑(cols - k) : Value) from hv 12 (by decide))
    have q13 := (show vs 13 = (.slice (some ⟨g, j * 16, none⟩) (cols - k - j) (c - j) : Value) from hv 13 (by decide))
    have S2 := Lib.hid hS
    simp only [putL, Act.put, Nat.zero_add, Nat.reduceAdd, List.setIfInBounds_toArray, List.set_cons_succ, List.set_cons_zero, q0, q1, q2, q3, q4, q5, q6, q7, q8, q9, q10, q11, q12, q13]
    clear hS hv q0 q1 q2 q3 q4 q5 q6 q7 q8 q9 q10 q11 q12 q13
    clear S5
    have S6 := S2
    clear S2
    have HCL := Lib.hid (show ((brk (cols - k) (brk j l.1)).take (j + k) ++ (((brk (cols - k) (brk j l.1)).drop j).take (cols - k - j) ++ (brk (cols - k) (brk j l.1)).drop (j + k + (cols - k - j)))).length = cols by simp only [List.length_append, List.length_take, List.length_drop, brk_length]; omega)
    go_upto_region 15 with (fail)
    refine wp_region_stage (w0 := w0) (os := os) (by kernel_rfl) (by kernel_rfl) (by kernel_rfl) [(0, 7, [], fun vs => .cells (.slice (some ⟨g, 0, none⟩) l.1.length c) (wipeC j (j + k - j) q ((brk (cols - k) (brk j l.1)).take (j + k) ++ (((brk (cols - k) (brk j l.1)).drop j).take (cols - k - j) ++ (brk (cols - k) (brk j l.1)).drop (j + k + (cols - k - j))))))] [[], [], [], [], [], [], [3], [0]] [.cells (.slice (some ⟨g, 0, none⟩) l.1.length c) ((brk (cols - k) (brk j l.1)).take (j + k) ++ (((brk (cols - k) (brk j l.1)).drop j).take (cols - k - j) ++ (brk (cols - k) (brk j l.1)).drop (j + k + (cols - k - j)))), .linesx (.slice (some ⟨gr, 0, none⟩) L.length cr) L i (.slice (some ⟨g, 0, none⟩) l.1.length c), .box p 58 #[.int .i64 ↑cols, .slice (some ⟨gr, 0, none⟩) L.length cr], .box b9 54 (pv q)] (fun i u => match i with | 0 => u = (.slice (some ⟨g, 0, none⟩) l.1.length c : Value) | 1 => u = (.int .i64 ↑j : Value) | 2 => u = (.int .i64 ↑j : Value) | 3 => u = (.int .i64 ↑k : Value) | 4 => u = (.int .i64 ↑(j + k) : Value) | 5 => u = (.slice (some ⟨g, j * 16, none⟩) (j + k - j) (c - j) : Value) | 6 => u = (.agg (pv q) : Value) | 7 => u = (.tuple #[] : Value) | _ => True) (fun vs => [.cells (.slice (some ⟨g, 0, none⟩) l.1.length c) (wipeC j (j + k - j) q ((brk (cols - k) (brk j l.1)).take (j + k) ++ (((brk (cols - k) (brk j l.1)).drop j).take (cols - k - j) ++ (brk (cols - k) (brk j l.1)).drop (j + k + (cols - k - j))))), .linesx (.slice (some ⟨gr, 0, none⟩) L.length cr) L i (.slice (some ⟨g, 0, none⟩) l.1.length c), .box p 58 #[.int .i64 ↑cols, .slice (some ⟨gr, 0, none⟩) L.length cr], .box b9 54 (pv q)]) (by kernel_rfl) (fun vs => by rfl) S6.out ?_ ?_
    · refine SSteps.cons (fun a w' vs σ hS hl hs hk => ?_) ?_
      · have e12 : a.tmps.getD 12 undef = (.slice (some ⟨g, 0, none⟩) l.1.length c : Value) := (sk_old hk 12 (by kernel_rfl)).trans rfl
        have f12 := gd e12
        exact ro_pure (v := .slice (some ⟨g, 0, none⟩) l.1.length c) (wanted_none rfl) (by simp [execOp, Act.eval, e12, f12, go_sem]) (sp_same (by kernel_rfl) hl hs hS (show (.slice (some ⟨g, 0, none⟩) l.1.length c : Value) = _ from rfl)) trivial
      refine SSteps.cons (fun a w' vs σ hS hl hs hk => ?_) ?_
      · have e2 : a.tmps.getD 2 undef = (.int .i64 ↑j : Value) := (sk_old hk 2 (by kernel_rfl)).trans rfl
        have f2 := gd e2
        exact ro_pure (v := .int .i64 ↑j) (wanted_none rfl) (by simp [execOp, Act.eval, e2, f2, go_sem]) (sp_same (by kernel_rfl) hl hs hS (show (.int .i64 ↑j : Value) = _ from rfl)) trivial
      refine SSteps.cons (fun a w' vs σ hS hl hs hk => ?_) ?_
      · have e2 : a.tmps.getD 2 undef = (.int .i64 ↑j : Value) := (sk_old hk 2 (by kernel_rfl)).trans rfl
        have f2 := gd e2
        exact ro_pure (v := .int .i64 ↑j) (wanted_none rfl) (by simp [execOp, Act.eval, e2, f2, go_sem]) (sp_same (by kernel_rfl) hl hs hS (show (.int .i64 ↑j : Value) = _ from rfl)) trivial
      refine SSteps.cons (fun a w' vs σ hS hl hs hk => ?_) ?_
      · have e14 : a.tmps.getD 14 undef = (.int .i64 ↑k : Value) := (sk_old hk 14 (by kernel_rfl)).trans rfl
        have f14 := gd e14
        exact ro_pure (v := .int .i64 ↑k) (wanted_none rfl) (by simp [execOp, Act.eval, e14, f14, go_sem]) (sp_same (by kernel_rfl) hl hs hS (show (.int .i64 ↑k : Value) = _ from rfl)) trivial
      refine SSteps.cons (fun a w' vs σ hS hl hs hk => ?_) ?_
      · have e78 : a.tmps.getD 78 undef = (.int .i64 ↑j : Value) := (sk_val hk 2 (by kernel_rfl) rfl rfl).trans ((hk.1 2 (by kernel_rfl)).1)
        have f78 := gd e78
        have e79 : a.tmps.getD 79 undef = (.int .i64 ↑k : Value) := (sk_val hk 3 (by kernel_rfl) rfl rfl).trans ((hk.1 3 (by kernel_rfl)).1)
        have f79 := gd e79
        exact ro_pure (v := .int .i64 ↑(j + k)) (wanted_none rfl) (by simp [execOp, Act.eval, e78, f78, e79, f79, go_sem, HW1.out]) (sp_same (by kernel_rfl) hl hs hS (show (.int .i64 ↑(j + k) : Value) = _ from rfl)) trivial
      refine SSteps.cons (fun a w' vs σ hS hl hs hk => ?_) ?_
      · have e76 : a.tmps.getD 76 undef = (.slice (some ⟨g, 0, none⟩) l.1.length c : Value) := (sk_val hk 0 (by kernel_rfl) rfl rfl).trans ((hk.1 0 (by kernel_rfl)).1)
        have f76 := gd e76
        have e77 : a.tmps.getD 77 undef = (.int .i64 ↑j : Value) := (sk_val hk 1 (by kernel_rfl) rfl rfl).trans ((hk.1 1 (by kernel_rfl)).1)
        have f77 := gd e77
        have e80 : a.tmps.getD 80 undef = (.int .i64 ↑(j + k) : Value) := (sk_val hk 4 (by kernel_rfl) rfl rfl).trans ((hk.1 4 (by kernel_rfl)).1)
        have f80 := gd e80
        exact rs_run (wanted_none rfl) (exec_slice rfl (by simp [Act.eval, e76, f76, e77, f77, e80, f80]) (by simp [Act.eval, e76, f76, e77, f77, e80, f80]; try rfl) (by simp [Act.eval, e76, f76, e77, f77, e80, f80]; try rfl) (run_mid w' g l.1.length c j (j + k) (by omega) (by omega) (by omega) (by omega) (by omega))) (sp_same (by kernel_rfl) hl hs hS (show (.slice (some ⟨g, j * 16, none⟩) (j + k - j) (c - j) : Value) = _ from rfl))
      refine SSteps.cons (fun a w' vs σ hS hl hs hk => ?_) ?_
      · have e9 : a.tmps.getD 9 undef = (.pointer (some ⟨b9, 0, none⟩) : Value) := (sk_old hk 9 (by kernel_rfl)).trans rfl
        have f9 := gd e9
        have hx := (hS.box (sg (hs 3 (by decide)))).penAt
        exact ro_pure (v := .agg (pv q)) (wanted_none rfl) (by simp [execOp, Act.eval, e9, f9, go_sem, hx]) (sp_same (by kernel_rfl) hl hs hS (show (.agg (pv q) : Value) = _ from rfl)) trivial
      refine SSteps.cons (fun a w' vs σ hS hl hs hk => ?_) ?_
      · have e81 : a.tmps.getD 81 undef = (.slice (some ⟨g, j * 16, none⟩) (j + k - j) (c - j) : Value) := (sk_val hk 5 (by kernel_rfl) rfl rfl).trans ((hk.1 5 (by kernel_rfl)).1)
        have f81 := gd e81
        have e82 : a.tmps.getD 82 undef = (.agg (pv q) : Value) := (sk_val hk 6 (by kernel_rfl) rfl rfl).trans ((hk.1 6 (by kernel_rfl)).1)
        have f82 := gd e82
        have h0 : σ[0]? = some (.cells (.slice (some ⟨g, 0, none⟩) l.1.length c) ((brk (cols - k) (brk j l.1)).take (j + k) ++ (((brk (cols - k) (brk j l.1)).drop j).take (cols - k - j) ++ (brk (cols - k) (brk j l.1)).drop (j + k + (cols - k - j))))) := hs 0 (by decide)
        exact ro_call (f := 89) (wanted_none rfl) rfl (by simp only [List.map_toArray, List.map_cons, List.map_nil, Act.eval, e81, e82] <;> rfl) (fun _ _ => by kernel_rfl) ((front_call hS (sg h0) (fun os1 h => wipe_front g l.1.length c (j) (j + k - j) (c - j) ((brk (cols - k) (brk j l.1)).take (j + k) ++ (((brk (cols - k) (brk j l.1)).drop j).take (cols - k - j) ++ (brk (cols - k) (brk j l.1)).drop (j + k + (cols - k - j)))) q w0 w' os1 h (by have := HCL.out; omega) (by omega) (by have := HCL.out; omega))).mono fun e w2 ⟨h1, h2⟩ => ⟨_, h1, sp_set 0 _ (by kernel_rfl) (by simp) (by decide) hl hs (by rfl) h2 rfl, trivial⟩)
      exact SSteps.nil
    · intro vs w' hS hv
      have q0 := (show vs 0 = (.slice (some ⟨g, 0, none⟩) l.1.length c : Value) from hv 0 (by decide))
      have q1 := (show vs 1 = (.int .i64 ↑j : Value) from hv 1 (by decide))
      have q2 := (show vs 2 = (.int .i64 ↑j : Value) from hv 2 (by decide))
      have q3 := (show vs 3 = (.int .i64 ↑k : Value) from hv 3 (by decide))
      have q4 := (show vs 4 = (.int .i64 ↑(j + k) : Value) from hv 4 (by decide))
      have q5 := (show vs 5 = (.slice (some ⟨g, j * 16, none⟩) (j + k - j) (c - j) : Value) from hv 5 (by decide))
      have q6 := (show vs 6 = (.agg (pv q) : Value) from hv 6 (by decide))
      have q7 := (show vs 7 = (.tuple #[] : Value) from hv 7 (by decide))
      have S2 := Lib.hid hS
      simp only [putL, Act.put, Nat.zero_add, Nat.reduceAdd, List.setIfInBounds_toArray, List.set_cons_succ, List.set_cons_zero, q0, q1, q2, q3, q4, q5, q6, q7]
      clear hS hv q0 q1 q2 q3 q4 q5 q6 q7
      have HF := (show Objs w0 w' (_ :: _ :: _ :: _ :: os) from S2.out).closeAt HL.out
      rw [HP.out] at HF
      go_wp2_with fail
      go_ret
      exact ⟨rfl, HF.drop2⟩
set_option maxRecDepth 100000 in
set_option maxHeartbeats 1000000 in
theorem Shift_none {row col n : Int} (q : Pen) (hT : Tabs w0) (hS : Objs w0 w (.grid p 58 cols L :: os)) (hc : 0 < cols) (hcm : cols ≤ 1000) (hin : (0 ≤ row ∧ row < L.length) ∧ 0 ≤ col ∧ col < cols) (hq : q.ok = true) (hn : n = 0) :
    Calls Tryd.prog 52 #[.pointer (some ⟨p, 0, none⟩), .int .i64 row, .int .i64 col, .int .i64 n, .agg (pv q)] w fun e w' => e = .returned (.int .i64 0) ∧ Objs w0 w' (.grid p 58 cols L :: os) := by
  have S := Lib.hid hS
  have HT := Lib.hid hT
  have HE := Lib.hid (show atE row col cols L = 0 by unfold atE; rw [if_pos hin])
  clear hin
  have HQ := Lib.hid hq
  subst hn
  clear hq
  clear hS hT
  go_enter Tryd.func52, Tryd.ntmps52
  go_wp2_with fail
  refine (at_any row col S.out.alloc1 (k := 1) rfl hc).mono ?_
  rw [HE.out]
  rintro e w1 ⟨rfl, hS⟩
  have S1 := Lib.hid hS
  obtain ⟨A0, c0, hB0, -, -⟩ := hS.gridRd (k := 1) rfl
  obtain ⟨hx0, hf0, hz0⟩ := hB0.facts
  obtain ⟨hx9, hf9, hz9, hp9⟩ := (hS.box (k := 0) rfl).pbox
  clear hS S hB0
  generalize w.heap.size = b9 at S1 hx9 hf9 hz9 hp9 ⊢
  go_wp2_with fail
  refine (inked_is HQ.out HT.out S1.out).mono ?_
  rintro e w2 ⟨rfl, hS⟩
  have S2 := Lib.hid hS
  clear hS
  go_wp2_with fail
  go_ret
  exact ⟨rfl, S2.out.tail⟩
set_option maxRecDepth 100000 in
set_option maxHeartbeats 4000000 in
theorem Shift_left1 {i j k : Nat} {l : Ln} (q : Pen) (hT : Tabs w0) (hS : Objs w0 w (.grid p 58 cols L :: os)) (hc : 0 < cols) (hcm : cols ≤ 1000) (hl : L[i]? = some l) (hrow : l.1.length = cols) (hq : q.ok = true) (hj : j < cols) (hk1 : 1 ≤ k) (hk2 : j + k < cols) :
    Calls Tryd.prog 52 #[.pointer (some ⟨p, 0, none⟩), .int .i64 i, .int .i64 j, .int .i64 (-(k : Int)), .agg (pv q)] w fun e w' => e = .returned (.int .i64 0) ∧ Objs w0 w' (.grid p 58 cols (L.set i (shiftL j k q l.1, l.2)) :: os) := by
  have S := Lib.hid hS
  have hi : i < L.length := (List.getElem?_eq_some_iff.1 hl).1
  have HL := Lib.hid hl
  have HT := Lib.hid hT
  have HQ := Lib.hid hq
  have HROW := Lib.hid hrow
  have hlr : l.1.length ≤ 1000 := by omega
  have hlr2 : cols ≤ l.1.length := by omega
  have hlr3 : l.1.length ≤ cols := by omega
  have HE := Lib.hid (show atE i j cols L = 0 by unfold atE; rw [if_pos ⟨⟨by omega, by omega⟩, by omega, by omega⟩])
  have hkj : j + k ≤ cols := by omega
  have hk1 : 1 ≤ k := by omega
  have hn0 : ((-(k : Int)) == 0) = false := by simp; omega
  have hng : ¬ (0 < -(k : Int)) := by omega
  have hcmp : -((cols : Int) - j) < -(k : Int) := by omega
  have HP := Lib.hid (show wipeC (cols - k) (l.1.length - (cols - k)) q ((brk (j + k) (brk j l.1)).take j ++ (((brk (j + k) (brk j l.1)).drop (j + k)).take (cols - (j + k)) ++ (brk (j + k) (brk j l.1)).drop (j + (cols - (j + k))))) = shiftL j k q l.1 by
    have hb : (brk (j + k) (brk j l.1)).length = cols := by rw [brk_length, brk_length, hrow]
    have h := shiftL_is (j := j) (k := k) (q := q) (l := brk (j + k) (brk j l.1)) (by omega)
    rw [hb] at h
    rw [show l.1.length - (cols - k) = k by omega, h]
    rfl)
  clear hS hT hl hrow hq
  go_enter Tryd.func52, Tryd.ntmps52
  go_wp2_with fail
  refine (at_any i j S.out.alloc1 (k := 1) rfl hc).mono ?_
  rw [HE.out]
  rintro e w1 ⟨rfl, hS⟩
  have S1 := Lib.hid hS
  obtain ⟨A0, c0, hB0, -, -⟩ := hS.gridRd (k := 1) rfl
  obtain ⟨hx0, hf0, hz0⟩ := hB0.facts
  obtain ⟨hx9, hf9, hz9, hp9⟩ := (hS.box (k := 0) rfl).pbox
  clear hS S hB0
  generalize w.heap.size = b9 at S1 hx9 hf9 hz9 hp9 ⊢
  go_wp2_with fail
  refine (inked_is HQ.out HT.out S1.out).mono ?_
  rintro e w2 ⟨rfl, hS⟩
  have S2 := Lib.hid hS
  clear hS hx0 hf0 hz0 hx9 hf9 hz9 hp9
  obtain ⟨v, b, hS3⟩ := S2.out.swap.openAt HL.out
  obtain ⟨A, c, rfl, hrd⟩ := hS3.cellsRd (k := 0) rfl
  have hnc : l.1.length ≤ c := hrd.1
  obtain ⟨g, rfl, -, -, -, -⟩ := (hS3.own (k := 0) rfl).head (by omega)
  obtain ⟨gr, cr, rfl, h1, h2, h3, h4, h5, h6, h7⟩ := hS3.linesxRd (k := 1) rfl
  obtain ⟨hx2, hf2, hz2⟩ := (hS3.box (k := 2) rfl).facts
  have hlen2 : L.length ≤ 9223372036854775807 := by unfold maxLen at h2; omega
  have S3 := Lib.hid hS3
  clear hS3 h1 h2 h6 hrd
  go_wp2_with fail
  refine (split_at (c := j) S3.out rfl rfl (by omega) (by omega)).mono ?_
  rintro e w4 ⟨rfl, hS4⟩
  have S4 := Lib.hid hS4
  obtain ⟨hx2, hf2, hz2⟩ := (hS4.box (k := 2) rfl).facts
  clear hS4 h4 h5 h7
  go_wp2_with fail
  refine (split_at (c := j + k) S4.out (by rw [brk_length]) (by omega) (by rw [brk_length]; omega) (by omega)).mono ?_
  rintro e w5 ⟨rfl, hS5⟩
  have S5 := Lib.hid hS5
  have HW1 := Lib.hid (show IntKind.i64.wrap ((j : Int) + k) = ((j + k : Nat) : Int) by rw [IntWalk.i64_in _ (by omega)]; omega)
  have HW2 := Lib.hid (show IntKind.i64.wrap ((cols : Int) - k) = ((cols - k : Nat) : Int) by rw [IntWalk.i64_in _ (by omega)]; omega)
  clear hS5 hx2 hf2 hz2 hn0 hng hcmp
  go_upto_region 21 with (fail)
  refine wp_region_stage (w0 := w0) (os := os) (by kernel_rfl) (by kernel_rfl) (by kernel_rfl) [(0, 8, [], fun vs => .cells (.slice (some ⟨g, 0, none⟩) l.1.length c) ((brk (j + k) (brk j l.1)).take j ++ (((brk (j + k) (brk j l.1)).drop (j + k)).take (cols - (j + k)) ++ (brk (j + k) (brk j l.1)).drop (j + (cols - (j + k))))))] [[], [], [], [], [], [], [], [], [0]] [.cells (.slice (some ⟨g, 0, none⟩) l.1.length c) (brk (j + k) (brk j l.1)), .linesx (.slice (some ⟨gr, 0, none⟩) L.length cr) L i (.slice (some ⟨g, 0, none⟩) l.1.length c), .box p 58 #[.int .i64 ↑cols, .slice (some ⟨gr, 0, none⟩) L.length cr], .box b9 54 (pv q)] (fun i u => match i with | 0 => u = (.slice (some ⟨g, 0, none⟩) l.1.length c : Value) | 1 => u = (.int .i64 ↑j : Value) | 2 => u = (.slice (tailA (some ⟨g, 0, none⟩) c j) (l.1.length - j) (c - j) : Value) | 3 => u = (.slice (some ⟨g, 0, none⟩) l.1.length c : Value) | 4 => u = (.int .i64 ↑j : Value) | 5 => u = (.int .i64 ↑k : Value) | 6 => u = (.int .i64 ↑(j + k) : Value) | 7 => u = (.slice (tailA (some ⟨g, 0, none⟩) c (j + k)) (l.1.length - (j + k)) (c - (j + k)) : Value) | 8 => True | _ => True) (fun vs => [.cells (.slice (some ⟨g, 0, none⟩) l.1.length c) ((brk (j + k) (brk j l.1)).take j ++ (((brk (j + k) (brk j l.1)).drop (j + k)).take (cols - (j + k)) ++ (brk (j + k) (brk j l.1)).drop (j + (cols - (j + k))))), .linesx (.slice (some ⟨gr, 0, none⟩) L.length cr) L i (.slice (some ⟨g, 0, none⟩) l.1.length c), .box p 58 #[.int .i64 ↑cols, .slice (some ⟨gr, 0, none⟩) L.length cr], .box b9 54 (pv q)]) (by kernel_rfl) (fun vs => by rfl) S5.out ?_ ?_
  · refine SSteps.cons (fun a w' vs σ hS hl hs hk => ?_) ?_
    · have e12 : a.tmps.getD 12 undef = (.slice (some ⟨g, 0, none⟩) l.1.length c : Value) := (sk_old hk 12 (by kernel_rfl)).trans rfl
      have f12 := gd e12
      exact ro_pure (v := .slice (some ⟨g, 0, none⟩) l.1.length c) (wanted_none rfl) (by simp [execOp, Act.eval, e12, f12, go_sem]) (sp_same (by kernel_rfl) hl hs hS (show (.slice (some ⟨g, 0, none⟩) l.1.length c : Value) = _ from rfl)) trivial
    refine SSteps.cons (fun a w' vs σ hS hl hs hk => ?_) ?_
    · have e2 : a.tmps.getD 2 undef = (.int .i64 ↑j : Value) := (sk_old hk 2 (by kernel_rfl)).trans rfl
      have f2 := gd e2
      exact ro_pure (v := .int .i64 ↑j) (wanted_none rfl) (by simp [execOp, Act.eval, e2, f2, go_sem]) (sp_same (by kernel_rfl) hl hs hS (show (.int .i64 ↑j : Value) = _ from rfl)) trivial
    refine SSteps.cons (fun a w' vs σ hS hl hs hk => ?_) ?_
    · have e96 : a.tmps.getD 96 undef = (.slice (some ⟨g, 0, none⟩) l.1.length c : Value) := (sk_val hk 0 (by kernel_rfl) rfl rfl).trans ((hk.1 0 (by kernel_rfl)).1)
      have f96 := gd e96
      have e97 : a.tmps.getD 97 undef = (.int .i64 ↑j : Value) := (sk_val hk 1 (by kernel_rfl) rfl rfl).trans ((hk.1 1 (by kernel_rfl)).1)
      have f97 := gd e97
      exact rs_run (wanted_none rfl) (exec_slice rfl (by simp [Act.eval, e96, f96, e97, f97]) (by simp [Act.eval, e96, f96, e97, f97]; try rfl) (by simp [Act.eval, e96, f96, e97, f97]; try rfl) (run_from w' (some ⟨g, 0, none⟩) l.1.length c j (by omega) (by omega) (fun h => by cases h) (by omega))) (sp_same (by kernel_rfl) hl hs hS (show (.slice (tailA (some ⟨g, 0, none⟩) c j) (l.1.length - j) (c - j) : Value) = _ from rfl))
    refine SSteps.cons (fun a w' vs σ hS hl hs hk => ?_) ?_
    · have e12 : a.tmps.getD 12 undef = (.slice (some ⟨g, 0, none⟩) l.1.length c : Value) := (sk_old hk 12 (by kernel_rfl)).trans rfl
      have f12 := gd e12
      exact ro_pure (v := .slice (some ⟨g, 0, none⟩) l.1.length c) (wanted_none rfl) (by simp [execOp, Act.eval, e12, f12, go_sem]) (sp_same (by kernel_rfl) hl hs hS (show (.slice (some ⟨g, 0, none⟩) l.1.length c : Value) = _ from rfl)) trivial
    refine SSteps.cons (fun a w' vs σ hS hl hs hk => ?_) ?_
    · have e2 : a.tmps.getD 2 undef = (.int .i64 ↑j : Value) := (sk_old hk 2 (by kernel_rfl)).trans rfl
      have f2 := gd e2
      exact ro_pure (v := .int .i64 ↑j) (wanted_none rfl) (by simp [execOp, Act.eval, e2, f2, go_sem]) (sp_same (by kernel_rfl) hl hs hS (show (.int .i64 ↑j : Value) = _ from rfl)) trivial
    refine SSteps.cons (fun a w' vs σ hS hl hs hk => ?_) ?_
    · have e15 : a.tmps.getD 15 undef = (.int .i64 ↑k : Value) := (sk_old hk 15 (by kernel_rfl)).trans rfl
      have f15 := gd e15
      exact ro_pure (v := .int .i64 ↑k) (wanted_none rfl) (by simp [execOp, Act.eval, e15, f15, go_sem]) (sp_same (by kernel_rfl) hl hs hS (show (.int .i64 ↑k : Value) = _ from rfl)) trivial
    refine SSteps.cons (fun a w' vs σ hS hl hs hk => ?_) ?_
    · have e100 : a.tmps.getD 100 undef = (.int .i64 ↑j : Value) := (sk_val hk 4 (by kernel_rfl) rfl rfl).trans ((hk.1 4 (by kernel_rfl)).1)
      have f100 := gd e100
      have e101 : a.tmps.getD 101 undef = (.int .i64 ↑k : Value) := (sk_val hk 5 (by kernel_rfl) rfl rfl).trans ((hk.1 5 (by kernel_rfl)).1)
      have f101 := gd e101
      exact ro_pure (v := .int .i64 ↑(j + k)) (wanted_none rfl) (by simp [execOp, Act.eval, e100, f100, e101, f101, go_sem, HW1.out]) (sp_same (by kernel_rfl) hl hs hS (show (.int .i64 ↑(j + k) : Value) = _ from rfl)) trivial
    refine SSteps.cons (fun a w' vs σ hS hl hs hk => ?_) ?_
    · have e99 : a.tmps.getD 99 undef = (.slice (some ⟨g, 0, none⟩) l.1.length c : Value) := (sk_val hk 3 (by kernel_rfl) rfl rfl).trans ((hk.1 3 (by kernel_rfl)).1)
      have f99 := gd e99
      have e102 : a.tmps.getD 102 undef = (.int .i64 ↑(j + k) : Value) := (sk_val hk 6 (by kernel_rfl) rfl rfl).trans ((hk.1 6 (by kernel_rfl)).1)
      have f102 := gd e102
      exact rs_run (wanted_none rfl) (exec_slice rfl (by simp [Act.eval, e99, f99, e102, f102]) (by simp [Act.eval, e99, f99, e102, f102]; try rfl) (by simp [Act.eval, e99, f99, e102, f102]; try rfl) (run_from w' (some ⟨g, 0, none⟩) l.1.length c (j + k) (by omega) (by omega) (fun h => by cases h) (by omega))) (sp_same (by kernel_rfl) hl hs hS (show (.slice (tailA (some ⟨g, 0, none⟩) c (j + k)) (l.1.length - (j + k)) (c - (j + k)) : Value) = _ from rfl))
    refine SSteps.cons (fun a w' vs σ hS hl hs hk => ?_) ?_
    · have e98 : a.tmps.getD 98 undef = (.slice (tailA (some ⟨g, 0, none⟩) c j) (l.1.length - j) (c - j) : Value) := (sk_val hk 2 (by kernel_rfl) rfl rfl).trans ((hk.1 2 (by kernel_rfl)).1)
      have f98 := gd e98
      have e103 : a.tmps.getD 103 undef = (.slice (tailA (some ⟨g, 0, none⟩) c (j + k)) (l.1.length - (j + k)) (c - (j + k)) : Value) := (sk_val hk 7 (by kernel_rfl) rfl rfl).trans ((hk.1 7 (by kernel_rfl)).1)
      have f103 := gd e103
      have h0 : σ[0]? = some (.cells (.slice (some ⟨g, 0, none⟩) l.1.length c) (brk (j + k) (brk j l.1))) := hs 0 (by decide)
      obtain ⟨W, hr, hW⟩ := run_copyO hS (sg h0) (j) (j + k) (cols - (j + k)) (tailA (some ⟨g, 0, none⟩) c j) (tailA (some ⟨g, 0, none⟩) c (j + k)) (l.1.length - j) (c - j) (l.1.length - (j + k)) (c - (j + k)) (by show min (l.1.length - (j + k)) (l.1.length - j) = _; omega) (by rw [brk_length, brk_length]; omega) (by rw [brk_length, brk_length]; omega) (fun hp => ⟨tailA_at (by omega), tailA_at (by omega)⟩) 3
      exact rs_run (wanted_none rfl) (exec_copy rfl (by simp only [Act.eval]; exact e98) (by simp only [Act.eval]; exact e103) hr) (sp_set 0 _ (by kernel_rfl) (by simp) (by decide) hl hs (by rfl) hW trivial)
    exact SSteps.nil
  · intro vs w' hS hv
    have q0 := (show vs 0 = (.slice (some ⟨g, 0, none⟩) l.1.length c : Value) from hv 0 (by decide))
    have q1 := (show vs 1 = (.int .i64 ↑j : Value) from hv 1 (by decide))
    have q2 := (show vs 2 = (.slice (tailA (some ⟨g, 0, none⟩) c j) (l.1.length - j) (c - j) : Value) from hv 2 (by decide))
    have q3 := (show vs 3 = (.slice (some ⟨g, 0, none⟩) l.1.length c : Value) from hv 3 (by decide))
    have q4 := (show vs 4 = (.int .i64 ↑j : Value) from hv 4 (by decide))
    have q5 := (show vs 5 = (.int .i64 ↑k : Value) from hv 5 (by decide))
    have q6 := (show vs 6 = (.int .i64 ↑(j + k) : Value) from hv 6 (by decide))
    have q7 := (show vs 7 = (.slice (tailA (some ⟨g, 0, none⟩) c (j + k)) (l.1.length - (j + k)) (c - (j + k)) : Value) from hv 7 (by decide))
    have S2 := Lib.hid hS
    simp only [putL, Act.put, Nat.zero_add, Nat.reduceAdd, List.setIfInBounds_toArray, List.set_cons_succ, List.set_cons_zero, q0, q1, q2, q3, q4, q5, q6, q7]
    clear hS hv q0 q1 q2 q3 q4 q5 q6 q7
    clear S5
    have S6 := S2
    clear S2
    have HCL := Lib.hid (show ((brk (j + k) (brk j l.1)).take j ++ (((brk (j + k) (brk j l.1)).drop (j + k)).take (cols - (j + k)) ++ (brk (j + k) (brk j l.1)).drop (j + (cols - (j + k))))).length = cols by simp only [List.length_append, List.length_take, List.length_drop, brk_length]; omega)
    go_upto_region 22 with (fail)
    refine wp_region_stage (w0 := w0) (os := os) (by kernel_rfl) (by kernel_rfl) (by kernel_rfl) [(0, 9, [], fun vs => .cells (.slice (some ⟨g, 0, none⟩) l.1.length c) (wipeC (cols - k) (l.1.length - (cols - k)) q ((brk (j + k) (brk j l.1)).take j ++ (((brk (j + k) (brk j l.1)).drop (j + k)).take (cols - (j + k)) ++ (brk (j + k) (brk j l.1)).drop (j + (cols - (j + k)))))))] [[], [], [], [], [2], [], [], [], [3], [0]] [.cells (.slice (some ⟨g, 0, none⟩) l.1.length c) ((brk (j + k) (brk j l.1)).take j ++ (((brk (j + k) (brk j l.1)).drop (j + k)).take (cols - (j + k)) ++ (brk (j + k) (brk j l.1)).drop (j + (cols - (j + k))))), .linesx (.slice (some ⟨gr, 0, none⟩) L.length cr) L i (.slice (some ⟨g, 0, none⟩) l.1.length c), .box p 58 #[.int .i64 ↑cols, .slice (some ⟨gr, 0, none⟩) L.length cr], .box b9 54 (pv q)] (fun i u => match i with | 0 => u = (.slice (some ⟨g, 0, none⟩) l.1.length c : Value) | 1 => u = (.pointer (some ⟨p, 0, none⟩) : Value) | 2 => u = (.pointer (some ⟨p, 0, none⟩) : Value) | 3 => u = (.pointer (some ⟨p, 0, none⟩) : Value) | 4 => u = (.int .i64 ↑cols : Value) | 5 => u = (.int .i64 ↑k : Value) | 6 => u = (.int .i64 ↑(cols - k) : Value) | 7 => u = (.slice (tailA (some ⟨g, 0, none⟩) c (cols - k)) (l.1.length - (cols - k)) (c - (cols - k)) : Value) | 8 => u = (.agg (pv q) : Value) | 9 => u = (.tuple #[] : Value) | _ => True) (fun vs => [.cells (.slice (some ⟨g, 0, none⟩) l.1.length c) (wipeC (cols - k) (l.1.length - (cols - k)) q ((brk (j + k) (brk j l.1)).take j ++ (((brk (j + k) (brk j l.1)).drop (j + k)).take (cols - (j + k)) ++ (brk (j + k) (brk j l.1)).drop (j + (cols - (j + k)))))), .linesx (.slice (some ⟨gr, 0, none⟩) L.length cr) L i (.slice (some ⟨g, 0, none⟩) l.1.length c), .box p 58 #[.int .i64 ↑cols, .slice (some ⟨gr, 0, none⟩) L.length cr], .box b9 54 (pv q)]) (by kernel_rfl) (fun vs => by rfl) S6.out ?_ ?_
    · refine SSteps.cons (fun a w' vs σ hS hl hs hk => ?_) ?_
      · have e12 : a.tmps.getD 12 undef = (.slice (some ⟨g, 0, none⟩) l.1.length c : Value) := (sk_old hk 12 (by kernel_rfl)).trans rfl
        have f12 := gd e12
        exact ro_pure (v := .slice (some ⟨g, 0, none⟩) l.1.length c) (wanted_none rfl) (by simp [execOp, Act.eval, e12, f12, go_sem]) (sp_same (by kernel_rfl) hl hs hS (show (.slice (some ⟨g, 0, none⟩) l.1.length c : Value) = _ from rfl)) trivial
      refine SSteps.cons (fun a w' vs σ hS hl hs hk => ?_) ?_
      · have e0 : a.tmps.getD 0 undef = (.pointer (some ⟨p, 0, none⟩) : Value) := (sk_old hk 0 (by kernel_rfl)).trans rfl
        have f0 := gd e0
        exact ro_pure (v := .pointer (some ⟨p, 0, none⟩)) (wanted_none rfl) (by simp [execOp, Act.eval, e0, f0, go_sem]) (sp_same (by kernel_rfl) hl hs hS (show (.pointer (some ⟨p, 0, none⟩) : Value) = _ from rfl)) trivial
      refine SSteps.cons (fun a w' vs σ hS hl hs hk => ?_) ?_
      · have e106 : a.tmps.getD 106 undef = (.pointer (some ⟨p, 0, none⟩) : Value) := (sk_val hk 1 (by kernel_rfl) rfl rfl).trans ((hk.1 1 (by kernel_rfl)).1)
        have f106 := gd e106
        exact ro_pure (v := .pointer (some ⟨p, 0, none⟩)) (wanted_none rfl) (by simp [execOp, Act.eval, e106, f106, go_sem]) (sp_same (by kernel_rfl) hl hs hS (show (.pointer (some ⟨p, 0, none⟩) : Value) = _ from rfl)) trivial
      refine SSteps.cons (fun a w' vs σ hS hl hs hk => ?_) ?_
      · have e107 : a.tmps.getD 107 undef = (.pointer (some ⟨p, 0, none⟩) : Value) := (sk_val hk 2 (by kernel_rfl) rfl rfl).trans ((hk.1 2 (by kernel_rfl)).1)
        have f107 := gd e107
        exact ro_pure (v := .pointer (some ⟨p, 0, none⟩)) (wanted_none rfl) (by simp [execOp, Act.eval, e107, f107, go_sem]) (sp_same (by kernel_rfl) hl hs hS (show (.pointer (some ⟨p, 0, none⟩) : Value) = _ from rfl)) trivial
      refine SSteps.cons (fun a w' vs σ hS hl hs hk => ?_) ?_
      · have e108 : a.tmps.getD 108 undef = (.pointer (some ⟨p, 0, none⟩) : Value) := (sk_val hk 3 (by kernel_rfl) rfl rfl).trans ((hk.1 3 (by kernel_rfl)).1)
        have f108 := gd e108
        have hx := (hS.box (sg (hs 2 (by decide)))).cell
        exact ro_pure (v := .int .i64 ↑cols) (wanted_none rfl) (by simp [execOp, Act.eval, e108, f108, go_sem, hx]) (sp_same (by kernel_rfl) hl hs hS (show (.int .i64 ↑cols : Value) = _ from rfl)) trivial
      refine SSteps.cons (fun a w' vs σ hS hl hs hk => ?_) ?_
      · have e15 : a.tmps.getD 15 undef = (.int .i64 ↑k : Value) := (sk_old hk 15 (by kernel_rfl)).trans rfl
        have f15 := gd e15
        exact ro_pure (v := .int .i64 ↑k) (wanted_none rfl) (by simp [execOp, Act.eval, e15, f15, go_sem]) (sp_same (by kernel_rfl) hl hs hS (show (.int .i64 ↑k : Value) = _ from rfl)) trivial
      refine SSteps.cons (fun a w' vs σ hS hl hs hk => ?_) ?_
      · have e109 : a.tmps.getD 109 undef = (.int .i64 ↑cols : Value) := (sk_val hk 4 (by kernel_rfl) rfl rfl).trans ((hk.1 4 (by kernel_rfl)).1)
        have f109 := gd e109
        have e110 : a.tmps.getD 110 undef = (.int .i64 ↑k : Value) := (sk_val hk 5 (by kernel_rfl) rfl rfl).trans ((hk.1 5 (by kernel_rfl)).1)
        have f110 := gd e110
        exact ro_pure (v := .int .i64 ↑(cols - k)) (wanted_none rfl) (by simp [execOp, Act.eval, e109, f109, e110, f110, go_sem, HW2.out]) (sp_same (by kernel_rfl) hl hs hS (show (.int .i64 ↑(cols - k) : Value) = _ from rfl)) trivial
      refine SSteps.cons (fun a w' vs σ hS hl hs hk => ?_) ?_
      · have e105 : a.tmps.getD 105 undef = (.slice (some ⟨g, 0, none⟩) l.1.length c : Value) := (sk_val hk 0 (by kernel_rfl) rfl rfl).trans ((hk.1 0 (by kernel_rfl)).1)
        have f105 := gd e105
        have e111 : a.tmps.getD 111 undef = (.int .i64 ↑(cols - k) : Value) := (sk_val hk 6 (by kernel_rfl) rfl rfl).trans ((hk.1 6 (by kernel_rfl)).1)
        have f111 := gd e111
        exact rs_run (wanted_none rfl) (exec_slice rfl (by simp [Act.eval, e105, f105, e111, f111]) (by simp [Act.eval, e105, f105, e111, f111]; try rfl) (by simp [Act.eval, e105, f105, e111, f111]; try rfl) (run_from w' (some ⟨g, 0, none⟩) l.1.length c (cols - k) (by omega) (by omega) (fun h => by cases h) (by omega))) (sp_same (by kernel_rfl) hl hs hS (show (.slice (tailA (some ⟨g, 0, none⟩) c (cols - k)) (l.1.length - (cols - k)) (c - (cols - k)) : Value) = _ from rfl))
      refine SSteps.cons (fun a w' vs σ hS hl hs hk => ?_) ?_
      · have e9 : a.tmps.getD 9 undef = (.pointer (some ⟨b9, 0, none⟩) : Value) := (sk_old hk 9 (by kernel_rfl)).trans rfl
        have f9 := gd e9
        have hx := (hS.box (sg (hs 3 (by decide)))).penAt
        exact ro_pure (v := .agg (pv q)) (wanted_none rfl) (by simp [execOp, Act.eval, e9, f9, go_sem, hx]) (sp_same (by kernel_rfl) hl hs hS (show (.agg (pv q) : Value) = _ from rfl)) trivial
      refine SSteps.cons (fun a w' vs σ hS hl hs hk => ?_) ?_
      · have e112 : a.tmps.getD 112 undef = (.slice (tailA (some ⟨g, 0, none⟩) c (cols - k)) (l.1.length - (cols - k)) (c - (cols - k)) : Value) := (sk_val hk 7 (by kernel_rfl) rfl rfl).trans ((hk.1 7 (by kernel_rfl)).1)
        have f112 := gd e112
        have e113 : a.tmps.getD 113 undef = (.agg (pv q) : Value) := (sk_val hk 8 (by kernel_rfl) rfl rfl).trans ((hk.1 8 (by kernel_rfl)).1)
        have f113 := gd e113
        have h0 : σ[0]? = some (.cells (.slice (some ⟨g, 0, none⟩) l.1.length c) ((brk (j + k) (brk j l.1)).take j ++ (((brk (j + k) (brk j l.1)).drop (j + k)).take (cols - (j + k)) ++ (brk (j + k) (brk j l.1)).drop (j + (cols - (j + k)))))) := hs 0 (by decide)
        rw [tailA_at (by omega)] at e112
        exact ro_call (f := 89) (wanted_none rfl) rfl (by simp only [List.map_toArray, List.map_cons, List.map_nil, Act.eval, e112, e113] <;> rfl) (fun _ _ => by kernel_rfl) ((front_call hS (sg h0) (fun os1 h => wipe_front g l.1.length c (cols - k) (l.1.length - (cols - k)) (c - (cols - k)) ((brk (j + k) (brk j l.1)).take j ++ (((brk (j + k) (brk j l.1)).drop (j + k)).take (cols - (j + k)) ++ (brk (j + k) (brk j l.1)).drop (j + (cols - (j + k))))) q w0 w' os1 h (by have := HCL.out; omega) (by omega) (by have := HCL.out; omega))).mono fun e w2 ⟨h1, h2⟩ => ⟨_, h1, sp_set 0 _ (by kernel_rfl) (by simp) (by decide) hl hs (by rfl) h2 rfl, trivial⟩)
      exact SSteps.nil
    · intro vs w' hS hv
      have q0 := (show vs 0 = (.slice (some ⟨g, 0, none⟩) l.1.length c : Value) from hv 0 (by decide))
      have q1 := (show vs 1 = (.pointer (some ⟨p, 0, none⟩) : Value) from hv 1 (by decide))
      have q2 := (show vs 2 = (.pointer (some ⟨p, 0, none⟩) : Value) from hv 2 (by decide))
      have q3 := (show vs 3 = (.pointer (some ⟨p, 0, none⟩) : Value) from hv 3 (by decide))
      have q4 := (show vs 4 = (.int .i64 ↑cols : Value) from hv 4 (by decide))
      have q5 := (show vs 5 = (.int .i64 ↑k : Value) from hv 5 (by decide))
      have q6 := (show vs 6 = (.int .i64 ↑(cols - k) : Value) from hv 6 (by decide))
      have q7 := (show vs 7 = (.slice (tailA (some ⟨g, 0, none⟩) c (cols - k)) (l.1.length - (cols - k)) (c - (cols - k)) : Value) from hv 7 (by decide))
      have q8 := (show vs 8 = (.agg (pv q) : Value) from hv 8 (by decide))
      have q9 := (show vs 9 = (.tuple #[] : Value) from hv 9 (by decide))
      have S2 := Lib.hid hS
      simp only [putL, Act.put, Nat.zero_add, Nat.reduceAdd, List.setIfInBounds_toArray, List.set_cons_succ, List.set_cons_zero, q0, q1, q2, q3, q4, q5, q6, q7, q8, q9]
      clear hS hv q0 q1 q2 q3 q4 q5 q6 q7 q8 q9
      have HF := (show Objs w0 w' (_ :: _ :: _ :: _ :: os) from S2.out).closeAt HL.out
      rw [HP.out] at HF
      go_wp2_with fail
      go_ret
      exact ⟨rfl, HF.drop2⟩
set_option maxRecDepth 100000 in
set_option maxHeartbeats 4000000 in
theorem Shift_left2 {i j k : Nat} {l : Ln} (q : Pen) (hT : Tabs w0) (hS : Objs w0 w (.grid p 58 cols L :: os)) (hc : 0 < cols) (hcm : cols ≤ 1000) (hl : L[i]? = some l) (hrow : l.1.length = cols) (hq : q.ok = true) (n : Int) (hj : j < cols) (hk3 : j + k = cols) (hn : n ≤ -(k : Int)) (hn2 : -9223372036854775808 ≤ n) :
    Calls Tryd.prog 52 #[.pointer (some ⟨p, 0, none⟩), .int .i64 i, .int .i64 j, .int .i64 n, .agg (pv q)] w fun e w' => e = .returned (.int .i64 0) ∧ Objs w0 w' (.grid p 58 cols (L.set i (shiftL j k q l.1, l.2)) :: os) := by
  have S := Lib.hid hS
  have hi : i < L.length := (List.getElem?_eq_some_iff.1 hl).1
  have HL := Lib.hid hl
  have HT := Lib.hid hT
  have HQ := Lib.hid hq
  have HROW := Lib.hid hrow
  have hlr : l.1.length ≤ 1000 := by omega
  have hlr2 : cols ≤ l.1.length := by omega
  have hlr3 : l.1.length ≤ cols := by omega
  have HE := Lib.hid (show atE i j cols L = 0 by unfold atE; rw [if_pos ⟨⟨by omega, by omega⟩, by omega, by omega⟩])
  have hkj : j + k ≤ cols := by omega
  have hk1 : 1 ≤ k := by omega
  have hn0 : (n == 0) = false := by simp; omega
  have hng : ¬ (0 < n) := by omega
  have hcmp : ¬ (-((cols : Int) - j) < n) := by omega
  have hck : (cols : Int) - j = k := by omega
  have HP := Lib.hid (show wipeC (cols - k) (l.1.length - (cols - k)) q ((brk (j + k) (brk j l.1)).take j ++ (((brk (j + k) (brk j l.1)).drop (j + k)).take (cols - (j + k)) ++ (brk (j + k) (brk j l.1)).drop (j + (cols - (j + k))))) = shiftL j k q l.1 by
    have hb : (brk (j + k) (brk j l.1)).length = cols := by rw [brk_length, brk_length, hrow]
    have h := shiftL_is (j := j) (k := k) (q := q) (l := brk (j + k) (brk j l.1)) (by omega)
    rw [hb] at h
    rw [show l.1.length - (cols - k) = k by omega, h]
    rfl)
  clear hS hT hl hrow hq
  go_enter Tryd.func52, Tryd.ntmps52
  go_wp2_with fail
  refine (at_any i j S.out.alloc1 (k := 1) rfl hc).mono ?_
  rw [HE.out]
  rintro e w1 ⟨rfl, hS⟩
  have S1 := Lib.hid hS
  obtain ⟨A0, c0, hB0, -, -⟩ := hS.gridRd (k := 1) rfl
  obtain ⟨hx0, hf0, hz0⟩ := hB0.facts
  obtain ⟨hx9, hf9, hz9, hp9⟩ := (hS.box (k := 0) rfl).pbox
  clear hS S hB0
  generalize w.heap.size = b9 at S1 hx9 hf9 hz9 hp9 ⊢
  go_wp2_with fail
  refine (inked_is HQ.out HT.out S1.out).mono ?_
  rintro e w2 ⟨rfl, hS⟩
  have S2 := Lib.hid hS
  clear hS hx0 hf0 hz0 hx9 hf9 hz9 hp9
  obtain ⟨v, b, hS3⟩ := S2.out.swap.openAt HL.out
  obtain ⟨A, c, rfl, hrd⟩ := hS3.cellsRd (k := 0) rfl
  have hnc : l.1.length ≤ c := hrd.1
  obtain ⟨g, rfl, -, -, -, -⟩ := (hS3.own (k := 0) rfl).head (by omega)
  obtain ⟨gr, cr, rfl, h1, h2, h3, h4, h5, h6, h7⟩ := hS3.linesxRd (k := 1) rfl
  obtain ⟨hx2, hf2, hz2⟩ := (hS3.box (k := 2) rfl).facts
  have hlen2 : L.length ≤ 9223372036854775807 := by unfold maxLen at h2; omega
  have S3 := Lib.hid hS3
  clear hS3 h1 h2 h6 hrd
  go_wp2_with fail
  refine (split_at (c := j) S3.out rfl rfl (by omega) (by omega)).mono ?_
  rintro e w4 ⟨rfl, hS4⟩
  have S4 := Lib.hid hS4
  obtain ⟨hx2, hf2, hz2⟩ := (hS4.box (k := 2) rfl).facts
  clear hS4 h4 h5 h7
  go_wp2_with fail
  refine (split_at (c := j + k) S4.out (by rw [brk_length]) (by omega) (by rw [brk_length]; omega) (by omega)).mono ?_
  rintro e w5 ⟨rfl, hS5⟩
  have S5 := Lib.hid hS5
  have HW1 := Lib.hid (show IntKind.i64.wrap ((j : Int) + k) = ((j + k : Nat) : Int) by rw [IntWalk.i64_in _ (by omega)]; omega)
  have HW2 := Lib.hid (show IntKind.i64.wrap ((cols : Int) - k) = ((cols - k : Nat) : Int) by rw [IntWalk.i64_in _ (by omega)]; omega)
  clear hS5 hx2 hf2 hz2 hn0 hng hcmp
  go_upto_region 21 with (fail)
  refine wp_region_stage (w0 := w0) (os := os) (by kernel_rfl) (by kernel_rfl) (by kernel_rfl) [(0, 8, [], fun vs => .cells (.slice (some ⟨g, 0, none⟩) l.1.length c) ((brk (j + k) (brk j l.1)).take j ++ (((brk (j + k) (brk j l.1)).drop (j + k)).take (cols - (j + k)) ++ (brk (j + k) (brk j l.1)).drop (j + (cols - (j + k))))))] [[], [], [], [], [], [], [], [], [0]] [.cells (.slice (some ⟨g, 0, none⟩) l.1.length c) (brk (j + k) (brk j l.1)), .linesx (.slice (some ⟨gr, 0, none⟩) L.length cr) L i (.slice (some ⟨g, 0, none⟩) l.1.length c), .box p 58 #[.int .i64 ↑cols, .slice (some ⟨gr, 0, none⟩) L.length cr], .box b9 54 (pv q)] (fun i u => match i with | 0 => u = (.slice (some ⟨g, 0, none⟩) l.1.length c : Value) | 1 => u = (.int .i64 ↑j : Value) | 2 => u = (.slice (tailA (some ⟨g, 0, none⟩) c j) (l.1.length - j) (c - j) : Value) | 3 => u = (.slice (some ⟨g, 0, none⟩) l.1.length c : Value) | 4 => u = (.int .i64 ↑j : Value) | 5 => u = (.int .i64 ↑k : Value) | 6 => u = (.int .i64 ↑(j + k) : Value) | 7 => u = (.slice (tailA (some ⟨g, 0, none⟩) c (j + k)) (l.1.length - (j + k)) (c - (j + k)) : Value) | 8 => True | _ => True) (fun vs => [.cells (.slice (some ⟨g, 0, none⟩) l.1.length c) ((brk (j + k) (brk j l.1)).take j ++ (((brk (j + k) (brk j l.1)).drop (j + k)).take (cols - (j + k)) ++ (brk (j + k) (brk j l.1)).drop (j + (cols - (j + k))))), .linesx (.slice (some ⟨gr, 0, none⟩) L.length cr) L i (.slice (some ⟨g, 0, none⟩) l.1.length c), .box p 58 #[.int .i64 ↑cols, .slice (some ⟨gr, 0, none⟩) L.length cr], .box b9 54 (pv q)]) (by kernel_rfl) (fun vs => by rfl) S5.out ?_ ?_
  · refine SSteps.cons (fun a w' vs σ hS hl hs hk => ?_) ?_
    · have e12 : a.tmps.getD 12 undef = (.slice (some ⟨g, 0, none⟩) l.1.length c : Value) := (sk_old hk 12 (by kernel_rfl)).trans rfl
      have f12 := gd e12
      exact ro_pure (v := .slice (some ⟨g, 0, none⟩) l.1.length c) (wanted_none rfl) (by simp [execOp, Act.eval, e12, f12, go_sem]) (sp_same (by kernel_rfl) hl hs hS (show (.slice (some ⟨g, 0, none⟩) l.1.length c : Value) = _ from rfl)) trivial
    refine SSteps.cons (fun a w' vs σ hS hl hs hk => ?_) ?_
    · have e2 : a.tmps.getD 2 undef = (.int .i64 ↑j : Value) := (sk_old hk 2 (by kernel_rfl)).trans rfl
      have f2 := gd e2
      exact ro_pure (v := .int .i64 ↑j) (wanted_none rfl) (by simp [execOp, Act.eval, e2, f2, go_sem]) (sp_same (by kernel_rfl) hl hs hS (show (.int .i64 ↑j : Value) = _ from rfl)) trivial
    refine SSteps.cons (fun a w' vs σ hS hl hs hk => ?_) ?_
    · have e96 : a.tmps.getD 96 undef = (.slice (some ⟨g, 0, none⟩) l.1.length c : Value) := (sk_val hk 0 (by kernel_rfl) rfl rfl).trans ((hk.1 0 (by kernel_rfl)).1)
      have f96 := gd e96
      have e97 : a.tmps.getD 97 undef = (.int .i64 ↑j : Value) := (sk_val hk 1 (by kernel_rfl) rfl rfl).trans ((hk.1 1 (by kernel_rfl)).1)
      have f97 := gd e97
      exact rs_run (wanted_none rfl) (exec_slice rfl (by simp [Act.eval, e96, f96, e97, f97]) (by simp [Act.eval, e96, f96, e97, f97]; try rfl) (by simp [Act.eval, e96, f96, e97, f97]; try rfl) (run_from w' (some ⟨g, 0, none⟩) l.1.length c j (by omega) (by omega) (fun h => by cases h) (by omega))) (sp_same (by kernel_rfl) hl hs hS (show (.slice (tailA (some ⟨g, 0, none⟩) c j) (l.1.length - j) (c - j) : Value) = _ from rfl))
    refine SSteps.cons (fun a w' vs σ hS hl hs hk => ?_) ?_
    · have e12 : a.tmps.getD 12 undef = (.slice (some ⟨g, 0, none⟩) l.1.length c : Value) := (sk_old hk 12 (by kernel_rfl)).trans rfl
      have f12 := gd e12
      exact ro_pure (v := .slice (some ⟨g, 0, none⟩) l.1.length c) (wanted_none rfl) (by simp [execOp, Act.eval, e12, f12, go_sem]) (sp_same (by kernel_rfl) hl hs hS (show (.slice (some ⟨g, 0, none⟩) l.1.length c : Value) = _ from rfl)) trivial
    refine SSteps.cons (fun a w' vs σ hS hl hs hk => ?_) ?_
    · have e2 : a.tmps.getD 2 undef = (.int .i64 ↑j : Value) := (sk_old hk 2 (by kernel_rfl)).trans rfl
      have f2 := gd e2
      exact ro_pure (v := .int .i64 ↑j) (wanted_none rfl) (by simp [execOp, Act.eval, e2, f2, go_sem]) (sp_same (by kernel_rfl) hl hs hS (show (.int .i64 ↑j : Value) = _ from rfl)) trivial
    refine SSteps.cons (fun a w' vs σ hS hl hs hk => ?_) ?_
    · have e15 : a.tmps.getD 15 undef = (.int .i64 ↑k : Value) := (sk_old hk 15 (by kernel_rfl)).trans rfl
      have f15 := gd e15
      exact ro_pure (v := .int .i64 ↑k) (wanted_none rfl) (by simp [execOp, Act.eval, e15, f15, go_sem]) (sp_same (by kernel_rfl) hl hs hS (show (.int .i64 ↑k : Value) = _ from rfl)) trivial
    refine SSteps.cons (fun a w' vs σ hS hl hs hk => ?_) ?_
    · have e100 : a.tmps.getD 100 undef = (.int .i64 ↑j : Value) := (sk_val hk 4 (by kernel_rfl) rfl rfl).trans ((hk.1 4 (by kernel_rfl)).1)
      have f100 := gd e100
      have e101 : a.tmps.getD 101 undef = (.int .i64 ↑k : Value) := (sk_val hk 5 (by kernel_rfl) rfl rfl).trans ((hk.1 5 (by kernel_rfl)).1)
      have f101 := gd e101
      exact ro_pure (v := .int .i64 ↑(j + k)) (wanted_none rfl) (by simp [execOp, Act.eval, e100, f100, e101, f101, go_sem, HW1.out]) (sp_same (by kernel_rfl) hl hs hS (show (.int .i64 ↑(j + k) : Value) = _ from rfl)) trivial
    refine SSteps.cons (fun a w' vs σ hS hl hs hk => ?_) ?_
    · have e99 : a.tmps.getD 99 undef = (.slice (some ⟨g, 0, none⟩) l.1.length c : Value) := (sk_val hk 3 (by kernel_rfl) rfl rfl).trans ((hk.1 3 (by kernel_rfl)).1)
      have f99 := gd e99
      have e102 : a.tmps.getD 102 undef = (.int .i64 ↑(j + k) : Value) := (sk_val hk 6 (by kernel_rfl) rfl rfl).trans ((hk.1 6 (by kernel_rfl)).1)
      have f102 := gd e102
      exact rs_run (wanted_none rfl) (exec_slice rfl (by simp [Act.eval, e99, f99, e102, f102]) (by simp [Act.eval, e99, f99, e102, f102]; try rfl) (by simp [Act.eval, e99, f99, e102, f102]; try rfl) (run_from w' (some ⟨g, 0, none⟩) l.1.length c (j + k) (by omega) (by omega) (fun h => by cases h) (by omega))) (sp_same (by kernel_rfl) hl hs hS (show (.slice (tailA (some ⟨g, 0, none⟩) c (j + k)) (l.1.length - (j + k)) (c - (j + k)) : Value) = _ from rfl))
    refine SSteps.cons (fun a w' vs σ hS hl hs hk => ?_) ?_
    · have e98 : a.tmps.getD 98 undef = (.slice (tailA (some ⟨g, 0, none⟩) c j) (l.1.length - j) (c - j) : Value) := (sk_val hk 2 (by kernel_rfl) rfl rfl).trans ((hk.1 2 (by kernel_rfl)).1)
      have f98 := gd e98
      have e103 : a.tmps.getD 103 undef = (.slice (tailA (some ⟨g, 0, none⟩) c (j + k)) (l.1.length - (j + k)) (c - (j + k)) : Value) := (sk_val hk 7 (by kernel_rfl) rfl rfl).trans ((hk.1 7 (by kernel_rfl)).1)
      have f103 := gd e103
      have h0 : σ[0]? = some (.cells (.slice (some ⟨g, 0, none⟩) l.1.length c) (brk (j + k) (brk j l.1))) := hs 0 (by decide)
      obtain ⟨W, hr, hW⟩ := run_copyO hS (sg h0) (j) (j + k) (cols - (j + k)) (tailA (some ⟨g, 0, none⟩) c j) (tailA (some ⟨g, 0, none⟩) c (j + k)) (l.1.length - j) (c - j) (l.1.length - (j + k)) (c - (j + k)) (by show min (l.1.length - (j + k)) (l.1.length - j) = _; omega) (by rw [brk_length, brk_length]; omega) (by rw [brk_length, brk_length]; omega) (fun hp => ⟨tailA_at (by omega), tailA_at (by omega)⟩) 3
      exact rs_run (wanted_none rfl) (exec_copy rfl (by simp only [Act.eval]; exact e98) (by simp only [Act.eval]; exact e103) hr) (sp_set 0 _ (by kernel_rfl) (by simp) (by decide) hl hs (by rfl) hW trivial)
    exact SSteps.nil
  · intro vs w' hS hv
    have q0 := (show vs 0 = (.slice (some ⟨g, 0, none⟩) l.1.length c : Value) from hv 0 (by decide))
    have q1 := (show vs 1 = (.int .i64 ↑j : Value) from hv 1 (by decide))
    have q2 := (show vs 2 = (.slice (tailA (some ⟨g, 0, none⟩) c j) (l.1.length - j) (c - j) : Value) from hv 2 (by decide))
    have q3 := (show vs 3 = (.slice (some ⟨g, 0, none⟩) l.1.length c : Value) from hv 3 (by decide))
    have q4 := (show vs 4 = (.int .i64 ↑j : Value) from hv 4 (by decide))
    have q5 := (show vs 5 = (.int .i64 ↑k : Value) from hv 5 (by decide))
    have q6 := (show vs 6 = (.int .i64 ↑(j + k) : Value) from hv 6 (by decide))
    have q7 := (show vs 7 = (.slice (tailA (some ⟨g, 0, none⟩) c (j + k)) (l.1.length - (j + k)) (c - (j + k)) : Value) from hv 7 (by decide))
    have S2 := Lib.hid hS
    simp only [putL, Act.put, Nat.zero_add, Nat.reduceAdd, List.setIfInBounds_toArray, List.set_cons_succ, List.set_cons_zero, q0, q1, q2, q3, q4, q5, q6, q7]
    clear hS hv q0 q1 q2 q3 q4 q5 q6 q7
    clear S5
    have S6 := S2
    clear S2
    have HCL := Lib.hid (show ((brk (j + k) (brk j l.1)).take j ++ (((brk (j + k) (brk j l.1)).drop (j + k)).take (cols - (j + k)) ++ (brk (j + k) (brk j l.1)).drop (j + (cols - (j + k))))).length = cols by simp only [List.length_append, List.length_take, List.length_drop, brk_length]; omega)
    go_upto_region 22 with (fail)
    refine wp_region_stage (w0 := w0) (os := os) (by kernel_rfl) (by kernel_rfl) (by kernel_rfl) [(0, 9, [], fun vs => .cells (.slice (some ⟨g, 0, none⟩) l.1.length c) (wipeC (cols - k) (l.1.length - (cols - k)) q ((brk (j + k) (brk j l.1)).take j ++ (((brk (j + k) (brk j l.1)).drop (j + k)).take (cols - (j + k)) ++ (brk (j + k) (brk j l.1)).drop (j + (cols - (j + k)))))))] [[], [], [], [], [2], [], [], [], [3], [0]] [.cells (.slice (some ⟨g, 0, none⟩) l.1.length c) ((brk (j + k) (brk j l.1)).take j ++ (((brk (j + k) (brk j l.1)).drop (j + k)).take (cols - (j + k)) ++ (brk (j + k) (brk j l.1)).drop (j + (cols - (j + k))))), .linesx (.slice (some ⟨gr, 0, none⟩) L.length cr) L i (.slice (some ⟨g, 0, none⟩) l.1.length c), .box p 58 #[.int .i64 ↑cols, .slice (some ⟨gr, 0, none⟩) L.length cr], .box b9 54 (pv q)] (fun i u => match i with | 0 => u = (.slice (some ⟨g, 0, none⟩) l.1.length c : Value) | 1 => u = (.pointer (some ⟨p, 0, none⟩) : Value) | 2 => u = (.pointer (some ⟨p, 0, none⟩) : Value) | 3 => u = (.pointer (some ⟨p, 0, none⟩) : Value) | 4 => u = (.int .i64 ↑cols : Value) | 5 => u = (.int .i64 ↑k : Value) | 6 => u = (.int .i64 ↑(cols - k) : Value) | 7 => u = (.slice (tailA (some ⟨g, 0, none⟩) c (cols - k)) (l.1.length - (cols - k)) (c - (cols - k)) : Value) | 8 => u = (.agg (pv q) : Value) | 9 => u = (.tuple #[] : Value) | _ => True) (fun vs => [.cells (.slice (some ⟨g, 0, none⟩) l.1.length c) (wipeC (cols - k) (l.1.length - (cols - k)) q ((brk (j + k) (brk j l.1)).take j ++ (((brk (j + k) (brk j l.1)).drop (j + k)).take (cols - (j + k)) ++ (brk (j + k) (brk j l.1)).drop (j + (cols - (j + k)))))), .linesx (.slice (some ⟨gr, 0, none⟩) L.length cr) L i (.slice (some ⟨g, 0, none⟩) l.1.length c), .box p 58 #[.int .i64 ↑cols, .slice (some ⟨gr, 0, none⟩) L.length cr], .box b9 54 (pv q)]) (by kernel_rfl) (fun vs => by rfl) S6.out ?_ ?_
    · refine SSteps.cons (fun a w' vs σ hS hl hs hk => ?_) ?_
      · have e12 : a.tmps.getD 12 undef = (.slice (some ⟨g, 0, none⟩) l.1.length c : Value) := (sk_old hk 12 (by kernel_rfl)).trans rfl
        have f12 := gd e12
        exact ro_pure (v := .slice (some ⟨g, 0, none⟩) l.1.length c) (wanted_none rfl) (by simp [execOp, Act.eval, e12, f12, go_sem]) (sp_same (by kernel_rfl) hl hs hS (show (.slice (some ⟨g, 0, none⟩) l.1.length c : Value) = _ from rfl)) trivial
      refine SSteps.cons (fun a w' vs σ hS hl hs hk => ?_) ?_
      · have e0 : a.tmps.getD 0 undef = (.pointer (some ⟨p, 0, none⟩) : Value) := (sk_old hk 0 (by kernel_rfl)).trans rfl
        have f0 := gd e0
        exact ro_pure (v := .pointer (some ⟨p, 0, none⟩)) (wanted_none rfl) (by simp [execOp, Act.eval, e0, f0, go_sem]) (sp_same (by kernel_rfl) hl hs hS (show (.pointer (some ⟨p, 0, none⟩) : Value) = _ from rfl)) trivial
      refine SSteps.cons (fun a w' vs σ hS hl hs hk => ?_) ?_
      · have e106 : a.tmps.getD 106 undef = (.pointer (some ⟨p, 0, none⟩) : Value) := (sk_val hk 1 (by kernel_rfl) rfl rfl).trans ((hk.1 1 (by kernel_rfl)).1)
        have f106 := gd e106
        exact ro_pure (v := .pointer (some ⟨p, 0, none⟩)) (wanted_none rfl) (by simp [execOp, Act.eval, e106, f106, go_sem]) (sp_same (by kernel_rfl) hl hs hS (show (.pointer (some ⟨p, 0, none⟩) : Value) = _ from rfl)) trivial
      refine SSteps.cons (fun a w' vs σ hS hl hs hk => ?_) ?_
      · have e107 : a.tmps.getD 107 undef = (.pointer (some ⟨p, 0, none⟩) : Value) := (sk_val hk 2 (by kernel_rfl) rfl rfl).trans ((hk.1 2 (by kernel_rfl)).1)
        have f107 := gd e107
        exact ro_pure (v := .pointer (some ⟨p, 0, none⟩)) (wanted_none rfl) (by simp [execOp, Act.eval, e107, f107, go_sem]) (sp_same (by kernel_rfl) hl hs hS (show (.pointer (some ⟨p, 0, none⟩) : Value) = _ from rfl)) trivial
      refine SSteps.cons (fun a w' vs σ hS hl hs hk => ?_) ?_
      · have e108 : a.tmps.getD 108 undef = (.pointer (some ⟨p, 0, none⟩) : Value) := (sk_val hk 3 (by kernel_rfl) rfl rfl).trans ((hk.1 3 (by kernel_rfl)).1)
        have f108 := gd e108
        have hx := (hS.box (sg (hs 2 (by decide)))).cell
        exact ro_pure (v := .int .i64 ↑cols) (wanted_none rfl) (by simp [execOp, Act.eval, e108, f108, go_sem, hx]) (sp_same (by kernel_rfl) hl hs hS (show (.int .i64 ↑cols : Value) = _ from rfl)) trivial
      refine SSteps.cons (fun a w' vs σ hS hl hs hk => ?_) ?_
      · have e15 : a.tmps.getD 15 undef = (.int .i64 ↑k : Value) := (sk_old hk 15 (by kernel_rfl)).trans rfl
        have f15 := gd e15
        exact ro_pure (v := .int .i64 ↑k) (wanted_none rfl) (by simp [execOp, Act.eval, e15, f15, go_sem]) (sp_same (by kernel_rfl) hl hs hS (show (.int .i64 ↑k : Value) = _ from rfl)) trivial
      refine SSteps.cons (fun a w' vs σ hS hl hs hk => ?_) ?_
      · have e109 : a.tmps.getD 109 undef = (.int .i64 ↑cols : Value) := (sk_val hk 4 (by kernel_rfl) rfl rfl).trans ((hk.1 4 (by kernel_rfl)).1)
        have f109 := gd e109
        have e110 : a.tmps.getD 110 undef = (.int .i64 ↑k : Value) := (sk_val hk 5 (by kernel_rfl) rfl rfl).trans ((hk.1 5 (by kernel_rfl)).1)
        have f110 := gd e110
        exact ro_pure (v := .int .i64 ↑(cols - k)) (wanted_none rfl) (by simp [execOp, Act.eval, e109, f109, e110, f110, go_sem, HW2.out]) (sp_same (by kernel_rfl) hl hs hS (show (.int .i64 ↑(cols - k) : Value) = _ from rfl)) trivial
      refine SSteps.cons (fun a w' vs σ hS hl hs hk => ?_) ?_
      · have e105 : a.tmps.getD 105 undef = (.slice (some ⟨g, 0, none⟩) l.1.length c : Value) := (sk_val hk 0 (by kernel_rfl) rfl rfl).trans ((hk.1 0 (by kernel_rfl)).1)
        have f105 := gd e105
        have e111 : a.tmps.getD 111 undef = (.int .i64 ↑(cols - k) : Value) := (sk_val hk 6 (by kernel_rfl) rfl rfl).trans ((hk.1 6 (by kernel_rfl)).1)
        have f111 := gd e111
        exact rs_run (wanted_none rfl) (exec_slice rfl (by simp [Act.eval, e105, f105, e111, f111]) (by simp [Act.eval, e105, f105, e111, f111]; try rfl) (by simp [Act.eval, e105, f105, e111, f111]; try rfl) (run_from w' (some ⟨g, 0, none⟩) l.1.length c (cols - k) (by omega) (by omega) (fun h => by cases h) (by omega))) (sp_same (by kernel_rfl) hl hs hS (show (.slice (tailA (some ⟨g, 0, none⟩) c (cols - k)) (l.1.length - (cols - k)) (c - (cols - k)) : Value) = _ from rfl))
      refine SSteps.cons (fun a w' vs σ hS hl hs hk => ?_) ?_
      · have e9 : a.tmps.getD 9 undef = (.pointer (some ⟨b9, 0, none⟩) : Value) := (sk_old hk 9 (by kernel_rfl)).trans rfl
        have f9 := gd e9
        have hx := (hS.box (sg (hs 3 (by decide)))).penAt
        exact ro_pure (v := .agg (pv q)) (wanted_none rfl) (by simp [execOp, Act.eval, e9, f9, go_sem, hx]) (sp_same (by kernel_rfl) hl hs hS (show (.agg (pv q) : Value) = _ from rfl)) trivial
      refine SSteps.cons (fun a w' vs σ hS hl hs hk => ?_) ?_
      · have e112 : a.tmps.getD 112 undef = (.slice (tailA (some ⟨g, 0, none⟩) c (cols - k)) (l.1.length - (cols - k)) (c - (cols - k)) : Value) := (sk_val hk 7 (by kernel_rfl) rfl rfl).trans ((hk.1 7 (by kernel_rfl)).1)
        have f112 := gd e112
        have e113 : a.tmps.getD 113 undef = (.agg (pv q) : Value) := (sk_val hk 8 (by kernel_rfl) rfl rfl).trans ((hk.1 8 (by kernel_rfl)).1)
        have f113 := gd e113
        have h0 : σ[0]? = some (.cells (.slice (some ⟨g, 0, none⟩) l.1.length c) ((brk (j + k) (brk j l.1)).take j ++ (((brk (j + k) (brk j l.1)).drop (j + k)).take (cols - (j + k)) ++ (brk (j + k) (brk j l.1)).drop (j + (cols - (j + k)))))) := hs 0 (by decide)
        rw [tailA_at (by omega)] at e112
        exact ro_call (f := 89) (wanted_none rfl) rfl (by simp only [List.map_toArray, List.map_cons, List.map_nil, Act.eval, e112, e113] <;> rfl) (fun _ _ => by kernel_rfl) ((front_call hS (sg h0) (fun os1 h => wipe_front g l.1.length c (cols - k) (l.1.length - (cols - k)) (c - (cols - k)) ((brk (j + k) (brk j l.1)).take j ++ (((brk (j + k) (brk j l.1)).drop (j + k)).take (cols - (j + k)) ++ (brk (j + k) (brk j l.1)).drop (j + (cols - (j + k))))) q w0 w' os1 h (by have := HCL.out; omega) (by omega) (by have := HCL.out; omega))).mono fun e w2 ⟨h1, h2⟩ => ⟨_, h1, sp_set 0 _ (by kernel_rfl) (by simp) (by decide) hl hs (by rfl) h2 rfl, trivial⟩)
      exact SSteps.nil
    · intro vs w' hS hv
      have q0 := (show vs 0 = (.slice (some ⟨g, 0, none⟩) l.1.length c : Value) from hv 0 (by decide))
      have q1 := (show vs 1 = (.pointer (some ⟨p, 0, none⟩) : Value) from hv 1 (by decide))
      have q2 := (show vs 2 = (.pointer (some ⟨p, 0, none⟩) : Value) from hv 2 (by decide))
      have q3 := (show vs 3 = (.pointer (some ⟨p, 0, none⟩) : Value) from hv 3 (by decide))
      have q4 := (show vs 4 = (.int .i64 ↑cols : Value) from hv 4 (by decide))
      have q5 := (show vs 5 = (.int .i64 ↑k : Value) from hv 5 (by decide))
      have q6 := (show vs 6 = (.int .i64 ↑(cols - k) : Value) from hv 6 (by decide))
      have q7 := (show vs 7 = (.slice (tailA (some ⟨g, 0, none⟩) c (cols - k)) (l.1.length - (cols - k)) (c - (cols - k)) : Value) from hv 7 (by decide))
      have q8 := (show vs 8 = (.agg (pv q) : Value) from hv 8 (by decide))
      have q9 := (show vs 9 = (.tuple #[] : Value) from hv 9 (by decide))
      have S2 := Lib.hid hS
      simp only [putL, Act.put, Nat.zero_add, Nat.reduceAdd, List.setIfInBounds_toArray, List.set_cons_succ, List.set_cons_zero, q0, q1, q2, q3, q4, q5, q6, q7, q8, q9]
      clear hS hv q0 q1 q2 q3 q4 q5 q6 q7 q8 q9
      have HF := (show Objs w0 w' (_ :: _ :: _ :: _ :: os) from S2.out).closeAt HL.out
      rw [HP.out] at HF
      go_wp2_with fail
      go_ret
      exact ⟨rfl, HF.drop2⟩
end
end Go.Proofs.YtppijfjigcoifaaDoor

/-
  Clear and Shift of the reference's grid.
-/
set_option linter.unusedSimpArgs false
set_option linter.unusedVariables false
namespace Go.Proofs.YtppijfjigcoifaaDoor
open Go.RowKit

@[go_sem] theorem run_fieldL (A : Option Addr) (n c : Nat) (b : Bool) (w : World) : (Instr.field 39 (.agg #[.slice A n c, .bool b]) 0).run Tryd.prog w = .ok (.slice A n c) w := by kernel_rfl
section
variable {w0 w : World} {os : List Ob} {p cols : Nat} {L : List Ln}
end
end Go.Proofs.YtppijfjigcoifaaDoor

/-
  SetSoft: whether a row is soft.
-/
set_option linter.unusedSimpArgs false
set_option linter.unusedVariables false
namespace Go.Proofs.YtppijfjigcoifaaDoor
open Go.RowKit

section
variable {w0 w : World} {os : List Ob} {p cols : Nat} {L : List Ln}
set_option maxHeartbeats 1000000 in
theorem SetSoft_yes {i : Nat} {l : Ln} (s : Bool) (hS : Objs w0 w (.grid p 58 cols L :: os)) (hc : 0 < cols) (hl : L[i]? = some l) (hlen : L.length ≤ 1000000) :
    Calls Tryd.prog 46 #[.pointer (some ⟨p, 0, none⟩), .int .i64 i, .bool s] w fun e w' => e = .returned (.int .i64 0) ∧ Objs w0 w' (.grid p 58 cols (L.set i (l.1, s)) :: os) := by
  have S := Lib.hid hS
  have hi : i < L.length := (List.getElem?_eq_some_iff.1 hl).1
  have HL := Lib.hid hl
  have HE := Lib.hid (show thereE i L = 0 by unfold thereE; rw [if_pos ⟨by omega, by omega⟩])
  clear hS hl
  go_enter Tryd.func46, Tryd.ntmps46
  go_wp2_with fail
  refine (there_any i S.out (k := 0) rfl hc).mono ?_
  rw [HE.out]
  rintro e w1 ⟨rfl, hS⟩
  obtain ⟨v, hS1⟩ := hS.openGrid (k := 0) rfl
  obtain ⟨A, c, rfl, hcm, hrd⟩ := hS1.linesRd (k := 0) rfl
  obtain ⟨F, bs, hF, -⟩ := hS1.get (k := 0) rfl
  obtain ⟨A2, c2, e2, -, -, -, h4⟩ := hF.form
  simp only [Value.slice.injEq, true_and] at e2
  obtain ⟨rfl, rfl⟩ := e2
  obtain ⟨g, rfl, hz, -, hso, hfz⟩ := h4 (by omega)
  have hso2 := hso i l HL.out
  obtain ⟨hx0, hf0, hz0⟩ := (hS1.box (k := 1) rfl).facts
  have S2 := Lib.hid (((hS1.storeSoft (k := 0) (s := s) rfl HL.out) : Objs w0 _ (.lines _ _ :: _ :: os)).closeGrid (k := 0) rfl)
  clear hS hS1 S hcm hrd hF h4 hso
  go_wp2_with fail
  go_ret
  exact ⟨rfl, S2.out⟩
end
end Go.Proofs.YtppijfjigcoifaaDoor

/-
  Copy of a grid.
-/
set_option linter.unusedSimpArgs false
set_option linter.unusedVariables false
namespace Go.Proofs.YtppijfjigcoifaaDoor
open Go.RowKit

section
variable {w0 w : World} {os : List Ob} {p cols : Nat} {L : List Ln}
end
end Go.Proofs.YtppijfjigcoifaaDoor

/-
  The reference's comparison of lines, and of lists of lines.
-/
set_option linter.unusedSimpArgs false
set_option linter.unusedVariables false
namespace Go.Proofs.YtppijfjigcoifaaDoor
open Go.RowKit

theorem tt_of {f : FuncId} {args : Array Value} {w : World} {b : Bool} (hc : Calls Tryd.prog f args w fun e w' => e = .returned (.bool b) ∧ Below w.heap.size w w') (h : b = true) : Calls Tryd.prog f args w fun e w' => e = .returned (.bool true) ∧ Below w.heap.size w w' := h ▸ hc
theorem ff_of {f : FuncId} {args : Array Value} {w : World} {b : Bool} (hc : Calls Tryd.prog f args w fun e w' => e = .returned (.bool b) ∧ Below w.heap.size w w') (h : b = false) : Calls Tryd.prog f args w fun e w' => e = .returned (.bool false) ∧ Below w.heap.size w w' := h ▸ hc
theorem upto_eqG {α : Type} {xs ys : List α} (hl : xs.length = ys.length) (h : ∀ k, k < xs.length → xs[k]? = ys[k]?) : xs = ys := by
  apply List.ext_getElem?
  intro k
  rcases Nat.lt_or_ge k xs.length with hk | hk
  · exact h k hk
  · rw [List.getElem?_eq_none hk, List.getElem?_eq_none (by omega)]
set_option maxHeartbeats 2000000 in
theorem r14SameLine_any (A B : Option Addr) (ca cb : Nat) (xs ys : List Cell) (s t : Bool) (w : World) (ha : RdC w A ca xs) (hb : RdC w B cb ys) (hn : xs.length ≤ 1000000) (hm : ys.length ≤ 1000000) :
    Calls Tryd.prog 41 #[.agg #[.slice A xs.length ca, .bool s], .agg #[.slice B ys.length cb, .bool t]] w fun e w' => e = .returned (.bool (eqL xs s ys t)) ∧ Below w.heap.size w w' := by
  have HA := Lib.hid ha
  have HB := Lib.hid hb
  clear ha hb
  have HD := Lib.hid (lineEq_dec xs ys s t)
  by_cases hst : s = t
  case neg =>
    have h' : (s == t) = false := by simpa using hst
    go_enter Tryd.func41, Tryd.ntmps41
    go_wp2_with fail
    go_ret
    exact ⟨by rw [HD.out]; simp [hst], (belA _ _).trans ((belA _ _).mono (by simp))⟩
  subst hst
  by_cases hl : xs.length = ys.length
  case neg =>
    have HE := Lib.hid (show decide (xs = ys) = false by simp; intro h; exact hl (by rw [h]))
    have hl' : ((xs.length : Int) == (ys.length : Int)) = false := by rw [beq_eq_false_iff_ne]; omega
    clear hl
    go_enter Tryd.func41, Tryd.ntmps41
    go_wp2_with fail
    go_ret
    exact ⟨by rw [HD.out, HE.out]; simp, (belA _ _).trans ((belA _ _).mono (by simp))⟩
  have hl' : ((xs.length : Int) == (ys.length : Int)) = true := by simp; omega
  have HL := Lib.hid hl
  clear hl
  go_enter Tryd.func41, Tryd.ntmps41
  go_wp2_with fail
  go_loopw [5] (fun i wr => ∃ k : Nat, k ≤ xs.length ∧ i = .int .i64 k ∧ (∀ j, j < k → xs[j]? = ys[j]?) ∧ Blk wr w.heap.size 39 #[.slice A xs.length ca, .bool s] ∧ Blk wr (w.heap.size + 1) 39 #[.slice B ys.length cb, .bool s] ∧ Below w.heap.size w wr) (fun i _ => xs.length - (intOf i).toNat)
  case atStart => exact ⟨0, by omega, rfl, fun j hj => by omega, (Blk.new _ _ _).alloc _, by have := Blk.new (w.alloc (.cells #[.slice A xs.length ca, .bool s] 39)) 39 #[.slice B ys.length cb, .bool s]; simpa using this, (belA _ _).trans ((belA _ _).mono (by simp))⟩
  case round =>
    obtain ⟨k, hk, rfl, hj, hk1, hk2, hb⟩ := hrel
    have HJ := Lib.hid hj
    have HW := Lib.hid hb
    have K1 := Lib.hid hk1
    have K2 := Lib.hid hk2
    obtain ⟨hx1, hf1, hz1⟩ := hk1.facts
    obtain ⟨hx2, hf2, hz2⟩ := hk2.facts
    clear hj hb hk1 hk2
    by_cases hlt : k < xs.length
    · have hlt2 : k < ys.length := by have := HL.out; omega
      obtain ⟨b1, o1, rfl, hz3, hr1⟩ := (HA.out.bel HW.out).at_ hlt
      obtain ⟨b2, o2, rfl, hz4, hr2⟩ := (HB.out.bel HW.out).at_ hlt2
      have hc1 := elem_cell hr1 hlt
      have hc2 := elem_cell hr2 hlt2
      clear hr1 hr2
      by_cases he : xs[k] = ys[k]
      · have he' : decide (xs[k] = ys[k]) = true := by simpa using he
        have HE := Lib.hid he
        clear he
        go_wp2_with fail
        refine wp_region_below (by kernel_rfl) (by kernel_rfl) ?_
        repeat (go_big_quiet_step (fail))
        refine wpQuiet_nil ?_
        intro w2 hb2
        have K12 := Lib.hid (K1.out.bel hb2)
        have K22 := Lib.hid (K2.out.bel hb2)
        clear hx1 hf1 hz1 hx2 hf2 hz2 hc1 hc2
        go_wp2_with fail
        go_roundw
        case rel => exact ⟨k + 1, by omega, by go_num, upto_succ HJ.out (by rw [List.getElem?_eq_getElem hlt, List.getElem?_eq_getElem hlt2, HE.out]), K12.out, K22.out, HW.out.trans (hb2.mono HW.out.size)⟩
        case measure => simp [intOf]; omega
      · have he' : decide (xs[k] = ys[k]) = false := by simpa using he
        have HE := Lib.hid (show decide (xs = ys) = false by simp; rintro rfl; exact he rfl)
        clear he
        go_wp2_with fail
        refine wp_region_below (by kernel_rfl) (by kernel_rfl) ?_
        repeat (go_big_quiet_step (fail))
        refine wpQuiet_nil ?_
        intro w2 hb2
        clear hx1 hf1 hz1 hx2 hf2 hz2 hc1 hc2
        go_wp2_with fail
        go_ret
        exact ⟨by rw [HD.out, HE.out]; simp, HW.out.trans (hb2.mono HW.out.size)⟩
    · have HE := Lib.hid (show decide (xs = ys) = true by simp; exact upto_eq HL.out (fun j hj => HJ.out j (by omega)))
      go_wp2_with fail
      go_ret
      exact ⟨by rw [HD.out, HE.out]; simp, HW.out⟩
theorem eqL_line (a b : Ln) : eqL a.1 a.2 b.1 b.2 = decide (a = b) := rfl
set_option maxHeartbeats 2000000 in
theorem r14SameLines_any (A B : Option Addr) (ca cb : Nat) (xs ys : List Ln) (w : World) (ha : RdL w A ca xs) (hb : RdL w B cb ys) (hn : xs.length ≤ 1000000) (hm : ys.length ≤ 1000000) (hx : ∀ l ∈ xs, l.1.length ≤ 1000000) (hy : ∀ l ∈ ys, l.1.length ≤ 1000000) :
    Calls Tryd.prog 19 #[.slice A xs.length ca, .slice B ys.length cb] w fun e w' => e = .returned (.bool (decide (xs = ys))) ∧ Below w.heap.size w w' := by
  have HA := Lib.hid ha
  have HB := Lib.hid hb
  have HX := Lib.hid hx
  have HY := Lib.hid hy
  clear ha hb hx hy
  by_cases hl : xs.length = ys.length
  case neg =>
    have HE := Lib.hid (show decide (xs = ys) = false by simp; intro h; exact hl (by rw [h]))
    have hl' : ((xs.length : Int) == (ys.length : Int)) = false := by rw [beq_eq_false_iff_ne]; omega
    clear hl
    go_enter Tryd.func19, Tryd.ntmps19
    go_wp2_with fail
    go_ret
    exact ⟨by rw [HE.out]; rfl, Below.refl _ _⟩
  have hl' : ((xs.length : Int) == (ys.length : Int)) = true := by simp; omega
  have HL := Lib.hid hl
  clear hl
  go_enter Tryd.func19, Tryd.ntmps19
  go_wp2_with fail
  go_loopw [5] (fun i wr => ∃ k : Nat, k ≤ xs.length ∧ i = .int .i64 k ∧ (∀ j, j < k → xs[j]? = ys[j]?) ∧ Below w.heap.size w wr) (fun i _ => xs.length - (intOf i).toNat)
  case atStart => exact ⟨0, by omega, rfl, fun j hj => by omega, Below.refl _ _⟩
  case round =>
    obtain ⟨k, hk, rfl, hj, hb⟩ := hrel
    have HJ := Lib.hid hj
    have HW := Lib.hid hb
    clear hj hb
    by_cases hlt : k < xs.length
    · have hlt2 : k < ys.length := by have := HL.out; omega
      obtain ⟨b1, o1, A1, c1, rfl, hz1, hc1, hc2, hr1⟩ := (HA.out.bel HW.out).at_ (show xs[k]? = some xs[k] by simp [hlt])
      obtain ⟨b2, o2, A2, c2, rfl, hz2, hc3, hc4, hr2⟩ := (HB.out.bel HW.out).at_ (show ys[k]? = some ys[k] by simp [hlt2])
      have HR1 := Lib.hid hr1
      have HR2 := Lib.hid hr2
      clear hr1 hr2
      have HN1 := Lib.hid (HX.out _ (List.getElem_mem hlt))
      have HN2 := Lib.hid (HY.out _ (List.getElem_mem hlt2))
      by_cases he : xs[k] = ys[k]
      · have HE := Lib.hid he
        have HQ := Lib.hid (show eqL xs[k].1 xs[k].2 ys[k].1 ys[k].2 = true by rw [eqL_line]; simpa using he)
        clear he
        go_wp2_with fail
        refine wp_region_below (by kernel_rfl) (by kernel_rfl) ?_
        repeat (go_big_quiet_step ((go_at_call 41; exact quiet_below (tt_of (r14SameLine_any A1 A2 c1 c2 xs[k].1 ys[k].1 xs[k].2 ys[k].2 _ (HR1.out.bel (below_plus _ _)) (HR2.out.bel (below_plus _ _)) HN1.out HN2.out) HQ.out))))
        refine wpQuiet_nil ?_
        intro w2 hb2
        clear hc1 hc2 hc3 hc4
        go_wp2_with fail
        go_roundw
        case rel => exact ⟨k + 1, by omega, by go_num, upto_succ HJ.out (by rw [List.getElem?_eq_getElem hlt, List.getElem?_eq_getElem hlt2, HE.out]), HW.out.trans (hb2.mono HW.out.size)⟩
        case measure => simp [intOf]; omega
      · have HE := Lib.hid (show decide (xs = ys) = false by simp; rintro rfl; exact he rfl)
        have HQ := Lib.hid (show eqL xs[k].1 xs[k].2 ys[k].1 ys[k].2 = false by rw [eqL_line]; simpa using he)
        clear he
        go_wp2_with fail
        refine wp_region_below (by kernel_rfl) (by kernel_rfl) ?_
        repeat (go_big_quiet_step ((go_at_call 41; exact quiet_below (ff_of (r14SameLine_any A1 A2 c1 c2 xs[k].1 ys[k].1 xs[k].2 ys[k].2 _ (HR1.out.bel (below_plus _ _)) (HR2.out.bel (below_plus _ _)) HN1.out HN2.out) HQ.out))))
        refine wpQuiet_nil ?_
        intro w2 hb2
        clear hc1 hc2 hc3 hc4
        go_wp2_with fail
        go_ret
        exact ⟨by rw [HE.out]; rfl, HW.out.trans (hb2.mono HW.out.size)⟩
    · have HE := Lib.hid (show decide (xs = ys) = true by simp; exact upto_eqG HL.out (fun j hj => HJ.out j (by omega)))
      go_wp2_with fail
      go_ret
      exact ⟨by rw [HE.out]; rfl, HW.out⟩
end Go.Proofs.YtppijfjigcoifaaDoor

/-
  Same: whether two grids are equal.
-/
set_option linter.unusedSimpArgs false
set_option linter.unusedVariables false
namespace Go.Proofs.YtppijfjigcoifaaDoor
open Go.RowKit

end Go.Proofs.YtppijfjigcoifaaDoor

/-
  Same of two grids.
-/
set_option linter.unusedSimpArgs false
set_option linter.unusedVariables false
namespace Go.Proofs.YtppijfjigcoifaaDoor
open Go.RowKit

section
variable {w0 w : World} {os : List Ob}
end
end Go.Proofs.YtppijfjigcoifaaDoor

/-
  What the methods of a grid do, wherever it lies among the objects.
-/
set_option linter.unusedSimpArgs false
set_option linter.unusedVariables false
namespace Go.Proofs.YtppijfjigcoifaaDoor
open Go.RowKit

/-- A row's cells turn. -/
def rowMod (i : Nat) (f : List Cell → List Cell) (L : List Ln) : List Ln := match L[i]? with | some l => L.set i (f l.1, l.2) | none => L
def softMod (i : Nat) (s : Bool) (L : List Ln) : List Ln := match L[i]? with | some l => L.set i (l.1, s) | none => L
theorem rowMod_some {i : Nat} {f : List Cell → List Cell} {L : List Ln} {l : Ln} (h : L[i]? = some l) : rowMod i f L = L.set i (f l.1, l.2) := by unfold rowMod; rw [h]
theorem softMod_some {i : Nat} {s : Bool} {L : List Ln} {l : Ln} (h : L[i]? = some l) : softMod i s L = L.set i (l.1, s) := by unfold softMod; rw [h]
theorem softMod_length (i : Nat) (s : Bool) (L : List Ln) : (softMod i s L).length = L.length := by unfold softMod; split <;> simp
theorem rect_set {n i : Nat} {L : List Ln} {l : Ln} (h : Rect n L) (hl : l.1.length = n) : Rect n (L.set i l) := fun x hx => by
  rcases List.mem_or_eq_of_mem_set hx with h1 | rfl
  · exact h x h1
  · exact hl
theorem Rect.rowMod {n : Nat} {L : List Ln} (h : Rect n L) (i : Nat) {f : List Cell → List Cell} (hf : ∀ cs : List Cell, cs.length = n → (f cs).length = n) : Rect n (rowMod i f L) := by
  unfold Proofs.YtppijfjigcoifaaDoor.rowMod
  split
  · rename_i l hl; exact rect_set h (hf _ (h.at_ hl))
  · exact h
theorem Rect.softMod {n : Nat} {L : List Ln} (h : Rect n L) (i : Nat) (s : Bool) : Rect n (softMod i s L) := by
  unfold Proofs.YtppijfjigcoifaaDoor.softMod
  split
  · rename_i l hl; exact rect_set h (show l.1.length = n from h.at_ hl)
  · exact h
theorem Rect.mill {n : Nat} {L : List Ln} (h : Rect n L) (hn : n ≤ 1000) : ∀ l ∈ L, l.1.length ≤ 1000000 := fun l hl => by rw [h l hl]; omega
theorem get_of {α : Type} {L : List α} {i : Nat} (h : i < L.length) : ∃ l, L[i]? = some l := ⟨L[i], by simp [h]⟩
section
variable {w0 w : World} {os : List Ob} {k p cols : Nat} {L : List Ln}
theorem PutG {i j : Nat} (x : Cell) (hT : Tabs w0) (hS : Objs w0 w os) (hk : os[k]? = some (.grid p 58 cols L)) (hcm : cols ≤ 1000) (hR : Rect cols L) (hi : i < L.length) (hv : x.ok = true) (hw : ¬ x.width = 0) (hfit : (j : Int) + x.width ≤ cols) :
    Calls Tryd.prog 33 #[.pointer (some ⟨p, 0, none⟩), .int .i64 i, .int .i64 j, .agg (cv x)] w fun e w' => e = .returned (.int .i64 0) ∧ Objs w0 w' (os.set k (.grid p 58 cols (rowMod i (putC j x) L))) := by
  obtain ⟨l, hl⟩ := get_of hi
  rw [rowMod_some hl]
  have hxw : 1 ≤ x.width := by rcases ok_w12 hv hw with h | h <;> omega
  exact front_call hS hk (fun os1 h => Put_yes x hT h (by omega) hcm hl (hR.at_ hl) hv hw hfit)
theorem SetSoftG {i : Nat} (s : Bool) (hS : Objs w0 w os) (hk : os[k]? = some (.grid p 58 cols L)) (hc : 0 < cols) (hi : i < L.length) (hlen : L.length ≤ 1000000) :
    Calls Tryd.prog 46 #[.pointer (some ⟨p, 0, none⟩), .int .i64 i, .bool s] w fun e w' => e = .returned (.int .i64 0) ∧ Objs w0 w' (os.set k (.grid p 58 cols (softMod i s L))) := by
  obtain ⟨l, hl⟩ := get_of hi
  rw [softMod_some hl]
  exact front_call hS hk (fun os1 h => SetSoft_yes s h hc hl hlen)
end
end Go.Proofs.YtppijfjigcoifaaDoor

/-
  Roll, in plain lists; the rows of a grid taken apart and put together anew.
-/
set_option linter.unusedSimpArgs false
set_option linter.unusedVariables false
namespace Go.Proofs.YtppijfjigcoifaaDoor
open Go.RowKit

def rollK (n : Int) (many : Nat) : Nat := if -(many : Int) < n ∧ n < many then n.natAbs else many
theorem rollK_le (n : Int) (many : Nat) : rollK n many ≤ many := by unfold rollK; split <;> omega
def lastHard (S : List Ln) : List Ln := softMod (S.length - 1) false S
theorem lastHard_length (S : List Ln) : (lastHard S).length = S.length := softMod_length _ _ _
def rollIn (top bot : Nat) (L : List Ln) : List Ln := (L.drop top).take (bot + 1 - top)
/-- The rows that leave, those that stay. -/
def rollGone (top bot : Nat) (n : Int) (L : List Ln) : List Ln :=
  if n = 0 then [] else if 0 < n then (rollIn top bot L).take (rollK n (bot + 1 - top)) else (rollIn top bot L).drop (bot + 1 - top - rollK n (bot + 1 - top))
def rollStay (top bot : Nat) (n : Int) (L : List Ln) : List Ln :=
  if 0 < n then (rollIn top bot L).drop (rollK n (bot + 1 - top)) else (rollIn top bot L).take (bot + 1 - top - rollK n (bot + 1 - top))
def rollFresh (k cols : Nat) (q : Pen) : List Ln := List.replicate k (List.replicate cols (blank q), false)
/-- The region's rows behind a roll. -/
def rollMid (top bot : Nat) (n : Int) (q : Pen) (cols : Nat) (L : List Ln) : List Ln :=
  if 0 < n then lastHard (rollStay top bot n L) ++ rollFresh (rollK n (bot + 1 - top)) cols q else rollFresh (rollK n (bot + 1 - top)) cols q ++ lastHard (rollStay top bot n L)
def topHard (top : Nat) (L : List Ln) : List Ln := if 0 < top then softMod (top - 1) false L else L
def rollL (top bot : Nat) (n : Int) (q : Pen) (cols : Nat) (L : List Ln) : List Ln :=
  if n = 0 then L else topHard top (L.take top ++ (rollMid top bot n q cols L ++ L.drop (bot + 1)))
theorem Rect.topHard {n : Nat} {L : List Ln} (h : Rect n L) (top : Nat) : Rect n (topHard top L) := by unfold Proofs.YtppijfjigcoifaaDoor.topHard; split; exact h.softMod _ _; exact h
section
variable {top bot : Nat} {n : Int} {q : Pen} {cols : Nat} {L : List Ln}
theorem rollIn_length (h1 : top ≤ bot) (h2 : bot < L.length) : (rollIn top bot L).length = bot + 1 - top := by simp [rollIn]; omega
theorem rollStay_length (h1 : top ≤ bot) (h2 : bot < L.length) : (rollStay top bot n L).length = bot + 1 - top - rollK n (bot + 1 - top) := by
  have := rollK_le n (bot + 1 - top)
  unfold rollStay
  split <;> simp [rollIn_length h1 h2]
theorem rollMid_length (h1 : top ≤ bot) (h2 : bot < L.length) : (rollMid top bot n q cols L).length = bot + 1 - top := by
  have := rollK_le n (bot + 1 - top)
  unfold rollMid
  split <;> simp [lastHard_length, rollStay_length h1 h2, rollFresh] <;> omega
theorem Rect.part {n : Nat} {L : List Ln} (h : Rect n L) (a b : Nat) : Rect n ((L.drop a).take b) := fun l hl => h l (List.mem_of_mem_drop (List.mem_of_mem_take hl))
theorem Rect.app {n : Nat} {A B : List Ln} (h : Rect n A) (g : Rect n B) : Rect n (A ++ B) := fun l hl => (List.mem_append.1 hl).elim (h l) (g l)
theorem rect_fresh (k cols : Nat) (q : Pen) : Rect cols (rollFresh k cols q) := fun l hl => by rw [(List.mem_replicate.1 hl).2]; simp
theorem Rect.rollStay {cols : Nat} {L : List Ln} (h : Rect cols L) (top bot : Nat) (n : Int) : Rect cols (rollStay top bot n L) := by
  unfold Proofs.YtppijfjigcoifaaDoor.rollStay
  split
  · exact fun l hl => h.part _ _ l (List.mem_of_mem_drop hl)
  · exact fun l hl => h.part _ _ l (List.mem_of_mem_take hl)
theorem Rect.rollGone {cols : Nat} {L : List Ln} (h : Rect cols L) (top bot : Nat) (n : Int) : Rect cols (rollGone top bot n L) := by
  unfold Proofs.YtppijfjigcoifaaDoor.rollGone
  split
  · intro l hl; simp at hl
  · split
    · exact fun l hl => h.part _ _ l (List.mem_of_mem_take hl)
    · exact fun l hl => h.part _ _ l (List.mem_of_mem_drop hl)
theorem Rect.rollL {L : List Ln} (h : Rect cols L) : Rect cols (rollL top bot n q cols L) := by
  unfold Proofs.YtppijfjigcoifaaDoor.rollL
  split
  · exact h
  · refine Rect.topHard (Rect.app (fun l hl => h l (List.mem_of_mem_take hl)) (Rect.app ?_ (fun l hl => h l (List.mem_of_mem_drop hl)))) _
    unfold rollMid
    split
    · exact ((h.rollStay _ _ _).softMod _ _).app (rect_fresh _ _ _)
    · exact (rect_fresh _ _ _).app ((h.rollStay _ _ _).softMod _ _)
end
/-- The last row of a list is not soft. -/
def hardR (S : List Tr) : List Tr := match S[S.length - 1]? with | some x => S.set (S.length - 1) (x.1, x.2.1, false) | none => S
theorem hardR_length (S : List Tr) : (hardR S).length = S.length := by unfold hardR; split <;> simp
theorem lnP_length (T : List Tr) : (lnP T).length = T.length := by simp [lnP]
theorem hdP_length (T : List Tr) : (hdP T).length = T.length := by simp [hdP]
theorem lnP_append (A B : List Tr) : lnP (A ++ B) = lnP A ++ lnP B := by simp [lnP]
theorem hdP_append (A B : List Tr) : hdP (A ++ B) = hdP A ++ hdP B := by simp [hdP]
theorem piP_append (A B : List Tr) : piP (A ++ B) = piP A ++ piP B := by simp [piP]
theorem lnP_hardR (S : List Tr) : lnP (hardR S) = lastHard (lnP S) := by
  unfold hardR lastHard softMod
  rw [lnP_length]
  have e : (lnP S)[S.length - 1]? = (S[S.length - 1]?).map (·.2) := by simp [lnP]
  rw [e]
  cases h : S[S.length - 1]? with
  | none => rfl
  | some x => simp only [Option.map_some]; simp [lnP]
theorem piP_hardR (S : List Tr) : piP (hardR S) = piP S := by
  unfold hardR
  split
  · rename_i x hx
    unfold piP
    rw [List.map_set, set_self (by rw [List.getElem?_map, hx]; rfl)]
  · rfl
theorem hdP_hardR {S : List Tr} {x : Tr} (hx : S[S.length - 1]? = some x) : hdP (hardR S) = (hdP S).set (S.length - 1) (x.1, false) := by
  unfold hardR
  rw [hx]
  simp [hdP]
section
variable {w0 w : World} {os : List Ob}
/-- The rows are dealt anew: those that leave, and the grid's. -/
theorem Objs.deal {T G X1 F X3 : List Tr} {v vg : Value} (hp : (piP T).Perm (piP G ++ (piP X1 ++ piP X3))) (h : Objs w0 w (.pile (piP T ++ piP F) :: .heads vg (hdP G) :: .heads v (hdP (X1 ++ (F ++ X3))) :: os)) :
    Objs w0 w (.lines vg (lnP G) :: .lines v (lnP (X1 ++ (F ++ X3))) :: os) := by
  have hp2 : (piP T ++ piP F).Perm (piP G ++ piP (X1 ++ (F ++ X3))) := by
    rw [piP_append, piP_append]
    refine (hp.append_right _).trans ?_
    rw [List.append_assoc, List.append_assoc]
    exact (List.Perm.append_left _ (List.Perm.append_left _ List.perm_append_comm))
  have h1 := (h.pilePerm (k := 0) rfl hp2 : Objs w0 w (.pile (piP G ++ piP (X1 ++ (F ++ X3))) :: .heads vg (hdP G) :: .heads v (hdP (X1 ++ (F ++ X3))) :: os))
  have h2 := h1.pileSplit
  have h3 := (h2.ofHeads (k := 1) rfl : Objs w0 w (.pile (piP (X1 ++ (F ++ X3))) :: .lines vg (lnP G) :: .heads v (hdP (X1 ++ (F ++ X3))) :: os))
  exact (h3.ofHeads (k := 1) rfl : Objs w0 w (.lines vg (lnP G) :: .lines v (lnP (X1 ++ (F ++ X3))) :: os))
/-- A new line's cells come into the pile. -/
theorem Objs.pileMore {ps : List (Value × List Cell)} {v : Value} {cs : List Cell} (h : Objs w0 w (.cells v cs :: .pile ps :: os)) : Objs w0 w (.pile (ps ++ [(v, cs)]) :: os) :=
  ((h.pileOne (k := 0) rfl : Objs w0 w (.pile [(v, cs)] :: .pile ps :: os)).swap).pileJoin
end
theorem hdP_take (T : List Tr) (a : Nat) : (hdP T).take a = hdP (T.take a) := by simp [hdP]
theorem hdP_drop (T : List Tr) (a : Nat) : (hdP T).drop a = hdP (T.drop a) := by simp [hdP]
/-- The heads behind a copy within them. -/
theorem hdP_copied (T : List Tr) (i a m : Nat) : (hdP T).take i ++ (((hdP T).drop a).take m ++ (hdP T).drop (i + m)) = hdP (T.take i) ++ (hdP ((T.drop a).take m) ++ hdP (T.drop (i + m))) := by
  rw [hdP_take, hdP_drop, hdP_take, hdP_drop]
/-- The last of the rows in the middle is not soft from then on. -/
theorem hdP_harden {A S R : List Tr} {x : Tr} (hx : S[S.length - 1]? = some x) : (hdP A ++ (hdP S ++ hdP R)).set (A.length + (S.length - 1)) (x.1, false) = hdP A ++ (hdP (hardR S) ++ hdP R) := by
  have hl : S.length - 1 < S.length := (List.getElem?_eq_some_iff.1 hx).1
  rw [List.set_append_right _ _ (by rw [hdP_length]; omega), hdP_length, Nat.add_sub_cancel_left, List.set_append_left _ _ (by rw [hdP_length]; exact hl), hdP_hardR hx]
/-- A new line comes into its place. -/
theorem hdP_fill {X1 F R : List Tr} {a0 i : Nat} (v : Value) (cs : List Cell) (b : Bool) (h1 : X1.length = a0) (h2 : F.length = i) (h3 : i < R.length) : (hdP X1 ++ (hdP F ++ hdP (R.drop i))).set (a0 + i) (v, b) = hdP X1 ++ (hdP (F ++ [(v, cs, b)]) ++ hdP (R.drop (i + 1))) := by
  rw [List.set_append_right _ _ (by rw [hdP_length]; omega), hdP_length, h1, Nat.add_sub_cancel_left, List.set_append_right _ _ (by rw [hdP_length]; omega), hdP_length, h2, Nat.sub_self]
  rw [List.drop_eq_getElem_cons h3, hdP_append, List.append_assoc]
  rfl
section
variable {w0 w : World} {os : List Ob}
/-- The new line's cells go into the pile, which lies further behind. -/
theorem Objs.pileIn {ps : List (Value × List Cell)} {v : Value} {cs : List Cell} {o1 o2 o3 o4 : Ob} (h : Objs w0 w (.cells v cs :: o1 :: o2 :: o3 :: o4 :: .pile ps :: os)) : Objs w0 w (o1 :: o2 :: o3 :: o4 :: .pile (ps ++ [(v, cs)]) :: os) :=
  (((h.lift (k := 5) rfl : Objs w0 w (.pile ps :: .cells v cs :: o1 :: o2 :: o3 :: o4 :: .none :: os)).swap).pileMore).place (k := 4) rfl
/-- All is dealt: what leaves ahead, then the grid's lines. -/
theorem Objs.dealIn {T G X1 F X3 : List Tr} {v vg : Value} {o2 o3 : Ob} (hp : (piP T).Perm (piP G ++ (piP X1 ++ piP X3))) (h : Objs w0 w (.heads v (hdP X1 ++ (hdP F ++ hdP X3)) :: o2 :: o3 :: .heads vg (hdP G) :: .pile (piP T ++ piP F) :: os)) :
    Objs w0 w (.lines vg (lnP G) :: .lines v (lnP X1 ++ (lnP F ++ lnP X3)) :: o2 :: o3 :: os) := by
  have h1 := (h.lift (k := 4) rfl : Objs w0 w (.pile (piP T ++ piP F) :: .heads v (hdP X1 ++ (hdP F ++ hdP X3)) :: o2 :: o3 :: .heads vg (hdP G) :: .none :: os))
  have h2 := (h1.lift (k := 4) rfl : Objs w0 w (.heads vg (hdP G) :: .pile (piP T ++ piP F) :: .heads v (hdP X1 ++ (hdP F ++ hdP X3)) :: o2 :: o3 :: .none :: .none :: os)).swap
  have h3 := ((h2.del 5).del 5 : Objs w0 w (.pile (piP T ++ piP F) :: .heads vg (hdP G) :: .heads v (hdP X1 ++ (hdP F ++ hdP X3)) :: o2 :: o3 :: os))
  rw [← hdP_append, ← hdP_append] at h3
  have h4 := h3.deal hp
  rw [lnP_append, lnP_append] at h4
  exact h4
end
/-- A list of rows, parted. -/
theorem parted {α : Type} (T : List α) (a m : Nat) : T = T.take a ++ ((T.drop a).take m ++ T.drop (a + m)) := by
  conv => lhs; rw [← List.take_append_drop a T, ← List.take_append_drop m (T.drop a), List.drop_drop]
theorem lnP_take (T : List Tr) (a : Nat) : lnP (T.take a) = (lnP T).take a := by simp [lnP]
theorem lnP_drop (T : List Tr) (a : Nat) : lnP (T.drop a) = (lnP T).drop a := by simp [lnP]
section
variable {T F : List Tr} {L : List Ln} {top bot k many cols : Nat} {n : Int} {q : Pen}
theorem rollK_is (hm : many = bot + 1 - top) (hk : (n < (many : Int) ∧ -(many : Int) < n ∧ n.natAbs = k) ∨ (((many : Int) ≤ n ∨ n ≤ -(many : Int)) ∧ k = many)) : rollK n (bot + 1 - top) = k := by
  rw [← hm]; unfold rollK
  rcases hk with ⟨h1, h2, h3⟩ | ⟨h1, h2⟩
  · rw [if_pos ⟨h2, h1⟩]; exact h3
  · rw [if_neg (by omega)]; exact h2.symm
/-- Rolled up: what leaves, what is left. -/
theorem gone_pos (hTL : lnP T = L) (hn : 0 < n) (hm : many = bot + 1 - top) (hk : rollK n (bot + 1 - top) = k) (hkm : k ≤ many) : lnP ((T.drop top).take k) = rollGone top bot n L := by
  subst hTL
  unfold rollGone rollIn
  rw [if_neg (by omega), if_pos hn, hk, ← hm, List.take_take, Nat.min_eq_left hkm, lnP_take, lnP_drop]
theorem left_pos (hTL : lnP T = L) (hn : 0 < n) (hm : many = bot + 1 - top) (htb : top ≤ bot) (hk : rollK n (bot + 1 - top) = k) (hkm : k ≤ many) (hF : lnP F = rollFresh k cols q) :
    topHard top (lnP (T.take top ++ hardR ((T.drop (top + k)).take (many - k))) ++ (lnP F ++ lnP ((T.drop (top + (many - k))).drop k))) = rollL top bot n q cols L := by
  subst hTL
  unfold rollL rollMid rollStay rollIn
  rw [if_neg (by omega), if_pos hn, if_pos hn, hk, ← hm, hF, List.drop_take, List.drop_drop, lnP_append, lnP_take, lnP_hardR, lnP_take, lnP_drop, List.drop_drop, lnP_drop, show top + (many - k) + k = bot + 1 by omega]
  simp only [List.append_assoc]
theorem perm_pos (hkm : k ≤ many) : (piP T).Perm (piP ((T.drop top).take k) ++ (piP (T.take top ++ hardR ((T.drop (top + k)).take (many - k))) ++ piP ((T.drop (top + (many - k))).drop k))) := by
  have e : T = T.take top ++ ((T.drop top).take k ++ ((T.drop (top + k)).take (many - k) ++ (T.drop (top + (many - k))).drop k)) := by
    conv => lhs; rw [parted T top k, parted (T.drop (top + k)) 0 (many - k)]
    simp [List.drop_drop, show top + k + (many - k) = top + (many - k) + k by omega]
  conv => lhs; rw [e]
  rw [piP_append, piP_append, piP_append, piP_append, piP_hardR, List.append_assoc]
  exact List.perm_append_comm_assoc _ _ _
/-- Rolled down. -/
theorem gone_neg (hTL : lnP T = L) (hn : n < 0) (hm : many = bot + 1 - top) (hk : rollK n (bot + 1 - top) = k) (hkm : k ≤ many) : lnP ((T.drop (top + (many - k))).take k) = rollGone top bot n L := by
  subst hTL
  unfold rollGone rollIn
  rw [if_neg (by omega), if_neg (by omega), hk, ← hm, List.drop_take, List.drop_drop, show many - (many - k) = k by omega, lnP_take, lnP_drop]
theorem left_neg (hTL : lnP T = L) (hn : n < 0) (hm : many = bot + 1 - top) (htb : top ≤ bot) (hk : rollK n (bot + 1 - top) = k) (hkm : k ≤ many) (hF : lnP F = rollFresh k cols q) :
    topHard top (lnP (T.take top) ++ (lnP F ++ lnP (hardR ((T.drop top).take (many - k)) ++ T.drop (top + many)))) = rollL top bot n q cols L := by
  subst hTL
  unfold rollL rollMid rollStay rollIn
  rw [if_neg (by omega), if_neg (by omega), if_neg (by omega), hk, ← hm, hF, List.take_take, Nat.min_eq_left (by omega), lnP_append, lnP_take, lnP_hardR, lnP_take, lnP_drop, lnP_drop, show top + many = bot + 1 by omega]
  simp only [List.append_assoc]
theorem perm_neg (hkm : k ≤ many) : (piP T).Perm (piP ((T.drop (top + (many - k))).take k) ++ (piP (T.take top) ++ piP (hardR ((T.drop top).take (many - k)) ++ T.drop (top + many)))) := by
  have e : T = T.take top ++ ((T.drop top).take (many - k) ++ ((T.drop (top + (many - k))).take k ++ T.drop (top + many))) := by
    conv => lhs; rw [parted T top (many - k), parted (T.drop (top + (many - k))) 0 k]
    simp [List.drop_drop, show top + (many - k) + k = top + many by omega]
  conv => lhs; rw [e]
  rw [piP_append, piP_append, piP_append, piP_append, piP_hardR]
  exact (List.Perm.append_left _ (List.perm_append_comm_assoc _ _ _)).trans (List.perm_append_comm_assoc _ _ _)
end
end Go.Proofs.YtppijfjigcoifaaDoor
