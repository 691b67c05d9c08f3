/-
  Contracts of the functions on pens: pen.Index, pen.True, pen.ValidColor, pen.Valid, and the reference's.
-/
import Derived.Test.YtmfhepjmmpnkaaaDoorChecked
import Derived.Test.YtmfhepjmmpnkaaaDoorBase
set_option linter.unusedSimpArgs false
set_option linter.unusedVariables false
namespace Go.Proofs.YtmfhepjmmpnkaaaDoor
open Go.RowKit

theorem penIndex_any (n : Int) (w : World) : Calls Tryd.prog 91 #[.int .u8 n] w fun e w' => e = .returned (.agg #[.int .i64 1, .int .u8 n, .int .u8 0, .int .u8 0, .int .u8 0]) ∧ Below w.heap.size w w' := by
  go_enter Tryd.func91, Tryd.ntmps91
  go_wp2
  exact bodyPost_ret (v := .agg #[.int .i64 1, .int .u8 n, .int .u8 0, .int .u8 0, .int .u8 0]) (by simp [results, Tryd.results91, go_sem]) rfl ⟨rfl, (Below.refl _ _).alloc (Nat.le_refl _) _⟩
theorem penTrue_any (r g b : Int) (w : World) : Calls Tryd.prog 92 #[.int .u8 r, .int .u8 g, .int .u8 b] w fun e w' => e = .returned (.agg #[.int .i64 2, .int .u8 0, .int .u8 r, .int .u8 g, .int .u8 b]) ∧ Below w.heap.size w w' := by
  go_enter Tryd.func92, Tryd.ntmps92
  go_wp2
  exact bodyPost_ret (v := .agg #[.int .i64 2, .int .u8 0, .int .u8 r, .int .u8 g, .int .u8 b]) (by simp [results, Tryd.results92, go_sem]) rfl ⟨rfl, (Below.refl _ _).alloc (Nat.le_refl _) _⟩

theorem eql_color (k i r g b k' i' r' g' b' : Int) (w : World) : (binOp .eql 24 (.agg #[.int .i64 k, .int .u8 i, .int .u8 r, .int .u8 g, .int .u8 b]) (.agg #[.int .i64 k', .int .u8 i', .int .u8 r', .int .u8 g', .int .u8 b'])).run Tryd.prog w = .ok (.bool (decide (k = k' ∧ i = i' ∧ r = r' ∧ g = g' ∧ b = b'))) w := by
  by_cases h0 : k = k'
  case neg => simp [go_sem, h0]
  by_cases h1 : i = i'
  case neg => simp [go_sem, h0, h1]
  by_cases h2 : r = r'
  case neg => simp [go_sem, h0, h1, h2]
  by_cases h3 : g = g'
  case neg => simp [go_sem, h0, h1, h2, h3]
  by_cases h4 : b = b' <;> simp [go_sem, h0, h1, h2, h3, h4]

set_option maxHeartbeats 400000 in
theorem penValidColor_any (k i r g b : Int) (w : World) : Calls Tryd.prog 85 #[.agg #[.int .i64 k, .int .u8 i, .int .u8 r, .int .u8 g, .int .u8 b]] w fun e w' => e = .returned (.bool (colorOk k i r g b)) ∧ Below w.heap.size w w' := by
  have he := eql_color
  by_cases h0 : k = 0
  · subst h0
    go_enter Tryd.func85, Tryd.ntmps85
    go_wp2
    go_ret
    exact ⟨by simp [colorOk], (Below.refl _ _).alloc (Nat.le_refl _) _⟩
  by_cases h1 : k = 1
  · subst h1
    go_enter Tryd.func85, Tryd.ntmps85
    go_wp2
    refine wp_region_below (by kernel_rfl) (by kernel_rfl) ?_
    repeat (go_big_quiet_step ((go_at_call 91; exact quiet_below (penIndex_any _ _))))
    refine wpQuiet_nil ?_
    intro w2 hb
    go_wp2
    go_ret
    exact ⟨by simp [colorOk], (box_keep hb (by simp)).2.2.2⟩
  by_cases h2 : k = 2
  · subst h2
    go_enter Tryd.func85, Tryd.ntmps85
    go_wp2
    refine wp_region_below (by kernel_rfl) (by kernel_rfl) ?_
    repeat (go_big_quiet_step ((go_at_call 92; exact quiet_below (penTrue_any _ _ _ _))))
    refine wpQuiet_nil ?_
    intro w2 hb
    go_wp2
    go_ret
    exact ⟨by simp [colorOk], (box_keep hb (by simp)).2.2.2⟩
  have h0' : (k == 0) = false := by simpa using h0
  have h1' : (k == 1) = false := by simpa using h1
  have h2' : (k == 2) = false := by simpa using h2
  go_enter Tryd.func85, Tryd.ntmps85
  go_wp2
  go_ret
  exact ⟨by simp [colorOk, h0, h1, h2], (Below.refl _ _).alloc (Nat.le_refl _) _⟩

theorem color_yes {k i r g b : Int} (w : World) (h : colorOk k i r g b = true) : Calls Tryd.prog 85 #[.agg #[.int .i64 k, .int .u8 i, .int .u8 r, .int .u8 g, .int .u8 b]] w fun e w' => e = .returned (.bool true) ∧ Below w.heap.size w w' := h ▸ penValidColor_any k i r g b w
theorem color_no {k i r g b : Int} (w : World) (h : colorOk k i r g b = false) : Calls Tryd.prog 85 #[.agg #[.int .i64 k, .int .u8 i, .int .u8 r, .int .u8 g, .int .u8 b]] w fun e w' => e = .returned (.bool false) ∧ Below w.heap.size w w' := h ▸ penValidColor_any k i r g b w

set_option maxHeartbeats 400000 in
theorem penValid_any (p : Pen) (w : World) : Calls Tryd.prog 73 #[.agg #[.int .i64 p.fk, .int .u8 p.fi, .int .u8 p.fr, .int .u8 p.fg, .int .u8 p.fb, .int .i64 p.bk, .int .u8 p.bi, .int .u8 p.br, .int .u8 p.bg, .int .u8 p.bb, .int .u8 p.fl]] w fun e w' => e = .returned (.bool p.ok) ∧ Below w.heap.size w w' := by
  cases h1 : colorOk p.fk p.fi p.fr p.fg p.fb
  · go_enter Tryd.func73, Tryd.ntmps73
    go_wp2_with fail
    refine (color_no _ h1).mono ?_
    rintro e w2 ⟨rfl, hb⟩
    obtain ⟨hx, hf, hz, hb2⟩ := box_keep hb (by simp)
    clear hb
    go_wp2_with fail
    go_ret
    exact ⟨by simp [Pen.ok, h1], hb2⟩
  · go_enter Tryd.func73, Tryd.ntmps73
    go_wp2_with fail
    refine (color_yes _ h1).mono ?_
    rintro e w2 ⟨rfl, hb⟩
    obtain ⟨hx, hf, hz, hb2⟩ := box_keep hb (by simp)
    clear hb
    go_wp2_with fail
    refine (penValidColor_any _ _ _ _ _ _).mono ?_
    rintro e w3 ⟨rfl, hb3⟩
    go_wp2_with fail
    go_ret
    exact ⟨by simp [Pen.ok, h1], hb2.trans (hb3.mono (by omega))⟩
theorem pen_yes {p : Pen} (w : World) (h : p.ok = true) : Calls Tryd.prog 73 #[.agg #[.int .i64 p.fk, .int .u8 p.fi, .int .u8 p.fr, .int .u8 p.fg, .int .u8 p.fb, .int .i64 p.bk, .int .u8 p.bi, .int .u8 p.br, .int .u8 p.bg, .int .u8 p.bb, .int .u8 p.fl]] w fun e w' => e = .returned (.bool true) ∧ Below w.heap.size w w' := h ▸ penValid_any p w
theorem pen_no {p : Pen} (w : World) (h : p.ok = false) : Calls Tryd.prog 73 #[.agg #[.int .i64 p.fk, .int .u8 p.fi, .int .u8 p.fr, .int .u8 p.fg, .int .u8 p.fb, .int .i64 p.bk, .int .u8 p.bi, .int .u8 p.br, .int .u8 p.bg, .int .u8 p.bb, .int .u8 p.fl]] w fun e w' => e = .returned (.bool false) ∧ Below w.heap.size w w' := h ▸ penValid_any p w

set_option maxHeartbeats 400000 in
theorem r03Color_any (k i r g b : Int) (w : World) : Calls Tryd.prog 68 #[.agg #[.int .i64 k, .int .u8 i, .int .u8 r, .int .u8 g, .int .u8 b]] w fun e w' => e = .returned (.bool (colorOk k i r g b)) ∧ Below w.heap.size w w' := by
  go_enter Tryd.func68, Tryd.ntmps68
  go_wp2
  all_goals go_ret
  all_goals refine ⟨congrArg (fun b => Ending.returned (.bool b)) ?_, (Below.refl _ _).alloc (Nat.le_refl _) _⟩
  all_goals (first | (simp_all [colorOk]; done) | (simp_all [colorOk]; rfl) | (rw [Bool.eq_iff_iff]; simp_all [colorOk]; done) | (rw [Bool.eq_iff_iff]; simp_all [colorOk]; omega))

set_option maxHeartbeats 400000 in
theorem r03Valid_any (p : Pen) (w : World) : Calls Tryd.prog 17 #[.agg #[.int .i64 p.fk, .int .u8 p.fi, .int .u8 p.fr, .int .u8 p.fg, .int .u8 p.fb, .int .i64 p.bk, .int .u8 p.bi, .int .u8 p.br, .int .u8 p.bg, .int .u8 p.bb, .int .u8 p.fl]] w fun e w' => e = .returned (.bool p.ok) ∧ Below w.heap.size w w' := by
  cases h1 : colorOk p.fk p.fi p.fr p.fg p.fb
  · have hc := r03Color_any p.fk p.fi p.fr p.fg p.fb
    rw [h1] at hc
    have HC := Lib.hid hc
    clear hc
    go_enter Tryd.func17, Tryd.ntmps17
    go_wp2_with fail
    refine (HC.out _).mono ?_
    rintro e w2 ⟨rfl, hb⟩
    obtain ⟨hx, hf, hz, hb2⟩ := box_keep hb (by simp)
    clear hb
    go_wp2_with fail
    go_ret
    exact ⟨by simp [Pen.ok, h1], hb2⟩
  · have hc := r03Color_any p.fk p.fi p.fr p.fg p.fb
    rw [h1] at hc
    have HC := Lib.hid hc
    clear hc
    go_enter Tryd.func17, Tryd.ntmps17
    go_wp2_with fail
    refine (HC.out _).mono ?_
    rintro e w2 ⟨rfl, hb⟩
    obtain ⟨hx, hf, hz, hb2⟩ := box_keep hb (by simp)
    clear hb
    go_wp2_with fail
    refine (r03Color_any _ _ _ _ _ _).mono ?_
    rintro e w3 ⟨rfl, hb3⟩
    go_wp2_with fail
    go_ret
    exact ⟨by simp [Pen.ok, h1], hb2.trans (hb3.mono (by omega))⟩
end Go.Proofs.YtmfhepjmmpnkaaaDoor
