/-
  What == and != give at arrays of three marks, at pens and at cells.
-/
import Derived.Test.YtmfhepjmmpnkaaaDoorChecked
import Derived.Test.YtmfhepjmmpnkaaaDoorBase
import Derived.ChangeKeysEq
set_option linter.unusedSimpArgs false
set_option linter.unusedVariables false
namespace Go.Proofs.YtmfhepjmmpnkaaaDoor
open Go.RowKit

theorem info_i32 : (Tryd.prog.info? 21).isSome = true := by kernel_rfl
theorem cellsOf_i32 : Tryd.prog.cellsOf 21 = 1 := by kernel_rfl
theorem eqIn_arr3 (d : Nat) (a0 a1 a2 b0 b1 b2 : Int) (w : World) : (Op.equalIn (d + 2) 28 (.agg #[.int .i32 a0, .int .i32 a1, .int .i32 a2]) (.agg #[.int .i32 b0, .int .i32 b1, .int .i32 b2])).run Tryd.prog w = .ok (decide ((a0, a1, a2) = (b0, b1, b2))) w := by
  obtain ⟨i, hi⟩ := Option.isSome_iff_exists.1 info_i32
  have u := Tryd.underlying21
  rw [run_equalIn_array w (d + 1) _ _ Tryd.underlying28 hi, cellsOf_i32]
  simp only [show List.range 3 = [0, 1, 2] from rfl, Op.eqItems]
  by_cases h0 : a0 = b0
  case neg => simp [go_sem, h0]
  by_cases h1 : a1 = b1
  case neg => simp [go_sem, h0, h1]
  by_cases h2 : a2 = b2
  case neg => simp [go_sem, h0, h1, h2]
  simp [go_sem, h0, h1, h2]
theorem eqIn_arr3_top (a0 a1 a2 b0 b1 b2 : Int) (w : World) : (Op.equalIn 10000 28 (.agg #[.int .i32 a0, .int .i32 a1, .int .i32 a2]) (.agg #[.int .i32 b0, .int .i32 b1, .int .i32 b2])).run Tryd.prog w = .ok (decide ((a0, a1, a2) = (b0, b1, b2))) w := eqIn_arr3 9998 a0 a1 a2 b0 b1 b2 w
theorem eqIn_arr3_in (a0 a1 a2 b0 b1 b2 : Int) (w : World) : (Op.equalIn 9999 28 (.agg #[.int .i32 a0, .int .i32 a1, .int .i32 a2]) (.agg #[.int .i32 b0, .int .i32 b1, .int .i32 b2])).run Tryd.prog w = .ok (decide ((a0, a1, a2) = (b0, b1, b2))) w := eqIn_arr3 9997 a0 a1 a2 b0 b1 b2 w

set_option maxHeartbeats 1000000 in
theorem eql_arr3 (a0 a1 a2 b0 b1 b2 : Int) (w : World) : (binOp .eql 28 (.agg #[.int .i32 a0, .int .i32 a1, .int .i32 a2]) (.agg #[.int .i32 b0, .int .i32 b1, .int .i32 b2])).run Tryd.prog w = .ok (.bool (decide ((a0, a1, a2) = (b0, b1, b2)))) w := by
  simp [go_sem, eqIn_arr3_top, eqIn_arr3_in]
set_option maxHeartbeats 1000000 in
theorem neq_arr3 (a0 a1 a2 b0 b1 b2 : Int) (w : World) : (binOp .neq 28 (.agg #[.int .i32 a0, .int .i32 a1, .int .i32 a2]) (.agg #[.int .i32 b0, .int .i32 b1, .int .i32 b2])).run Tryd.prog w = .ok (.bool (!decide ((a0, a1, a2) = (b0, b1, b2)))) w := by
  simp [go_sem, eqIn_arr3_top, eqIn_arr3_in]
set_option maxHeartbeats 1000000 in
theorem eql_pen (a0 a1 a2 a3 a4 a5 a6 a7 a8 a9 a10 b0 b1 b2 b3 b4 b5 b6 b7 b8 b9 b10 : Int) (w : World) : (binOp .eql 27 (.agg #[.int .i64 a0, .int .u8 a1, .int .u8 a2, .int .u8 a3, .int .u8 a4, .int .i64 a5, .int .u8 a6, .int .u8 a7, .int .u8 a8, .int .u8 a9, .int .u8 a10]) (.agg #[.int .i64 b0, .int .u8 b1, .int .u8 b2, .int .u8 b3, .int .u8 b4, .int .i64 b5, .int .u8 b6, .int .u8 b7, .int .u8 b8, .int .u8 b9, .int .u8 b10])).run Tryd.prog w = .ok (.bool (decide ((⟨a0, a1, a2, a3, a4, a5, a6, a7, a8, a9, a10⟩ : Pen) = (⟨b0, b1, b2, b3, b4, b5, b6, b7, b8, b9, b10⟩ : Pen)))) w := by
  simp [go_sem, eqIn_arr3_top, eqIn_arr3_in]
  by_cases h0 : a0 = b0
  case neg => simp [h0]
  simp only [h0, if_true, true_and]
  by_cases h1 : a1 = b1
  case neg => simp [h1]
  simp only [h1, if_true, true_and]
  by_cases h2 : a2 = b2
  case neg => simp [h2]
  simp only [h2, if_true, true_and]
  by_cases h3 : a3 = b3
  case neg => simp [h3]
  simp only [h3, if_true, true_and]
  by_cases h4 : a4 = b4
  case neg => simp [h4]
  simp only [h4, if_true, true_and]
  by_cases h5 : a5 = b5
  case neg => simp [h5]
  simp only [h5, if_true, true_and]
  by_cases h6 : a6 = b6
  case neg => simp [h6]
  simp only [h6, if_true, true_and]
  by_cases h7 : a7 = b7
  case neg => simp [h7]
  simp only [h7, if_true, true_and]
  by_cases h8 : a8 = b8
  case neg => simp [h8]
  simp only [h8, if_true, true_and]
  by_cases h9 : a9 = b9
  case neg => simp [h9]
  simp only [h9, if_true, true_and]
  by_cases h10 : a10 = b10
  case neg => simp [h10]
  simp only [h10, if_true, true_and]
  simp
set_option maxHeartbeats 1000000 in
theorem neq_pen (a0 a1 a2 a3 a4 a5 a6 a7 a8 a9 a10 b0 b1 b2 b3 b4 b5 b6 b7 b8 b9 b10 : Int) (w : World) : (binOp .neq 27 (.agg #[.int .i64 a0, .int .u8 a1, .int .u8 a2, .int .u8 a3, .int .u8 a4, .int .i64 a5, .int .u8 a6, .int .u8 a7, .int .u8 a8, .int .u8 a9, .int .u8 a10]) (.agg #[.int .i64 b0, .int .u8 b1, .int .u8 b2, .int .u8 b3, .int .u8 b4, .int .i64 b5, .int .u8 b6, .int .u8 b7, .int .u8 b8, .int .u8 b9, .int .u8 b10])).run Tryd.prog w = .ok (.bool (!decide ((⟨a0, a1, a2, a3, a4, a5, a6, a7, a8, a9, a10⟩ : Pen) = (⟨b0, b1, b2, b3, b4, b5, b6, b7, b8, b9, b10⟩ : Pen)))) w := by
  simp [go_sem, eqIn_arr3_top, eqIn_arr3_in]
  by_cases h0 : a0 = b0
  case neg => simp [h0]
  simp only [h0, if_true, true_and]
  by_cases h1 : a1 = b1
  case neg => simp [h1]
  simp only [h1, if_true, true_and]
  by_cases h2 : a2 = b2
  case neg => simp [h2]
  simp only [h2, if_true, true_and]
  by_cases h3 : a3 = b3
  case neg => simp [h3]
  simp only [h3, if_true, true_and]
  by_cases h4 : a4 = b4
  case neg => simp [h4]
  simp only [h4, if_true, true_and]
  by_cases h5 : a5 = b5
  case neg => simp [h5]
  simp only [h5, if_true, true_and]
  by_cases h6 : a6 = b6
  case neg => simp [h6]
  simp only [h6, if_true, true_and]
  by_cases h7 : a7 = b7
  case neg => simp [h7]
  simp only [h7, if_true, true_and]
  by_cases h8 : a8 = b8
  case neg => simp [h8]
  simp only [h8, if_true, true_and]
  by_cases h9 : a9 = b9
  case neg => simp [h9]
  simp only [h9, if_true, true_and]
  by_cases h10 : a10 = b10
  case neg => simp [h10]
  simp only [h10, if_true, true_and]
  simp
set_option maxHeartbeats 1000000 in
theorem eql_cell (a0 a1 a2 a3 a4 a5 a6 a7 a8 a9 a10 a11 a12 a13 a14 a15 b0 b1 b2 b3 b4 b5 b6 b7 b8 b9 b10 b11 b12 b13 b14 b15 : Int) (w : World) : (binOp .eql 30 (.agg #[.int .i32 a0, .int .i32 a1, .int .i32 a2, .int .i32 a3, .int .i64 a4, .int .i64 a5, .int .u8 a6, .int .u8 a7, .int .u8 a8, .int .u8 a9, .int .i64 a10, .int .u8 a11, .int .u8 a12, .int .u8 a13, .int .u8 a14, .int .u8 a15]) (.agg #[.int .i32 b0, .int .i32 b1, .int .i32 b2, .int .i32 b3, .int .i64 b4, .int .i64 b5, .int .u8 b6, .int .u8 b7, .int .u8 b8, .int .u8 b9, .int .i64 b10, .int .u8 b11, .int .u8 b12, .int .u8 b13, .int .u8 b14, .int .u8 b15])).run Tryd.prog w = .ok (.bool (decide ((⟨a0, a1, a2, a3, a4, ⟨a5, a6, a7, a8, a9, a10, a11, a12, a13, a14, a15⟩⟩ : Cell) = (⟨b0, b1, b2, b3, b4, ⟨b5, b6, b7, b8, b9, b10, b11, b12, b13, b14, b15⟩⟩ : Cell)))) w := by
  simp [go_sem, eqIn_arr3_top, eqIn_arr3_in]
  by_cases h0 : a0 = b0
  case neg => simp [h0]
  simp only [h0, if_true, true_and]
  by_cases h1 : a1 = b1
  case neg => simp [h1]
  simp only [h1, if_true, true_and]
  by_cases h2 : a2 = b2
  case neg => simp [h2]
  simp only [h2, if_true, true_and]
  by_cases h3 : a3 = b3
  case neg => simp [h3]
  simp only [h3, if_true, true_and]
  by_cases h4 : a4 = b4
  case neg => simp [h4]
  simp only [h4, if_true, true_and]
  by_cases h5 : a5 = b5
  case neg => simp [h5]
  simp only [h5, if_true, true_and]
  by_cases h6 : a6 = b6
  case neg => simp [h6]
  simp only [h6, if_true, true_and]
  by_cases h7 : a7 = b7
  case neg => simp [h7]
  simp only [h7, if_true, true_and]
  by_cases h8 : a8 = b8
  case neg => simp [h8]
  simp only [h8, if_true, true_and]
  by_cases h9 : a9 = b9
  case neg => simp [h9]
  simp only [h9, if_true, true_and]
  by_cases h10 : a10 = b10
  case neg => simp [h10]
  simp only [h10, if_true, true_and]
  by_cases h11 : a11 = b11
  case neg => simp [h11]
  simp only [h11, if_true, true_and]
  by_cases h12 : a12 = b12
  case neg => simp [h12]
  simp only [h12, if_true, true_and]
  by_cases h13 : a13 = b13
  case neg => simp [h13]
  simp only [h13, if_true, true_and]
  by_cases h14 : a14 = b14
  case neg => simp [h14]
  simp only [h14, if_true, true_and]
  by_cases h15 : a15 = b15
  case neg => simp [h15]
  simp only [h15, if_true, true_and]
  simp
set_option maxHeartbeats 1000000 in
theorem neq_cell (a0 a1 a2 a3 a4 a5 a6 a7 a8 a9 a10 a11 a12 a13 a14 a15 b0 b1 b2 b3 b4 b5 b6 b7 b8 b9 b10 b11 b12 b13 b14 b15 : Int) (w : World) : (binOp .neq 30 (.agg #[.int .i32 a0, .int .i32 a1, .int .i32 a2, .int .i32 a3, .int .i64 a4, .int .i64 a5, .int .u8 a6, .int .u8 a7, .int .u8 a8, .int .u8 a9, .int .i64 a10, .int .u8 a11, .int .u8 a12, .int .u8 a13, .int .u8 a14, .int .u8 a15]) (.agg #[.int .i32 b0, .int .i32 b1, .int .i32 b2, .int .i32 b3, .int .i64 b4, .int .i64 b5, .int .u8 b6, .int .u8 b7, .int .u8 b8, .int .u8 b9, .int .i64 b10, .int .u8 b11, .int .u8 b12, .int .u8 b13, .int .u8 b14, .int .u8 b15])).run Tryd.prog w = .ok (.bool (!decide ((⟨a0, a1, a2, a3, a4, ⟨a5, a6, a7, a8, a9, a10, a11, a12, a13, a14, a15⟩⟩ : Cell) = (⟨b0, b1, b2, b3, b4, ⟨b5, b6, b7, b8, b9, b10, b11, b12, b13, b14, b15⟩⟩ : Cell)))) w := by
  simp [go_sem, eqIn_arr3_top, eqIn_arr3_in]
  by_cases h0 : a0 = b0
  case neg => simp [h0]
  simp only [h0, if_true, true_and]
  by_cases h1 : a1 = b1
  case neg => simp [h1]
  simp only [h1, if_true, true_and]
  by_cases h2 : a2 = b2
  case neg => simp [h2]
  simp only [h2, if_true, true_and]
  by_cases h3 : a3 = b3
  case neg => simp [h3]
  simp only [h3, if_true, true_and]
  by_cases h4 : a4 = b4
  case neg => simp [h4]
  simp only [h4, if_true, true_and]
  by_cases h5 : a5 = b5
  case neg => simp [h5]
  simp only [h5, if_true, true_and]
  by_cases h6 : a6 = b6
  case neg => simp [h6]
  simp only [h6, if_true, true_and]
  by_cases h7 : a7 = b7
  case neg => simp [h7]
  simp only [h7, if_true, true_and]
  by_cases h8 : a8 = b8
  case neg => simp [h8]
  simp only [h8, if_true, true_and]
  by_cases h9 : a9 = b9
  case neg => simp [h9]
  simp only [h9, if_true, true_and]
  by_cases h10 : a10 = b10
  case neg => simp [h10]
  simp only [h10, if_true, true_and]
  by_cases h11 : a11 = b11
  case neg => simp [h11]
  simp only [h11, if_true, true_and]
  by_cases h12 : a12 = b12
  case neg => simp [h12]
  simp only [h12, if_true, true_and]
  by_cases h13 : a13 = b13
  case neg => simp [h13]
  simp only [h13, if_true, true_and]
  by_cases h14 : a14 = b14
  case neg => simp [h14]
  simp only [h14, if_true, true_and]
  by_cases h15 : a15 = b15
  case neg => simp [h15]
  simp only [h15, if_true, true_and]
  simp
end Go.Proofs.YtmfhepjmmpnkaaaDoor
