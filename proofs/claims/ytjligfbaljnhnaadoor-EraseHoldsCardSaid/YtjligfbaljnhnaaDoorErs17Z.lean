/-
  A call of chapter 17 as a value that is built and stored whole; Copy, Same and call of copies.
-/
import Derived.Test.YtjligfbaljnhnaaDoorM5
set_option linter.unusedSimpArgs false
set_option linter.unusedVariables false
namespace Go.Proofs.YtjligfbaljnhnaaDoor
open Go.RowKit

/-- A record stored into a block that is known whole. -/
theorem store_rec {P : Program} (w : World) (g : Nat) (t : TypeId) (zs cs : Array Value) (h : Blk w g t zs) (hz : zs.size = cs.size) (h1 : ∀ v ∈ cs.toList, v.oneCell' = true) : (storeCells ⟨g, 0, none⟩ cs.toList 0).run P w = .ok () (w.setRow g cs) := by
  have := run_storeCells_at (P := P) g 0 t cs.toList 0 zs w h (by simp [hz]) h1
  rw [this]
  simp [List.drop_eq_nil_of_le, hz]
@[go_sem] theorem fill_av17 (wh n r c : Int) (b : Bool) (q : Pen) : Array.foldl (fun cs x => cs.setIfInBounds (5 + x.snd) x.fst) #[.int .i64 wh, .int .i64 n, .int .i64 r, .int .i64 c, .bool b, .int .i64 0, .int .u8 0, .int .u8 0, .int .u8 0, .int .u8 0, .int .i64 0, .int .u8 0, .int .u8 0, .int .u8 0, .int .u8 0, .int .u8 0] (pv q).zipIdx 0 11 = av17 ⟨wh, n, r, c, b, q⟩ := by kernel_rfl
@[go_sem] theorem store_av17_new {g : Nat} (w : World) (zs : Array Value) (a : Act17) (hb : g = w.heap.size) (hz : zs.size = 16) :
    (storeCells ⟨g, 0, none⟩ (av17 a).toList 0).run Tryd.prog (w.alloc (.cells zs 31)) = .ok () (w.alloc (.cells (av17 a) 31)) := by
  subst hb
  have := store_rec (P := Tryd.prog) (w.alloc (.cells zs 31)) w.heap.size 31 zs (av17 a) (Blk.new _ _ _) (by rw [hz, av17_size]) (av17_one a)
  rw [this, World.setRow_alloc_new]
end Go.Proofs.YtjligfbaljnhnaaDoor
