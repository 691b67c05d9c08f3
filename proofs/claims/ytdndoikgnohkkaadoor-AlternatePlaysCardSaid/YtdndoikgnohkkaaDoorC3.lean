/-
  Part 3 of the texts on which the proofs of this seat stand: each part says ahead of it what it shows.
-/
import Derived.Test.YtdndoikgnohkkaaDoorC2
import Derived.Lib.MinMax
import Derived.Deep.DeepAppendRoom
import Derived.Laws.OwnMore
set_option linter.unusedSimpArgs false
set_option linter.unusedVariables false
namespace Go.Proofs.YtdndoikgnohkkaaDoor
open Go.RowKit

def chOk (a b c : Int) : Bool := decide (0 ≤ a ∧ a < 2) && decide (0 ≤ b ∧ b < 2) && decide (c = 0 ∨ c = 1)
def Saved.ok (s : Saved) : Bool := decide (0 ≤ s.row ∧ s.row < 1000) && decide (0 ≤ s.col ∧ s.col < 1000) && s.q.ok && chOk s.s0 s.s1 s.act
def mode24 (n : Int) : Bool := decide (n = 47 ∨ n = 1047 ∨ n = 1049)
theorem chKnown_any (n : Int) (w : World) : Calls Tryd.prog 83 #[.int .i64 n] w fun e w' => e = .returned (.bool (decide (0 ≤ n ∧ n < 2))) ∧ w = w' := by
 have h : n < 0 ∨ (0 ≤ n ∧ n < 2) ∨ (0 ≤ n ∧ 2 ≤ n) := by omega
 rcases h with h | ⟨h, h2⟩ | ⟨h, h2⟩
 ·rw [show decide (0 ≤ n ∧ n < 2) = false from decide_eq_false (by omega)]
  go_enter Tryd.func83, Tryd.ntmps83
  go_wp2_with fail
  go_ret
  exact ⟨rfl, rfl⟩
 ·rw [show decide (0 ≤ n ∧ n < 2) = true from decide_eq_true (by omega)]
  go_enter Tryd.func83, Tryd.ntmps83
  go_wp2_with fail
  go_ret
  exact ⟨rfl, rfl⟩
 ·rw [show decide (0 ≤ n ∧ n < 2) = false from decide_eq_false (by omega)]
  have h3 : ¬ n < 2 := by omega
  go_enter Tryd.func83, Tryd.ntmps83
  go_wp2_with fail
  go_ret
  exact ⟨rfl, rfl⟩
theorem chKnown_is {n : Int} {b : Bool} (h : decide (0 ≤ n ∧ n < 2) = b) (w : World) : Calls Tryd.prog 83 #[.int .i64 n] w fun e w' => e = .returned (.bool b) ∧ w = w' := h ▸ chKnown_any n w
set_option maxHeartbeats 1000000 in
theorem charsetValid_any (a b c : Int) (w : World) : Calls Tryd.prog 65 #[.agg #[.int .i64 a, .int .i64 b, .int .i64 c]] w fun e w' => e = .returned (.bool (chOk a b c)) ∧ Below w.heap.size w w' := by
 cases ha : decide (0 ≤ a ∧ a < 2) with
 | false =>
  rw [show chOk a b c = false by unfold chOk; rw [ha]; rfl]
  go_enter Tryd.func65, Tryd.ntmps65
  go_wp2_with fail
  refine (chKnown_is ha _).mono ?_
  rintro e w1 ⟨rfl, rfl⟩
  go_wp2_with fail
  go_ret
  exact ⟨rfl, (Below.refl _ _).alloc (Nat.le_refl _) _⟩
 | true =>
  cases hb : decide (0 ≤ b ∧ b < 2) with
  | false =>
   rw [show chOk a b c = false by unfold chOk; rw [ha, hb]; rfl]
   go_enter Tryd.func65, Tryd.ntmps65
   go_wp2_with fail
   refine (chKnown_is ha _).mono ?_
   rintro e w1 ⟨rfl, rfl⟩
   go_wp2_with fail
   refine (chKnown_is hb _).mono ?_
   rintro e w1 ⟨rfl, rfl⟩
   go_wp2_with fail
   go_ret
   exact ⟨rfl, (Below.refl _ _).alloc (Nat.le_refl _) _⟩
  | true =>
   have hcc : c = 0 ∨ (¬ c = 0 ∧ c = 1) ∨ (¬ c = 0 ∧ ¬ c = 1) := by omega
   rcases hcc with h | ⟨h, h2⟩ | ⟨h, h2⟩
   ·rw [show chOk a b c = true by unfold chOk; rw [ha, hb]; simp [h]]
    have h0 := beq_yes h
    clear h
    go_enter Tryd.func65, Tryd.ntmps65
    go_wp2_with fail
    refine (chKnown_is ha _).mono ?_
    rintro e w1 ⟨rfl, rfl⟩
    go_wp2_with fail
    refine (chKnown_is hb _).mono ?_
    rintro e w1 ⟨rfl, rfl⟩
    go_wp2_with fail
    go_ret
    exact ⟨rfl, (Below.refl _ _).alloc (Nat.le_refl _) _⟩
   ·rw [show chOk a b c = true by unfold chOk; rw [ha, hb]; simp [h2]]
    have h0 := beq_no h
    have h1 := beq_yes h2
    clear h h2
    go_enter Tryd.func65, Tryd.ntmps65
    go_wp2_with fail
    refine (chKnown_is ha _).mono ?_
    rintro e w1 ⟨rfl, rfl⟩
    go_wp2_with fail
    refine (chKnown_is hb _).mono ?_
    rintro e w1 ⟨rfl, rfl⟩
    go_wp2_with fail
    go_ret
    exact ⟨rfl, (Below.refl _ _).alloc (Nat.le_refl _) _⟩
   ·rw [show chOk a b c = false by unfold chOk; rw [ha, hb]; simp [h, h2]]
    have h0 := beq_no h
    have h1 := beq_no h2
    clear h h2
    go_enter Tryd.func65, Tryd.ntmps65
    go_wp2_with fail
    refine (chKnown_is ha _).mono ?_
    rintro e w1 ⟨rfl, rfl⟩
    go_wp2_with fail
    refine (chKnown_is hb _).mono ?_
    rintro e w1 ⟨rfl, rfl⟩
    go_wp2_with fail
    go_ret
    exact ⟨rfl, (Below.refl _ _).alloc (Nat.le_refl _) _⟩
theorem mode_cases (n : Int) : (n = 47 ∧ mode24 n = true) ∨ (¬ n = 47 ∧ n = 1047 ∧ mode24 n = true) ∨ (¬ n = 47 ∧ ¬ n = 1047 ∧ n = 1049 ∧ mode24 n = true) ∨ (¬ n = 47 ∧ ¬ n = 1047 ∧ ¬ n = 1049 ∧ mode24 n = false) := by
 unfold mode24
 by_cases h1 : n = 47
 ·exact .inl ⟨h1, by simp [h1]⟩
 by_cases h2 : n = 1047
 ·exact .inr (.inl ⟨h1, h2, by simp [h2]⟩)
 by_cases h3 : n = 1049
 ·exact .inr (.inr (.inl ⟨h1, h2, h3, by simp [h3]⟩))
 ·exact .inr (.inr (.inr ⟨h1, h2, h3, by simp [h1, h2, h3]⟩))
theorem altKnown_any (n : Int) (w : World) : Calls Tryd.prog 35 #[.int .i64 n] w fun e w' => e = .returned (.bool (mode24 n)) ∧ w = w' := by
 rcases mode_cases n with ⟨h1, hm⟩ | ⟨h1, h2, hm⟩ | ⟨h1, h2, h3, hm⟩ | ⟨h1, h2, h3, hm⟩
 case' inl => have b1 := beq_yes h1; clear h1
 case' inr.inl => have b1 := beq_no h1; have b2 := beq_yes h2; clear h1 h2
 case' inr.inr.inl => have b1 := beq_no h1; have b2 := beq_no h2; have b3 := beq_yes h3; clear h1 h2 h3
 case' inr.inr.inr => have b1 := beq_no h1; have b2 := beq_no h2; have b3 := beq_no h3; clear h1 h2 h3
 all_goals
  rw [hm]
  clear hm
  go_enter Tryd.func35, Tryd.ntmps35
  go_wp2_with fail
  go_ret
  exact ⟨rfl, rfl⟩
theorem l24mode_any (n : Int) (w : World) : Calls Tryd.prog 55 #[.int .i64 n] w fun e w' => e = .returned (.bool (mode24 n)) ∧ w = w' := by
 rcases mode_cases n with ⟨h1, hm⟩ | ⟨h1, h2, hm⟩ | ⟨h1, h2, h3, hm⟩ | ⟨h1, h2, h3, hm⟩
 case' inl => have b1 := beq_yes h1; clear h1
 case' inr.inl => have b1 := beq_no h1; have b2 := beq_yes h2; clear h1 h2
 case' inr.inr.inl => have b1 := beq_no h1; have b2 := beq_no h2; have b3 := beq_yes h3; clear h1 h2 h3
 case' inr.inr.inr => have b1 := beq_no h1; have b2 := beq_no h2; have b3 := beq_no h3; clear h1 h2 h3
 all_goals
  rw [hm]
  clear hm
  go_enter Tryd.func55, Tryd.ntmps55
  go_wp2_with fail
  go_ret
  exact ⟨rfl, rfl⟩
section
variable {w0 w : World} {os : List Ob}
theorem altInked_any (q : Pen) (hT : Tabs w0) (hS : Objs w0 w os) : Calls Tryd.prog 37 #[.agg (pv q)] w fun e w' => e = .returned (.bool q.ok) ∧ Objs w0 w' os := by
 have S := Lib.hid hS
 have HT := Lib.hid hT
 clear hS hT
 go_enter Tryd.func37, Tryd.ntmps37
 go_wp2_with fail
 refine (pure_call (cellBlank_any _ _) S.out.alloc1).mono ?_
 rintro e w1 ⟨rfl, hS⟩
 have S1 := Lib.hid hS
 clear hS
 go_wp2_with fail
 refine (pure_call (cellValid_any _ _ (S1.out.tabs HT.out)) S1.out).mono ?_
 rw [ok_blank]
 rintro e w2 ⟨rfl, hS⟩
 have S2 := Lib.hid hS
 clear hS
 go_wp2_with fail
 go_ret
 exact ⟨rfl, S2.out.tail⟩
theorem l24inked_any (q : Pen) (hT : Tabs w0) (hS : Objs w0 w os) : Calls Tryd.prog 56 #[.agg (pv q)] w fun e w' => e = .returned (.bool q.ok) ∧ Objs w0 w' os := by
 have S := Lib.hid hS
 have HT := Lib.hid hT
 clear hS hT
 go_enter Tryd.func56, Tryd.ntmps56
 go_wp2_with fail
 refine (pure_call (r14Blank_any _ _) S.out.alloc1).mono ?_
 rintro e w1 ⟨rfl, hS⟩
 have S1 := Lib.hid hS
 clear hS
 go_wp2_with fail
 refine (pure_call (cellValid_any _ _ (S1.out.tabs HT.out)) S1.out).mono ?_
 rw [ok_blank]
 rintro e w2 ⟨rfl, hS⟩
 have S2 := Lib.hid hS
 clear hS
 go_wp2_with fail
 go_ret
 exact ⟨rfl, S2.out.tail⟩
set_option maxHeartbeats 2000000 in
theorem savedValid_any (s : Saved) (hS : Objs w0 w os) : Calls Tryd.prog 36 #[.agg (sv s)] w fun e w' => e = .returned (.bool s.ok) ∧ Objs w0 w' os := by
 have hc : (s.row < 0 ∧ s.ok = false) ∨ (0 ≤ s.row ∧ 1000 ≤ s.row ∧ s.ok = false) ∨ ((0 ≤ s.row ∧ s.row < 1000) ∧ s.col < 0 ∧ s.ok = false) ∨ ((0 ≤ s.row ∧ s.row < 1000) ∧ (0 ≤ s.col ∧ 1000 ≤ s.col) ∧ s.ok = false) ∨ ((0 ≤ s.row ∧ s.row < 1000) ∧ (0 ≤ s.col ∧ s.col < 1000) ∧ s.q.ok = false ∧ s.ok = false) ∨ ((0 ≤ s.row ∧ s.row < 1000) ∧ (0 ≤ s.col ∧ s.col < 1000) ∧ s.q.ok = true ∧ s.ok = chOk s.s0 s.s1 s.act) := by
  unfold Saved.ok
  by_cases h1 : s.row < 0
  ·exact .inl ⟨h1, by simp [show ¬ 0 ≤ s.row by omega]⟩
  by_cases h2 : 1000 ≤ s.row
  ·exact .inr (.inl ⟨by omega, h2, by simp [show ¬ s.row < 1000 by omega]⟩)
  by_cases h3 : s.col < 0
  ·exact .inr (.inr (.inl ⟨by omega, h3, by simp [show ¬ 0 ≤ s.col by omega]⟩))
  by_cases h4 : 1000 ≤ s.col
  ·exact .inr (.inr (.inr (.inl ⟨by omega, by omega, by simp [show ¬ s.col < 1000 by omega]⟩)))
  cases h5 : s.q.ok
  ·exact .inr (.inr (.inr (.inr (.inl ⟨by omega, by omega, rfl, by simp⟩))))
  ·exact .inr (.inr (.inr (.inr (.inr ⟨by omega, by omega, rfl, by simp [show 0 ≤ s.row ∧ s.row < 1000 by omega, show 0 ≤ s.col ∧ s.col < 1000 by omega]⟩))))
 have S := Lib.hid hS
 clear hS
 rcases hc with ⟨h1, hr⟩ | ⟨h1, h2, hr⟩ | ⟨h1, h2, hr⟩ | ⟨h1, h2, hr⟩ | ⟨h1, h2, h3, hr⟩ | ⟨h1, h2, h3, hr⟩
 case' inr.inl => have h3 : ¬ s.row < 1000 := by omega
 case' inr.inr.inr.inl => have h3 : ¬ s.col < 1000 := by omega
 case' inr.inr.inr.inr.inl => have H3 := Lib.hid h3; clear h3
 case' inr.inr.inr.inr.inr => have H3 := Lib.hid h3; clear h3
 all_goals
  rw [hr]
  clear hr
  go_enter Tryd.func36, Tryd.ntmps36
  go_upto_region 1 with (fail)
  refine at_objsC (S.out.alloc1 (c1 := sv s) (t1 := 35)) (fun W hW => ?_)
  generalize w.heap.size = b1 at hW ⊢
  have S1 := Lib.hid hW
  clear hW
  obtain ⟨hx1, hf1, hz1, hr1, hp1⟩ := (S1.out.box (k := 0) rfl).saved
  go_upto_region 2 with (fail)
  refine at_objsC (S1.out.alloc1 (c1 := #[.int .i64 s.row, .int .i64 s.col, .bool s.pend]) (t1 := 23)) (fun W2 hW => ?_)
  generalize W.heap.size = b3 at hW ⊢
  clear hx1 hf1 hz1 hr1 hp1
  have S2 := Lib.hid hW
  clear hW S1
  obtain ⟨hx1, hf1, hz1, hr1, hp1⟩ := (S2.out.box (k := 1) rfl).saved
  obtain ⟨hx3, hf3, hz3⟩ := (S2.out.box (k := 0) rfl).facts
  go_wp2_with fail
 all_goals first | (go_ret; exact ⟨rfl, S2.out.tail.tail⟩) | skip
 ·refine (pure_call (pen_yes _ H3.out) S2.out).mono ?_
  rintro e w3 ⟨rfl, hS⟩
  have S3 := Lib.hid hS
  clear hS S2 hx1 hf1 hz1 hr1 hp1 hx3 hf3 hz3
  obtain ⟨hx1, hf1, hz1, hr1, hp1⟩ := (S3.out.box (k := 1) rfl).saved
  go_wp2_with fail
  refine (pure_call (charsetValid_any _ _ _ _) S3.out).mono ?_
  rintro e w4 ⟨rfl, hS⟩
  have S4 := Lib.hid hS
  clear hS
  go_wp2_with fail
  go_ret
  exact ⟨rfl, S4.out.tail.tail⟩
 ·refine (pure_call (pen_no _ H3.out) S2.out).mono ?_
  rintro e w3 ⟨rfl, hS⟩
  have S3 := Lib.hid hS
  clear hS
  go_wp2_with fail
  go_ret
  exact ⟨rfl, S3.out.tail.tail⟩
end
end Go.Proofs.YtdndoikgnohkkaaDoor

namespace Go.Proofs.YtdndoikgnohkkaaDoor
open Go.RowKit

def putC (j : Nat) (x : Cell) (cs : List Cell) : List Cell :=
 let l := (brk (j + x.width.toNat) (brk j cs)).set j x
 if x.width = 2 then l.set (j + 1) (spacer x.pen) else l
theorem putC_length (j : Nat) (x : Cell) (cs : List Cell) : (putC j x cs).length = cs.length := by
 unfold putC
 simp only
 split <;> simp [brk_length]
theorem ok_w12 {x : Cell} (h : x.ok = true) (h0 : ¬ x.width = 0) : x.width = 1 ∨ x.width = 2 := by
 rcases ok_width h with h1 | h1 | h1
 ·exact absurd h1 h0
 ·exact .inl h1
 ·exact .inr h1
section
variable {w0 w : World} {os : List Ob} {p cols : Nat} {L : List Ln}
theorem Objs.openAt {t : TypeId} {cols : Int} {i : Nat} {l : Ln} (h : Objs w0 w (.grid p t cols L :: os)) (hl : L[i]? = some l) : ∃ v b, Objs w0 w (.cells b l.1 :: .linesx v L i b :: .box p t #[.int .i64 cols, v] :: os) := by
 obtain ⟨v, h1⟩ := h.openGrid (k := 0) rfl
 obtain ⟨b, h2⟩ := h1.openRow (k := 0) rfl hl
 exact ⟨v, b, h2⟩
theorem Objs.closeAt {t : TypeId} {cols : Int} {v b : Value} {i : Nat} {l : Ln} {cs : List Cell} (h : Objs w0 w (.cells b cs :: .linesx v L i b :: .box p t #[.int .i64 cols, v] :: os)) (hl : L[i]? = some l) : Objs w0 w (.grid p t cols (L.set i (cs, l.2)) :: os) := by
 have h1 := h.closeRow (k := 0) (s := l.2) rfl (by rw [hl]; rfl)
 exact (h1 : Objs w0 w (.lines v _ :: .box p t _ :: os)).closeGrid (k := 0) rfl
theorem Objs.swap {a b : Ob} (h : Objs w0 w (a :: b :: os)) : Objs w0 w (b :: a :: os) := by
 have h1 := h.lift (k := 1) (o := b) rfl
 exact h1.del 2
set_option maxHeartbeats 400000 in
theorem Put_out (row col : Int) (x : Cell) (hS : Objs w0 w (.grid p 83 cols L :: os)) (hc : 0 < cols) (hno : ¬ ((0 ≤ row ∧ row < L.length) ∧ 0 ≤ col ∧ col < cols)) :
  Calls Tryd.prog 44 #[.pointer (some ⟨p, 0, none⟩), .int .i64 row, .int .i64 col, .agg (cv x)] w fun e w' => e = .returned (.int .i64 3) ∧ Objs w0 w' (.grid p 83 cols L :: os) := by
 have S := Lib.hid hS
 have HE := Lib.hid (show atE row col cols L = 3 by unfold atE; rw [if_neg hno])
 clear hS hno
 go_enter Tryd.func44, Tryd.ntmps44
 go_wp2_with fail
 refine (at_any _ _ S.out.alloc1 (k := 1) rfl hc).mono ?_
 rw [HE.out]
 rintro e w1 ⟨rfl, hS⟩
 have S1 := Lib.hid hS
 clear hS S
 go_wp2_with fail
 go_ret
 exact ⟨rfl, S1.out.tail⟩
set_option maxRecDepth 100000 in
set_option maxHeartbeats 2000000 in
theorem Put_bad1 {i j : Nat} (x : Cell) (hT : Tabs w0) (hS : Objs w0 w (.grid p 83 cols L :: os)) (hc : 0 < cols) (hcm : cols ≤ 1000) (hi : i < L.length) (hj : j < cols) (hv : x.ok = false) :
  Calls Tryd.prog 44 #[.pointer (some ⟨p, 0, none⟩), .int .i64 i, .int .i64 j, .agg (cv x)] w fun e w' => e = .returned (.int .i64 2) ∧ Objs w0 w' (.grid p 83 cols L :: os) := by
 have S := Lib.hid hS
 have HT := Lib.hid hT
 have HE := Lib.hid (show atE i j cols L = 0 by unfold atE; rw [if_pos ⟨⟨by omega, by omega⟩, by omega, by omega⟩])
 clear hS hT
 have HV := Lib.hid hv
 clear hv
 go_enter Tryd.func44, Tryd.ntmps44
 go_wp2_with fail
 refine (at_any _ _ S.out.alloc1 (k := 1) rfl hc).mono ?_
 rw [HE.out]
 rintro e w1 ⟨rfl, hS⟩
 have S1 := Lib.hid hS
 clear hS S
 generalize w.heap.size = b7 at S1 ⊢
 go_upto_region 4 with (fail)
 refine wp_region_stage (w0 := w0) (os := os) (by kernel_rfl) (by kernel_rfl) (by kernel_rfl) [] [[0], [], [], [], [], [], [], [], [], [], [], [], [], [], [], [], [], [], []] [.box b7 61 (cv x), .grid p 83 cols L] (fun i u => match i with | 0 => u = .agg (cv x) | 1 => u = .bool false | 2 => u = .bool true | 3 => u = .bool true | 4 => True | 5 => True | 6 => True | 7 => u = .bool true | 8 => u = .bool true | 9 => True | 10 => True | 11 => True | 12 => True | 13 => True | 14 => True | 15 => True | 16 => True | 17 => True | 18 => u = .bool true | _ => True) (fun vs => [.box b7 61 (cv x), .grid p 83 cols L]) (by kernel_rfl) (fun vs => by rfl) S1.out ?_ ?_
 ·apply sc
  ·intro a w' vs σ hS hl hs hk
   have f7 : a.tmps[7]?.getD undef = .pointer (some ⟨b7, 0, none⟩) := sof hk
   have hx := (hS.box (sg (hs 0 (by decide)))).box.2.2.2.1
   exact rp (.agg (cv x)) (by simp [execOp, Act.eval, f7, go_sem, hx]) hl hs hS
  apply sc
  ·intro a w' vs σ hS hl hs hk
   have e18 : a.tmps.getD 18 undef = .agg (cv x) := svv hk 0
   exact ro_call (f := 53) (wanted_none rfl) rfl (by simp only [List.map_toArray, List.map_cons, List.map_nil, Act.eval, e18] <;> rfl) (fun _ _ => by kernel_rfl) ((valid_no HV.out w' (hS.tabs HT.out)).mono fun e w2 ⟨h1, h2⟩ => ⟨_, h1, sp_same (by kernel_rfl) hl hs (hS.bel h2) rfl, trivial⟩)
  apply sc
  ·intro a w' vs σ hS hl hs hk
   have f19 : a.tmps[19]?.getD undef = .bool false := svf hk 1
   exact rp (.bool true) (by simp [execOp, Act.eval, f19, go_sem]) hl hs hS
  apply sc
  ·intro a w' vs σ hS hl hs hk
   have f20 : a.tmps[20]?.getD undef = .bool true := svf hk 2
   exact rp (.bool true) (by simp [execOp, Act.eval, f20, go_sem]) hl hs hS
  apply sc
  ·intro a w' vs σ hS hl hs hk
   exact rs_skip (wanted_no rfl rfl rfl (svv hk 3) (by decide)) (sp_same (by kernel_rfl) hl hs hS trivial)
  apply sc
  ·intro a w' vs σ hS hl hs hk
   exact rs_skip (wanted_no rfl rfl rfl (svv hk 3) (by decide)) (sp_same (by kernel_rfl) hl hs hS trivial)
  apply sc
  ·intro a w' vs σ hS hl hs hk
   exact rs_skip (wanted_no rfl rfl rfl (svv hk 3) (by decide)) (sp_same (by kernel_rfl) hl hs hS trivial)
  apply sc
  ·intro a w' vs σ hS hl hs hk
   have f21 : a.tmps[21]?.getD undef = .bool true := svf hk 3
   have e24 : a.tmps.getD 24 undef = vs 6 := sk_val hk 6 (by kernel_rfl) rfl rfl
   have p24 : (fun u : Value => True) (vs 6) := (hk.1 6 (by kernel_rfl)).1
   have f24 := gd e24
   exact rp (.bool true) (by simp [execOp, Act.eval, f21, e24, f24, go_sem]) hl hs hS
  apply sc
  ·intro a w' vs σ hS hl hs hk
   have f25 : a.tmps[25]?.getD undef = .bool true := svf hk 7
   exact rp (.bool true) (by simp [execOp, Act.eval, f25, go_sem]) hl hs hS
  apply sc
  ·intro a w' vs σ hS hl hs hk
   exact rs_skip (wanted_no rfl rfl rfl (svv hk 8) (by decide)) (sp_same (by kernel_rfl) hl hs hS trivial)
  apply sc
  ·intro a w' vs σ hS hl hs hk
   exact rs_skip (wanted_no rfl rfl rfl (svv hk 8) (by decide)) (sp_same (by kernel_rfl) hl hs hS trivial)
  apply sc
  ·intro a w' vs σ hS hl hs hk
   exact rs_skip (wanted_no rfl rfl rfl (svv hk 8) (by decide)) (sp_same (by kernel_rfl) hl hs hS trivial)
  apply sc
  ·intro a w' vs σ hS hl hs hk
   exact rs_skip (wanted_no rfl rfl rfl (svv hk 8) (by decide)) (sp_same (by kernel_rfl) hl hs hS trivial)
  apply sc
  ·intro a w' vs σ hS hl hs hk
   exact rs_skip (wanted_no rfl rfl rfl (svv hk 8) (by decide)) (sp_same (by kernel_rfl) hl hs hS trivial)
  apply sc
  ·intro a w' vs σ hS hl hs hk
   exact rs_skip (wanted_no rfl rfl rfl (svv hk 8) (by decide)) (sp_same (by kernel_rfl) hl hs hS trivial)
  apply sc
  ·intro a w' vs σ hS hl hs hk
   exact rs_skip (wanted_no rfl rfl rfl (svv hk 8) (by decide)) (sp_same (by kernel_rfl) hl hs hS trivial)
  apply sc
  ·intro a w' vs σ hS hl hs hk
   exact rs_skip (wanted_no rfl rfl rfl (svv hk 8) (by decide)) (sp_same (by kernel_rfl) hl hs hS trivial)
  apply sc
  ·intro a w' vs σ hS hl hs hk
   exact rs_skip (wanted_no rfl rfl rfl (svv hk 8) (by decide)) (sp_same (by kernel_rfl) hl hs hS trivial)
  apply sc
  ·intro a w' vs σ hS hl hs hk
   have f26 : a.tmps[26]?.getD undef = .bool true := svf hk 8
   have e35 : a.tmps.getD 35 undef = vs 17 := sk_val hk 17 (by kernel_rfl) rfl rfl
   have p35 : (fun u : Value => True) (vs 17) := (hk.1 17 (by kernel_rfl)).1
   have f35 := gd e35
   exact rp (.bool true) (by simp [execOp, Act.eval, f26, e35, f35, go_sem]) hl hs hS
  exact SSteps.nil
 ·intro vs w' hS hv
  have q0 : vs 0 = _ := hv 0 (by decide)
  have q1 : vs 1 = _ := hv 1 (by decide)
  have q2 : vs 2 = _ := hv 2 (by decide)
  have q3 : vs 3 = _ := hv 3 (by decide)
  have q7 : vs 7 = _ := hv 7 (by decide)
  have q8 : vs 8 = _ := hv 8 (by decide)
  have q18 : vs 18 = _ := hv 18 (by decide)
  have S2 := Lib.hid hS
  simp only [putL, Act.put, Nat.zero_add, Nat.reduceAdd, List.setIfInBounds_toArray, List.set_cons_succ, List.set_cons_zero, q0, q1, q2, q3, q7, q8, q18]
  clear hS hv q0 q1 q2 q3 q7 q8 q18
  go_wp2_with fail
  go_ret
  exact ⟨rfl, S2.out.tail⟩
set_option maxRecDepth 100000 in
set_option maxHeartbeats 2000000 in
theorem Put_bad2 {i j : Nat} (x : Cell) (hT : Tabs w0) (hS : Objs w0 w (.grid p 83 cols L :: os)) (hc : 0 < cols) (hcm : cols ≤ 1000) (hi : i < L.length) (hj : j < cols) (hv : x.ok = true) (hw : x.width = 0) :
  Calls Tryd.prog 44 #[.pointer (some ⟨p, 0, none⟩), .int .i64 i, .int .i64 j, .agg (cv x)] w fun e w' => e = .returned (.int .i64 2) ∧ Objs w0 w' (.grid p 83 cols L :: os) := by
 have S := Lib.hid hS
 have HT := Lib.hid hT
 have HE := Lib.hid (show atE i j cols L = 0 by unfold atE; rw [if_pos ⟨⟨by omega, by omega⟩, by omega, by omega⟩])
 clear hS hT
 have HV := Lib.hid hv
 have hw0 := beq_yes hw
 have HW := Lib.hid hw
 clear hv hw
 go_enter Tryd.func44, Tryd.ntmps44
 go_wp2_with fail
 refine (at_any _ _ S.out.alloc1 (k := 1) rfl hc).mono ?_
 rw [HE.out]
 rintro e w1 ⟨rfl, hS⟩
 have S1 := Lib.hid hS
 clear hS S
 generalize w.heap.size = b7 at S1 ⊢
 go_upto_region 4 with (fail)
 refine wp_region_stage (w0 := w0) (os := os) (by kernel_rfl) (by kernel_rfl) (by kernel_rfl) [] [[0], [], [], [], [], [0], [], [], [], [], [], [], [], [], [], [], [], [], []] [.box b7 61 (cv x), .grid p 83 cols L] (fun i u => match i with | 0 => u = .agg (cv x) | 1 => u = .bool true | 2 => u = .bool false | 3 => u = .bool false | 4 => u = .pointer (some ⟨b7, 4, none⟩) | 5 => u = .int .i64 x.width | 6 => u = .bool true | 7 => u = .bool true | 8 => u = .bool true | 9 => True | 10 => True | 11 => True | 12 => True | 13 => True | 14 => True | 15 => True | 16 => True | 17 => True | 18 => u = .bool true | _ => True) (fun vs => [.box b7 61 (cv x), .grid p 83 cols L]) (by kernel_rfl) (fun vs => by rfl) S1.out ?_ ?_
 ·apply sc
  ·intro a w' vs σ hS hl hs hk
   have f7 : a.tmps[7]?.getD undef = .pointer (some ⟨b7, 0, none⟩) := sof hk
   have hx := (hS.box (sg (hs 0 (by decide)))).box.2.2.2.1
   exact rp (.agg (cv x)) (by simp [execOp, Act.eval, f7, go_sem, hx]) hl hs hS
  apply sc
  ·intro a w' vs σ hS hl hs hk
   have e18 : a.tmps.getD 18 undef = .agg (cv x) := svv hk 0
   exact ro_call (f := 53) (wanted_none rfl) rfl (by simp only [List.map_toArray, List.map_cons, List.map_nil, Act.eval, e18] <;> rfl) (fun _ _ => by kernel_rfl) ((valid_yes HV.out w' (hS.tabs HT.out)).mono fun e w2 ⟨h1, h2⟩ => ⟨_, h1, sp_same (by kernel_rfl) hl hs (hS.bel h2) rfl, trivial⟩)
  apply sc
  ·intro a w' vs σ hS hl hs hk
   have f19 : a.tmps[19]?.getD undef = .bool true := svf hk 1
   exact rp (.bool false) (by simp [execOp, Act.eval, f19, go_sem]) hl hs hS
  apply sc
  ·intro a w' vs σ hS hl hs hk
   have f20 : a.tmps[20]?.getD undef = .bool false := svf hk 2
   exact rp (.bool false) (by simp [execOp, Act.eval, f20, go_sem]) hl hs hS
  apply sc
  ·intro a w' vs σ hS hl hs hk
   have f7 : a.tmps[7]?.getD undef = .pointer (some ⟨b7, 0, none⟩) := sof hk
   exact rq (pt b7 4) (wanted_yes rfl rfl rfl (svv hk 3)) (by simp [execOp, Act.eval, f7, go_sem]) hl hs hS
  apply sc
  ·intro a w' vs σ hS hl hs hk
   have f22 : a.tmps[22]?.getD undef = .pointer (some ⟨b7, 4, none⟩) := svf hk 4
   have hx := (hS.box (sg (hs 0 (by decide)))).box.1
   exact rq (.int .i64 x.width) (wanted_yes rfl rfl rfl (svv hk 3)) (by simp [execOp, Act.eval, f22, go_sem, hx]) hl hs hS
  apply sc
  ·intro a w' vs σ hS hl hs hk
   have f23 : a.tmps[23]?.getD undef = .int .i64 x.width := svf hk 5
   exact rq (.bool true) (wanted_yes rfl rfl rfl (svv hk 3)) (by simp [execOp, Act.eval, f23, go_sem, hw0]) hl hs hS
  apply sc
  ·intro a w' vs σ hS hl hs hk
   have f21 : a.tmps[21]?.getD undef = .bool false := svf hk 3
   have f24 : a.tmps[24]?.getD undef = .bool true := svf hk 6
   exact rp (.bool true) (by simp [execOp, Act.eval, f21, f24, go_sem]) hl hs hS
  apply sc
  ·intro a w' vs σ hS hl hs hk
   have f25 : a.tmps[25]?.getD undef = .bool true := svf hk 7
   exact rp (.bool true) (by simp [execOp, Act.eval, f25, go_sem]) hl hs hS
  apply sc
  ·intro a w' vs σ hS hl hs hk
   exact rs_skip (wanted_no rfl rfl rfl (svv hk 8) (by decide)) (sp_same (by kernel_rfl) hl hs hS trivial)
  apply sc
  ·intro a w' vs σ hS hl hs hk
   exact rs_skip (wanted_no rfl rfl rfl (svv hk 8) (by decide)) (sp_same (by kernel_rfl) hl hs hS trivial)
  apply sc
  ·intro a w' vs σ hS hl hs hk
   exact rs_skip (wanted_no rfl rfl rfl (svv hk 8) (by decide)) (sp_same (by kernel_rfl) hl hs hS trivial)
  apply sc
  ·intro a w' vs σ hS hl hs hk
   exact rs_skip (wanted_no rfl rfl rfl (svv hk 8) (by decide)) (sp_same (by kernel_rfl) hl hs hS trivial)
  apply sc
  ·intro a w' vs σ hS hl hs hk
   exact rs_skip (wanted_no rfl rfl rfl (svv hk 8) (by decide)) (sp_same (by kernel_rfl) hl hs hS trivial)
  apply sc
  ·intro a w' vs σ hS hl hs hk
   exact rs_skip (wanted_no rfl rfl rfl (svv hk 8) (by decide)) (sp_same (by kernel_rfl) hl hs hS trivial)
  apply sc
  ·intro a w' vs σ hS hl hs hk
   exact rs_skip (wanted_no rfl rfl rfl (svv hk 8) (by decide)) (sp_same (by kernel_rfl) hl hs hS trivial)
  apply sc
  ·intro a w' vs σ hS hl hs hk
   exact rs_skip (wanted_no rfl rfl rfl (svv hk 8) (by decide)) (sp_same (by kernel_rfl) hl hs hS trivial)
  apply sc
  ·intro a w' vs σ hS hl hs hk
   exact rs_skip (wanted_no rfl rfl rfl (svv hk 8) (by decide)) (sp_same (by kernel_rfl) hl hs hS trivial)
  apply sc
  ·intro a w' vs σ hS hl hs hk
   have f26 : a.tmps[26]?.getD undef = .bool true := svf hk 8
   have e35 : a.tmps.getD 35 undef = vs 17 := sk_val hk 17 (by kernel_rfl) rfl rfl
   have p35 : (fun u : Value => True) (vs 17) := (hk.1 17 (by kernel_rfl)).1
   have f35 := gd e35
   exact rp (.bool true) (by simp [execOp, Act.eval, f26, e35, f35, go_sem]) hl hs hS
  exact SSteps.nil
 ·intro vs w' hS hv
  have q0 : vs 0 = _ := hv 0 (by decide)
  have q1 : vs 1 = _ := hv 1 (by decide)
  have q2 : vs 2 = _ := hv 2 (by decide)
  have q3 : vs 3 = _ := hv 3 (by decide)
  have q4 : vs 4 = _ := hv 4 (by decide)
  have q5 : vs 5 = _ := hv 5 (by decide)
  have q6 : vs 6 = _ := hv 6 (by decide)
  have q7 : vs 7 = _ := hv 7 (by decide)
  have q8 : vs 8 = _ := hv 8 (by decide)
  have q18 : vs 18 = _ := hv 18 (by decide)
  have S2 := Lib.hid hS
  simp only [putL, Act.put, Nat.zero_add, Nat.reduceAdd, List.setIfInBounds_toArray, List.set_cons_succ, List.set_cons_zero, q0, q1, q2, q3, q4, q5, q6, q7, q8, q18]
  clear hS hv q0 q1 q2 q3 q4 q5 q6 q7 q8 q18
  go_wp2_with fail
  go_ret
  exact ⟨rfl, S2.out.tail⟩
set_option maxRecDepth 100000 in
set_option maxHeartbeats 2000000 in
theorem Put_bad3 {i j : Nat} (x : Cell) (hT : Tabs w0) (hS : Objs w0 w (.grid p 83 cols L :: os)) (hc : 0 < cols) (hcm : cols ≤ 1000) (hi : i < L.length) (hj : j < cols) (hv : x.ok = true) (hw : ¬ x.width = 0) (hov : (cols : Int) < j + x.width) :
  Calls Tryd.prog 44 #[.pointer (some ⟨p, 0, none⟩), .int .i64 i, .int .i64 j, .agg (cv x)] w fun e w' => e = .returned (.int .i64 2) ∧ Objs w0 w' (.grid p 83 cols L :: os) := by
 have S := Lib.hid hS
 have HT := Lib.hid hT
 have HE := Lib.hid (show atE i j cols L = 0 by unfold atE; rw [if_pos ⟨⟨by omega, by omega⟩, by omega, by omega⟩])
 clear hS hT
 have HV := Lib.hid hv
 have hw0 := beq_no hw
 have hxw : 0 ≤ x.width ∧ x.width ≤ 2 := by rcases ok_width hv with h | h | h <;> omega
 have hsum : IntKind.i64.wrap ((j : Int) + x.width) = j + x.width := IntWalk.i64_in _ (by omega)
 have HW := Lib.hid hw
 clear hv hw
 go_enter Tryd.func44, Tryd.ntmps44
 go_wp2_with fail
 refine (at_any _ _ S.out.alloc1 (k := 1) rfl hc).mono ?_
 rw [HE.out]
 rintro e w1 ⟨rfl, hS⟩
 have S1 := Lib.hid hS
 clear hS S
 generalize w.heap.size = b7 at S1 ⊢
 go_upto_region 4 with (fail)
 refine wp_region_stage (w0 := w0) (os := os) (by kernel_rfl) (by kernel_rfl) (by kernel_rfl) [] [[0], [], [], [], [], [0], [], [], [], [], [], [0], [], [], [], [], [1], [], []] [.box b7 61 (cv x), .grid p 83 cols L] (fun i u => match i with | 0 => u = .agg (cv x) | 1 => u = .bool true | 2 => u = .bool false | 3 => u = .bool false | 4 => u = .pointer (some ⟨b7, 4, none⟩) | 5 => u = .int .i64 x.width | 6 => u = .bool false | 7 => u = .bool false | 8 => u = .bool false | 9 => u = .int .i64 ↑j | 10 => u = .pointer (some ⟨b7, 4, none⟩) | 11 => u = .int .i64 x.width | 12 => u = .int .i64 (↑j + x.width) | 13 => u = .pointer (some ⟨p, 0, none⟩) | 14 => u = .pointer (some ⟨p, 0, none⟩) | 15 => u = .pointer (some ⟨p, 0, none⟩) | 16 => u = .int .i64 ↑cols | 17 => u = .bool true | 18 => u = .bool true | _ => True) (fun vs => [.box b7 61 (cv x), .grid p 83 cols L]) (by kernel_rfl) (fun vs => by rfl) S1.out ?_ ?_
 ·apply sc
  ·intro a w' vs σ hS hl hs hk
   have f7 : a.tmps[7]?.getD undef = .pointer (some ⟨b7, 0, none⟩) := sof hk
   have hx := (hS.box (sg (hs 0 (by decide)))).box.2.2.2.1
   exact rp (.agg (cv x)) (by simp [execOp, Act.eval, f7, go_sem, hx]) hl hs hS
  apply sc
  ·intro a w' vs σ hS hl hs hk
   have e18 : a.tmps.getD 18 undef = .agg (cv x) := svv hk 0
   exact ro_call (f := 53) (wanted_none rfl) rfl (by simp only [List.map_toArray, List.map_cons, List.map_nil, Act.eval, e18] <;> rfl) (fun _ _ => by kernel_rfl) ((valid_yes HV.out w' (hS.tabs HT.out)).mono fun e w2 ⟨h1, h2⟩ => ⟨_, h1, sp_same (by kernel_rfl) hl hs (hS.bel h2) rfl, trivial⟩)
  apply sc
  ·intro a w' vs σ hS hl hs hk
   have f19 : a.tmps[19]?.getD undef = .bool true := svf hk 1
   exact rp (.bool false) (by simp [execOp, Act.eval, f19, go_sem]) hl hs hS
  apply sc
  ·intro a w' vs σ hS hl hs hk
   have f20 : a.tmps[20]?.getD undef = .bool false := svf hk 2
   exact rp (.bool false) (by simp [execOp, Act.eval, f20, go_sem]) hl hs hS
  apply sc
  ·intro a w' vs σ hS hl hs hk
   have f7 : a.tmps[7]?.getD undef = .pointer (some ⟨b7, 0, none⟩) := sof hk
   exact rq (pt b7 4) (wanted_yes rfl rfl rfl (svv hk 3)) (by simp [execOp, Act.eval, f7, go_sem]) hl hs hS
  apply sc
  ·intro a w' vs σ hS hl hs hk
   have f22 : a.tmps[22]?.getD undef = .pointer (some ⟨b7, 4, none⟩) := svf hk 4
   have hx := (hS.box (sg (hs 0 (by decide)))).box.1
   exact rq (.int .i64 x.width) (wanted_yes rfl rfl rfl (svv hk 3)) (by simp [execOp, Act.eval, f22, go_sem, hx]) hl hs hS
  apply sc
  ·intro a w' vs σ hS hl hs hk
   have f23 : a.tmps[23]?.getD undef = .int .i64 x.width := svf hk 5
   exact rq (.bool false) (wanted_yes rfl rfl rfl (svv hk 3)) (by simp [execOp, Act.eval, f23, go_sem, hw0]) hl hs hS
  apply sc
  ·intro a w' vs σ hS hl hs hk
   have f21 : a.tmps[21]?.getD undef = .bool false := svf hk 3
   have f24 : a.tmps[24]?.getD undef = .bool false := svf hk 6
   exact rp (.bool false) (by simp [execOp, Act.eval, f21, f24, go_sem]) hl hs hS
  apply sc
  ·intro a w' vs σ hS hl hs hk
   have f25 : a.tmps[25]?.getD undef = .bool false := svf hk 7
   exact rp (.bool false) (by simp [execOp, Act.eval, f25, go_sem]) hl hs hS
  apply sc
  ·intro a w' vs σ hS hl hs hk
   have f2 : a.tmps[2]?.getD undef = .int .i64 ↑j := sof hk
   exact rq (.int .i64 ↑j) (wanted_yes rfl rfl rfl (svv hk 8)) (by simp [execOp, Act.eval, f2, go_sem]) hl hs hS
  apply sc
  ·intro a w' vs σ hS hl hs hk
   have f7 : a.tmps[7]?.getD undef = .pointer (some ⟨b7, 0, none⟩) := sof hk
   exact rq (pt b7 4) (wanted_yes rfl rfl rfl (svv hk 8)) (by simp [execOp, Act.eval, f7, go_sem]) hl hs hS
  apply sc
  ·intro a w' vs σ hS hl hs hk
   have f28 : a.tmps[28]?.getD undef = .pointer (some ⟨b7, 4, none⟩) := svf hk 10
   have hx := (hS.box (sg (hs 0 (by decide)))).box.1
   exact rq (.int .i64 x.width) (wanted_yes rfl rfl rfl (svv hk 8)) (by simp [execOp, Act.eval, f28, go_sem, hx]) hl hs hS
  apply sc
  ·intro a w' vs σ hS hl hs hk
   have f27 : a.tmps[27]?.getD undef = .int .i64 ↑j := svf hk 9
   have f29 : a.tmps[29]?.getD undef = .int .i64 x.width := svf hk 11
   exact rq (.int .i64 (↑j + x.width)) (wanted_yes rfl rfl rfl (svv hk 8)) (by simp [execOp, Act.eval, f27, f29, go_sem, hsum]) hl hs hS
  apply sc
  ·intro a w' vs σ hS hl hs hk
   have f0 : a.tmps[0]?.getD undef = .pointer (some ⟨p, 0, none⟩) := sof hk
   exact rq (pt p 0) (wanted_yes rfl rfl rfl (svv hk 8)) (by simp [execOp, Act.eval, f0, go_sem]) hl hs hS
  apply sc
  ·intro a w' vs σ hS hl hs hk
   have f31 : a.tmps[31]?.getD undef = .pointer (some ⟨p, 0, none⟩) := svf hk 13
   exact rq (pt p 0) (wanted_yes rfl rfl rfl (svv hk 8)) (by simp [execOp, Act.eval, f31, go_sem]) hl hs hS
  apply sc
  ·intro a w' vs σ hS hl hs hk
   have f32 : a.tmps[32]?.getD undef = .pointer (some ⟨p, 0, none⟩) := svf hk 14
   exact rq (pt p 0) (wanted_yes rfl rfl rfl (svv hk 8)) (by simp [execOp, Act.eval, f32, go_sem]) hl hs hS
  apply sc
  ·intro a w' vs σ hS hl hs hk
   have f33 : a.tmps[33]?.getD undef = .pointer (some ⟨p, 0, none⟩) := svf hk 15
   obtain ⟨A1, c1, hB1, -, -⟩ := hS.gridRd (sg (hs 1 (by decide)))
   have hx := hB1.cell
   exact rq (.int .i64 ↑cols) (wanted_yes rfl rfl rfl (svv hk 8)) (by simp [execOp, Act.eval, f33, go_sem, hx]) hl hs hS
  apply sc
  ·intro a w' vs σ hS hl hs hk
   have f30 : a.tmps[30]?.getD undef = .int .i64 (↑j + x.width) := svf hk 12
   have f34 : a.tmps[34]?.getD undef = .int .i64 ↑cols := svf hk 16
   exact rq (.bool true) (wanted_yes rfl rfl rfl (svv hk 8)) (by simp [execOp, Act.eval, f30, f34, go_sem, hov]) hl hs hS
  apply sc
  ·intro a w' vs σ hS hl hs hk
   have f26 : a.tmps[26]?.getD undef = .bool false := svf hk 8
   have f35 : a.tmps[35]?.getD undef = .bool true := svf hk 17
   exact rp (.bool true) (by simp [execOp, Act.eval, f26, f35, go_sem]) hl hs hS
  exact SSteps.nil
 ·intro vs w' hS hv
  have q0 : vs 0 = _ := hv 0 (by decide)
  have q1 : vs 1 = _ := hv 1 (by decide)
  have q2 : vs 2 = _ := hv 2 (by decide)
  have q3 : vs 3 = _ := hv 3 (by decide)
  have q4 : vs 4 = _ := hv 4 (by decide)
  have q5 : vs 5 = _ := hv 5 (by decide)
  have q6 : vs 6 = _ := hv 6 (by decide)
  have q7 : vs 7 = _ := hv 7 (by decide)
  have q8 : vs 8 = _ := hv 8 (by decide)
  have q9 : vs 9 = _ := hv 9 (by decide)
  have q10 : vs 10 = _ := hv 10 (by decide)
  have q11 : vs 11 = _ := hv 11 (by decide)
  have q12 : vs 12 = _ := hv 12 (by decide)
  have q13 : vs 13 = _ := hv 13 (by decide)
  have q14 : vs 14 = _ := hv 14 (by decide)
  have q15 : vs 15 = _ := hv 15 (by decide)
  have q16 : vs 16 = _ := hv 16 (by decide)
  have q17 : vs 17 = _ := hv 17 (by decide)
  have q18 : vs 18 = _ := hv 18 (by decide)
  have S2 := Lib.hid hS
  simp only [putL, Act.put, Nat.zero_add, Nat.reduceAdd, List.setIfInBounds_toArray, List.set_cons_succ, List.set_cons_zero, q0, q1, q2, q3, q4, q5, q6, q7, q8, q9, q10, q11, q12, q13, q14, q15, q16, q17, q18]
  clear hS hv q0 q1 q2 q3 q4 q5 q6 q7 q8 q9 q10 q11 q12 q13 q14 q15 q16 q17 q18
  go_wp2_with fail
  go_ret
  exact ⟨rfl, S2.out.tail⟩
set_option maxRecDepth 100000 in
set_option maxHeartbeats 4000000 in
theorem Put_yes {i j : Nat} {l : Ln} (x : Cell) (hT : Tabs w0) (hS : Objs w0 w (.grid p 83 cols L :: os)) (hc : 0 < cols) (hcm : cols ≤ 1000) (hl : L[i]? = some l) (hrow : l.1.length = cols) (hv : x.ok = true) (hw : ¬ x.width = 0) (hfit : (j : Int) + x.width ≤ cols) :
  Calls Tryd.prog 44 #[.pointer (some ⟨p, 0, none⟩), .int .i64 i, .int .i64 j, .agg (cv x)] w fun e w' => e = .returned (.int .i64 0) ∧ Objs w0 w' (.grid p 83 cols (L.set i (putC j x l.1, l.2)) :: os) := by
 have S := Lib.hid hS
 have hi : i < L.length := (List.getElem?_eq_some_iff.1 hl).1
 have hxw : 1 ≤ x.width ∧ x.width ≤ 2 := by rcases ok_w12 hv hw with h | h <;> omega
 have hj : j < cols := by omega
 have HL := Lib.hid hl
 have HT := Lib.hid hT
 have HE := Lib.hid (show atE i j cols L = 0 by unfold atE; rw [if_pos ⟨⟨by omega, by omega⟩, by omega, by omega⟩])
 have HV := Lib.hid hv
 have hw0 := beq_no hw
 have hsum : IntKind.i64.wrap ((j : Int) + x.width) = j + x.width := IntWalk.i64_in _ (by omega)
 have hov : ¬ ((cols : Int) < j + x.width) := by omega
 have HROW := Lib.hid hrow
 have hlr : l.1.length ≤ 1000 := by omega
 have hjr : j < l.1.length := by omega
 clear hS hT hl hv hw hrow
 go_enter Tryd.func44, Tryd.ntmps44
 go_wp2_with fail
 refine (at_any _ _ S.out.alloc1 (k := 1) rfl hc).mono ?_
 rw [HE.out]
 rintro e w1 ⟨rfl, hS⟩
 have S1 := Lib.hid hS
 clear hS S
 generalize w.heap.size = b7 at S1 ⊢
 go_upto_region 4 with (fail)
 refine wp_region_stage (w0 := w0) (os := os) (by kernel_rfl) (by kernel_rfl) (by kernel_rfl) [] [[0], [], [], [], [], [0], [], [], [], [], [], [0], [], [], [], [], [1], [], []] [.box b7 61 (cv x), .grid p 83 cols L] (fun i u => match i with | 0 => u = .agg (cv x) | 1 => u = .bool true | 2 => u = .bool false | 3 => u = .bool false | 4 => u = .pointer (some ⟨b7, 4, none⟩) | 5 => u = .int .i64 x.width | 6 => u = .bool false | 7 => u = .bool false | 8 => u = .bool false | 9 => u = .int .i64 ↑j | 10 => u = .pointer (some ⟨b7, 4, none⟩) | 11 => u = .int .i64 x.width | 12 => u = .int .i64 (↑j + x.width) | 13 => u = .pointer (some ⟨p, 0, none⟩) | 14 => u = .pointer (some ⟨p, 0, none⟩) | 15 => u = .pointer (some ⟨p, 0, none⟩) | 16 => u = .int .i64 ↑cols | 17 => u = .bool false | 18 => u = .bool false | _ => True) (fun vs => [.box b7 61 (cv x), .grid p 83 cols L]) (by kernel_rfl) (fun vs => by rfl) S1.out ?_ ?_
 ·apply sc
  ·intro a w' vs σ hS hl hs hk
   have f7 : a.tmps[7]?.getD undef = .pointer (some ⟨b7, 0, none⟩) := sof hk
   have hx := (hS.box (sg (hs 0 (by decide)))).box.2.2.2.1
   exact rp (.agg (cv x)) (by simp [execOp, Act.eval, f7, go_sem, hx]) hl hs hS
  apply sc
  ·intro a w' vs σ hS hl hs hk
   have e18 : a.tmps.getD 18 undef = .agg (cv x) := svv hk 0
   exact ro_call (f := 53) (wanted_none rfl) rfl (by simp only [List.map_toArray, List.map_cons, List.map_nil, Act.eval, e18] <;> rfl) (fun _ _ => by kernel_rfl) ((valid_yes HV.out w' (hS.tabs HT.out)).mono fun e w2 ⟨h1, h2⟩ => ⟨_, h1, sp_same (by kernel_rfl) hl hs (hS.bel h2) rfl, trivial⟩)
  apply sc
  ·intro a w' vs σ hS hl hs hk
   have f19 : a.tmps[19]?.getD undef = .bool true := svf hk 1
   exact rp (.bool false) (by simp [execOp, Act.eval, f19, go_sem]) hl hs hS
  apply sc
  ·intro a w' vs σ hS hl hs hk
   have f20 : a.tmps[20]?.getD undef = .bool false := svf hk 2
   exact rp (.bool false) (by simp [execOp, Act.eval, f20, go_sem]) hl hs hS
  apply sc
  ·intro a w' vs σ hS hl hs hk
   have f7 : a.tmps[7]?.getD undef = .pointer (some ⟨b7, 0, none⟩) := sof hk
   exact rq (pt b7 4) (wanted_yes rfl rfl rfl (svv hk 3)) (by simp [execOp, Act.eval, f7, go_sem]) hl hs hS
  apply sc
  ·intro a w' vs σ hS hl hs hk
   have f22 : a.tmps[22]?.getD undef = .pointer (some ⟨b7, 4, none⟩) := svf hk 4
   have hx := (hS.box (sg (hs 0 (by decide)))).box.1
   exact rq (.int .i64 x.width) (wanted_yes rfl rfl rfl (svv hk 3)) (by simp [execOp, Act.eval, f22, go_sem, hx]) hl hs hS
  apply sc
  ·intro a w' vs σ hS hl hs hk
   have f23 : a.tmps[23]?.getD undef = .int .i64 x.width := svf hk 5
   exact rq (.bool false) (wanted_yes rfl rfl rfl (svv hk 3)) (by simp [execOp, Act.eval, f23, go_sem, hw0]) hl hs hS
  apply sc
  ·intro a w' vs σ hS hl hs hk
   have f21 : a.tmps[21]?.getD undef = .bool false := svf hk 3
   have f24 : a.tmps[24]?.getD undef = .bool false := svf hk 6
   exact rp (.bool false) (by simp [execOp, Act.eval, f21, f24, go_sem]) hl hs hS
  apply sc
  ·intro a w' vs σ hS hl hs hk
   have f25 : a.tmps[25]?.getD undef = .bool false := svf hk 7
   exact rp (.bool false) (by simp [execOp, Act.eval, f25, go_sem]) hl hs hS
  apply sc
  ·intro a w' vs σ hS hl hs hk
   have f2 : a.tmps[2]?.getD undef = .int .i64 ↑j := sof hk
   exact rq (.int .i64 ↑j) (wanted_yes rfl rfl rfl (svv hk 8)) (by simp [execOp, Act.eval, f2, go_sem]) hl hs hS
  apply sc
  ·intro a w' vs σ hS hl hs hk
   have f7 : a.tmps[7]?.getD undef = .pointer (some ⟨b7, 0, none⟩) := sof hk
   exact rq (pt b7 4) (wanted_yes rfl rfl rfl (svv hk 8)) (by simp [execOp, Act.eval, f7, go_sem]) hl hs hS
  apply sc
  ·intro a w' vs σ hS hl hs hk
   have f28 : a.tmps[28]?.getD undef = .pointer (some ⟨b7, 4, none⟩) := svf hk 10
   have hx := (hS.box (sg (hs 0 (by decide)))).box.1
   exact rq (.int .i64 x.width) (wanted_yes rfl rfl rfl (svv hk 8)) (by simp [execOp, Act.eval, f28, go_sem, hx]) hl hs hS
  apply sc
  ·intro a w' vs σ hS hl hs hk
   have f27 : a.tmps[27]?.getD undef = .int .i64 ↑j := svf hk 9
   have f29 : a.tmps[29]?.getD undef = .int .i64 x.width := svf hk 11
   exact rq (.int .i64 (↑j + x.width)) (wanted_yes rfl rfl rfl (svv hk 8)) (by simp [execOp, Act.eval, f27, f29, go_sem, hsum]) hl hs hS
  apply sc
  ·intro a w' vs σ hS hl hs hk
   have f0 : a.tmps[0]?.getD undef = .pointer (some ⟨p, 0, none⟩) := sof hk
   exact rq (pt p 0) (wanted_yes rfl rfl rfl (svv hk 8)) (by simp [execOp, Act.eval, f0, go_sem]) hl hs hS
  apply sc
  ·intro a w' vs σ hS hl hs hk
   have f31 : a.tmps[31]?.getD undef = .pointer (some ⟨p, 0, none⟩) := svf hk 13
   exact rq (pt p 0) (wanted_yes rfl rfl rfl (svv hk 8)) (by simp [execOp, Act.eval, f31, go_sem]) hl hs hS
  apply sc
  ·intro a w' vs σ hS hl hs hk
   have f32 : a.tmps[32]?.getD undef = .pointer (some ⟨p, 0, none⟩) := svf hk 14
   exact rq (pt p 0) (wanted_yes rfl rfl rfl (svv hk 8)) (by simp [execOp, Act.eval, f32, go_sem]) hl hs hS
  apply sc
  ·intro a w' vs σ hS hl hs hk
   have f33 : a.tmps[33]?.getD undef = .pointer (some ⟨p, 0, none⟩) := svf hk 15
   obtain ⟨A1, c1, hB1, -, -⟩ := hS.gridRd (sg (hs 1 (by decide)))
   have hx := hB1.cell
   exact rq (.int .i64 ↑cols) (wanted_yes rfl rfl rfl (svv hk 8)) (by simp [execOp, Act.eval, f33, go_sem, hx]) hl hs hS
  apply sc
  ·intro a w' vs σ hS hl hs hk
   have f30 : a.tmps[30]?.getD undef = .int .i64 (↑j + x.width) := svf hk 12
   have f34 : a.tmps[34]?.getD undef = .int .i64 ↑cols := svf hk 16
   exact rq (.bool false) (wanted_yes rfl rfl rfl (svv hk 8)) (by simp [execOp, Act.eval, f30, f34, go_sem, hov]) hl hs hS
  apply sc
  ·intro a w' vs σ hS hl hs hk
   have f26 : a.tmps[26]?.getD undef = .bool false := svf hk 8
   have f35 : a.tmps[35]?.getD undef = .bool false := svf hk 17
   exact rp (.bool false) (by simp [execOp, Act.eval, f26, f35, go_sem]) hl hs hS
  exact SSteps.nil
 ·intro vs w' hS hv
  have q0 : vs 0 = _ := hv 0 (by decide)
  have q1 : vs 1 = _ := hv 1 (by decide)
  have q2 : vs 2 = _ := hv 2 (by decide)
  have q3 : vs 3 = _ := hv 3 (by decide)
  have q4 : vs 4 = _ := hv 4 (by decide)
  have q5 : vs 5 = _ := hv 5 (by decide)
  have q6 : vs 6 = _ := hv 6 (by decide)
  have q7 : vs 7 = _ := hv 7 (by decide)
  have q8 : vs 8 = _ := hv 8 (by decide)
  have q9 : vs 9 = _ := hv 9 (by decide)
  have q10 : vs 10 = _ := hv 10 (by decide)
  have q11 : vs 11 = _ := hv 11 (by decide)
  have q12 : vs 12 = _ := hv 12 (by decide)
  have q13 : vs 13 = _ := hv 13 (by decide)
  have q14 : vs 14 = _ := hv 14 (by decide)
  have q15 : vs 15 = _ := hv 15 (by decide)
  have q16 : vs 16 = _ := hv 16 (by decide)
  have q17 : vs 17 = _ := hv 17 (by decide)
  have q18 : vs 18 = _ := hv 18 (by decide)
  have S2 := Lib.hid hS
  simp only [putL, Act.put, Nat.zero_add, Nat.reduceAdd, List.setIfInBounds_toArray, List.set_cons_succ, List.set_cons_zero, q0, q1, q2, q3, q4, q5, q6, q7, q8, q9, q10, q11, q12, q13, q14, q15, q16, q17, q18]
  clear hS hv q0 q1 q2 q3 q4 q5 q6 q7 q8 q9 q10 q11 q12 q13 q14 q15 q16 q17 q18
  clear hsum hw0 hov
  obtain ⟨v, b, hS3⟩ := S2.out.swap.openAt HL.out
  obtain ⟨A, c, rfl, -⟩ := hS3.cellsRd (k := 0) rfl
  obtain ⟨g, rfl, -, -, -, -⟩ := (hS3.own (k := 0) rfl).head (by omega)
  obtain ⟨gr, cr, rfl, h1, h2, h3, h4, h5, h6, h7⟩ := hS3.linesxRd (k := 1) rfl
  obtain ⟨hx2, hf2, hz2⟩ := (hS3.box (k := 2) rfl).facts
  have hlen2 : L.length ≤ 9223372036854775807 := by unfold maxLen at h2; omega
  have S3 := Lib.hid hS3
  clear hS3 h1 h2 h6
  go_wp2_with fail
  refine (split_at S3.out rfl rfl (by omega) (by omega)).mono ?_
  rintro e w4 ⟨rfl, hS4⟩
  have S4 := Lib.hid hS4
  obtain ⟨hx7, hf7, hz7, hc7, hp7⟩ := (hS4.box (k := 3) rfl).box
  clear hS4 hx2 hf2 hz2 h4 h5 h7
  go_wp2_with fail
  refine (split_at (c := j + x.width.toNat) S4.out (by rw [brk_length]) (by omega) (by rw [brk_length]; omega) (by omega)).mono ?_
  rintro e w5 ⟨rfl, hS5⟩
  obtain ⟨W, hst, ho, hg⟩ := (hS5.own (k := 0) rfl).putAt (k := j) (by rw [brk_length, brk_length]; omega) x
  have hS6 := hS5.cellsUpd (k := 0) rfl ho hg
  clear hx7 hf7 hz7 hc7 hp7
  obtain ⟨hx5, hf5, hz5, hc5, hp5⟩ := (hS5.box (k := 3) rfl).box
  obtain ⟨hx7, hf7, hz7, hc7, hp7⟩ := (hS6.box (k := 3) rfl).box
  have S6 := Lib.hid hS6
  clear hS5 hS6 ho hg
  by_cases hw2 : x.width = 2
  ·have hw2' := beq_yes hw2
   have HP := Lib.hid (show putC j x l.1 = (((brk (j + x.width.toNat) (brk j l.1)).set j x).set (j + 1) (spacer x.pen)) from if_pos hw2)
   have HW2 := Lib.hid hw2
   clear hw2
   have hj2 : j + 1 < l.1.length := by have := HW2.out; have := HROW.out; omega
   go_wp2_with fail
   refine (pure_call (cellSpacer_any _ _) S6.out).mono ?_
   rintro e w7 ⟨rfl, hS7⟩
   obtain ⟨W2, hst2, ho2, hg2⟩ := (hS7.own (k := 0) rfl).putAt (k := j + 1) (by rw [List.length_set, brk_length, brk_length]; have := HW2.out; have := HROW.out; omega) (spacer x.pen)
   have S8 := Lib.hid (hS7.cellsUpd (k := 0) rfl ho2 hg2)
   clear ho2 hg2
   clear hS7
   have HF := S8.out.closeAt HL.out
   rw [← HP.out] at HF
   go_wp2_with fail
   go_ret
   exact ⟨rfl, HF.drop2⟩
  ·have hw2' := beq_no hw2
   have HP := Lib.hid (show putC j x l.1 = ((brk (j + x.width.toNat) (brk j l.1)).set j x) by unfold putC; rw [if_neg hw2])
   clear hw2
   have HF := S6.out.closeAt HL.out
   rw [← HP.out] at HF
   go_wp2_with fail
   go_ret
   exact ⟨rfl, HF.drop2⟩
set_option maxRecDepth 100000 in
set_option maxHeartbeats 4000000 in
theorem r14Put_any {i j : Nat} {l : Ln} (x : Cell) (hS : Objs w0 w (.grid p 106 cols L :: os)) (hc : 0 < cols) (hcm : cols ≤ 1000) (hl : L[i]? = some l) (hrow : l.1.length = cols) (hv : x.ok = true) (hw : ¬ x.width = 0) (hfit : (j : Int) + x.width ≤ cols) :
  Calls Tryd.prog 54 #[.pointer (some ⟨p, 0, none⟩), .int .i64 i, .int .i64 j, .agg (cv x)] w fun e w' => e = .returned (.tuple #[]) ∧ Objs w0 w' (.grid p 106 cols (L.set i (putC j x l.1, l.2)) :: os) := by
 have S := Lib.hid hS
 have hi : i < L.length := (List.getElem?_eq_some_iff.1 hl).1
 have hxw : 1 ≤ x.width ∧ x.width ≤ 2 := by rcases ok_w12 hv hw with h | h <;> omega
 have hj : j < cols := by omega
 have HL := Lib.hid hl
 have HROW := Lib.hid hrow
 have hlr : l.1.length ≤ 1000 := by omega
 have hjr : j < l.1.length := by omega
 clear hS hl hv hw hrow
 go_enter Tryd.func54, Tryd.ntmps54
 have S2 := Lib.hid (S.out.alloc1 (c1 := cv x) (t1 := 61))
 obtain ⟨v, b, hS3⟩ := S2.out.swap.openAt HL.out
 obtain ⟨A, c, rfl, -⟩ := hS3.cellsRd (k := 0) rfl
 obtain ⟨g, rfl, -, -, -, -⟩ := (hS3.own (k := 0) rfl).head (by omega)
 obtain ⟨gr, cr, rfl, h1, h2, h3, h4, h5, h6, h7⟩ := hS3.linesxRd (k := 1) rfl
 obtain ⟨hx2, hf2, hz2⟩ := (hS3.box (k := 2) rfl).facts
 have hlen2 : L.length ≤ 9223372036854775807 := by unfold maxLen at h2; omega
 have S3 := Lib.hid hS3
 clear hS3 h1 h2 h6
 go_wp2_with fail
 refine (break_at S3.out rfl rfl (by omega) (by omega)).mono ?_
 rintro e w4 ⟨rfl, hS4⟩
 have S4 := Lib.hid hS4
 obtain ⟨hx7, hf7, hz7, hc7, hp7⟩ := (hS4.box (k := 3) rfl).box
 clear hS4 hx2 hf2 hz2 h4 h5 h7
 go_wp2_with fail
 refine (break_at (c := j + x.width.toNat) S4.out (by rw [brk_length]) (by omega) (by rw [brk_length]; omega) (by omega)).mono ?_
 rintro e w5 ⟨rfl, hS5⟩
 obtain ⟨W, hst, ho, hg⟩ := (hS5.own (k := 0) rfl).putAt (k := j) (by rw [brk_length, brk_length]; omega) x
 have hS6 := hS5.cellsUpd (k := 0) rfl ho hg
 clear hx7 hf7 hz7 hc7 hp7
 obtain ⟨hx5, hf5, hz5, hc5, hp5⟩ := (hS5.box (k := 3) rfl).box
 obtain ⟨hx7, hf7, hz7, hc7, hp7⟩ := (hS6.box (k := 3) rfl).box
 have S6 := Lib.hid hS6
 clear hS5 hS6 ho hg
 by_cases hw2 : x.width = 2
 ·have hw2' := beq_yes hw2
  have HP := Lib.hid (show putC j x l.1 = (((brk (j + x.width.toNat) (brk j l.1)).set j x).set (j + 1) (⟨0, 0, 0, 0, 0, x.pen⟩ : Cell)) from if_pos hw2)
  have HW2 := Lib.hid hw2
  clear hw2
  have hj2 : j + 1 < l.1.length := by have := HW2.out; have := HROW.out; omega
  obtain ⟨W2, hst2, ho2, hg2⟩ := (S6.out.own (k := 0) rfl).putAt (k := j + 1) (by rw [List.length_set, brk_length, brk_length]; have := HW2.out; have := HROW.out; omega) (⟨0, 0, 0, 0, 0, x.pen⟩ : Cell)
  have S8 := Lib.hid (S6.out.cellsUpd (k := 0) rfl ho2 hg2)
  clear ho2 hg2
  have HF := S8.out.closeAt HL.out
  rw [← HP.out] at HF
  go_wp2_with fail
  go_end0
  exact ⟨rfl, HF.drop2⟩
 ·have hw2' := beq_no hw2
  have HP := Lib.hid (show putC j x l.1 = ((brk (j + x.width.toNat) (brk j l.1)).set j x) by unfold putC; rw [if_neg hw2])
  clear hw2
  have HF := S6.out.closeAt HL.out
  rw [← HP.out] at HF
  go_wp2_with fail
  go_end0
  exact ⟨rfl, HF.drop2⟩
end
end Go.Proofs.YtdndoikgnohkkaaDoor

namespace Go.Proofs.YtdndoikgnohkkaaDoor
open Go.RowKit

def clearC (f t : Nat) (q : Pen) (cs : List Cell) : List Cell := if f < t then wipeC f (t - f) q (brk t (brk f cs)) else cs
theorem clearC_length {f t : Nat} {q : Pen} {cs : List Cell} (h : t ≤ cs.length) : (clearC f t q cs).length = cs.length := by
 unfold clearC
 split
 ·rw [wipeC_length (by rw [brk_length, brk_length]; omega), brk_length, brk_length]
 ·rfl
def shiftR (j k : Nat) (q : Pen) (cs : List Cell) : List Cell := let l := brk (cs.length - k) (brk j cs); l.take j ++ (List.replicate k (blank q) ++ (l.drop j).take (cs.length - k - j))
def shiftL (j k : Nat) (q : Pen) (cs : List Cell) : List Cell := let l := brk (j + k) (brk j cs); l.take j ++ (l.drop (j + k) ++ List.replicate k (blank q))
theorem shiftR_length {j k : Nat} {q : Pen} {cs : List Cell} (h : j + k ≤ cs.length) : (shiftR j k q cs).length = cs.length := by
 simp only [shiftR, List.length_append, List.length_take, List.length_drop, List.length_replicate, brk_length]; omega
theorem shiftL_length {j k : Nat} {q : Pen} {cs : List Cell} (h : j + k ≤ cs.length) : (shiftL j k q cs).length = cs.length := by
 simp only [shiftL, List.length_append, List.length_take, List.length_drop, List.length_replicate, brk_length]; omega
section
variable {w0 w : World} {os : List Ob} {p cols : Nat} {L : List Ln}
set_option maxRecDepth 100000 in
set_option maxHeartbeats 4000000 in
theorem Clear_yes {i f t : Nat} {l : Ln} (q : Pen) (hT : Tabs w0) (hS : Objs w0 w (.grid p 83 cols L :: os)) (hc : 0 < cols) (hcm : cols ≤ 1000) (hl : L[i]? = some l) (hrow : l.1.length = cols) (hq : q.ok = true) (hft : f < t) (ht : t ≤ cols) :
  Calls Tryd.prog 66 #[.pointer (some ⟨p, 0, none⟩), .int .i64 i, .int .i64 f, .int .i64 t, .agg (pv q)] w fun e w' => e = .returned (.int .i64 0) ∧ Objs w0 w' (.grid p 83 cols (L.set i (clearC f t q l.1, l.2)) :: os) := by
 have S := Lib.hid hS
 have hi : i < L.length := (List.getElem?_eq_some_iff.1 hl).1
 have HL := Lib.hid hl
 have HT := Lib.hid hT
 have HQ := Lib.hid hq
 have HROW := Lib.hid hrow
 have hlr : l.1.length ≤ 1000 := by omega
 have hlr2 : cols ≤ l.1.length := by omega
 have hlr3 : l.1.length ≤ cols := by omega
 have HE := Lib.hid (show thereE i L = 0 by unfold thereE; rw [if_pos ⟨by omega, by omega⟩])
 have HP := Lib.hid (show clearC f t q l.1 = wipeC f (t - f) q (brk t (brk f l.1)) from if_pos hft)
 clear hS hT hl hrow hq
 go_enter Tryd.func66, Tryd.ntmps66
 go_wp2_with fail
 refine (there_any i S.out.alloc1 (k := 1) rfl hc).mono ?_
 rw [HE.out]
 rintro e w1 ⟨rfl, hS⟩
 have S1 := Lib.hid hS
 obtain ⟨A0, c0, hB0, -, -⟩ := hS.gridRd (k := 1) rfl
 obtain ⟨hx0, hf0, hz0⟩ := hB0.facts
 obtain ⟨hx9, hf9, hz9, hp9⟩ := (hS.box (k := 0) rfl).pbox
 clear hS S hB0
 generalize w.heap.size = b9 at S1 hx9 hf9 hz9 hp9 ⊢
 go_wp2_with fail
 refine (inked_is HQ.out HT.out S1.out).mono ?_
 rintro e w2 ⟨rfl, hS⟩
 have S2 := Lib.hid hS
 clear hS hx0 hf0 hz0 hx9 hf9 hz9 hp9
 obtain ⟨v, b, hS3⟩ := S2.out.swap.openAt HL.out
 obtain ⟨A, c, rfl, hrd⟩ := hS3.cellsRd (k := 0) rfl
 have hnc : l.1.length ≤ c := hrd.1
 obtain ⟨g, rfl, -, -, -, -⟩ := (hS3.own (k := 0) rfl).head (by omega)
 obtain ⟨gr, cr, rfl, h1, h2, h3, h4, h5, h6, h7⟩ := hS3.linesxRd (k := 1) rfl
 obtain ⟨hx2, hf2, hz2⟩ := (hS3.box (k := 2) rfl).facts
 have hlen2 : L.length ≤ 9223372036854775807 := by unfold maxLen at h2; omega
 have S3 := Lib.hid hS3
 clear hS3 h1 h2 h6 hrd
 go_wp2_with fail
 refine (split_at (c := f) S3.out rfl rfl (by omega) (by omega)).mono ?_
 rintro e w4 ⟨rfl, hS4⟩
 have S4 := Lib.hid hS4
 clear hS4 hx2 hf2 hz2 h4 h5 h7
 go_wp2_with fail
 refine (split_at (c := t) S4.out (by rw [brk_length]) rfl (by rw [brk_length]; omega) (by omega)).mono ?_
 rintro e w5 ⟨rfl, hS5⟩
 have S5 := Lib.hid hS5
 clear hS5
 go_upto_region 13 with (fail)
 refine wp_region_stage (w0 := w0) (os := os) (by kernel_rfl) (by kernel_rfl) (by kernel_rfl) [(0, 5, [], fun vs => .cells (.slice (some ⟨g, 0, none⟩) l.1.length c) (wipeC f (t - f) q (brk t (brk f l.1))))] [[], [], [], [], [3], [0]] [.cells (.slice (some ⟨g, 0, none⟩) l.1.length c) (brk t (brk f l.1)), .linesx (.slice (some ⟨gr, 0, none⟩) L.length cr) L i (.slice (some ⟨g, 0, none⟩) l.1.length c), .box p 83 #[.int .i64 ↑cols, .slice (some ⟨gr, 0, none⟩) L.length cr], .box b9 29 (pv q)] (fun i u => match i with | 0 => u = .slice (some ⟨g, 0, none⟩) l.1.length c | 1 => u = .int .i64 ↑f | 2 => u = .int .i64 ↑t | 3 => u = .slice (some ⟨g, f * 16, none⟩) (t - f) (c - f) | 4 => u = .agg (pv q) | 5 => u = .tuple #[] | _ => True) (fun vs => [.cells (.slice (some ⟨g, 0, none⟩) l.1.length c) (wipeC f (t - f) q (brk t (brk f l.1))), .linesx (.slice (some ⟨gr, 0, none⟩) L.length cr) L i (.slice (some ⟨g, 0, none⟩) l.1.length c), .box p 83 #[.int .i64 ↑cols, .slice (some ⟨gr, 0, none⟩) L.length cr], .box b9 29 (pv q)]) (by kernel_rfl) (fun vs => by rfl) S5.out ?_ ?_
 ·apply sc
  ·intro a w' vs σ hS hl hs hk
   have f12 : a.tmps[12]?.getD undef = .slice (some ⟨g, 0, none⟩) l.1.length c := sof hk
   exact rp (.slice (some ⟨g, 0, none⟩) l.1.length c) (by simp [execOp, Act.eval, f12, go_sem]) hl hs hS
  apply sc
  ·intro a w' vs σ hS hl hs hk
   have f2 : a.tmps[2]?.getD undef = .int .i64 ↑f := sof hk
   exact rp (.int .i64 ↑f) (by simp [execOp, Act.eval, f2, go_sem]) hl hs hS
  apply sc
  ·intro a w' vs σ hS hl hs hk
   have f3 : a.tmps[3]?.getD undef = .int .i64 ↑t := sof hk
   exact rp (.int .i64 ↑t) (by simp [execOp, Act.eval, f3, go_sem]) hl hs hS
  apply sc
  ·intro a w' vs σ hS hl hs hk
   have f58 : a.tmps[58]?.getD undef = .slice (some ⟨g, 0, none⟩) l.1.length c := svf hk 0
   have f59 : a.tmps[59]?.getD undef = .int .i64 ↑f := svf hk 1
   have f60 : a.tmps[60]?.getD undef = .int .i64 ↑t := svf hk 2
   exact rs_run (wanted_none rfl) (exec_slice rfl (by simp [Act.eval, f58, f59, f60]) (by simp [Act.eval, f58, f59, f60]; try rfl) (by simp [Act.eval, f58, f59, f60]; try rfl) (run_mid w' g l.1.length c f t (by omega) (by omega) (by omega) (by omega) (by omega))) (sp_same (by kernel_rfl) hl hs hS (show (.slice (some ⟨g, f * 16, none⟩) (t - f) (c - f) : Value) = _ from rfl))
  apply sc
  ·intro a w' vs σ hS hl hs hk
   have f9 : a.tmps[9]?.getD undef = .pointer (some ⟨b9, 0, none⟩) := sof hk
   have hx := (hS.box (sg (hs 3 (by decide)))).penAt
   exact rp (.agg (pv q)) (by simp [execOp, Act.eval, f9, go_sem, hx]) hl hs hS
  apply sc
  ·intro a w' vs σ hS hl hs hk
   have e61 : a.tmps.getD 61 undef = .slice (some ⟨g, f * 16, none⟩) (t - f) (c - f) := svv hk 3
   have e62 : a.tmps.getD 62 undef = .agg (pv q) := svv hk 4
   have h0 : σ[0]? = some (.cells (.slice (some ⟨g, 0, none⟩) l.1.length c) (brk t (brk f l.1))) := hs 0 (by decide)
   exact ro_call (f := 85) (wanted_none rfl) rfl (by simp only [List.map_toArray, List.map_cons, List.map_nil, Act.eval, e61, e62] <;> rfl) (fun _ _ => by kernel_rfl) ((front_call hS (sg h0) (fun os1 h => wipe_front g l.1.length c (f) (t - f) (c - f) (brk t (brk f l.1)) q w0 w' os1 h (by rw [brk_length, brk_length]; omega) (by omega) (by rw [brk_length, brk_length]; omega))).mono fun e w2 ⟨h1, h2⟩ => ⟨_, h1, sp_set 0 _ (by kernel_rfl) (by simp) (by decide) hl hs (by rfl) h2 rfl, trivial⟩)
  exact SSteps.nil
 ·intro vs w' hS hv
  have q0 : vs 0 = _ := hv 0 (by decide)
  have q1 : vs 1 = _ := hv 1 (by decide)
  have q2 : vs 2 = _ := hv 2 (by decide)
  have q3 : vs 3 = _ := hv 3 (by decide)
  have q4 : vs 4 = _ := hv 4 (by decide)
  have q5 : vs 5 = _ := hv 5 (by decide)
  have S2 := Lib.hid hS
  simp only [putL, Act.put, Nat.zero_add, Nat.reduceAdd, List.setIfInBounds_toArray, List.set_cons_succ, List.set_cons_zero, q0, q1, q2, q3, q4, q5]
  clear hS hv q0 q1 q2 q3 q4 q5
  have HF := (show Objs w0 w' (_ :: _ :: _ :: _ :: os) from S2.out).closeAt HL.out
  rw [← HP.out] at HF
  go_wp2_with fail
  go_ret
  exact ⟨rfl, HF.drop2⟩
set_option maxRecDepth 100000 in
set_option maxHeartbeats 1000000 in
theorem Clear_none {row f t : Int} (q : Pen) (hT : Tabs w0) (hS : Objs w0 w (.grid p 83 cols L :: os)) (hc : 0 < cols) (hcm : cols ≤ 1000) (hin : 0 ≤ row ∧ row < L.length) (hft : 0 ≤ f ∧ f = t ∧ t ≤ cols) (hq : q.ok = true) :
  Calls Tryd.prog 66 #[.pointer (some ⟨p, 0, none⟩), .int .i64 row, .int .i64 f, .int .i64 t, .agg (pv q)] w fun e w' => e = .returned (.int .i64 0) ∧ Objs w0 w' (.grid p 83 cols L :: os) := by
 have S := Lib.hid hS
 have HT := Lib.hid hT
 have HE := Lib.hid (show thereE row L = 0 by unfold thereE; rw [if_pos hin])
 clear hin
 have HQ := Lib.hid hq
 obtain ⟨hf, rfl, hft⟩ := hft
 clear hq
 clear hS hT
 go_enter Tryd.func66, Tryd.ntmps66
 go_wp2_with fail
 refine (there_any row S.out.alloc1 (k := 1) rfl hc).mono ?_
 rw [HE.out]
 rintro e w1 ⟨rfl, hS⟩
 have S1 := Lib.hid hS
 obtain ⟨A0, c0, hB0, -, -⟩ := hS.gridRd (k := 1) rfl
 obtain ⟨hx0, hf0, hz0⟩ := hB0.facts
 obtain ⟨hx9, hf9, hz9, hp9⟩ := (hS.box (k := 0) rfl).pbox
 clear hS S hB0
 generalize w.heap.size = b9 at S1 hx9 hf9 hz9 hp9 ⊢
 go_wp2_with fail
 refine (inked_is HQ.out HT.out S1.out).mono ?_
 rintro e w2 ⟨rfl, hS⟩
 have S2 := Lib.hid hS
 clear hS
 go_wp2_with fail
 go_ret
 exact ⟨rfl, S2.out.tail⟩
end
end Go.Proofs.YtdndoikgnohkkaaDoor

namespace Go.Proofs.YtdndoikgnohkkaaDoor
open Go.RowKit

@[go_sem] theorem run_fieldL (A : Option Addr) (n c : Nat) (b : Bool) (w : World) : (Instr.field 86 (.agg #[.slice A n c, .bool b]) 0).run Tryd.prog w = .ok (.slice A n c) w := by kernel_rfl
section
variable {w0 w : World} {os : List Ob} {p cols : Nat} {L : List Ln}
end
end Go.Proofs.YtdndoikgnohkkaaDoor

namespace Go.Proofs.YtdndoikgnohkkaaDoor
open Go.RowKit

section
variable {w0 w : World} {os : List Ob} {p cols : Nat} {L : List Ln}
set_option maxHeartbeats 1000000 in
theorem SetSoft_yes {i : Nat} {l : Ln} (s : Bool) (hS : Objs w0 w (.grid p 83 cols L :: os)) (hc : 0 < cols) (hl : L[i]? = some l) (hlen : L.length ≤ 1000000) :
  Calls Tryd.prog 26 #[.pointer (some ⟨p, 0, none⟩), .int .i64 i, .bool s] w fun e w' => e = .returned (.int .i64 0) ∧ Objs w0 w' (.grid p 83 cols (L.set i (l.1, s)) :: os) := by
 have S := Lib.hid hS
 have hi : i < L.length := (List.getElem?_eq_some_iff.1 hl).1
 have HL := Lib.hid hl
 have HE := Lib.hid (show thereE i L = 0 by unfold thereE; rw [if_pos ⟨by omega, by omega⟩])
 clear hS hl
 go_enter Tryd.func26, Tryd.ntmps26
 go_wp2_with fail
 refine (there_any i S.out (k := 0) rfl hc).mono ?_
 rw [HE.out]
 rintro e w1 ⟨rfl, hS⟩
 obtain ⟨v, hS1⟩ := hS.openGrid (k := 0) rfl
 obtain ⟨A, c, rfl, hcm, hrd⟩ := hS1.linesRd (k := 0) rfl
 obtain ⟨F, bs, hF, -⟩ := hS1.get (k := 0) rfl
 obtain ⟨A2, c2, e2, -, -, -, h4⟩ := hF.form
 simp only [Value.slice.injEq, true_and] at e2
 obtain ⟨rfl, rfl⟩ := e2
 obtain ⟨g, rfl, hz, -, hso, hfz⟩ := h4 (by omega)
 have hso2 := hso i l HL.out
 obtain ⟨hx0, hf0, hz0⟩ := (hS1.box (k := 1) rfl).facts
 have S2 := Lib.hid (((hS1.storeSoft (k := 0) (s := s) rfl HL.out) : Objs w0 _ (.lines _ _ :: _ :: os)).closeGrid (k := 0) rfl)
 clear hS hS1 S hcm hrd hF h4 hso
 go_wp2_with fail
 go_ret
 exact ⟨rfl, S2.out⟩
set_option maxHeartbeats 1000000 in
theorem SetSoft_no {row : Int} (s : Bool) (hS : Objs w0 w (.grid p 83 cols L :: os)) (hc : 0 < cols) (hno : ¬ (0 ≤ row ∧ row < L.length)) :
  Calls Tryd.prog 26 #[.pointer (some ⟨p, 0, none⟩), .int .i64 row, .bool s] w fun e w' => e = .returned (.int .i64 3) ∧ Objs w0 w' (.grid p 83 cols L :: os) := by
 have S := Lib.hid hS
 have HE := Lib.hid (show thereE row L = 3 by unfold thereE; rw [if_neg hno])
 clear hS hno
 go_enter Tryd.func26, Tryd.ntmps26
 go_wp2_with fail
 refine (there_any row S.out (k := 0) rfl hc).mono ?_
 rw [HE.out]
 rintro e w1 ⟨rfl, hS⟩
 have S1 := Lib.hid hS
 clear hS S
 go_wp2_with fail
 go_ret
 exact ⟨rfl, S1.out⟩
end
end Go.Proofs.YtdndoikgnohkkaaDoor

namespace Go.Proofs.YtdndoikgnohkkaaDoor
open Go.RowKit

def sndV : Value → Value
 | .agg a => a.getD 1 undef
 | v => v
section
variable {w0 w : World} {os : List Ob} {p cols : Nat} {L : List Ln}
set_option maxRecDepth 100000 in
set_option maxHeartbeats 2000000 in
theorem Copy_front (hS : Objs w0 w (.grid p 83 cols L :: os)) (hc : 0 < cols) (hn : ∀ l ∈ L, l.1.length ≤ 1000000) (hL : L.length ≤ 1000000) :
  Calls Tryd.prog 39 #[.pointer (some ⟨p, 0, none⟩)] w fun e w' => ∃ p2, e = .returned (.pointer (some ⟨p2, 0, none⟩)) ∧ Objs w0 w' (.grid p2 83 cols L :: .grid p 83 cols L :: os) := by
 have S := Lib.hid hS
 have HN := Lib.hid hn
 clear hS hn
 go_enter Tryd.func39, Tryd.ntmps39
 go_wp2_with fail
 refine (none_no S.out (k := 0) rfl hc).mono ?_
 rintro e w1 ⟨rfl, hS⟩
 have S1 := Lib.hid hS
 clear hS S
 go_upto_region 3 with (fail)
 refine wp_region_stage (w0 := w0) (os := os) (by kernel_rfl) (by kernel_rfl) (by kernel_rfl) [(0, 5, [5], fun vs => .lines (vs 5) L), (0, 6, [6], fun vs => .lines (sndV (vs 6)) L), (1, 7, [6, 7], fun vs => .box (blkOf (vs 7)) 83 #[.int .i64 ↑cols, sndV (vs 6)]), (1, 8, [6, 8], fun vs => .box (blkOf (vs 8)) 83 #[.int .i64 ↑cols, sndV (vs 6)])] [[], [], [], [2], [], [0, 2], [0], [1], [1]] [.none, .none, .grid p 83 ↑cols L] (fun i u => match i with | 0 => u = .pointer (some ⟨p, 0, none⟩) | 1 => u = .pointer (some ⟨p, 0, none⟩) | 2 => u = .pointer (some ⟨p, 0, none⟩) | 3 => u = .int .i64 ↑cols | 4 => u = .pointer (some ⟨p, 0, none⟩) | 5 => ∃ A n c, u = .slice A n c | 6 => ∃ A n c, u = .agg #[.int .i64 ↑cols, .slice A n c] | 7 => ∃ g, u = .pointer (some ⟨g, 0, none⟩) | 8 => ∃ g, u = .pointer (some ⟨g, 0, none⟩) | _ => True) (fun vs => [.lines (sndV (vs 6)) L, .box (blkOf (vs 8)) 83 #[.int .i64 ↑cols, sndV (vs 6)], .grid p 83 ↑cols L]) (by kernel_rfl) (fun vs => by rfl) S1.out.pad.pad ?_ ?_
 ·apply sc
  ·intro a w' vs σ hS hl hs hk
   have f0 : a.tmps[0]?.getD undef = .pointer (some ⟨p, 0, none⟩) := sof hk
   exact rp (pt p 0) (by simp [execOp, Act.eval, f0, go_sem]) hl hs hS
  apply sc
  ·intro a w' vs σ hS hl hs hk
   have f5 : a.tmps[5]?.getD undef = .pointer (some ⟨p, 0, none⟩) := svf hk 0
   exact rp (pt p 0) (by simp [execOp, Act.eval, f5, go_sem]) hl hs hS
  apply sc
  ·intro a w' vs σ hS hl hs hk
   have f6 : a.tmps[6]?.getD undef = .pointer (some ⟨p, 0, none⟩) := svf hk 1
   exact rp (pt p 0) (by simp [execOp, Act.eval, f6, go_sem]) hl hs hS
  apply sc
  ·intro a w' vs σ hS hl hs hk
   have f7 : a.tmps[7]?.getD undef = .pointer (some ⟨p, 0, none⟩) := svf hk 2
   obtain ⟨A1, c1, hB1, -, -⟩ := hS.gridRd (sg (hs 2 (by decide)))
   have hx := hB1.cell
   exact rp (.int .i64 ↑cols) (by simp [execOp, Act.eval, f7, go_sem, hx]) hl hs hS
  apply sc
  ·intro a w' vs σ hS hl hs hk
   have f0 : a.tmps[0]?.getD undef = .pointer (some ⟨p, 0, none⟩) := sof hk
   exact rp (pt p 0) (by simp [execOp, Act.eval, f0, go_sem]) hl hs hS
  apply sc
  ·intro a w' vs σ hS hl hs hk
   have e9 : a.tmps.getD 9 undef = .pointer (some ⟨p, 0, none⟩) := svv hk 4
   have h0 : σ[0]? = some .none := hs 0 (by decide)
   have h2 : σ[2]? = some (.grid p 83 ↑cols L) := hs 2 (by decide)
   exact ro_call (f := 40) (wanted_none rfl) rfl (by simp only [List.map_toArray, List.map_cons, List.map_nil, Act.eval, e9] <;> rfl) (fun _ _ => by kernel_rfl) ((Lines_any hS (sg h2) hc HN.out hL).mono fun e w2 ⟨x, h1, h2⟩ => ⟨_, h1, sp_set 0 (.lines x L) (by kernel_rfl) (by simp) (by decide) hl hs (by rfl) (h2.place (sg h0)) (by obtain ⟨A, c, e, -⟩ := h2.linesRd (k := 0) rfl; exact ⟨A, _, c, e⟩), trivial⟩)
  apply sc
  ·intro a w' vs σ hS hl hs hk
   have f8 : a.tmps[8]?.getD undef = .int .i64 ↑cols := svf hk 3
   have e10 : a.tmps.getD 10 undef = vs 5 := sk_val hk 5 (by kernel_rfl) rfl rfl
   have p10 : (fun u : Value => ∃ A n c, u = .slice A n c) (vs 5) := (hk.1 5 (by kernel_rfl)).1
   obtain ⟨A5, n5, c5, q5⟩ := p10
   have e9 := e10.trans q5
   have f9 := gd e9
   have h0 : σ[0]? = some (.lines (vs 5) L) := hs 0 (by decide)
   rw [q5] at h0
   have hSS : Objs w0 w' ((σ ++ os).set 0 (.lines (.slice A5 n5 c5) L)) := by rw [set_self (sg h0)]; exact hS
   exact rs_run (v' := .agg #[.int .i64 ↑cols, .slice A5 n5 c5]) (w' := w') (wanted_none rfl) (by simp [execOp, Act.eval, f8, e9, f9, go_sem]) (sp_set 0 (.lines (.slice A5 n5 c5) L) (by kernel_rfl) (by simp) (by decide) hl hs (by rfl) hSS ⟨A5, n5, c5, rfl⟩)
  apply sc
  ·intro a w' vs σ hS hl hs hk
   have e11 : a.tmps.getD 11 undef = vs 6 := sk_val hk 6 (by kernel_rfl) rfl rfl
   have p11 : (fun u : Value => ∃ A n c, u = .agg #[.int .i64 ↑cols, .slice A n c]) (vs 6) := (hk.1 6 (by kernel_rfl)).1
   obtain ⟨A6, n6, c6, q6⟩ := p11
   have e9 := e11.trans q6
   have f9 := gd e9
   have h1 : σ[1]? = some .none := hs 1 (by decide)
   exact rs_run (v' := .pointer (some ⟨w'.heap.size, 0, none⟩)) (w' := w'.alloc (.cells #[.int .i64 ↑cols, .slice A6 n6 c6] 83)) (wanted_none rfl) (by simp [execOp, Act.eval, e9, f9, go_sem]) (sp_set 1 (.box w'.heap.size 83 #[.int .i64 ↑cols, .slice A6 n6 c6]) (by kernel_rfl) (by simp) (by decide) hl hs (by show Ob.box (blkOf (.pointer (some ⟨w'.heap.size, 0, none⟩))) 83 #[.int .i64 ↑cols, sndV (vs 6)] = _; rw [q6]; rfl) (hS.alloc1.place (sg h1)) ⟨_, rfl⟩)
  apply sc
  ·intro a w' vs σ hS hl hs hk
   have e12 : a.tmps.getD 12 undef = vs 7 := sk_val hk 7 (by kernel_rfl) rfl rfl
   have p12 : (fun u : Value => ∃ g, u = .pointer (some ⟨g, 0, none⟩)) (vs 7) := (hk.1 7 (by kernel_rfl)).1
   obtain ⟨g7, q7⟩ := p12
   have e9 := e12.trans q7
   have f9 := gd e9
   have h1 : σ[1]? = some (.box (blkOf (vs 7)) 83 #[.int .i64 ↑cols, sndV (vs 6)]) := hs 1 (by decide)
   rw [q7, show blkOf (.pointer (some ⟨g7, 0, none⟩)) = g7 from rfl] at h1
   have hSS : Objs w0 w' ((σ ++ os).set 1 (.box g7 83 #[.int .i64 ↑cols, sndV (vs 6)])) := by rw [set_self (sg h1)]; exact hS
   exact rs_run (v' := .pointer (some ⟨g7, 0, none⟩)) (w' := w') (wanted_none rfl) (by simp [execOp, Act.eval, e9, f9, go_sem]) (sp_set 1 (.box g7 83 #[.int .i64 ↑cols, sndV (vs 6)]) (by kernel_rfl) (by simp) (by decide) hl hs (by rfl) hSS ⟨g7, rfl⟩)
  exact SSteps.nil
 ·intro vs w' hS hv
  have q0 : vs 0 = _ := hv 0 (by decide)
  have q1 : vs 1 = _ := hv 1 (by decide)
  have q2 : vs 2 = _ := hv 2 (by decide)
  have q3 : vs 3 = _ := hv 3 (by decide)
  have q4 : vs 4 = _ := hv 4 (by decide)
  obtain ⟨g8, q8⟩ := (show ∃ g, vs 8 = .pointer (some ⟨g, 0, none⟩) from hv 8 (by decide))
  rw [q8] at hS
  have S2 := Lib.hid hS
  simp only [putL, Act.put, Nat.zero_add, Nat.reduceAdd, List.setIfInBounds_toArray, List.set_cons_succ, List.set_cons_zero, q0, q1, q2, q3, q4]
  clear hS hv q0 q1 q2 q3 q4
  have HF := (show Objs w0 w' (.lines _ L :: .box g8 83 _ :: _ :: os) from S2.out).closeGrid (k := 0) rfl
  clear S2
  simp only [q8]
  go_wp2_with fail
  go_ret
  exact ⟨g8, rfl, HF⟩
end
end Go.Proofs.YtdndoikgnohkkaaDoor

namespace Go.Proofs.YtdndoikgnohkkaaDoor
open Go.RowKit

theorem tt_of {f : FuncId} {args : Array Value} {w : World} {b : Bool} (hc : Calls Tryd.prog f args w fun e w' => e = .returned (.bool b) ∧ Below w.heap.size w w') (h : b = true) : Calls Tryd.prog f args w fun e w' => e = .returned (.bool true) ∧ Below w.heap.size w w' := h ▸ hc
theorem ff_of {f : FuncId} {args : Array Value} {w : World} {b : Bool} (hc : Calls Tryd.prog f args w fun e w' => e = .returned (.bool b) ∧ Below w.heap.size w w') (h : b = false) : Calls Tryd.prog f args w fun e w' => e = .returned (.bool false) ∧ Below w.heap.size w w' := h ▸ hc
theorem upto_eqG {α : Type} {xs ys : List α} (hl : xs.length = ys.length) (h : ∀ k, k < xs.length → xs[k]? = ys[k]?) : xs = ys := by
 apply List.ext_getElem?
 intro k
 rcases Nat.lt_or_ge k xs.length with hk | hk
 ·exact h k hk
 ·rw [List.getElem?_eq_none hk, List.getElem?_eq_none (by omega)]
set_option maxHeartbeats 2000000 in
theorem r14SameLine_any (A B : Option Addr) (ca cb : Nat) (xs ys : List Cell) (s t : Bool) (w : World) (ha : RdC w A ca xs) (hb : RdC w B cb ys) (hn : xs.length ≤ 1000000) (hm : ys.length ≤ 1000000) :
  Calls Tryd.prog 75 #[.agg #[.slice A xs.length ca, .bool s], .agg #[.slice B ys.length cb, .bool t]] w fun e w' => e = .returned (.bool (eqL xs s ys t)) ∧ Below w.heap.size w w' := by
 have HA := Lib.hid ha
 have HB := Lib.hid hb
 clear ha hb
 have HD := Lib.hid (lineEq_dec xs ys s t)
 by_cases hst : s = t
 case neg =>
  have h' : (s == t) = false := by simpa using hst
  go_enter Tryd.func75, Tryd.ntmps75
  go_wp2_with fail
  go_ret
  exact ⟨by rw [HD.out]; simp [hst], (belA _ _).trans ((belA _ _).mono (by simp))⟩
 subst hst
 by_cases hl : xs.length = ys.length
 case neg =>
  have HE := Lib.hid (show decide (xs = ys) = false by simp; intro h; exact hl (by rw [h]))
  have hl' : ((xs.length : Int) == (ys.length : Int)) = false := by rw [beq_eq_false_iff_ne]; omega
  clear hl
  go_enter Tryd.func75, Tryd.ntmps75
  go_wp2_with fail
  go_ret
  exact ⟨by rw [HD.out, HE.out]; simp, (belA _ _).trans ((belA _ _).mono (by simp))⟩
 have hl' : ((xs.length : Int) == (ys.length : Int)) = true := by simp; omega
 have HL := Lib.hid hl
 clear hl
 go_enter Tryd.func75, Tryd.ntmps75
 go_wp2_with fail
 go_loopw [5] (fun i wr => ∃ k : Nat, k ≤ xs.length ∧ i = .int .i64 k ∧ (∀ j, j < k → xs[j]? = ys[j]?) ∧ Blk wr w.heap.size 86 #[.slice A xs.length ca, .bool s] ∧ Blk wr (w.heap.size + 1) 86 #[.slice B ys.length cb, .bool s] ∧ Below w.heap.size w wr) (fun i _ => xs.length - (intOf i).toNat)
 case atStart => exact ⟨0, by omega, rfl, fun j hj => by omega, (Blk.new _ _ _).alloc _, by have := Blk.new (w.alloc (.cells #[.slice A xs.length ca, .bool s] 86)) 86 #[.slice B ys.length cb, .bool s]; simpa using this, (belA _ _).trans ((belA _ _).mono (by simp))⟩
 case round =>
  obtain ⟨k, hk, rfl, hj, hk1, hk2, hb⟩ := hrel
  have HJ := Lib.hid hj
  have HW := Lib.hid hb
  have K1 := Lib.hid hk1
  have K2 := Lib.hid hk2
  obtain ⟨hx1, hf1, hz1⟩ := hk1.facts
  obtain ⟨hx2, hf2, hz2⟩ := hk2.facts
  clear hj hb hk1 hk2
  by_cases hlt : k < xs.length
  ·have hlt2 : k < ys.length := by have := HL.out; omega
   obtain ⟨b1, o1, rfl, hz3, hr1⟩ := (HA.out.bel HW.out).at_ hlt
   obtain ⟨b2, o2, rfl, hz4, hr2⟩ := (HB.out.bel HW.out).at_ hlt2
   have hc1 := elem_cell hr1 hlt
   have hc2 := elem_cell hr2 hlt2
   clear hr1 hr2
   by_cases he : xs[k] = ys[k]
   ·have he' : decide (xs[k] = ys[k]) = true := by simpa using he
    have HE := Lib.hid he
    clear he
    go_wp2_with fail
    refine wp_region_below (by kernel_rfl) (by kernel_rfl) ?_
    repeat (go_big_quiet_step (fail))
    refine wpQuiet_nil ?_
    intro w2 hb2
    have K12 := Lib.hid (K1.out.bel hb2)
    have K22 := Lib.hid (K2.out.bel hb2)
    clear hx1 hf1 hz1 hx2 hf2 hz2 hc1 hc2
    go_wp2_with fail
    go_roundw
    case rel => exact ⟨k + 1, by omega, by go_num, upto_succ HJ.out (by rw [List.getElem?_eq_getElem hlt, List.getElem?_eq_getElem hlt2, HE.out]), K12.out, K22.out, HW.out.trans (hb2.mono HW.out.size)⟩
    case measure => simp [intOf]; omega
   ·have he' : decide (xs[k] = ys[k]) = false := by simpa using he
    have HE := Lib.hid (show decide (xs = ys) = false by simp; rintro rfl; exact he rfl)
    clear he
    go_wp2_with fail
    refine wp_region_below (by kernel_rfl) (by kernel_rfl) ?_
    repeat (go_big_quiet_step (fail))
    refine wpQuiet_nil ?_
    intro w2 hb2
    clear hx1 hf1 hz1 hx2 hf2 hz2 hc1 hc2
    go_wp2_with fail
    go_ret
    exact ⟨by rw [HD.out, HE.out]; simp, HW.out.trans (hb2.mono HW.out.size)⟩
  ·have HE := Lib.hid (show decide (xs = ys) = true by simp; exact upto_eq HL.out (fun j hj => HJ.out j (by omega)))
   go_wp2_with fail
   go_ret
   exact ⟨by rw [HD.out, HE.out]; simp, HW.out⟩
theorem eqL_line (a b : Ln) : eqL a.1 a.2 b.1 b.2 = decide (a = b) := rfl
set_option maxHeartbeats 2000000 in
theorem r14SameLines_any (A B : Option Addr) (ca cb : Nat) (xs ys : List Ln) (w : World) (ha : RdL w A ca xs) (hb : RdL w B cb ys) (hn : xs.length ≤ 1000000) (hm : ys.length ≤ 1000000) (hx : ∀ l ∈ xs, l.1.length ≤ 1000000) (hy : ∀ l ∈ ys, l.1.length ≤ 1000000) :
  Calls Tryd.prog 50 #[.slice A xs.length ca, .slice B ys.length cb] w fun e w' => e = .returned (.bool (decide (xs = ys))) ∧ Below w.heap.size w w' := by
 have HA := Lib.hid ha
 have HB := Lib.hid hb
 have HX := Lib.hid hx
 have HY := Lib.hid hy
 clear ha hb hx hy
 by_cases hl : xs.length = ys.length
 case neg =>
  have HE := Lib.hid (show decide (xs = ys) = false by simp; intro h; exact hl (by rw [h]))
  have hl' : ((xs.length : Int) == (ys.length : Int)) = false := by rw [beq_eq_false_iff_ne]; omega
  clear hl
  go_enter Tryd.func50, Tryd.ntmps50
  go_wp2_with fail
  go_ret
  exact ⟨by rw [HE.out]; rfl, Below.refl _ _⟩
 have hl' : ((xs.length : Int) == (ys.length : Int)) = true := by simp; omega
 have HL := Lib.hid hl
 clear hl
 go_enter Tryd.func50, Tryd.ntmps50
 go_wp2_with fail
 go_loopw [5] (fun i wr => ∃ k : Nat, k ≤ xs.length ∧ i = .int .i64 k ∧ (∀ j, j < k → xs[j]? = ys[j]?) ∧ Below w.heap.size w wr) (fun i _ => xs.length - (intOf i).toNat)
 case atStart => exact ⟨0, by omega, rfl, fun j hj => by omega, Below.refl _ _⟩
 case round =>
  obtain ⟨k, hk, rfl, hj, hb⟩ := hrel
  have HJ := Lib.hid hj
  have HW := Lib.hid hb
  clear hj hb
  by_cases hlt : k < xs.length
  ·have hlt2 : k < ys.length := by have := HL.out; omega
   obtain ⟨b1, o1, A1, c1, rfl, hz1, hc1, hc2, hr1⟩ := (HA.out.bel HW.out).at_ (show xs[k]? = some xs[k] by simp [hlt])
   obtain ⟨b2, o2, A2, c2, rfl, hz2, hc3, hc4, hr2⟩ := (HB.out.bel HW.out).at_ (show ys[k]? = some ys[k] by simp [hlt2])
   have HR1 := Lib.hid hr1
   have HR2 := Lib.hid hr2
   clear hr1 hr2
   have HN1 := Lib.hid (HX.out _ (List.getElem_mem hlt))
   have HN2 := Lib.hid (HY.out _ (List.getElem_mem hlt2))
   by_cases he : xs[k] = ys[k]
   ·have HE := Lib.hid he
    have HQ := Lib.hid (show eqL xs[k].1 xs[k].2 ys[k].1 ys[k].2 = true by rw [eqL_line]; simpa using he)
    clear he
    go_wp2_with fail
    refine wp_region_below (by kernel_rfl) (by kernel_rfl) ?_
    repeat (go_big_quiet_step ((go_at_call 75; exact quiet_below (tt_of (r14SameLine_any A1 A2 c1 c2 xs[k].1 ys[k].1 xs[k].2 ys[k].2 _ (HR1.out.bel (below_plus _ _)) (HR2.out.bel (below_plus _ _)) HN1.out HN2.out) HQ.out))))
    refine wpQuiet_nil ?_
    intro w2 hb2
    clear hc1 hc2 hc3 hc4
    go_wp2_with fail
    go_roundw
    case rel => exact ⟨k + 1, by omega, by go_num, upto_succ HJ.out (by rw [List.getElem?_eq_getElem hlt, List.getElem?_eq_getElem hlt2, HE.out]), HW.out.trans (hb2.mono HW.out.size)⟩
    case measure => simp [intOf]; omega
   ·have HE := Lib.hid (show decide (xs = ys) = false by simp; rintro rfl; exact he rfl)
    have HQ := Lib.hid (show eqL xs[k].1 xs[k].2 ys[k].1 ys[k].2 = false by rw [eqL_line]; simpa using he)
    clear he
    go_wp2_with fail
    refine wp_region_below (by kernel_rfl) (by kernel_rfl) ?_
    repeat (go_big_quiet_step ((go_at_call 75; exact quiet_below (ff_of (r14SameLine_any A1 A2 c1 c2 xs[k].1 ys[k].1 xs[k].2 ys[k].2 _ (HR1.out.bel (below_plus _ _)) (HR2.out.bel (below_plus _ _)) HN1.out HN2.out) HQ.out))))
    refine wpQuiet_nil ?_
    intro w2 hb2
    clear hc1 hc2 hc3 hc4
    go_wp2_with fail
    go_ret
    exact ⟨by rw [HE.out]; rfl, HW.out.trans (hb2.mono HW.out.size)⟩
  ·have HE := Lib.hid (show decide (xs = ys) = true by simp; exact upto_eqG HL.out (fun j hj => HJ.out j (by omega)))
   go_wp2_with fail
   go_ret
   exact ⟨by rw [HE.out]; rfl, HW.out⟩
end Go.Proofs.YtdndoikgnohkkaaDoor

namespace Go.Proofs.YtdndoikgnohkkaaDoor
open Go.RowKit

end Go.Proofs.YtdndoikgnohkkaaDoor

namespace Go.Proofs.YtdndoikgnohkkaaDoor
open Go.RowKit

section
variable {w0 w : World} {os : List Ob}
end
end Go.Proofs.YtdndoikgnohkkaaDoor

namespace Go.Proofs.YtdndoikgnohkkaaDoor
open Go.RowKit

def rowMod (i : Nat) (f : List Cell → List Cell) (L : List Ln) : List Ln := match L[i]? with | some l => L.set i (f l.1, l.2) | none => L
def softMod (i : Nat) (s : Bool) (L : List Ln) : List Ln := match L[i]? with | some l => L.set i (l.1, s) | none => L
theorem rowMod_some {i : Nat} {f : List Cell → List Cell} {L : List Ln} {l : Ln} (h : L[i]? = some l) : rowMod i f L = L.set i (f l.1, l.2) := by unfold rowMod; rw [h]
theorem softMod_some {i : Nat} {s : Bool} {L : List Ln} {l : Ln} (h : L[i]? = some l) : softMod i s L = L.set i (l.1, s) := by unfold softMod; rw [h]
theorem rowMod_length (i : Nat) (f : List Cell → List Cell) (L : List Ln) : (rowMod i f L).length = L.length := by unfold rowMod; split <;> simp
theorem softMod_length (i : Nat) (s : Bool) (L : List Ln) : (softMod i s L).length = L.length := by unfold softMod; split <;> simp
theorem rect_set {n i : Nat} {L : List Ln} {l : Ln} (h : Rect n L) (hl : l.1.length = n) : Rect n (L.set i l) := fun x hx => by
 rcases List.mem_or_eq_of_mem_set hx with h1 | rfl
 ·exact h x h1
 ·exact hl
theorem Rect.rowMod {n : Nat} {L : List Ln} (h : Rect n L) (i : Nat) {f : List Cell → List Cell} (hf : ∀ cs : List Cell, cs.length = n → (f cs).length = n) : Rect n (rowMod i f L) := by
 unfold Proofs.YtdndoikgnohkkaaDoor.rowMod
 split
 ·rename_i l hl; exact rect_set h (hf _ (h.at_ hl))
 ·exact h
theorem Rect.softMod {n : Nat} {L : List Ln} (h : Rect n L) (i : Nat) (s : Bool) : Rect n (softMod i s L) := by
 unfold Proofs.YtdndoikgnohkkaaDoor.softMod
 split
 ·rename_i l hl; exact rect_set h (show l.1.length = n from h.at_ hl)
 ·exact h
theorem Rect.mill {n : Nat} {L : List Ln} (h : Rect n L) (hn : n ≤ 1000) : ∀ l ∈ L, l.1.length ≤ 1000000 := fun l hl => by rw [h l hl]; omega
theorem get_of {α : Type} {L : List α} {i : Nat} (h : i < L.length) : ∃ l, L[i]? = some l := ⟨L[i], by simp [h]⟩
section
variable {w0 w : World} {os : List Ob} {k p cols : Nat} {L : List Ln}
theorem PutG {i j : Nat} (x : Cell) (hT : Tabs w0) (hS : Objs w0 w os) (hk : os[k]? = some (.grid p 83 cols L)) (hcm : cols ≤ 1000) (hR : Rect cols L) (hi : i < L.length) (hv : x.ok = true) (hw : ¬ x.width = 0) (hfit : (j : Int) + x.width ≤ cols) :
  Calls Tryd.prog 44 #[.pointer (some ⟨p, 0, none⟩), .int .i64 i, .int .i64 j, .agg (cv x)] w fun e w' => e = .returned (.int .i64 0) ∧ Objs w0 w' (os.set k (.grid p 83 cols (rowMod i (putC j x) L))) := by
 obtain ⟨l, hl⟩ := get_of hi
 rw [rowMod_some hl]
 have hxw : 1 ≤ x.width := by rcases ok_w12 hv hw with h | h <;> omega
 exact front_call hS hk (fun os1 h => Put_yes x hT h (by omega) hcm hl (hR.at_ hl) hv hw hfit)
theorem r14PutG {i j : Nat} (x : Cell) (hS : Objs w0 w os) (hk : os[k]? = some (.grid p 106 cols L)) (hcm : cols ≤ 1000) (hR : Rect cols L) (hi : i < L.length) (hv : x.ok = true) (hw : ¬ x.width = 0) (hfit : (j : Int) + x.width ≤ cols) :
  Calls Tryd.prog 54 #[.pointer (some ⟨p, 0, none⟩), .int .i64 i, .int .i64 j, .agg (cv x)] w fun e w' => e = .returned (.tuple #[]) ∧ Objs w0 w' (os.set k (.grid p 106 cols (rowMod i (putC j x) L))) := by
 obtain ⟨l, hl⟩ := get_of hi
 rw [rowMod_some hl]
 have hxw : 1 ≤ x.width := by rcases ok_w12 hv hw with h | h <;> omega
 exact front_call hS hk (fun os1 h => r14Put_any x h (by omega) hcm hl (hR.at_ hl) hv hw hfit)
theorem SetSoftG {i : Nat} (s : Bool) (hS : Objs w0 w os) (hk : os[k]? = some (.grid p 83 cols L)) (hc : 0 < cols) (hi : i < L.length) (hlen : L.length ≤ 1000000) :
  Calls Tryd.prog 26 #[.pointer (some ⟨p, 0, none⟩), .int .i64 i, .bool s] w fun e w' => e = .returned (.int .i64 0) ∧ Objs w0 w' (os.set k (.grid p 83 cols (softMod i s L))) := by
 obtain ⟨l, hl⟩ := get_of hi
 rw [softMod_some hl]
 exact front_call hS hk (fun os1 h => SetSoft_yes s h hc hl hlen)
theorem ClearG {i f t : Nat} (q : Pen) (hT : Tabs w0) (hS : Objs w0 w os) (hk : os[k]? = some (.grid p 83 cols L)) (hc : 0 < cols) (hcm : cols ≤ 1000) (hR : Rect cols L) (hi : i < L.length) (hq : q.ok = true) (hft : f ≤ t) (ht : t ≤ cols) :
  Calls Tryd.prog 66 #[.pointer (some ⟨p, 0, none⟩), .int .i64 i, .int .i64 f, .int .i64 t, .agg (pv q)] w fun e w' => e = .returned (.int .i64 0) ∧ Objs w0 w' (os.set k (.grid p 83 cols (rowMod i (clearC f t q) L))) := by
 obtain ⟨l, hl⟩ := get_of hi
 rw [rowMod_some hl]
 rcases Nat.lt_or_ge f t with h1 | h1
 ·exact front_call hS hk (fun os1 h => Clear_yes q hT h hc hcm hl (hR.at_ hl) hq h1 ht)
 ·have e : clearC f t q l.1 = l.1 := by unfold clearC; rw [if_neg (by omega)]
  rw [e, set_self hl]
  exact front_call hS hk (fun os1 h => Clear_none q hT h hc hcm (by omega) (by omega) hq)
theorem CopyG (hS : Objs w0 w os) (hk : os[k]? = some (.grid p 83 cols L)) (hc : 0 < cols) (hcm : cols ≤ 1000) (hR : Rect cols L) (hL : L.length ≤ 1000000) :
  Calls Tryd.prog 39 #[.pointer (some ⟨p, 0, none⟩)] w fun e w' => ∃ p2, e = .returned (.pointer (some ⟨p2, 0, none⟩)) ∧ Objs w0 w' (.grid p2 83 cols L :: os) := by
 have hS2 := hS.lift hk
 refine (Copy_front hS2 hc (hR.mill hcm) hL).mono ?_
 rintro e w' ⟨p2, rfl, h⟩
 have h2 := h.lowerNew hk
 rw [set_self hk] at h2
 exact ⟨p2, rfl, h2⟩
end
end Go.Proofs.YtdndoikgnohkkaaDoor

namespace Go.Proofs.YtdndoikgnohkkaaDoor
open Go.RowKit

abbrev Tr := Value × Ln
section
variable {w0 w : World} {os : List Ob}
end
end Go.Proofs.YtdndoikgnohkkaaDoor

namespace Go.Proofs.YtdndoikgnohkkaaDoor
open Go.RowKit

section
variable {w0 w : World} {os : List Ob} {v : Value} {hp : List (Value × Bool)}
end
end Go.Proofs.YtdndoikgnohkkaaDoor

namespace Go.Proofs.YtdndoikgnohkkaaDoor
open Go.RowKit

def rollK (n : Int) (many : Nat) : Nat := if -(many : Int) < n ∧ n < many then n.natAbs else many
theorem rollK_le (n : Int) (many : Nat) : rollK n many ≤ many := by unfold rollK; split <;> omega
def lastHard (S : List Ln) : List Ln := softMod (S.length - 1) false S
theorem lastHard_length (S : List Ln) : (lastHard S).length = S.length := softMod_length _ _ _
def rollIn (top bot : Nat) (L : List Ln) : List Ln := (L.drop top).take (bot + 1 - top)
def rollStay (top bot : Nat) (n : Int) (L : List Ln) : List Ln :=
 if 0 < n then (rollIn top bot L).drop (rollK n (bot + 1 - top)) else (rollIn top bot L).take (bot + 1 - top - rollK n (bot + 1 - top))
def rollFresh (k cols : Nat) (q : Pen) : List Ln := List.replicate k (List.replicate cols (blank q), false)
def rollMid (top bot : Nat) (n : Int) (q : Pen) (cols : Nat) (L : List Ln) : List Ln :=
 if 0 < n then lastHard (rollStay top bot n L) ++ rollFresh (rollK n (bot + 1 - top)) cols q else rollFresh (rollK n (bot + 1 - top)) cols q ++ lastHard (rollStay top bot n L)
def topHard (top : Nat) (L : List Ln) : List Ln := if 0 < top then softMod (top - 1) false L else L
def rollL (top bot : Nat) (n : Int) (q : Pen) (cols : Nat) (L : List Ln) : List Ln :=
 if n = 0 then L else topHard top (L.take top ++ (rollMid top bot n q cols L ++ L.drop (bot + 1)))
theorem Rect.topHard {n : Nat} {L : List Ln} (h : Rect n L) (top : Nat) : Rect n (topHard top L) := by unfold Proofs.YtdndoikgnohkkaaDoor.topHard; split; exact h.softMod _ _; exact h
section
variable {top bot : Nat} {n : Int} {q : Pen} {cols : Nat} {L : List Ln}
theorem rollIn_length (h1 : top ≤ bot) (h2 : bot < L.length) : (rollIn top bot L).length = bot + 1 - top := by simp [rollIn]; omega
theorem rollStay_length (h1 : top ≤ bot) (h2 : bot < L.length) : (rollStay top bot n L).length = bot + 1 - top - rollK n (bot + 1 - top) := by
 have := rollK_le n (bot + 1 - top)
 unfold rollStay
 split <;> simp [rollIn_length h1 h2]
theorem rollMid_length (h1 : top ≤ bot) (h2 : bot < L.length) : (rollMid top bot n q cols L).length = bot + 1 - top := by
 have := rollK_le n (bot + 1 - top)
 unfold rollMid
 split <;> simp [lastHard_length, rollStay_length h1 h2, rollFresh] <;> omega
theorem Rect.part {n : Nat} {L : List Ln} (h : Rect n L) (a b : Nat) : Rect n ((L.drop a).take b) := fun l hl => h l (List.mem_of_mem_drop (List.mem_of_mem_take hl))
theorem Rect.app {n : Nat} {A B : List Ln} (h : Rect n A) (g : Rect n B) : Rect n (A ++ B) := fun l hl => (List.mem_append.1 hl).elim (h l) (g l)
theorem rect_fresh (k cols : Nat) (q : Pen) : Rect cols (rollFresh k cols q) := fun l hl => by rw [(List.mem_replicate.1 hl).2]; simp
theorem Rect.rollStay {cols : Nat} {L : List Ln} (h : Rect cols L) (top bot : Nat) (n : Int) : Rect cols (rollStay top bot n L) := by
 unfold Proofs.YtdndoikgnohkkaaDoor.rollStay
 split
 ·exact fun l hl => h.part _ _ l (List.mem_of_mem_drop hl)
 ·exact fun l hl => h.part _ _ l (List.mem_of_mem_take hl)
theorem Rect.rollL {L : List Ln} (h : Rect cols L) : Rect cols (rollL top bot n q cols L) := by
 unfold Proofs.YtdndoikgnohkkaaDoor.rollL
 split
 ·exact h
 ·refine Rect.topHard (Rect.app (fun l hl => h l (List.mem_of_mem_take hl)) (Rect.app ?_ (fun l hl => h l (List.mem_of_mem_drop hl)))) _
  unfold rollMid
  split
  ·exact ((h.rollStay _ _ _).softMod _ _).app (rect_fresh _ _ _)
  ·exact (rect_fresh _ _ _).app ((h.rollStay _ _ _).softMod _ _)
end
section
variable {w0 w : World} {os : List Ob}
end
section
variable {w0 w : World} {os : List Ob}
end
section
variable {T F : List Tr} {L : List Ln} {top bot k many cols : Nat} {n : Int} {q : Pen}
end
end Go.Proofs.YtdndoikgnohkkaaDoor

namespace Go.Proofs.YtdndoikgnohkkaaDoor
open Go.RowKit

section
variable {w0 w : World} {os : List Ob}
end
section
variable {w0 w : World} {os : List Ob} {p cols : Nat} {L : List Ln}
end
end Go.Proofs.YtdndoikgnohkkaaDoor

namespace Go.Proofs.YtdndoikgnohkkaaDoor
open Go.RowKit

section
variable {w0 w : World} {os : List Ob} {p cols : Nat} {L : List Ln}
end
end Go.Proofs.YtdndoikgnohkkaaDoor

namespace Go.Proofs.YtdndoikgnohkkaaDoor
open Go.RowKit

end Go.Proofs.YtdndoikgnohkkaaDoor

namespace Go.Proofs.YtdndoikgnohkkaaDoor
open Go.RowKit

theorem RdL.part {w : World} {b off c c' a m : Nat} {L : List Ln} (h : RdL w (some ⟨b, off, none⟩) c L) (ham : a + m ≤ L.length) (hm : m ≤ c') : RdL w (some ⟨b, off + a * 2, none⟩) c' ((L.drop a).take m) := by
 refine ⟨by simp; omega, (fun e => by cases e), fun hn => ?_⟩
 have hm0 : 0 < m := by simp at hn; omega
 obtain ⟨b', off', e, hz, hr⟩ := h.2.2 (by omega)
 cases e
 refine ⟨b, off + a * 2, rfl, hz, fun i l hl => ?_⟩
 rw [List.getElem?_take] at hl
 split at hl
 ·rw [List.getElem?_drop] at hl
  obtain ⟨A', c', h1, h2, h3⟩ := hr (a + i) l hl
  exact ⟨A', c', by rw [show off + a * 2 + i * 2 = off + (a + i) * 2 by omega]; exact h1, by rw [show off + a * 2 + i * 2 + 1 = off + (a + i) * 2 + 1 by omega]; exact h2, h3⟩
 ·cases hl
theorem RdL.empty (w : World) (ad : Addr) (c : Nat) : RdL w (some ad) c [] := ⟨by simp, (fun e => by cases e), fun h => by simp at h⟩
section
variable {w0 w : World} {os : List Ob} {v : Value} {hp : List (Value × Bool)}
end
section
variable {T Ts Tf : List Tr} {L : List Ln} {top bot k many cols : Nat} {n : Int} {q : Pen}
end
end Go.Proofs.YtdndoikgnohkkaaDoor

namespace Go.Proofs.YtdndoikgnohkkaaDoor
open Go.RowKit

section
variable {w0 w : World} {os : List Ob}
end
section
variable {w0 w : World} {os : List Ob} {x cols : Nat} {L : List Ln}
end
end Go.Proofs.YtdndoikgnohkkaaDoor

namespace Go.Proofs.YtdndoikgnohkkaaDoor
open Go.RowKit

section
variable {w0 w : World} {os : List Ob} {v : Value} {hp : List (Value × Bool)}
end
section
variable {w0 w : World} {os : List Ob} {x cols : Nat} {L : List Ln}
end
end Go.Proofs.YtdndoikgnohkkaaDoor

namespace Go.Proofs.YtdndoikgnohkkaaDoor
open Go.RowKit

def shiftN (j cols : Nat) (n : Int) (q : Pen) (cs : List Cell) : List Cell :=
 if n = 0 then cs else if 0 < n then shiftR j (min n ((cols - j : Nat) : Int)).toNat q cs else shiftL j (min (-n) ((cols - j : Nat) : Int)).toNat q cs
section
variable {w0 w : World} {os : List Ob} {k p cols : Nat} {L : List Ln}
end
end Go.Proofs.YtdndoikgnohkkaaDoor

namespace Go.Proofs.YtdndoikgnohkkaaDoor
open Go.RowKit

theorem cAt_set (cs : List Cell) (i j : Nat) (x : Cell) : cAt (cs.set i x) j = if i = j ∧ i < cs.length then x else cAt cs j := by
 unfold cAt
 simp only [List.getD_eq_getElem?_getD, List.getElem?_set]
 by_cases h : i = j
 ·subst h
  by_cases h2 : i < cs.length
  ·simp [h2]
  ·simp [h2]
 ·simp [h]
theorem cAt_brk (c : Nat) (cs : List Cell) (j : Nat) : cAt (brk c cs) j = if (1 ≤ c ∧ c < cs.length ∧ (cAt cs (c - 1)).width = 2) ∧ (j + 1 = c ∨ j = c) then blank (cAt cs j).pen else cAt cs j := by
 cases c with
 | zero => simp [brk]
 | succ m =>
  rw [brk_succ]
  by_cases h : m + 1 < cs.length ∧ (cAt cs m).width = 2
  ·rw [if_pos h, cAt_set, cAt_set]
   simp only [List.length_set, Nat.add_sub_cancel]
   by_cases h1 : m + 1 = j
   ·subst h1; simp [h.1, h.2]
   ·by_cases h2 : m = j
    ·subst h2; simp [h.2, show m < cs.length by omega, h.1]
    ·rw [if_neg (by omega), if_neg (by omega), if_neg (by omega)]
  ·rw [if_neg h, if_neg]
   simp only [Nat.add_sub_cancel]
   intro h2; exact h ⟨h2.1.2.1, h2.1.2.2⟩
theorem cAt_wipe {a m : Nat} {p : Pen} {cs : List Cell} (h : a + m ≤ cs.length) (j : Nat) : cAt (wipeC a m p cs) j = if a ≤ j ∧ j < a + m then blank p else cAt cs j := by
 unfold cAt wipeC
 simp only [List.getD_eq_getElem?_getD]
 by_cases h1 : j < a
 ·rw [if_neg (by omega), List.append_assoc, List.getElem?_append_left (by simp; omega), List.getElem?_take, if_pos h1]
 ·by_cases h2 : j < a + m
  ·rw [if_pos ⟨by omega, h2⟩, List.append_assoc, List.getElem?_append_right (by simp; omega), List.getElem?_append_left (by simp; omega)]
   simp [List.getElem?_replicate, show min a cs.length = a by omega, show j - a < m by omega]
  ·rw [if_neg (by omega), List.getElem?_append_right (by simp; omega), List.getElem?_drop]
   congr 2
   simp; omega
def lnMod (i : Nat) (F : Ln → Ln) (L : List Ln) : List Ln := match L[i]? with | some l => L.set i (F l) | none => L
theorem lnMod_get (i : Nat) (F : Ln → Ln) (L : List Ln) (r : Nat) : (lnMod i F L)[r]? = (L[r]?).map (fun l => if r = i then F l else l) := by
 unfold lnMod
 split
 ·rename_i l hl
  rw [List.getElem?_set]
  by_cases h : i = r
  ·subst h
   have hi := (List.getElem?_eq_some_iff.1 hl).1
   rw [if_pos rfl, if_pos hi, hl]
   simp
  ·rw [if_neg h]
   have h' : ¬ r = i := fun e => h e.symm
   simp [h']
 ·rename_i hl
  by_cases h : r = i
  ·subst h; rw [hl]; rfl
  ·simp [h]
theorem rowMod_is (i : Nat) (f : List Cell → List Cell) (L : List Ln) : rowMod i f L = lnMod i (fun l => (f l.1, l.2)) L := rfl
theorem softMod_is (i : Nat) (s : Bool) (L : List Ln) : softMod i s L = lnMod i (fun l => (l.1, s)) L := rfl
theorem Rect.lnMod {n : Nat} {L : List Ln} (h : Rect n L) (i : Nat) {F : Ln → Ln} (hF : ∀ l : Ln, l.1.length = n → (F l).1.length = n) : Rect n (lnMod i F L) := by
 unfold Proofs.YtdndoikgnohkkaaDoor.lnMod
 split
 ·rename_i l hl; exact rect_set h (hF _ (h.at_ hl))
 ·exact h
def otherRow (row : Nat) (k : Int) (n : Nat) : Prop := (n < row ∧ ¬ k = 0) ∨ (row < n ∧ ¬ k = 1)
instance (row : Nat) (k : Int) (n : Nat) : Decidable (otherRow row k n) := by unfold otherRow; infer_instance
section
variable {cols row col : Nat} {k : Int} {q : Pen} {L : List Ln}
end
end Go.Proofs.YtdndoikgnohkkaaDoor

namespace Go.Proofs.YtdndoikgnohkkaaDoor
open Go.RowKit

def hardIf (b : Prop) [Decidable b] (l : Ln) : Ln := if b then (l.1, false) else l
def freshLn (cols : Nat) (q : Pen) : Ln := (List.replicate cols (blank q), false)
theorem hardIf_no {b : Prop} [Decidable b] (h : ¬ b) : hardIf b = id := by funext l; simp [hardIf, h]
theorem softMod_get (i : Nat) (L : List Ln) (r : Nat) : (softMod i false L)[r]? = (L[r]?).map (hardIf (r = i)) := by
  rw [softMod_is, lnMod_get]; rfl
theorem rollFresh_get {k cols r : Nat} {q : Pen} (h : r < k) : (rollFresh k cols q)[r]? = some (freshLn cols q) := by simp [rollFresh, freshLn, h]
theorem rollFresh_len (k cols : Nat) (q : Pen) : (rollFresh k cols q).length = k := by simp [rollFresh]
def rollAt (top bot : Nat) (n : Int) (q : Pen) (cols : Nat) (L : List Ln) (r : Nat) : Option Ln :=
  if n = 0 then L[r]? else
  (if r < top ∨ bot < r then L[r]?
   else if 0 < n then (if r + rollK n (bot + 1 - top) ≤ bot then (L[r + rollK n (bot + 1 - top)]?).map (hardIf (r + rollK n (bot + 1 - top) = bot)) else some (freshLn cols q))
   else (if r < top + rollK n (bot + 1 - top) then some (freshLn cols q) else (L[r - rollK n (bot + 1 - top)]?).map (hardIf (r = bot)))).map (hardIf (0 < top ∧ r + 1 = top))
section
variable {top bot : Nat} {n : Int} {q : Pen} {cols : Nat} {L : List Ln}
theorem rollIn_get {r : Nat} (hr : r < bot + 1 - top) : (rollIn top bot L)[r]? = L[top + r]? := by
  unfold rollIn; rw [List.getElem?_take, if_pos hr, List.getElem?_drop]
theorem rollMid_get (htb : top ≤ bot) (hbl : bot < L.length) {r : Nat} (hr : r < bot + 1 - top) :
    (rollMid top bot n q cols L)[r]? = if 0 < n then (if r + rollK n (bot + 1 - top) ≤ bot - top then (L[top + r + rollK n (bot + 1 - top)]?).map (hardIf (r + rollK n (bot + 1 - top) = bot - top)) else some (freshLn cols q))
      else (if r < rollK n (bot + 1 - top) then some (freshLn cols q) else (L[top + r - rollK n (bot + 1 - top)]?).map (hardIf (r = bot - top))) := by
  have hK := rollK_le n (bot + 1 - top)
  have hSl := rollStay_length (n := n) htb hbl
  unfold rollMid
  by_cases h0 : 0 < n
  · rw [if_pos h0, if_pos h0]
    by_cases h1 : r + rollK n (bot + 1 - top) ≤ bot - top
    · rw [if_pos h1, List.getElem?_append_left (by rw [lastHard_length, hSl]; omega)]
      unfold lastHard
      rw [softMod_get, hSl]
      unfold rollStay
      rw [if_pos h0, List.getElem?_drop, rollIn_get (by omega), show top + (rollK n (bot + 1 - top) + r) = top + r + rollK n (bot + 1 - top) by omega]
      congr 1
      funext l
      unfold hardIf
      by_cases h2 : r + rollK n (bot + 1 - top) = bot - top
      · rw [if_pos (by omega), if_pos h2]
      · rw [if_neg (by omega), if_neg h2]
    · rw [if_neg h1, List.getElem?_append_right (by rw [lastHard_length, hSl]; omega), rollFresh_get (by rw [lastHard_length, hSl]; omega)]
  · rw [if_neg h0, if_neg h0]
    by_cases h1 : r < rollK n (bot + 1 - top)
    · rw [if_pos h1, List.getElem?_append_left (by rw [rollFresh_len]; exact h1), rollFresh_get h1]
    · rw [if_neg h1, List.getElem?_append_right (by rw [rollFresh_len]; omega), rollFresh_len]
      unfold lastHard
      rw [softMod_get, hSl]
      unfold rollStay
      rw [if_neg h0, List.getElem?_take, if_pos (by omega), rollIn_get (by omega), show top + (r - rollK n (bot + 1 - top)) = top + r - rollK n (bot + 1 - top) by omega]
      congr 1
      funext l
      unfold hardIf
      by_cases h2 : r = bot - top
      · rw [if_pos (by omega), if_pos h2]
      · rw [if_neg (by omega), if_neg h2]
theorem topHard_get (r : Nat) : (topHard top L)[r]? = (L[r]?).map (hardIf (0 < top ∧ r + 1 = top)) := by
  unfold topHard
  by_cases h : 0 < top
  · rw [if_pos h, softMod_get]
    congr 1
    funext l
    unfold hardIf
    by_cases h2 : r = top - 1
    · rw [if_pos h2, if_pos (by omega)]
    · rw [if_neg h2, if_neg (by omega)]
  · rw [if_neg h, hardIf_no (by omega)]; simp
theorem rollL_get (htb : top ≤ bot) (hbl : bot < L.length) (r : Nat) : (rollL top bot n q cols L)[r]? = rollAt top bot n q cols L r := by
  unfold rollL rollAt
  by_cases h0 : n = 0
  · rw [if_pos h0, if_pos h0]
  rw [if_neg h0, if_neg h0, topHard_get]
  congr 1
  have hM := rollMid_length (n := n) (q := q) (cols := cols) htb hbl
  by_cases h1 : r < top
  · rw [List.getElem?_append_left (by simp; omega), List.getElem?_take, if_pos h1, if_pos (.inl h1)]
  have hTl : (L.take top).length = top := by simp; omega
  rw [List.getElem?_append_right (by omega), hTl]
  by_cases h2 : bot < r
  · rw [List.getElem?_append_right (by omega), hM, List.getElem?_drop, if_pos (.inr h2), show bot + 1 + (r - top - (bot + 1 - top)) = r by omega]
  rw [List.getElem?_append_left (by omega), rollMid_get htb hbl (by omega), if_neg (by omega : ¬ (r < top ∨ bot < r))]
  by_cases h3 : 0 < n
  · rw [if_pos h3, if_pos h3]
    by_cases h4 : r + rollK n (bot + 1 - top) ≤ bot
    · rw [if_pos (by omega), if_pos h4, show top + (r - top) = r by omega]
      congr 1
      funext l
      unfold hardIf
      by_cases h5 : r + rollK n (bot + 1 - top) = bot
      · rw [if_pos (by omega), if_pos h5]
      · rw [if_neg (by omega), if_neg h5]
    · rw [if_neg (show ¬ r - top + rollK n (bot + 1 - top) ≤ bot - top by omega), if_neg h4]
  · rw [if_neg h3, if_neg h3]
    by_cases h4 : r < top + rollK n (bot + 1 - top)
    · rw [if_pos (show r - top < rollK n (bot + 1 - top) by omega), if_pos h4]
    · rw [if_neg (show ¬ r - top < rollK n (bot + 1 - top) by omega), if_neg h4, show top + (r - top) = r by omega]
      congr 1
      funext l
      unfold hardIf
      by_cases h5 : r = bot
      · rw [if_pos (by omega), if_pos h5]
      · rw [if_neg (by omega), if_neg h5]
theorem hardIf_fresh (a : Prop) [Decidable a] (cols : Nat) (q : Pen) : hardIf a (freshLn cols q) = freshLn cols q := by
  unfold hardIf freshLn; split <;> rfl
theorem rollAt_out (hn : ¬ n = 0) {r : Nat} (h : r < top ∨ bot < r) : rollAt top bot n q cols L r = (L[r]?).map (hardIf (0 < top ∧ r + 1 = top)) := by
  unfold rollAt; rw [if_neg hn, if_pos h]
theorem rollAt_up (hn : 0 < n) {r K : Nat} (hK : rollK n (bot + 1 - top) = K) (h : ¬ (r < top ∨ bot < r)) (h2 : r + K ≤ bot) : rollAt top bot n q cols L r = (L[r + K]?).map (hardIf (r + K = bot)) := by
  subst hK
  unfold rollAt
  rw [if_neg (show ¬ n = 0 by omega), if_neg h, if_pos hn, if_pos h2, hardIf_no (show ¬ (0 < top ∧ r + 1 = top) by omega), Option.map_id, id]
theorem rollAt_upf (hn : 0 < n) {r K : Nat} (hK : rollK n (bot + 1 - top) = K) (h : ¬ (r < top ∨ bot < r)) (h2 : ¬ r + K ≤ bot) : rollAt top bot n q cols L r = some (freshLn cols q) := by
  subst hK
  unfold rollAt
  rw [if_neg (show ¬ n = 0 by omega), if_neg h, if_pos hn, if_neg h2, Option.map_some, hardIf_fresh]
theorem rollAt_dnf (hn : n < 0) {r K : Nat} (hK : rollK n (bot + 1 - top) = K) (h : ¬ (r < top ∨ bot < r)) (h2 : r < top + K) : rollAt top bot n q cols L r = some (freshLn cols q) := by
  subst hK
  unfold rollAt
  rw [if_neg (show ¬ n = 0 by omega), if_neg h, if_neg (show ¬ 0 < n by omega), if_pos h2, Option.map_some, hardIf_fresh]
theorem rollAt_dn (hn : n < 0) {r K : Nat} (hK : rollK n (bot + 1 - top) = K) (h : ¬ (r < top ∨ bot < r)) (h2 : ¬ r < top + K) : rollAt top bot n q cols L r = (L[r - K]?).map (hardIf (r = bot)) := by
  subst hK
  unfold rollAt
  rw [if_neg (show ¬ n = 0 by omega), if_neg h, if_neg (show ¬ 0 < n by omega), if_neg h2, hardIf_no (show ¬ (0 < top ∧ r + 1 = top) by omega), Option.map_id, id]
end
end Go.Proofs.YtdndoikgnohkkaaDoor

namespace Go.Proofs.YtdndoikgnohkkaaDoor
open Go.RowKit

theorem brk_before {c : Nat} {cs : List Cell} (h1 : 1 ≤ c) (hc : c < cs.length) : ¬ (cAt (brk c cs) (c - 1)).width = 2 := by
 rw [cAt_brk]
 split
 ·simp [blank]
 ·rename_i h; intro h2; exact h ⟨⟨h1, hc, h2⟩, by omega⟩
section
variable {j k m : Nat} {q : Pen} {cs : List Cell}
theorem cAt_shiftR (h : j + k ≤ cs.length) {i : Nat} (hi : i < cs.length) : cAt (shiftR j k q cs) i = if i < j then cAt (brk (cs.length - k) (brk j cs)) i else if i < j + k then blank q else cAt (brk (cs.length - k) (brk j cs)) (i - k) := by
 obtain ⟨l, hl⟩ : ∃ l, l = brk (cs.length - k) (brk j cs) := ⟨_, rfl⟩
 have hll : l.length = cs.length := by rw [hl, brk_length, brk_length]
 unfold shiftR
 simp only [← hl]
 have ht : (l.take j).length = j := by simp; omega
 unfold cAt
 simp only [List.getD_eq_getElem?_getD]
 by_cases h1 : i < j
 ·rw [if_pos h1, List.getElem?_append_left (by omega), List.getElem?_take, if_pos h1]
 ·rw [if_neg h1, List.getElem?_append_right (by omega), ht]
  by_cases h2 : i < j + k
  ·rw [if_pos h2, List.getElem?_append_left (by simp; omega)]
   simp [List.getElem?_replicate, show i - j < k by omega]
  ·rw [if_neg h2, List.getElem?_append_right (by simp; omega), List.length_replicate, List.getElem?_take, if_pos (by omega), List.getElem?_drop, show j + (i - j - k) = i - k by omega]
theorem cAt_shiftL (h : j + k ≤ cs.length) {i : Nat} (hi : i < cs.length) : cAt (shiftL j k q cs) i = if i < j then cAt (brk (j + k) (brk j cs)) i else if i < cs.length - k then cAt (brk (j + k) (brk j cs)) (i + k) else blank q := by
 obtain ⟨l, hl⟩ : ∃ l, l = brk (j + k) (brk j cs) := ⟨_, rfl⟩
 have hll : l.length = cs.length := by rw [hl, brk_length, brk_length]
 unfold shiftL
 simp only [← hl]
 have ht : (l.take j).length = j := by simp; omega
 unfold cAt
 simp only [List.getD_eq_getElem?_getD]
 by_cases h1 : i < j
 ·rw [if_pos h1, List.getElem?_append_left (by omega), List.getElem?_take, if_pos h1]
 ·rw [if_neg h1, List.getElem?_append_right (by omega), ht]
  by_cases h2 : i < cs.length - k
  ·rw [if_pos h2, List.getElem?_append_left (by simp; omega), List.getElem?_drop, show j + k + (i - j) = i + k by omega]
  ·rw [if_neg h2, List.getElem?_append_right (by simp; omega)]
   simp [List.getElem?_replicate, show i - j - (l.length - (j + k)) < k by omega]
def W2 (cs : List Cell) : Prop := ∀ i, i + 1 < cs.length → (cAt cs i).width = 2 → ¬ (cAt cs (i + 1)).width = 2
theorem W2.brk {cs : List Cell} (h : W2 cs) (c : Nat) : W2 (brk c cs) := fun i hi h1 h2 => by
 rw [brk_length] at hi
 rw [cAt_brk] at h1 h2
 split at h1
 ·simp [blank] at h1
 ·split at h2
  ·simp [blank] at h2
  ·exact h i hi h1 h2
end
section
variable {j cols a b : Nat} {q : Pen} {cs : List Cell}
end
end Go.Proofs.YtdndoikgnohkkaaDoor

namespace Go.Proofs.YtdndoikgnohkkaaDoor
open Go.RowKit

section
variable {w0 w : World} {os : List Ob} {k p cols : Nat} {L : List Ln}
end
end Go.Proofs.YtdndoikgnohkkaaDoor

namespace Go.Proofs.YtdndoikgnohkkaaDoor
open Go.RowKit

section
variable {w0 w : World} {os : List Ob} {k p cols : Nat} {L : List Ln}
end
end Go.Proofs.YtdndoikgnohkkaaDoor

namespace Go.Proofs.YtdndoikgnohkkaaDoor
open Go.RowKit

section
variable {w0 w : World} {os : List Ob} {k p cols : Nat} {L : List Ln}
end
end Go.Proofs.YtdndoikgnohkkaaDoor

namespace Go.Proofs.YtdndoikgnohkkaaDoor
open Go.RowKit

section
variable {w0 w : World} {os : List Ob} {k p cols : Nat} {L : List Ln} {row col : Int} {pend : Bool}
def NoRows (w : World) (gp : Value) : Prop := ∀ w', Below w.heap.size w w' → Calls Tryd.prog 28 #[gp] w' fun e w2 => e = .returned (.int .i64 0) ∧ Below w'.heap.size w' w2
theorem NoRows.bel {gp : Value} {w' : World} (h : NoRows w gp) (hb : Below w.heap.size w w') : NoRows w' gp := fun w2 hb2 => h w2 (hb.trans (hb2.mono hb.size))
end
end Go.Proofs.YtdndoikgnohkkaaDoor

namespace Go.Proofs.YtdndoikgnohkkaaDoor
open Go.RowKit

structure Chg18 where
 g : Value
 row : Int
 col : Int
 pend : Bool
 top : Int
 bot : Int
 rows : Bool
 n : Int
 q : Pen
def ach (a : Chg18) : Array Value := #[a.g, .int .i64 a.row, .int .i64 a.col, .bool a.pend, .int .i64 a.top, .int .i64 a.bot, .bool a.rows, .int .i64 a.n, .int .i64 a.q.fk, .int .u8 a.q.fi, .int .u8 a.q.fr, .int .u8 a.q.fg, .int .u8 a.q.fb, .int .i64 a.q.bk, .int .u8 a.q.bi, .int .u8 a.q.br, .int .u8 a.q.bg, .int .u8 a.q.bb, .int .u8 a.q.fl]
@[go_sem] theorem ach_size (a : Chg18) : (ach a).size = 19 := by simp [ach]
@[simp high, go_sem high] theorem ach_get0 (a : Chg18) : (ach a)[0]? = some a.g := by simp [ach]
@[simp high, go_sem high] theorem ach_get1 (a : Chg18) : (ach a)[1]? = some (.int .i64 a.row) := by simp [ach]
@[simp high, go_sem high] theorem ach_get2 (a : Chg18) : (ach a)[2]? = some (.int .i64 a.col) := by simp [ach]
@[simp high, go_sem high] theorem ach_get3 (a : Chg18) : (ach a)[3]? = some (.bool a.pend) := by simp [ach]
@[simp high, go_sem high] theorem ach_get4 (a : Chg18) : (ach a)[4]? = some (.int .i64 a.top) := by simp [ach]
@[simp high, go_sem high] theorem ach_get5 (a : Chg18) : (ach a)[5]? = some (.int .i64 a.bot) := by simp [ach]
@[simp high, go_sem high] theorem ach_get6 (a : Chg18) : (ach a)[6]? = some (.bool a.rows) := by simp [ach]
@[simp high, go_sem high] theorem ach_get7 (a : Chg18) : (ach a)[7]? = some (.int .i64 a.n) := by simp [ach]
theorem ach_pen {w : World} {b o : Nat} {a : Chg18} (h : w.rangeAt b o (ach a).toList) : penAt w b (o + 8) = some a.q := penAt_of fun j v hv => by
 have := h (8 + j) v (by rw [← hv]; show ((ach a).toList)[8 + j]? = _; rw [← List.getElem?_drop]; rfl)
 rw [show o + 8 + j = o + (8 + j) by omega]; exact this
theorem Blk.ach_pen {w : World} {g : Nat} {t : TypeId} {a : Chg18} (h : Blk w g t (ach a)) : Proofs.YtdndoikgnohkkaaDoor.penAt w g 8 = some a.q := by have := Proofs.YtdndoikgnohkkaaDoor.ach_pen h.range; simpa using this
section
variable {w0 w : World} {os : List Ob} {k p cols : Nat} {L : List Ln}
end
end Go.Proofs.YtdndoikgnohkkaaDoor

namespace Go.Proofs.YtdndoikgnohkkaaDoor
open Go.RowKit

@[go_sem ↓] theorem load_ldR19 (a : Addr) : loadCellsFrom a 0 19 #[] = ldR a 19 := rfl
@[go_sem] theorem fill_ach (g : Value) (r c t b n : Int) (pe ro : Bool) (q : Pen) : Array.foldl (fun cs x => cs.setIfInBounds (8 + x.snd) x.fst) #[g, .int .i64 r, .int .i64 c, .bool pe, .int .i64 t, .int .i64 b, .bool ro, .int .i64 n, .int .i64 0, .int .u8 0, .int .u8 0, .int .u8 0, .int .u8 0, .int .i64 0, .int .u8 0, .int .u8 0, .int .u8 0, .int .u8 0, .int .u8 0] (pv q).zipIdx 0 11 = ach ⟨g, r, c, pe, t, b, ro, n, q⟩ := by kernel_rfl
theorem Blk.ach {w : World} {g : Nat} {t : TypeId} {a : Chg18} (h : Blk w g t (Proofs.YtdndoikgnohkkaaDoor.ach a)) : (∀ i, w.cell? ⟨g, i, none⟩ = (Proofs.YtdndoikgnohkkaaDoor.ach a)[i]?) ∧ (∀ i, w.frozen? ⟨g, i, none⟩ = false) ∧ g < w.heap.size ∧ Proofs.YtdndoikgnohkkaaDoor.recAt w g 0 19 = some (Proofs.YtdndoikgnohkkaaDoor.ach a) ∧ Proofs.YtdndoikgnohkkaaDoor.penAt w g 8 = some a.q :=
 ⟨h.cell, h.frozen, h.lt, h.recAt 19 (ach_size a), h.ach_pen⟩
def NoGrid (w : World) (gp : Value) : Prop := NoRows w gp ∧ ∀ w', Below w.heap.size w w' → Calls Tryd.prog 29 #[gp] w' fun e w2 => e = .returned (.int .i64 0) ∧ Below w'.heap.size w' w2
theorem NoGrid.bel {w w' : World} {gp : Value} (h : NoGrid w gp) (hb : Below w.heap.size w w') : NoGrid w' gp := ⟨h.1.bel hb, fun w2 hb2 => h.2 w2 (hb.trans (hb2.mono hb.size))⟩
section
variable {w0 w : World} {os : List Ob} {k p cols : Nat} {L : List Ln}
end
end Go.Proofs.YtdndoikgnohkkaaDoor

namespace Go.Proofs.YtdndoikgnohkkaaDoor
open Go.RowKit

theorem eqIn_cursor (a b c d : Int) (x y : Bool) (w : World) : (Op.equalIn 10000 23 (.agg #[.int .i64 a, .int .i64 b, .bool x]) (.agg #[.int .i64 c, .int .i64 d, .bool y])).run Tryd.prog w = .ok (decide (a = c ∧ b = d ∧ x = y)) w := by
 by_cases h0 : a = c
 case neg => simp [go_sem, h0]
 by_cases h1 : b = d
 case neg => simp [go_sem, h0, h1]
 cases x <;> cases y <;> simp [go_sem, h0, h1]
section
variable {w0 w : World} {os : List Ob} {k p cols : Nat} {L : List Ln}
end
end Go.Proofs.YtdndoikgnohkkaaDoor

namespace Go.Proofs.YtdndoikgnohkkaaDoor
open Go.RowKit

theorem loadVar_blk {P : Program} {w : World} {g : Nat} {t ty : TypeId} {cs : Array Value} {d : TypeDesc} (h : Blk w g t cs) (hu : P.underlying ty = some d) (hd : (match d with | .struct _ | .array _ _ => true | _ => false) = true) (hi : (P.info? ty).map (·.size) = some cs.size) : (loadVar ty ⟨g, 0, none⟩).run P w = .ok (.agg cs) w := by
 exact run_loadVar_row w g t ty cs (0, 0) d h hu hd hi
theorem results_cell2 {P : Program} {fn : Func} {p u : Tmp} {ty : TypeId} (h : fn.results = #[.cell p ty, .tmp u]) (tmps : Array Value) (w : World) (g : Nat) (t : TypeId) (cs : Array Value) (d : TypeDesc) (hp : tmps.getD p undef = .pointer (some ⟨g, 0, none⟩)) (hb : Blk w g t cs)
  (hu : P.underlying ty = some d) (hd : (match d with | .struct _ | .array _ _ => true | _ => false) = true) (hi : (P.info? ty).map (·.size) = some cs.size) : (results fn tmps).run P w = .ok (.tuple #[.agg cs, tmps.getD u undef]) w := by
 have hp' : tmps[p]?.getD undef = .pointer (some ⟨g, 0, none⟩) := by simpa using hp
 simp [results, h, hp', asAddr, loadVar_blk hb hu hd hi, Sem.run_bind, Result.andThen]
theorem results_cell3 {P : Program} {fn : Func} {p u v : Tmp} {ty : TypeId} (h : fn.results = #[.cell p ty, .tmp u, .tmp v]) (tmps : Array Value) (w : World) (g : Nat) (t : TypeId) (cs : Array Value) (d : TypeDesc) (hp : tmps.getD p undef = .pointer (some ⟨g, 0, none⟩)) (hb : Blk w g t cs)
  (hu : P.underlying ty = some d) (hd : (match d with | .struct _ | .array _ _ => true | _ => false) = true) (hi : (P.info? ty).map (·.size) = some cs.size) : (results fn tmps).run P w = .ok (.tuple #[.agg cs, tmps.getD u undef, tmps.getD v undef]) w := by
 have hp' : tmps[p]?.getD undef = .pointer (some ⟨g, 0, none⟩) := by simpa using hp
 simp [results, h, hp', asAddr, loadVar_blk hb hu hd hi, Sem.run_bind, Result.andThen]
section
variable {w0 w : World} {os : List Ob} {k p cols : Nat} {L : List Ln}
end
end Go.Proofs.YtdndoikgnohkkaaDoor

namespace Go.Proofs.YtdndoikgnohkkaaDoor
open Go.RowKit

section
variable {w0 w : World} {os : List Ob} {k p cols : Nat} {L : List Ln}
end
end Go.Proofs.YtdndoikgnohkkaaDoor

namespace Go.Proofs.YtdndoikgnohkkaaDoor
open Go.RowKit

section
variable {w0 w : World} {os : List Ob} {k p cols : Nat} {L : List Ln}
end
end Go.Proofs.YtdndoikgnohkkaaDoor

namespace Go.Proofs.YtdndoikgnohkkaaDoor
open Go.RowKit

@[go_sem ↓] theorem load_ldR18b (a : Addr) : loadCellsFrom a 0 18 #[] = ldR a 18 := rfl
attribute [go_sem high] eqIn_cursor
structure Act19 where
 what : Int
 n : Int
 top : Int
 bot : Int
 row : Int
 col : Int
 pend : Bool
 q : Pen
def av19 (a : Act19) : Array Value := #[.int .i64 a.what, .int .i64 a.n, .int .i64 a.top, .int .i64 a.bot, .int .i64 a.row, .int .i64 a.col, .bool a.pend, .int .i64 a.q.fk, .int .u8 a.q.fi, .int .u8 a.q.fr, .int .u8 a.q.fg, .int .u8 a.q.fb, .int .i64 a.q.bk, .int .u8 a.q.bi, .int .u8 a.q.br, .int .u8 a.q.bg, .int .u8 a.q.bb, .int .u8 a.q.fl]
@[go_sem] theorem av19_size (a : Act19) : (av19 a).size = 18 := by simp [av19]
@[simp high, go_sem high] theorem av19_get0 (a : Act19) : (av19 a)[0]? = some (.int .i64 a.what) := by simp [av19]
@[simp high, go_sem high] theorem av19_get1 (a : Act19) : (av19 a)[1]? = some (.int .i64 a.n) := by simp [av19]
@[simp high, go_sem high] theorem av19_get2 (a : Act19) : (av19 a)[2]? = some (.int .i64 a.top) := by simp [av19]
@[simp high, go_sem high] theorem av19_get3 (a : Act19) : (av19 a)[3]? = some (.int .i64 a.bot) := by simp [av19]
@[simp high, go_sem high] theorem av19_get4 (a : Act19) : (av19 a)[4]? = some (.int .i64 a.row) := by simp [av19]
@[simp high, go_sem high] theorem av19_get5 (a : Act19) : (av19 a)[5]? = some (.int .i64 a.col) := by simp [av19]
@[simp high, go_sem high] theorem av19_get6 (a : Act19) : (av19 a)[6]? = some (.bool a.pend) := by simp [av19]
@[go_sem] theorem av19_set0 (a : Act19) (n : Int) : (av19 a).setIfInBounds 0 (.int .i64 n) = av19 { a with what := n } := by simp [av19]
@[go_sem] theorem av19_set1 (a : Act19) (n : Int) : (av19 a).setIfInBounds 1 (.int .i64 n) = av19 { a with n := n } := by simp [av19]
end Go.Proofs.YtdndoikgnohkkaaDoor

namespace Go.Proofs.YtdndoikgnohkkaaDoor
open Go.RowKit

section
variable {w0 w : World} {os : List Ob}
set_option maxHeartbeats 1000000 in
theorem fit_yes (A : Option Addr) (c : Nat) (cs : List Cell) (s : Bool) (n : Nat) (hn : n ≤ 1000) (hT : Tabs w0) (hS : Objs w0 w os) (ha : RdC w A c cs) (hl : cs.length ≤ 100000) (hv : lineOk cs = true) :
  Calls Tryd.prog 45 #[.agg #[.slice A cs.length c, .bool s], .int .i64 n] w fun e w' => ∃ v, e = .returned (.tuple #[.agg #[v, .bool s], .int .i64 0]) ∧ Objs w0 w' (.cells v (fitTo n cs) :: os) := by
 have S := Lib.hid hS
 have HT := Lib.hid hT
 have HA := Lib.hid ha
 have HV := Lib.hid hv
 clear hS hT ha hv
 go_enter Tryd.func45, Tryd.ntmps45
 go_wp2_with fail
 refine (lvalid_is HV.out _ _ _ _ (S.out.alloc2.tabs HT.out) ((HA.out.alloc _).alloc _) (by omega)).mono ?_
 rintro e w1 ⟨rfl, hb⟩
 have S1 := Lib.hid (S.out.alloc2.bel hb)
 have HA1 := Lib.hid (((HA.out.alloc _).alloc _).bel hb)
 obtain ⟨hx2, hf2, hz2⟩ := (S1.out.box (k := 1) rfl).facts
 obtain ⟨hx4, hf4, hz4⟩ := (S1.out.box (k := 0) rfl).facts
 clear hb
 go_wp2_with fail
 refine (lineCopy_any A c cs s _ HA1.out (by omega)).mono ?_
 rintro e w2 ⟨v2, rfl, ho, hb⟩
 have S2 := Lib.hid (S1.out.newCells hb ho)
 obtain ⟨A2, c2, rfl, hr2⟩ := ho.form
 have HR2 := Lib.hid hr2
 clear ho hb hr2 hx2 hf2 hz2 hx4 hf4 hz4
 go_wp2_with fail
 refine (lineFit_yes A2 c2 cs s n hn _ (S2.out.tabs HT.out) HR2.out hl HV.out).mono ?_
 rintro e w3 ⟨v3, rfl, ho3, hb3⟩
 have S3 := Lib.hid (S2.out.newCells hb3 ho3)
 obtain ⟨A3, c3, rfl, -⟩ := ho3.form
 obtain ⟨hx4, hf4, hz4⟩ := (S3.out.box (k := 2) rfl).facts
 clear ho3 hb3
 go_wp2_with fail
 have S4 := S3.out.setLine 2 (.slice A3 (fitTo n cs).length c3) s rfl
 refine bodyPost_ret (results_ct Tryd.results45 _ _ (w.heap.size + 1) _ _ rfl (S4.box (k := 2) rfl) Tryd.underlying86 rfl line_size) rfl ?_
 exact ⟨_, rfl, ((S4.del 1).del 1).del 1⟩
set_option maxHeartbeats 1000000 in
theorem fit_no (A : Option Addr) (c : Nat) (cs : List Cell) (s : Bool) (n : Int) (hT : Tabs w0) (hS : Objs w0 w os) (ha : RdC w A c cs) (hl : cs.length ≤ 100000) (hv : lineOk cs = false) :
  Calls Tryd.prog 45 #[.agg #[.slice A cs.length c, .bool s], .int .i64 n] w fun e w' => e = .returned (.tuple #[.agg #[.slice none 0 0, .bool false], .int .i64 2]) ∧ Objs w0 w' os := by
 have S := Lib.hid hS
 have HT := Lib.hid hT
 have HA := Lib.hid ha
 have HV := Lib.hid hv
 clear hS hT ha hv
 go_enter Tryd.func45, Tryd.ntmps45
 go_wp2_with fail
 refine (lvalid_is HV.out _ _ _ _ (S.out.alloc2.tabs HT.out) ((HA.out.alloc _).alloc _) (by omega)).mono ?_
 rintro e w1 ⟨rfl, hb⟩
 have S1 := Lib.hid (S.out.alloc2.bel hb)
 obtain ⟨hx4, hf4, hz4⟩ := (S1.out.box (k := 0) rfl).facts
 clear hb
 go_wp2_with fail
 have S4 := S1.out.setLine 0 (.slice none 0 0) false rfl
 refine bodyPost_ret (results_ct Tryd.results45 _ _ (w.heap.size + 1) _ _ rfl (S4.box (k := 0) rfl) Tryd.underlying86 rfl line_size) rfl ?_
 exact ⟨rfl, S4.tail.tail⟩
end
end Go.Proofs.YtdndoikgnohkkaaDoor

namespace Go.Proofs.YtdndoikgnohkkaaDoor
open Go.RowKit

@[go_sem ↓] theorem load_ldR34 (a : Addr) : loadCellsFrom a 0 34 #[] = ldR a 34 := rfl
structure Act14 where
 what : Int
 row : Int
 a : Int
 b : Int
 n : Int
 x : Cell
 A : Option Addr
 c : Nat
 cs : List Cell
 soft : Bool
 q : Pen
def av14 (a : Act14) : Array Value := #[.int .i64 a.what, .int .i64 a.row, .int .i64 a.a, .int .i64 a.b, .int .i64 a.n, .int .i32 a.x.rune, .int .i32 a.x.m0, .int .i32 a.x.m1, .int .i32 a.x.m2, .int .i64 a.x.width, .int .i64 a.x.pen.fk, .int .u8 a.x.pen.fi, .int .u8 a.x.pen.fr, .int .u8 a.x.pen.fg, .int .u8 a.x.pen.fb, .int .i64 a.x.pen.bk, .int .u8 a.x.pen.bi, .int .u8 a.x.pen.br, .int .u8 a.x.pen.bg, .int .u8 a.x.pen.bb, .int .u8 a.x.pen.fl, .slice a.A a.cs.length a.c, .bool a.soft, .int .i64 a.q.fk, .int .u8 a.q.fi, .int .u8 a.q.fr, .int .u8 a.q.fg, .int .u8 a.q.fb, .int .i64 a.q.bk, .int .u8 a.q.bi, .int .u8 a.q.br, .int .u8 a.q.bg, .int .u8 a.q.bb, .int .u8 a.q.fl]
@[go_sem] theorem av14_size (a : Act14) : (av14 a).size = 34 := by simp [av14]
@[simp high, go_sem high] theorem av14_get0 (a : Act14) : (av14 a)[0]? = some (.int .i64 a.what) := by simp [av14]
@[simp high, go_sem high] theorem av14_get1 (a : Act14) : (av14 a)[1]? = some (.int .i64 a.row) := by simp [av14]
@[simp high, go_sem high] theorem av14_get2 (a : Act14) : (av14 a)[2]? = some (.int .i64 a.a) := by simp [av14]
@[simp high, go_sem high] theorem av14_get3 (a : Act14) : (av14 a)[3]? = some (.int .i64 a.b) := by simp [av14]
@[simp high, go_sem high] theorem av14_get4 (a : Act14) : (av14 a)[4]? = some (.int .i64 a.n) := by simp [av14]
@[simp high, go_sem high] theorem av14_get9 (a : Act14) : (av14 a)[9]? = some (.int .i64 a.x.width) := by simp [av14]
@[simp high, go_sem high] theorem av14_get21 (a : Act14) : (av14 a)[21]? = some (.slice a.A a.cs.length a.c) := by simp [av14]
@[simp high, go_sem high] theorem av14_get22 (a : Act14) : (av14 a)[22]? = some (.bool a.soft) := by simp [av14]
def here14 (row : Int) (R : Nat) : Bool := decide (0 ≤ row ∧ row < R)
def putE (row col : Int) (x : Cell) (cols R : Nat) : Int := if ¬ (here14 row R = true ∧ 0 ≤ col ∧ col < cols) then 3 else if ¬ (x.ok = true ∧ ¬ x.width = 0 ∧ col + x.width ≤ cols) then 2 else 0
def clrE (row f t : Int) (q : Pen) (cols R : Nat) : Int := if ¬ (here14 row R = true ∧ 0 ≤ f ∧ f ≤ t ∧ t ≤ cols) then 3 else if ¬ q.ok = true then 2 else 0
def shfE (row col : Int) (q : Pen) (cols R : Nat) : Int := if ¬ (here14 row R = true ∧ 0 ≤ col ∧ col < cols) then 3 else if ¬ q.ok = true then 2 else 0
def setE (row : Int) (cs : List Cell) (R : Nat) : Int := if ¬ here14 row R = true then 3 else if ¬ lineOk cs = true then 2 else 0
def rolE (top bot : Int) (q : Pen) (R : Nat) : Int := if ¬ (0 ≤ top ∧ top ≤ bot ∧ bot < R) then 3 else if ¬ q.ok = true then 2 else 0
def act14N (a : Act14) (cols : Nat) (L : List Ln) : List Ln :=
 if a.what = 0 then (if putE a.row a.a a.x cols L.length = 0 then rowMod a.row.toNat (putC a.a.toNat a.x) L else L)
 else if a.what = 1 then (if clrE a.row a.a a.b a.q cols L.length = 0 then rowMod a.row.toNat (clearC a.a.toNat a.b.toNat a.q) L else L)
 else if a.what = 2 then (if shfE a.row a.a a.q cols L.length = 0 then rowMod a.row.toNat (shiftN a.a.toNat cols a.b a.q) L else L)
 else if a.what = 3 then (if setE a.row a.cs L.length = 0 then L.set a.row.toNat (fitTo cols a.cs, a.soft) else L)
 else if a.what = 4 then (if here14 a.row L.length = true then softMod a.row.toNat (decide (0 < a.a)) L else L)
 else if a.what = 5 then (if rolE a.a a.b a.q L.length = 0 then rollL a.a.toNat a.b.toNat a.n a.q cols L else L)
 else L
theorem here14_nat {row : Int} {R : Nat} (h : here14 row R = true) : ∃ r : Nat, row = r ∧ r < R := by
 have := of_decide_eq_true h
 exact ⟨row.toNat, by omega, by omega⟩
theorem putE_yes {row col : Int} {x : Cell} {cols R : Nat} (h : putE row col x cols R = 0) : ∃ i j : Nat, row = i ∧ col = j ∧ i < R ∧ j < cols ∧ x.ok = true ∧ ¬ x.width = 0 ∧ (j : Int) + x.width ≤ cols := by
 unfold putE at h
 split at h
 ·cases h
 split at h
 ·cases h
 ·rename_i h1 h2
  have h1 := Classical.not_not.1 h1
  have h2 := Classical.not_not.1 h2
  obtain ⟨r, e, hr⟩ := here14_nat h1.1
  exact ⟨r, col.toNat, e, by omega, hr, by omega, h2.1, h2.2.1, by omega⟩
theorem clrE_yes {row f t : Int} {q : Pen} {cols R : Nat} (h : clrE row f t q cols R = 0) : ∃ i f' t' : Nat, row = i ∧ f = f' ∧ t = t' ∧ i < R ∧ f' ≤ t' ∧ t' ≤ cols ∧ q.ok = true := by
 unfold clrE at h
 split at h
 ·cases h
 split at h
 ·cases h
 ·rename_i h1 h2
  have h1 := Classical.not_not.1 h1
  have h2 := Classical.not_not.1 h2
  obtain ⟨r, e, hr⟩ := here14_nat h1.1
  exact ⟨r, f.toNat, t.toNat, e, by omega, by omega, hr, by omega, by omega, h2⟩
theorem shfE_yes {row col : Int} {q : Pen} {cols R : Nat} (h : shfE row col q cols R = 0) : ∃ i j : Nat, row = i ∧ col = j ∧ i < R ∧ j < cols ∧ q.ok = true := by
 unfold shfE at h
 split at h
 ·cases h
 split at h
 ·cases h
 ·rename_i h1 h2
  have h1 := Classical.not_not.1 h1
  have h2 := Classical.not_not.1 h2
  obtain ⟨r, e, hr⟩ := here14_nat h1.1
  exact ⟨r, col.toNat, e, by omega, hr, by omega, h2⟩
theorem setE_yes {row : Int} {cs : List Cell} {R : Nat} (h : setE row cs R = 0) : ∃ i : Nat, row = i ∧ i < R ∧ lineOk cs = true := by
 unfold setE at h
 split at h
 ·cases h
 split at h
 ·cases h
 ·rename_i h1 h2
  obtain ⟨r, e, hr⟩ := here14_nat (Classical.not_not.1 h1)
  exact ⟨r, e, hr, Classical.not_not.1 h2⟩
theorem rolE_yes {top bot : Int} {q : Pen} {R : Nat} (h : rolE top bot q R = 0) : ∃ t b : Nat, top = t ∧ bot = b ∧ t ≤ b ∧ b < R ∧ q.ok = true := by
 unfold rolE at h
 split at h
 ·cases h
 split at h
 ·cases h
 ·rename_i h1 h2
  have h1 := Classical.not_not.1 h1
  exact ⟨top.toNat, bot.toNat, by omega, by omega, by omega, by omega, Classical.not_not.1 h2⟩
end Go.Proofs.YtdndoikgnohkkaaDoor

namespace Go.Proofs.YtdndoikgnohkkaaDoor
open Go.RowKit

theorem no_call {P : Program} {f : FuncId} {args : Array Value} {k : Nat} {o : Ob} {r r2 : Value} {w0 w : World} {os : List Ob} (hr : r = r2) (hS : Objs w0 w os) (hk : os[k]? = some o)
  (hc : ∀ os1, Objs w0 w (o :: os1) → Calls P f args w fun e w' => e = .returned r ∧ Objs w0 w' (o :: os1)) : Calls P f args w fun e w' => e = .returned r2 ∧ Objs w0 w' os := by
 subst hr
 have h := front_call hS hk hc
 rwa [set_self hk] at h
section
variable {w0 w : World} {os : List Ob} {k p cols : Nat} {L : List Ln}
theorem PutN {row col : Int} (x : Cell) (hT : Tabs w0) (hS : Objs w0 w os) (hk : os[k]? = some (.grid p 83 cols L)) (hc : 0 < cols) (hcm : cols ≤ 1000) (hno : ¬ putE row col x cols L.length = 0) :
  Calls Tryd.prog 44 #[.pointer (some ⟨p, 0, none⟩), .int .i64 row, .int .i64 col, .agg (cv x)] w fun e w' => e = .returned (.int .i64 (putE row col x cols L.length)) ∧ Objs w0 w' os := by
 by_cases h1 : here14 row L.length = true ∧ 0 ≤ col ∧ col < cols
 case neg =>
  have e : putE row col x cols L.length = 3 := if_pos h1
  refine no_call (by rw [e]) hS hk (fun os1 h => Put_out row col x h hc (fun hh => h1 ⟨decide_eq_true hh.1, hh.2⟩))
 obtain ⟨i, rfl, hi⟩ := here14_nat h1.1
 obtain ⟨j, rfl⟩ : ∃ j : Nat, col = j := ⟨col.toNat, by omega⟩
 have hj : j < cols := by omega
 have hu : putE i j x cols L.length = if ¬ (x.ok = true ∧ ¬ x.width = 0 ∧ (j : Int) + x.width ≤ cols) then 2 else 0 := if_neg (Classical.not_not.2 h1)
 by_cases h2 : x.ok = true ∧ ¬ x.width = 0 ∧ (j : Int) + x.width ≤ cols
 ·exact (hno (hu.trans (if_neg (Classical.not_not.2 h2)))).elim
 have e : putE i j x cols L.length = 2 := hu.trans (if_pos h2)
 cases hv : x.ok with
 | false => exact no_call (by rw [e]) hS hk (fun os1 h => Put_bad1 x hT h hc hcm hi hj hv)
 | true =>
  by_cases hw : x.width = 0
  ·exact no_call (by rw [e]) hS hk (fun os1 h => Put_bad2 x hT h hc hcm hi hj hv hw)
  ·exact no_call (by rw [e]) hS hk (fun os1 h => Put_bad3 x hT h hc hcm hi hj hv hw (by
    have : ¬ ((j : Int) + x.width ≤ cols) := fun hh => h2 ⟨hv, hw, hh⟩
    omega))
theorem SetSoftN {row : Int} (s : Bool) (hS : Objs w0 w os) (hk : os[k]? = some (.grid p 83 cols L)) (hc : 0 < cols) (hno : here14 row L.length = false) :
  Calls Tryd.prog 26 #[.pointer (some ⟨p, 0, none⟩), .int .i64 row, .bool s] w fun e w' => e = .returned (.int .i64 3) ∧ Objs w0 w' os :=
 no_call rfl hS hk (fun os1 h => SetSoft_no s h hc (of_decide_eq_false hno))
end
end Go.Proofs.YtdndoikgnohkkaaDoor

namespace Go.Proofs.YtdndoikgnohkkaaDoor
open Go.RowKit

structure RowC (cs : List Cell) (k : Nat) : Prop where
 ok : (cAt cs k).ok = true
 zero : (cAt cs k).width = 0 ↔ 1 ≤ k ∧ (cAt cs (k - 1)).width = 2
 pen : 1 ≤ k → (cAt cs (k - 1)).width = 2 → (cAt cs k).pen = (cAt cs (k - 1)).pen
 last : (cAt cs k).width = 2 → k + 1 < cs.length
def RowV (cs : List Cell) : Prop := ∀ k, k < cs.length → RowC cs k
theorem behind_is (cs : List Cell) (k : Nat) : behindAt cs k = true ↔ 1 ≤ k ∧ (cAt cs (k - 1)).width = 2 := by
 cases k with
 | zero => simp [behindAt]
 | succ k => simp [behindAt]
theorem rowAt_is {cs : List Cell} {k : Nat} (hk : k < cs.length) : rowAt cs k = true ↔ RowC cs k := by
 have hb := behind_is cs k
 unfold rowAt
 constructor
 ·intro h
  simp only [Bool.and_eq_true, Bool.not_eq_true', Bool.or_eq_true, beq_iff_eq, decide_eq_true_eq] at h
  obtain ⟨⟨⟨h1, h2⟩, h3⟩, h4⟩ := h
  refine ⟨h1, ?_, ?_, ?_⟩
  ·rw [← hb, ← h2, decide_eq_true_eq]
  ·intro a b
   rcases h3 with h3 | h3
   ·have := hb.2 ⟨a, b⟩; rw [h3] at this; cases this
   ·exact h3
  ·intro a
   rcases Nat.lt_or_ge (k + 1) cs.length with h5 | h5
   ·exact h5
   ·have e : k + 1 = cs.length := by omega
    simp [a, e] at h4
 ·rintro ⟨h1, h2, h3, h4⟩
  simp only [Bool.and_eq_true, Bool.not_eq_true', Bool.or_eq_true, beq_iff_eq, decide_eq_true_eq]
  refine ⟨⟨⟨h1, ?_⟩, ?_⟩, ?_⟩
  ·rw [Bool.eq_iff_iff, decide_eq_true_eq, hb]; exact h2
  ·cases hbb : behindAt cs k with
   | false => exact .inl rfl
   | true => obtain ⟨a, b⟩ := hb.1 hbb; exact .inr (h3 a b)
  ·rw [Bool.and_eq_false_iff]
   by_cases a : (cAt cs k).width = 2
   ·exact .inr (by have := h4 a; simp; omega)
   ·exact .inl (by simpa using a)
theorem rowOk_is {cs : List Cell} : rowOk cs = true ↔ RowV cs := by
 constructor
 ·intro h k hk; exact (rowAt_is hk).1 (rowOk_at h hk)
 ·intro h; exact rowOk_yes fun k hk => (rowAt_is hk).2 (h k hk)
theorem ok_penV {c : Cell} (h : c.ok = true) : c.pen.ok = true := by unfold Cell.ok at h; rw [Bool.and_eq_true] at h; exact h.1
theorem blank_ok' {p : Pen} (h : p.ok = true) : (blank p).ok = true := by rw [ok_blank]; exact h
theorem spacer_ok {p : Pen} (h : p.ok = true) : (spacer p).ok = true := by simp [Cell.ok, spacer, h, Cell.noMarks]
section
variable {cs : List Cell} {c j k : Nat} {x : Cell} {q : Pen}
theorem RowV.brk (h : RowV cs) (c : Nat) : RowV (brk c cs) := by
 intro k hk
 rw [brk_length] at hk
 have hg := cAt_brk c cs
 by_cases hc : 1 ≤ c ∧ c < cs.length ∧ (cAt cs (c - 1)).width = 2
 ·have h0 := h k hk
  have h1 := h (c - 1) (by omega)
  have h2 := h c hc.2.1
  refine ⟨?_, ?_, ?_, ?_⟩
  ·rw [hg]; split
   ·exact blank_ok' (ok_penV h0.ok)
   ·exact h0.ok
  ·rw [hg, hg]
   have z0 := h0.zero
   have z1 := h1.zero
   have z2 := h2.zero
   have w0 : ∀ p, (blank p).width = 1 := fun _ => rfl
   grind
  ·rw [hg, hg]
   have z0 := h0.pen
   have w0 : ∀ p, (blank p).width = 1 := fun _ => rfl
   have w1 : ∀ p, (blank p).pen = p := fun _ => rfl
   grind
  ·rw [hg, brk_length]
   have z0 := h0.last
   have w0 : ∀ p, (blank p).width = 1 := fun _ => rfl
   grind
 ·have e : ∀ i, cAt (Proofs.YtdndoikgnohkkaaDoor.brk c cs) i = cAt cs i := fun i => by rw [hg, if_neg (fun a => hc a.1)]
  have h0 := h k hk
  exact ⟨by rw [e]; exact h0.ok, by rw [e, e]; exact h0.zero, by rw [e, e]; exact h0.pen, by rw [e, brk_length]; exact h0.last⟩
def CutAt (cs : List Cell) (c : Nat) : Prop := 1 ≤ c → c < cs.length → ¬ (cAt cs (c - 1)).width = 2
theorem cut_brk (c : Nat) (cs : List Cell) : CutAt (brk c cs) c := fun h1 h2 => brk_before h1 (by rwa [brk_length] at h2)
theorem CutAt.brk (h : CutAt cs j) (c : Nat) : CutAt (brk c cs) j := fun h1 h2 => by
 rw [brk_length] at h2
 rw [cAt_brk]
 split
 ·simp [blank]
 ·exact h h1 h2
theorem RowV.put (h : RowV cs) (hx : x.ok = true) (hw : x.width = 1 ∨ x.width = 2) (hj : (j : Int) + x.width ≤ cs.length) : RowV (putC j x cs) := by
 obtain ⟨b, hb⟩ : ∃ b, b = Proofs.YtdndoikgnohkkaaDoor.brk (j + x.width.toNat) (Proofs.YtdndoikgnohkkaaDoor.brk j cs) := ⟨_, rfl⟩
 have hbl : b.length = cs.length := by rw [hb, brk_length, brk_length]
 have hv : RowV b := by rw [hb]; exact (h.brk j).brk _
 have hc1 : CutAt b j := by rw [hb]; exact (cut_brk j cs).brk _
 have hc2 : CutAt b (j + x.width.toNat) := by rw [hb]; exact cut_brk _ _
 have hg : ∀ i, cAt (putC j x cs) i = if x.width = 2 ∧ i = j + 1 ∧ j + 1 < cs.length then spacer x.pen else if i = j then x else cAt b i := fun i => by
  unfold putC
  simp only [← hb]
  by_cases h2 : x.width = 2
  ·rw [if_pos h2, cAt_set, cAt_set, List.length_set, hbl]; grind
  ·rw [if_neg h2, cAt_set, hbl]; grind
 intro k hk
 rw [putC_length] at hk
 have hk2 : k < b.length := by omega
 have h0 := hv k hk2
 have w0 : ∀ p, (spacer p).width = 0 := fun _ => rfl
 have w1 : ∀ p, (spacer p).pen = p := fun _ => rfl
 have z0 := h0.zero
 have z1 := h0.pen
 have z2 := h0.last
 unfold CutAt at hc1 hc2
 have hxw : x.width.toNat = 1 ∨ x.width.toNat = 2 := by omega
 refine ⟨?_, ?_, ?_, ?_⟩
 ·rw [hg]; split
  ·exact spacer_ok (ok_penV hx)
  ·split
   ·exact hx
   ·exact h0.ok
 ·rw [hg, hg]
  rcases hw with hw | hw
  ·have e : x.width.toNat = 1 := by omega
   rw [e] at hc2
   grind
  ·have e : x.width.toNat = 2 := by omega
   rw [e] at hc2
   grind
 ·rw [hg, hg]
  rcases hw with hw | hw
  ·grind
  ·grind
 ·rw [hg, putC_length]
  rcases hw with hw | hw
  ·grind
  ·grind
theorem RowV.clear {f t : Nat} (h : RowV cs) (hq : q.ok = true) (ht : t ≤ cs.length) : RowV (clearC f t q cs) := by
 by_cases hft : f < t
 case neg => unfold clearC; rw [if_neg hft]; exact h
 obtain ⟨b, hb⟩ : ∃ b, b = Proofs.YtdndoikgnohkkaaDoor.brk t (Proofs.YtdndoikgnohkkaaDoor.brk f cs) := ⟨_, rfl⟩
 have hbl : b.length = cs.length := by rw [hb, brk_length, brk_length]
 have hv : RowV b := by rw [hb]; exact (h.brk f).brk _
 have hc1 : CutAt b f := by rw [hb]; exact (cut_brk f cs).brk _
 have hc2 : CutAt b t := by rw [hb]; exact cut_brk _ _
 have hg : ∀ i, i < cs.length → cAt (clearC f t q cs) i = if f ≤ i ∧ i < t then blank q else cAt b i := fun i hi => by
  unfold clearC
  rw [if_pos hft, ← hb]
  rw [cAt_wipe (by rw [hbl]; omega), show f + (t - f) = t by omega]
 intro k hk
 rw [clearC_length ht] at hk
 have h0 := hv k (by omega)
 have w0 : ∀ p, (blank p).width = 1 := fun _ => rfl
 have z0 := h0.zero
 have z1 := h0.pen
 have z2 := h0.last
 have hgk := hg k hk
 have hgk1 : 1 ≤ k → cAt (clearC f t q cs) (k - 1) = if f ≤ k - 1 ∧ k - 1 < t then blank q else cAt b (k - 1) := fun _ => hg (k - 1) (by omega)
 unfold CutAt at hc1 hc2
 refine ⟨?_, ?_, ?_, ?_⟩
 ·rw [hgk]; split
  ·exact blank_ok' hq
  ·exact h0.ok
 ·rw [hgk]; grind
 ·rw [hgk]; grind
 ·rw [hgk, clearC_length ht]; grind
theorem RowV.shiftR (h : RowV cs) (hq : q.ok = true) (hjk : j + k ≤ cs.length) (hk0 : 0 < k) : RowV (shiftR j k q cs) := by
 obtain ⟨b, hb⟩ : ∃ b, b = Proofs.YtdndoikgnohkkaaDoor.brk (cs.length - k) (Proofs.YtdndoikgnohkkaaDoor.brk j cs) := ⟨_, rfl⟩
 have hbl : b.length = cs.length := by rw [hb, brk_length, brk_length]
 have hv : RowV b := by rw [hb]; exact (h.brk j).brk _
 have hc1 : CutAt b j := by rw [hb]; exact (cut_brk j cs).brk _
 have hc2 : CutAt b (cs.length - k) := by rw [hb]; exact cut_brk _ _
 have hg : ∀ i, i < cs.length → cAt (Proofs.YtdndoikgnohkkaaDoor.shiftR j k q cs) i = if i < j then cAt b i else if i < j + k then blank q else cAt b (i - k) := fun i hi => by rw [cAt_shiftR hjk hi, ← hb]
 intro i hi
 rw [shiftR_length hjk] at hi
 have w0 : ∀ p, (blank p).width = 1 := fun _ => rfl
 have hgi := hg i hi
 have hgi1 : 1 ≤ i → cAt (Proofs.YtdndoikgnohkkaaDoor.shiftR j k q cs) (i - 1) = if i - 1 < j then cAt b (i - 1) else if i - 1 < j + k then blank q else cAt b (i - 1 - k) := fun _ => hg (i - 1) (by omega)
 unfold CutAt at hc1 hc2
 by_cases h1 : i < j
 ·have h0 := hv i (by omega)
  rw [if_pos h1] at hgi
  have e1 : 1 ≤ i → cAt (Proofs.YtdndoikgnohkkaaDoor.shiftR j k q cs) (i - 1) = cAt b (i - 1) := fun a => by rw [hgi1 a, if_pos (by omega)]
  refine ⟨by rw [hgi]; exact h0.ok, ?_, ?_, ?_⟩
  ·rw [hgi]; have := h0.zero; grind
  ·rw [hgi]; have := h0.pen; grind
  ·rw [hgi, shiftR_length hjk]; have := h0.last; grind
 rw [if_neg h1] at hgi
 by_cases h2 : i < j + k
 ·rw [if_pos h2] at hgi
  refine ⟨by rw [hgi]; exact blank_ok' hq, ?_, ?_, ?_⟩
  ·rw [hgi]; grind
  ·rw [hgi]; grind
  ·rw [hgi]; intro a; cases a
 rw [if_neg h2] at hgi
 have h0 := hv (i - k) (by omega)
 have z0 := h0.zero
 have z1 := h0.pen
 have z2 := h0.last
 by_cases h3 : i = j + k
 ·subst h3
  have e1 : cAt (Proofs.YtdndoikgnohkkaaDoor.shiftR j k q cs) (j + k - 1) = blank q := by rw [hgi1 (by omega), if_neg (by omega), if_pos (by omega)]
  rw [show j + k - k = j by omega] at hgi h0 z0 z1 z2
  refine ⟨by rw [hgi]; exact h0.ok, ?_, ?_, ?_⟩
  ·rw [hgi, e1]; grind
  ·rw [hgi, e1]; grind
  ·rw [hgi, shiftR_length hjk]; grind
 ·have e1 : cAt (Proofs.YtdndoikgnohkkaaDoor.shiftR j k q cs) (i - 1) = cAt b (i - k - 1) := by rw [hgi1 (by omega), if_neg (by omega), if_neg (by omega)]; congr 1; omega
  refine ⟨by rw [hgi]; exact h0.ok, ?_, ?_, ?_⟩
  ·rw [hgi, e1]; grind
  ·rw [hgi, e1]; grind
  ·rw [hgi, shiftR_length hjk]; grind
theorem RowV.shiftL (h : RowV cs) (hq : q.ok = true) (hjk : j + k ≤ cs.length) (hk0 : 0 < k) : RowV (shiftL j k q cs) := by
 obtain ⟨b, hb⟩ : ∃ b, b = Proofs.YtdndoikgnohkkaaDoor.brk (j + k) (Proofs.YtdndoikgnohkkaaDoor.brk j cs) := ⟨_, rfl⟩
 have hbl : b.length = cs.length := by rw [hb, brk_length, brk_length]
 have hv : RowV b := by rw [hb]; exact (h.brk j).brk _
 have hc1 : CutAt b j := by rw [hb]; exact (cut_brk j cs).brk _
 have hc2 : CutAt b (j + k) := by rw [hb]; exact cut_brk _ _
 have hg : ∀ i, i < cs.length → cAt (Proofs.YtdndoikgnohkkaaDoor.shiftL j k q cs) i = if i < j then cAt b i else if i < cs.length - k then cAt b (i + k) else blank q := fun i hi => by rw [cAt_shiftL hjk hi, ← hb]
 intro i hi
 rw [shiftL_length hjk] at hi
 have w0 : ∀ p, (blank p).width = 1 := fun _ => rfl
 have hgi := hg i hi
 have hgi1 : 1 ≤ i → cAt (Proofs.YtdndoikgnohkkaaDoor.shiftL j k q cs) (i - 1) = if i - 1 < j then cAt b (i - 1) else if i - 1 < cs.length - k then cAt b (i - 1 + k) else blank q := fun _ => hg (i - 1) (by omega)
 unfold CutAt at hc1 hc2
 by_cases h1 : i < j
 ·have h0 := hv i (by omega)
  rw [if_pos h1] at hgi
  have e1 : 1 ≤ i → cAt (Proofs.YtdndoikgnohkkaaDoor.shiftL j k q cs) (i - 1) = cAt b (i - 1) := fun a => by rw [hgi1 a, if_pos (by omega)]
  refine ⟨by rw [hgi]; exact h0.ok, ?_, ?_, ?_⟩
  ·rw [hgi]; have := h0.zero; grind
  ·rw [hgi]; have := h0.pen; grind
  ·rw [hgi, shiftL_length hjk]; have := h0.last; grind
 rw [if_neg h1] at hgi
 by_cases h2 : i < cs.length - k
 ·rw [if_pos h2] at hgi
  have h0 := hv (i + k) (by omega)
  have z0 := h0.zero
  have z1 := h0.pen
  have z2 := h0.last
  by_cases h3 : i = j
  ·subst h3
   have e1 : 1 ≤ i → cAt (Proofs.YtdndoikgnohkkaaDoor.shiftL i k q cs) (i - 1) = cAt b (i - 1) := fun a => by rw [hgi1 a, if_pos (by omega)]
   refine ⟨by rw [hgi]; exact h0.ok, ?_, ?_, ?_⟩
   ·rw [hgi]; grind
   ·rw [hgi]; grind
   ·rw [hgi, shiftL_length hjk]; grind
  ·have e1 : cAt (Proofs.YtdndoikgnohkkaaDoor.shiftL j k q cs) (i - 1) = cAt b (i + k - 1) := by rw [hgi1 (by omega), if_neg (by omega), if_pos (by omega)]; congr 1; omega
   refine ⟨by rw [hgi]; exact h0.ok, ?_, ?_, ?_⟩
   ·rw [hgi, e1]; grind
   ·rw [hgi, e1]; grind
   ·rw [hgi, shiftL_length hjk]; grind
 ·rw [if_neg h2] at hgi
  have hl : ¬ (cAt b (cs.length - 1)).width = 2 := fun a => by have := (hv (cs.length - 1) (by omega)).last a; omega
  have e1 : 1 ≤ i → ¬ (cAt (Proofs.YtdndoikgnohkkaaDoor.shiftL j k q cs) (i - 1)).width = 2 := fun a => by
   rw [hgi1 a]
   split
   ·rw [show i - 1 = j - 1 by omega]; exact hc1 (by omega) (by omega)
   ·split
    ·rw [show i - 1 + k = cs.length - 1 by omega]; exact hl
    ·intro e; cases e
  refine ⟨by rw [hgi]; exact blank_ok' hq, ?_, ?_, ?_⟩
  ·rw [hgi]; grind
  ·rw [hgi]; grind
  ·rw [hgi]; intro a; cases a
end
def AllV (L : List Ln) : Prop := ∀ l ∈ L, RowV l.1
theorem AllV.lnMod {L : List Ln} (h : AllV L) (i : Nat) {F : Ln → Ln} (hF : ∀ l : Ln, l ∈ L → RowV (F l).1) : AllV (lnMod i F L) := by
 unfold Proofs.YtdndoikgnohkkaaDoor.lnMod
 split
 ·rename_i l hl
  intro x hx
  rcases List.mem_or_eq_of_mem_set hx with h1 | rfl
  ·exact h x h1
  ·exact hF l (List.mem_of_getElem? hl)
 ·exact h
theorem rowV_blanks {n : Nat} {q : Pen} (hq : q.ok = true) : RowV (List.replicate n (blank q)) := fun k hk => by
 rw [List.length_replicate] at hk
 have e : ∀ i, i < n → cAt (List.replicate n (blank q)) i = blank q := fun i hi => by rw [cAt_eq (by simpa using hi)]; simp
 refine ⟨by rw [e k hk]; exact blank_ok' hq, ?_, ?_, ?_⟩
 ·rw [e k hk]
  constructor
  ·intro a; cases a
  ·rintro ⟨a, b⟩; rw [e (k - 1) (by omega)] at b; cases b
 ·intro a b; rw [e (k - 1) (by omega)] at b; cases b
 ·rw [e k hk]; intro a; cases a
end Go.Proofs.YtdndoikgnohkkaaDoor

namespace Go.Proofs.YtdndoikgnohkkaaDoor
open Go.RowKit

section
variable {j k cols : Nat} {x : Cell} {cs : List Cell} {ins : Bool}
end
end Go.Proofs.YtdndoikgnohkkaaDoor

namespace Go.Proofs.YtdndoikgnohkkaaDoor
open Go.RowKit

section
variable {cs : List Cell} {j k cols : Nat} {x : Cell} {q : Pen} {n : Int}
theorem RowV.shiftN (h : RowV cs) (hq : q.ok = true) (hl : cs.length = cols) (hj : j < cols) : RowV (shiftN j cols n q cs) := by
 unfold Proofs.YtdndoikgnohkkaaDoor.shiftN
 by_cases h0 : n = 0
 ·rw [if_pos h0]; exact h
 rw [if_neg h0]
 split
 ·exact h.shiftR hq (by omega) (by omega)
 ·exact h.shiftL hq (by omega) (by omega)
end
section
variable {top bot cols : Nat} {n : Int} {q : Pen} {L : List Ln}
theorem AllV.roll (h : AllV L) (hq : q.ok = true) (htb : top ≤ bot) (hbl : bot < L.length) : AllV (rollL top bot n q cols L) := fun l hl => by
 obtain ⟨r, hr, rfl⟩ := List.getElem_of_mem hl
 have h1 := rollL_get (n := n) (q := q) (cols := cols) htb hbl r
 rw [List.getElem?_eq_getElem hr] at h1
 have hm : ∀ (o : Option Ln) (p : Prop) [Decidable p] (x : Ln), (∀ y : Ln, o = some y → RowV y.1) → some x = o.map (hardIf p) → RowV x.1 := fun o p _ x ho h => by
  cases o with
  | none => simp at h
  | some y => simp only [Option.map_some, Option.some.injEq] at h; subst h; unfold hardIf; split <;> exact ho y rfl
 have hL : ∀ (i : Nat) (y : Ln), L[i]? = some y → RowV y.1 := fun i y hy => h y (List.mem_of_getElem? hy)
 have hfr : ∀ x : Ln, some x = some (freshLn cols q) → RowV x.1 := fun x e => by simp only [Option.some.injEq] at e; rw [e]; exact rowV_blanks hq
 by_cases hn : n = 0
 ·unfold rollAt at h1; rw [if_pos hn] at h1; exact hL r _ h1.symm
 by_cases ho : r < top ∨ bot < r
 ·rw [rollAt_out hn ho] at h1; exact hm _ _ _ (hL r) h1
 by_cases hp : 0 < n
 ·by_cases h2 : r + rollK n (bot + 1 - top) ≤ bot
  ·rw [rollAt_up hp rfl ho h2] at h1; exact hm _ _ _ (hL _) h1
  ·rw [rollAt_upf hp rfl ho h2] at h1; exact hfr _ h1
 ·have hn2 : n < 0 := by omega
  by_cases h2 : r < top + rollK n (bot + 1 - top)
  ·rw [rollAt_dnf hn2 rfl ho h2] at h1; exact hfr _ h1
  ·rw [rollAt_dn hn2 rfl ho h2] at h1; exact hm _ _ _ (hL _) h1
end
end Go.Proofs.YtdndoikgnohkkaaDoor

namespace Go.Proofs.YtdndoikgnohkkaaDoor
open Go.RowKit

theorem ok_row {l : List Cell} (h : lineOk l = true) : rowOk l = true := by simp [lineOk] at h; exact h.2
theorem ok_of_row {l : List Cell} (h : RowV l) (hn : l.length ≤ 1000) : lineOk l = true := by simp [lineOk, rowOk_is.2 h, hn]
theorem AllV.rowMod {L : List Ln} (h : AllV L) (i : Nat) {f : List Cell → List Cell} (hf : ∀ l : Ln, l ∈ L → RowV (f l.1)) : AllV (rowMod i f L) := by
 rw [rowMod_is]; exact h.lnMod i hf
theorem AllV.softMod {L : List Ln} (h : AllV L) (i : Nat) (s : Bool) : AllV (softMod i s L) := by
 rw [softMod_is]; exact h.lnMod i (fun l hl => h l hl)
theorem AllV.set {L : List Ln} (h : AllV L) (i : Nat) {l : Ln} (hl : RowV l.1) : AllV (L.set i l) := fun x hx => by
 rcases List.mem_or_eq_of_mem_set hx with h1 | rfl
 ·exact h x h1
 ·exact hl
theorem allV_new (rows cols : Nat) {q : Pen} (hq : q.ok = true) : AllV (List.replicate rows (List.replicate cols (blank q), false)) := fun l hl => by
 rw [(List.mem_replicate.1 hl).2]; exact rowV_blanks hq
theorem AllV.lineOk {L : List Ln} {cols : Nat} (h : AllV L) (hR : Rect cols L) (hcm : cols ≤ 1000) : ∀ l ∈ L, lineOk l.1 = true := fun l hl => ok_of_row (h l hl) (by rw [hR l hl]; exact hcm)
theorem act14N_all {a : Act14} {cols : Nat} {L : List Ln} (hR : Rect cols L) (h : AllV L) : AllV (act14N a cols L) := by
 unfold act14N
 split
 ·split
  ·next hp =>
   obtain ⟨i, j, e1, e2, h1, h2, h3, h4, h5⟩ := putE_yes hp
   exact h.rowMod _ (fun l hl => (h l hl).put h3 (ok_w12 h3 h4) (by rw [hR l hl, e2]; simpa using h5))
  ·exact h
 split
 ·split
  ·next hp =>
   obtain ⟨i, f, t, e1, e2, e3, h1, h2, h3, h4⟩ := clrE_yes hp
   exact h.rowMod _ (fun l hl => (h l hl).clear h4 (by rw [hR l hl, e3]; simpa using h3))
  ·exact h
 split
 ·split
  ·next hp =>
   obtain ⟨i, j, e1, e2, h1, h2, h3⟩ := shfE_yes hp
   exact h.rowMod _ (fun l hl => (h l hl).shiftN h3 (hR l hl) (by rw [e2]; simpa using h2))
  ·exact h
 split
 ·split
  ·next hp =>
   obtain ⟨i, e1, h1, h2⟩ := setE_yes hp
   exact h.set _ (rowOk_is.1 (fit_row _ (ok_row h2)))
  ·exact h
 split
 ·split
  ·exact h.softMod _ _
  ·exact h
 split
 ·split
  ·next hp =>
   obtain ⟨t, b, e1, e2, h1, h2, h3⟩ := rolE_yes hp
   rw [e1, e2]
   exact h.roll h3 h1 h2
  ·exact h
 exact h
end Go.Proofs.YtdndoikgnohkkaaDoor

namespace Go.Proofs.YtdndoikgnohkkaaDoor
open Go.RowKit

def K24 (s rr : Nat) (L : List Ln) : Prop := Rect s L ∧ L.length = rr ∧ AllV L
theorem k24_new (s rr : Nat) : K24 s rr (List.replicate rr (List.replicate s (blank pen0), false)) := ⟨fun l hl => by rw [(List.mem_replicate.1 hl).2]; simp, by simp, allV_new rr s (by decide +kernel)⟩
structure Pr where
 cols : Nat
 M : List Ln
 O : List Ln
 mode : Int
 kept : Option Saved
structure Pr.good (s : Pr) (rr : Nat) : Prop where
 c0 : 0 < s.cols
 cm : s.cols ≤ 1000
 r0 : 0 < rr
 rm : rr ≤ 1000
 M : K24 s.cols rr s.M
 O : K24 s.cols rr s.O
def Pr.U (s : Pr) : List Ln := if s.mode = 0 then s.M else s.O
theorem Pr.good.U {s : Pr} {rr : Nat} (h : s.good rr) : K24 s.cols rr s.U := by
 unfold Pr.U
 split
 ·exact h.M
 ·exact h.O
def used24 (m : Int) : Int := if m = 0 then 0 else 1
def keptIs (kv : Value) (ko : Ob) : Option Saved → Prop
 | none => kv = .pointer none
 | some x => ∃ kp, kv = .pointer (some ⟨kp, 0, none⟩) ∧ ko = .box kp 35 (sv x)
def pairL (p : Nat) (s : Pr) (g m : Nat) (kv : Value) (ko : Ob) : List Ob := [.box p 44 #[.pointer (some ⟨g, 0, none⟩), .pointer (some ⟨m, 0, none⟩), .int .i64 (used24 s.mode), .int .i64 s.mode, kv], .grid g 83 s.cols s.M, .grid m 83 s.cols s.O, ko]
def pairQ (p : Nat) (s : Pr) (xs : List Ob) : Prop := ∃ g m kv ko, keptIs kv ko s.kept ∧ xs = pairL p s g m kv ko
def pairO (p : Nat) (s : Pr) : Ob := .gen (many (pairQ p s))
section
variable {w0 w : World} {os : List Ob} {p : Nat} {s : Pr}
theorem Objs.openPair (h : Objs w0 w (pairO p s :: os)) : ∃ g m kv ko, keptIs kv ko s.kept ∧ Objs w0 w (.box p 44 #[.pointer (some ⟨g, 0, none⟩), .pointer (some ⟨m, 0, none⟩), .int .i64 (used24 s.mode), .int .i64 s.mode, kv] :: .grid g 83 s.cols s.M :: .grid m 83 s.cols s.O :: ko :: os) := by
 obtain ⟨xs, ⟨g, m, kv, ko, hk, rfl⟩, hS⟩ := h.unpack
 exact ⟨g, m, kv, ko, hk, hS⟩
theorem Objs.closePair {g m : Nat} {kv : Value} {ko : Ob} (h : Objs w0 w (.box p 44 #[.pointer (some ⟨g, 0, none⟩), .pointer (some ⟨m, 0, none⟩), .int .i64 (used24 s.mode), .int .i64 s.mode, kv] :: .grid g 83 s.cols s.M :: .grid m 83 s.cols s.O :: ko :: os)) (hk : keptIs kv ko s.kept) : Objs w0 w (pairO p s :: os) :=
 Objs.pack (xs := pairL p s g m kv ko) h ⟨g, m, kv, ko, hk, rfl⟩
theorem pnone_no {k g : Nat} {a b c d : Value} (hS : Objs w0 w os) (hk : os[k]? = some (.box p 44 #[.pointer (some ⟨g, 0, none⟩), a, b, c, d])) : Calls Tryd.prog 34 #[.pointer (some ⟨p, 0, none⟩)] w fun e w' => e = .returned (.bool false) ∧ Objs w0 w' os := by
 obtain ⟨hx, hf, hz⟩ := (hS.box hk).facts
 have S := Lib.hid hS
 clear hS
 go_enter Tryd.func34, Tryd.ntmps34
 go_wp2_with fail
 go_ret
 exact ⟨rfl, S.out⟩
theorem alt_is {k g : Nat} {a c d : Value} {u : Int} (hu : u = 0 ∨ u = 1) (hS : Objs w0 w os) (hk : os[k]? = some (.box p 44 #[.pointer (some ⟨g, 0, none⟩), a, .int .i64 u, c, d])) : Calls Tryd.prog 11 #[.pointer (some ⟨p, 0, none⟩)] w fun e w' => e = .returned (.bool (decide (u = 1))) ∧ Objs w0 w' os := by
 have S := Lib.hid hS
 have HK := Lib.hid hk
 clear hS hk
 rcases hu with rfl | rfl
 all_goals
  go_enter Tryd.func11, Tryd.ntmps11
  go_wp2_with fail
  refine (pnone_no S.out HK.out).mono ?_
  rintro e w1 ⟨rfl, hS⟩
  obtain ⟨hx, hf, hz⟩ := (hS.box HK.out).facts
  have S1 := Lib.hid hS
  clear hS
  go_wp2_with fail
  go_ret
  exact ⟨rfl, S1.out⟩
theorem mode_is {k : Nat} {a b c d : Value} {md : Int} (hS : Objs w0 w os) (hk : os[k]? = some (.box p 44 #[a, b, c, .int .i64 md, d])) : Calls Tryd.prog 12 #[.pointer (some ⟨p, 0, none⟩)] w fun e w' => e = .returned (.int .i64 md) ∧ Objs w0 w' os := by
 obtain ⟨hx, hf, hz⟩ := (hS.box hk).facts
 have S := Lib.hid hS
 clear hS
 go_enter Tryd.func12, Tryd.ntmps12
 go_wp2_with fail
 go_ret
 exact ⟨rfl, S.out⟩
theorem Alternate_any {k : Nat} (hS : Objs w0 w os) (hk : os[k]? = some (pairO p s)) : Calls Tryd.prog 11 #[.pointer (some ⟨p, 0, none⟩)] w fun e w' => e = .returned (.bool (decide (¬ s.mode = 0))) ∧ Objs w0 w' os :=
 no_call rfl hS hk (fun os1 h => by
  obtain ⟨g, m, kv, ko, hK, hO⟩ := h.openPair
  have hu : used24 s.mode = 0 ∨ used24 s.mode = 1 := by unfold used24; split <;> simp
  refine (alt_is hu hO (k := 0) rfl).mono fun e w' ⟨h1, h2⟩ => ⟨?_, h2.closePair hK⟩
  rw [h1]
  congr 2
  unfold used24
  split <;> simp_all)
theorem Mode_any {k : Nat} (hS : Objs w0 w os) (hk : os[k]? = some (pairO p s)) : Calls Tryd.prog 12 #[.pointer (some ⟨p, 0, none⟩)] w fun e w' => e = .returned (.int .i64 s.mode) ∧ Objs w0 w' os :=
 no_call rfl hS hk (fun os1 h => by
  obtain ⟨g, m, kv, ko, hK, hO⟩ := h.openPair
  exact (mode_is hO (k := 0) rfl).mono fun e w' ⟨h1, h2⟩ => ⟨h1, h2.closePair hK⟩)
end
end Go.Proofs.YtdndoikgnohkkaaDoor

namespace Go.Proofs.YtdndoikgnohkkaaDoor
open Go.RowKit

def pickAt (σ : List Ob) : Option Nat → Ob
 | some k => σ.getD k .none
 | none => .none
theorem Objs.pick {w0 w : World} {σ os : List Ob} (h : Objs w0 w (σ ++ os)) (ks : List (Option Nat)) (hn : (ks.filterMap id).Nodup) (hlt : (ks.filterMap id).all (fun k => decide (k < σ.length)) = true) : Objs w0 w (ks.map (pickAt σ) ++ os) := by
 obtain ⟨h1, F, h2, h3, h4, h5⟩ := h
 have hk : ∀ (i k : Nat), ks[i]? = some (some k) → k < σ.length := fun i k hi => by
  have := List.all_eq_true.1 hlt k (List.mem_filterMap.2 ⟨some k, List.mem_of_getElem? hi, rfl⟩)
  simpa using this
 have hinj : ∀ (i j k : Nat), ks[i]? = some (some k) → ks[j]? = some (some k) → i = j := by
  clear hk hlt h2 h3 h4 h5 h1
  induction ks with
  | nil => intro i j k hi; simp at hi
  | cons a r ih =>
   intro i j k hi hj
   have hr : (r.filterMap id).Nodup := by
    cases a with
    | none => simpa using hn
    | some x => simp at hn; exact hn.2
   have hno : ∀ m, a = some m → ∀ q, r[q]? ≠ some (some m) := fun m e q hq => by
    subst e
    simp at hn
    exact hn.1 (List.mem_of_getElem? hq)
   cases i with
   | zero =>
    cases j with
    | zero => rfl
    | succ j => simp at hi hj; exact (hno k hi j hj).elim
   | succ i =>
    cases j with
    | zero => simp at hi hj; exact (hno k hj i hi).elim
    | succ j => simp at hi hj; rw [ih hr i j k hi hj]
 refine ⟨h1, fun i b => if i < ks.length then ∃ k, ks[i]? = some (some k) ∧ F k b else F (i - ks.length + σ.length) b, fun i o hi => ?_, fun i b hb => ?_, fun i hi b hb => ?_, fun i j b hi hj => ?_⟩
 ·by_cases hl : i < ks.length
  ·simp only [hl, if_true]
   rw [List.getElem?_append_left (by simpa using hl), List.getElem?_map] at hi
   cases hks : ks[i]? with
   | none => rw [hks] at hi; simp at hi
   | some x =>
    rw [hks] at hi
    simp only [Option.map_some, Option.some.injEq] at hi
    cases x with
    | none => subst hi; rintro b ⟨k, e, -⟩; simp at e
    | some k =>
     have hlt := hk i k hks
     have hF : (fun b => ∃ k', some (some k) = some (some k') ∧ F k' b) = F k := by
      funext b
      exact propext ⟨fun ⟨k', e, hb⟩ => by simp at e; subst e; exact hb, fun hb => ⟨k, rfl, hb⟩⟩
     rw [hF]
     refine h2 k o ?_
     rw [List.getElem?_append_left hlt, ← hi]
     show σ[k]? = some (σ.getD k .none)
     rw [List.getD_eq_getElem?_getD, List.getElem?_eq_getElem hlt]; rfl
  ·simp only [hl, if_false]
   rw [List.getElem?_append_right (by simp; omega), List.length_map] at hi
   refine h2 _ o ?_
   rw [List.getElem?_append_right (by omega), Nat.add_sub_cancel]; exact hi
 ·simp only at hb
  split at hb
  ·obtain ⟨k, -, hb⟩ := hb; exact h3 _ b hb
  ·exact h3 _ b hb
 ·simp only at hb
  simp only [List.length_append, List.length_map] at hi
  rw [if_neg (by omega)] at hb
  exact h4 _ (by simp; omega) b hb
 ·simp only at hi hj
  split at hi
  ·obtain ⟨k, hks, hi⟩ := hi
   split at hj
   ·obtain ⟨k2, hks2, hj⟩ := hj
    have := h5 _ _ b hi hj
    subst this
    exact hinj i j _ hks hks2
   ·have := h5 _ _ b hi hj
    have := hk i k hks
    omega
  ·rename_i hil
   split at hj
   ·obtain ⟨k2, hks2, hj⟩ := hj
    have := h5 _ _ b hi hj
    have := hk j k2 hks2
    omega
   ·have := h5 _ _ b hi hj
    omega
end Go.Proofs.YtdndoikgnohkkaaDoor

namespace Go.Proofs.YtdndoikgnohkkaaDoor
open Go.RowKit

def laidAt (cs : Array Value) : Nat → List Value → Array Value
 | _, [] => cs
 | o, v :: r => laidAt (cs.setIfInBounds o v) (o + 1) r
theorem Objs.setCells {w0 : World} {g : Nat} {t : TypeId} {k : Nat} : ∀ (vs : List Value) (o : Nat) (w : World) (os : List Ob) (cs : Array Value), Objs w0 w os → os[k]? = some (.box g t cs) → Objs w0 (w.setCells g o vs) (os.set k (.box g t (laidAt cs o vs)))
 | [], o, w, os, cs, h, hk => by show Objs w0 w (os.set k (.box g t cs)); rw [set_self hk]; exact h
 | v :: r, o, w, os, cs, h, hk => by
  have h1 := h.setBox k (i := o) (u := v) hk
  have h2 := Objs.setCells r (o + 1) _ _ _ h1 (List.getElem?_set_self (List.getElem?_eq_some_iff.1 hk).1)
  rw [List.set_set] at h2
  exact h2
def rpv (m o : Nat) (md : Int) (s : Saved) (k : Bool) : Array Value := #[.pointer (some ⟨m, 0, none⟩), .pointer (some ⟨o, 0, none⟩), .int .i64 md, .int .i64 s.row, .int .i64 s.col, .bool s.pend, .int .i64 s.q.fk, .int .u8 s.q.fi, .int .u8 s.q.fr, .int .u8 s.q.fg, .int .u8 s.q.fb, .int .i64 s.q.bk, .int .u8 s.q.bi, .int .u8 s.q.br, .int .u8 s.q.bg, .int .u8 s.q.bb, .int .u8 s.q.fl, .bool s.org, .int .i64 s.s0, .int .i64 s.s1, .int .i64 s.act, .bool k]
@[go_sem] theorem rpv_size (m o : Nat) (md : Int) (s : Saved) (k : Bool) : (rpv m o md s k).size = 22 := by simp [rpv]
@[simp high, go_sem high] theorem rpv_get0 (m o : Nat) (md : Int) (s : Saved) (k : Bool) : (rpv m o md s k)[0]? = some (.pointer (some ⟨m, 0, none⟩)) := by simp [rpv]
@[simp high, go_sem high] theorem rpv_get1 (m o : Nat) (md : Int) (s : Saved) (k : Bool) : (rpv m o md s k)[1]? = some (.pointer (some ⟨o, 0, none⟩)) := by simp [rpv]
@[simp high, go_sem high] theorem rpv_get2 (m o : Nat) (md : Int) (s : Saved) (k : Bool) : (rpv m o md s k)[2]? = some (.int .i64 md) := by simp [rpv]
@[simp high, go_sem high] theorem rpv_get21 (m o : Nat) (md : Int) (s : Saved) (k : Bool) : (rpv m o md s k)[21]? = some (.bool k) := by simp [rpv]
theorem rpv_some {m o : Nat} {md : Int} {s : Saved} {k : Bool} {i : Nat} (h : i < 22) : ((rpv m o md s k)[i]?).isSome = true := by simp [rpv_size, h]
theorem rpv_set2 (m o : Nat) (md n : Int) (s : Saved) (k : Bool) : (rpv m o md s k).setIfInBounds 2 (.int .i64 n) = rpv m o n s k := by simp [rpv]
theorem rpv_set21 (m o : Nat) (md : Int) (s : Saved) (k b : Bool) : (rpv m o md s k).setIfInBounds 21 (.bool b) = rpv m o md s b := by simp [rpv]
theorem rpv_set0 (m o : Nat) (md : Int) (s : Saved) (k : Bool) (g : Nat) : (rpv m o md s k).setIfInBounds 0 (.pointer (some ⟨g, 0, none⟩)) = rpv g o md s k := by simp [rpv]
theorem rpv_set1 (m o : Nat) (md : Int) (s : Saved) (k : Bool) (g : Nat) : (rpv m o md s k).setIfInBounds 1 (.pointer (some ⟨g, 0, none⟩)) = rpv m g md s k := by simp [rpv]
theorem rpv_laid (m o : Nat) (md : Int) (s c : Saved) (k : Bool) : laidAt (rpv m o md s k) 3 (sv c).toList = rpv m o md c k := by simp [rpv, sv, laidAt]
theorem Blk.rpair {w : World} {g : Nat} {t : TypeId} {m o : Nat} {md : Int} {s : Saved} {k : Bool} (h : Blk w g t (rpv m o md s k)) : (∀ i, w.cell? ⟨g, i, none⟩ = (rpv m o md s k)[i]?) ∧ (∀ i, w.frozen? ⟨g, i, none⟩ = false) ∧ g < w.heap.size ∧ Proofs.YtdndoikgnohkkaaDoor.recAt w g 3 18 = some (sv s) :=
 ⟨h.cell, h.frozen, h.lt, recAt_of (sv_size s) (fun j v hv => by
  have hj : j < 18 := by have := (List.getElem?_eq_some_iff.1 hv).1; simpa [sv] using this
  have := h.range (3 + j) v (by rw [← hv, ← List.getElem?_drop]; rw [show ((rpv m o md s k).toList.drop 3)[j]? = (((rpv m o md s k).toList.drop 3).take 18)[j]? from by rw [List.getElem?_take, if_pos hj]]; rfl)
  rwa [Nat.zero_add] at this)⟩
theorem store_rpv {w : World} {g : Nat} {t : TypeId} {m o : Nat} {md : Int} {s : Saved} {k : Bool} (h : Blk w g t (rpv m o md s k)) (c : Saved) : (storeCells ⟨g, 3, none⟩ (sv c).toList 0).run Tryd.prog w = .ok () (w.setCells g 3 (sv c).toList) := by
 have := run_storeCells_cells (P := Tryd.prog) g 3 (sv c).toList 0 w (fun j hj => by rw [h.cell]; exact rpv_some (by simp [sv] at hj; omega)) (fun j hj => h.frozen _) (sv_one c)
 simpa using this
theorem Objs.keepRef {w0 w : World} {os : List Ob} {k g : Nat} {t : TypeId} {m o : Nat} {md : Int} {s : Saved} {b : Bool} (h : Objs w0 w os) (hk : os[k]? = some (.box g t (rpv m o md s b))) (c : Saved) : Objs w0 (w.setCells g 3 (sv c).toList) (os.set k (.box g t (rpv m o md c b))) := by
 rw [← rpv_laid m o md s c b]
 exact Objs.setCells _ _ _ _ _ h hk
theorem Objs.keepRef2 {w0 w : World} {os : List Ob} {k g : Nat} {t : TypeId} {m o : Nat} {md : Int} {s : Saved} {b : Bool} (h : Objs w0 w os) (hk : os[k]? = some (.box g t (rpv m o md s b))) (c : Saved) (b2 : Bool) : Objs w0 ((w.setCells g 3 (sv c).toList).setCell ⟨g, 21, none⟩ (.bool b2)) (os.set k (.box g t (rpv m o md c b2))) := by
 have h1 := (h.keepRef hk c).setBox k (i := 21) (u := .bool b2) (List.getElem?_set_self (List.getElem?_eq_some_iff.1 hk).1)
 rw [List.set_set, rpv_set21] at h1
 exact h1
theorem Objs.keptFacts {w0 w : World} {os : List Ob} {k g : Nat} {t : TypeId} {m o : Nat} {md : Int} {s : Saved} {b : Bool} (h : Objs w0 w os) (hk : os[k]? = some (.box g t (rpv m o md s b))) (c : Saved) : (∀ i, (w.setCells g 3 (sv c).toList).cell? ⟨g, i, none⟩ = (rpv m o md c b)[i]?) ∧ (∀ i, (w.setCells g 3 (sv c).toList).frozen? ⟨g, i, none⟩ = false) :=
 have h1 := ((h.keepRef hk c).box (k := k) (List.getElem?_set_self (List.getElem?_eq_some_iff.1 hk).1)).facts
 ⟨h1.1, h1.2.1⟩
def refL (p : Nat) (s : Pr) (m o : Nat) : List Ob := [.box p 103 (rpv m o s.mode (s.kept.getD saved0) s.kept.isSome), .grid m 106 s.cols s.M, .grid o 106 s.cols s.O]
def refQ (p : Nat) (s : Pr) (xs : List Ob) : Prop := ∃ m o, xs = refL p s m o
def refO (p : Nat) (s : Pr) : Ob := .gen (many (refQ p s))
section
variable {w0 w : World} {os : List Ob} {p : Nat} {s : Pr}
theorem Objs.openRef (h : Objs w0 w (refO p s :: os)) : ∃ m o, Objs w0 w (.box p 103 (rpv m o s.mode (s.kept.getD saved0) s.kept.isSome) :: .grid m 106 s.cols s.M :: .grid o 106 s.cols s.O :: os) := by
 obtain ⟨xs, ⟨m, o, rfl⟩, hS⟩ := h.unpack
 exact ⟨m, o, hS⟩
theorem Objs.closeRef {m o : Nat} (h : Objs w0 w (.box p 103 (rpv m o s.mode (s.kept.getD saved0) s.kept.isSome) :: .grid m 106 s.cols s.M :: .grid o 106 s.cols s.O :: os)) : Objs w0 w (refO p s :: os) :=
 Objs.pack (xs := refL p s m o) h ⟨m, o, rfl⟩
end
end Go.Proofs.YtdndoikgnohkkaaDoor

namespace Go.Proofs.YtdndoikgnohkkaaDoor
open Go.RowKit

def blankL (cols : Nat) (q : Pen) : Ln := (List.replicate cols (blank q), false)
def wipeK (cols : Nat) (q : Pen) (k : Nat) (O : List Ln) : List Ln := List.replicate k (blankL cols q) ++ O.drop k
def wipeN (cols : Nat) (q : Pen) (O : List Ln) : List Ln := List.replicate O.length (blankL cols q)
theorem wipeK_zero (cols : Nat) (q : Pen) (O : List Ln) : wipeK cols q 0 O = O := by simp [wipeK]
theorem wipeK_all (cols : Nat) (q : Pen) (O : List Ln) : wipeK cols q O.length O = wipeN cols q O := by simp [wipeK, wipeN]
theorem wipeK_length {cols k : Nat} {q : Pen} {O : List Ln} (h : k ≤ O.length) : (wipeK cols q k O).length = O.length := by simp [wipeK]; omega
theorem wipeN_length (cols : Nat) (q : Pen) (O : List Ln) : (wipeN cols q O).length = O.length := by simp [wipeN]
theorem rect_wipeK {cols k : Nat} {q : Pen} {O : List Ln} (h : Rect cols O) : Rect cols (wipeK cols q k O) := fun l hl => by
 unfold wipeK at hl
 rcases List.mem_append.1 hl with hl | hl
 ·rw [(List.mem_replicate.1 hl).2]; simp [blankL]
 ·exact h l (List.mem_of_mem_drop hl)
theorem clearC_all {cols : Nat} {q : Pen} {cs : List Cell} (h : cs.length = cols) : clearC 0 cols q cs = List.replicate cols (blank q) := by
 unfold clearC
 split
 ·unfold wipeC
  simp [brk_length, h]
 ·rename_i h0
  obtain rfl : cols = 0 := by omega
  simpa using h
theorem wipeK_get {cols k : Nat} {q : Pen} {O : List Ln} {l : Ln} (h : O[k]? = some l) : (wipeK cols q k O)[k]? = some l := by
 unfold wipeK
 rw [List.getElem?_append_right (by simp)]
 simpa using h
theorem wipeK_step {cols k : Nat} {q : Pen} {O : List Ln} (hk : k < O.length) (hR : Rect cols O) : softMod k false (rowMod k (clearC 0 cols q) (wipeK cols q k O)) = wipeK cols q (k + 1) O := by
 obtain ⟨l, hl⟩ := get_of hk
 have hg := wipeK_get (cols := cols) (q := q) hl
 have hlt : k < (wipeK cols q k O).length := by rw [wipeK_length (by omega)]; exact hk
 rw [rowMod_some hg, softMod_some (l := (clearC 0 cols q l.1, l.2)) (by simp [hlt]), List.set_set, clearC_all (hR.at_ hl)]
 show (wipeK cols q k O).set k (blankL cols q) = _
 unfold wipeK
 rw [List.set_append_right _ _ (by simp)]
 simp only [List.length_replicate, Nat.sub_self]
 simp [List.replicate_succ']
 rw [List.drop_eq_getElem_cons hk]
 rfl
theorem K24.wipe {cols rr : Nat} {q : Pen} {O : List Ln} (h : K24 cols rr O) (hq : q.ok = true) : K24 cols rr (wipeN cols q O) :=
 ⟨fun l hl => by rw [(List.mem_replicate.1 hl).2]; simp [blankL], by rw [wipeN_length]; exact h.2.1, allV_new O.length cols hq⟩
section
variable {w0 w : World} {os : List Ob}
set_option maxRecDepth 100000 in
set_option maxHeartbeats 4000000 in
theorem pwipe_front {p m cols : Nat} {a b c d : Value} {O : List Ln} (q : Pen) (hT : Tabs w0) (hS : Objs w0 w (.box p 44 #[a, .pointer (some ⟨m, 0, none⟩), b, c, d] :: .grid m 83 cols O :: os)) (hc : 0 < cols) (hcm : cols ≤ 1000) (hR : Rect cols O) (hO : O.length ≤ 1000) (hq : q.ok = true) :
  Calls Tryd.prog 38 #[.pointer (some ⟨p, 0, none⟩), .agg (pv q)] w fun e w' => e = .returned (.int .i64 0) ∧ Objs w0 w' (.box p 44 #[a, .pointer (some ⟨m, 0, none⟩), b, c, d] :: .grid m 83 cols (wipeN cols q O) :: os) := by
 have S := Lib.hid hS
 have HT := Lib.hid hT
 have HRO := Lib.hid hR
 have HO := Lib.hid hO
 clear hS hT hR hO
 go_enter Tryd.func38, Tryd.ntmps38
 go_upto_region 1 with (fail)
 refine at_objsC (S.out.alloc1 (c1 := pv q) (t1 := 29)) (fun W hW => ?_)
 generalize w.heap.size = b3 at hW ⊢
 have S1 := Lib.hid hW
 clear hW S
 obtain ⟨hx, hf, hz⟩ := (S1.out.box (k := 1) rfl).facts
 go_wp2_with fail
 clear hx hf hz
 refine (Rows_any S1.out (k := 2) rfl).mono ?_
 rintro e w1 ⟨rfl, hS⟩
 have S2 := Lib.hid hS
 clear hS S1
 go_wp2_with fail
 go_loopw [16] (fun x wr => ∃ n : Nat, n ≤ O.length ∧ x = .int .i64 n ∧ Objs w0 wr (.box b3 29 (pv q) :: .box p 44 #[a, .pointer (some ⟨m, 0, none⟩), b, c, d] :: .grid m 83 ↑cols (wipeK cols q n O) :: os)) (fun x _ => O.length - (intOf x).toNat)
 case atStart => exact ⟨0, Nat.zero_le _, rfl, by rw [wipeK_zero]; exact S2.out⟩
 case round =>
  clear S2
  obtain ⟨n, hn, rfl, hS⟩ := hrel
  have S2 := Lib.hid hS
  clear hS
  have hO1 := HO.out
  by_cases hlt : n < O.length
  ·have HR := Lib.hid (rect_wipeK (k := n) (q := q) HRO.out)
   have HN := Lib.hid (show n < (wipeK cols q n O).length by rw [wipeK_length hn]; exact hlt)
   have HST := Lib.hid (wipeK_step (q := q) hlt HRO.out)
   go_upto_region 5 with (fail)
   refine wp_region_stage (w0 := w0) (os := os) (by kernel_rfl) (by kernel_rfl) (by kernel_rfl) [(2, 5, [], fun vs => .grid m 83 ↑cols (rowMod n (clearC 0 cols q) (wipeK cols q n O)))] [[], [], [], [2], [0], [2], []] [.box b3 29 (pv q), .box p 44 #[a, .pointer (some ⟨m, 0, none⟩), b, c, d], .grid m 83 ↑cols (wipeK cols q n O)] (fun opn u => match opn with | 0 => u = .pointer (some ⟨m, 0, none⟩) | 1 => u = .int .i64 ↑n | 2 => u = .pointer (some ⟨m, 0, none⟩) | 3 => u = .int .i64 ↑cols | 4 => u = .agg (pv q) | 5 => u = .int .i64 0 | 6 => u = .int .i64 0 | _ => True) (fun vs => [.box b3 29 (pv q), .box p 44 #[a, .pointer (some ⟨m, 0, none⟩), b, c, d], .grid m 83 ↑cols (rowMod n (clearC 0 cols q) (wipeK cols q n O))]) (by kernel_rfl) (fun vs => by rfl) S2.out ?_ ?_
   ·apply sc
    ·intro a w' vs σ hS hl hs hk
     have f5 : a.tmps[5]?.getD undef = .pointer (some ⟨m, 0, none⟩) := sof hk
     exact rp (pt m 0) (by simp [execOp, Act.eval, f5, go_sem]) hl hs hS
    apply sc
    ·intro a w' vs σ hS hl hs hk
     have f6 : a.tmps[6]?.getD undef = .int .i64 ↑n := sof hk
     exact rp (.int .i64 ↑n) (by simp [execOp, Act.eval, f6, go_sem]) hl hs hS
    apply sc
    ·intro a w' vs σ hS hl hs hk
     have f5 : a.tmps[5]?.getD undef = .pointer (some ⟨m, 0, none⟩) := sof hk
     exact rp (pt m 0) (by simp [execOp, Act.eval, f5, go_sem]) hl hs hS
    apply sc
    ·intro a w' vs σ hS hl hs hk
     have e21 : a.tmps.getD 21 undef = .pointer (some ⟨m, 0, none⟩) := svv hk 2
     exact ro_call (f := 29) (wanted_none rfl) rfl (by simp only [List.map_toArray, List.map_cons, List.map_nil, Act.eval, e21] <;> rfl) (fun _ _ => by kernel_rfl) ((Cols_any hS (k := 2) (sg (hs 2 (by decide)))).mono fun e w2 ⟨h1, h2⟩ => ⟨_, h1, sp_same (by kernel_rfl) hl hs h2 rfl, trivial⟩)
    apply sc
    ·intro a w' vs σ hS hl hs hk
     have f3 : a.tmps[3]?.getD undef = .pointer (some ⟨b3, 0, none⟩) := sof hk
     have hx := (hS.box (sg (hs 0 (by decide)))).penAt
     exact rp (.agg (pv q)) (by simp [execOp, Act.eval, f3, go_sem, hx]) hl hs hS
    apply sc
    ·intro a w' vs σ hS hl hs hk
     have e19 : a.tmps.getD 19 undef = .pointer (some ⟨m, 0, none⟩) := svv hk 0
     have e20 : a.tmps.getD 20 undef = .int .i64 ↑n := svv hk 1
     have e22 : a.tmps.getD 22 undef = .int .i64 ↑cols := svv hk 3
     have e23 : a.tmps.getD 23 undef = .agg (pv q) := svv hk 4
     exact ro_call (f := 66) (wanted_none rfl) rfl (by simp only [List.map_toArray, List.map_cons, List.map_nil, Act.eval, e19, e20, e22, e23] <;> rfl) (fun _ _ => by kernel_rfl) ((ClearG (f := 0) (t := cols) q HT.out hS (k := 2) (sg (hs 2 (by decide))) hc hcm HR.out HN.out hq (Nat.zero_le _) (Nat.le_refl _)).mono fun e w2 ⟨h1, h2⟩ => ⟨_, h1, sp_set 2 (.grid m 83 ↑cols (rowMod n (clearC 0 cols q) (wipeK cols q n O))) (by kernel_rfl) (by simp) (by decide) hl hs (by rfl) h2 rfl, trivial⟩)
    apply sc
    ·intro a w' vs σ hS hl hs hk
     have f24 : a.tmps[24]?.getD undef = .int .i64 0 := svf hk 5
     exact rp (.int .i64 0) (by simp [execOp, Act.eval, f24, go_sem]) hl hs hS
    exact SSteps.nil
   ·intro vs w' hS hv
    have q0 : vs 0 = _ := hv 0 (by decide)
    have q1 : vs 1 = _ := hv 1 (by decide)
    have q2 : vs 2 = _ := hv 2 (by decide)
    have q3 : vs 3 = _ := hv 3 (by decide)
    have q4 : vs 4 = _ := hv 4 (by decide)
    have q5 : vs 5 = _ := hv 5 (by decide)
    have q6 : vs 6 = _ := hv 6 (by decide)
    have S2 := Lib.hid hS
    simp only [putL, Act.put, Nat.zero_add, Nat.reduceAdd, List.setIfInBounds_toArray, List.set_cons_succ, List.set_cons_zero, q0, q1, q2, q3, q4, q5, q6]
    clear hS hv q0 q1 q2 q3 q4 q5 q6
    have S3 := S2
    clear S2
    go_wp2_with fail
    refine (SetSoftG false S3.out (k := 2) rfl hc (by rw [rowMod_length]; exact HN.out) (by rw [rowMod_length, wipeK_length hn]; have := HO.out; omega)).mono ?_
    rintro e w2 ⟨rfl, hS⟩
    have S4 := Lib.hid hS
    clear hS
    go_wp2_with fail
    go_roundw
    case rel => exact ⟨n + 1, by omega, by go_num, by rw [← HST.out]; exact S4.out⟩
    case measure => simp [intOf]; omega
  ·obtain rfl : n = O.length := by omega
   rw [wipeK_all] at S2
   go_wp2_with fail
   go_ret
   exact ⟨rfl, S2.out.tail⟩
theorem pair_call {P : Program} {f : FuncId} {args : Array Value} {k k2 : Nat} {o1 o2 o1' o2' : Ob} {r : Value} (hS : Objs w0 w os) (hk : os[k]? = some o1) (hk2 : os[k2]? = some o2) (hne : k ≠ k2)
  (hc : ∀ rest, Objs w0 w (o1 :: o2 :: rest) → Calls P f args w fun e w' => e = .returned r ∧ Objs w0 w' (o1' :: o2' :: rest)) : Calls P f args w fun e w' => e = .returned r ∧ Objs w0 w' ((os.set k o1').set k2 o2') := by
 have g1 : (o2 :: os.set k2 .none)[k + 1]? = some o1 := by simpa [List.getElem?_set_ne (Ne.symm hne)] using hk
 have g2 : (o2' :: os.set k2 .none)[k + 1]? = some o1 := by simpa [List.getElem?_set_ne (Ne.symm hne)] using hk
 have g3 : (os.set k o1')[k2]? = some o2 := by rw [List.getElem?_set_ne hne]; exact hk2
 refine (hc _ ((hS.lift hk2).lift g1)).mono fun e w' ⟨h1, h2⟩ => ⟨h1, ?_⟩
 have h3 := Objs.lower g2 (show Objs w0 w' (o1' :: (o2' :: os.set k2 .none).set (k + 1) .none) from h2)
 refine Objs.lower g3 ?_
 rw [← List.set_comm _ _ (Ne.symm hne)]
 exact h3
theorem pwipe_at {p m cols k j : Nat} {a b c d : Value} {O : List Ln} (q : Pen) (hT : Tabs w0) (hS : Objs w0 w os) (hk : os[k]? = some (.box p 44 #[a, .pointer (some ⟨m, 0, none⟩), b, c, d])) (hj : os[j]? = some (.grid m 83 cols O)) (hkj : k ≠ j) (hc : 0 < cols) (hcm : cols ≤ 1000) (hR : Rect cols O) (hO : O.length ≤ 1000) (hq : q.ok = true) :
  Calls Tryd.prog 38 #[.pointer (some ⟨p, 0, none⟩), .agg (pv q)] w fun e w' => e = .returned (.int .i64 0) ∧ Objs w0 w' (os.set j (.grid m 83 cols (wipeN cols q O))) := by
 have h := pair_call hS hk hj hkj (fun rest h => pwipe_front q hT h hc hcm hR hO hq)
 rw [set_self hk] at h
 exact h
end
end Go.Proofs.YtdndoikgnohkkaaDoor

namespace Go.Proofs.YtdndoikgnohkkaaDoor
open Go.RowKit

def entE (n : Int) (x : Saved) (q : Pen) (s : Pr) : Int := if ¬ (mode24 n = true ∧ (n = 1049 → x.ok = true ∧ q.ok = true)) then 2 else if ¬ s.mode = 0 then 11 else 0
def entN (n : Int) (x : Saved) (q : Pen) (s : Pr) : Pr := if n = 1049 then { s with mode := n, kept := some x, O := wipeN s.cols q s.O } else { s with mode := n }
theorem ent_cases (n : Int) (x : Saved) (q : Pen) (s : Pr) :
  (mode24 n = false ∧ entE n x q s = 2) ∨ (mode24 n = true ∧ n = 1049 ∧ x.ok = false ∧ entE n x q s = 2) ∨ (mode24 n = true ∧ n = 1049 ∧ x.ok = true ∧ q.ok = false ∧ entE n x q s = 2) ∨
  (mode24 n = true ∧ n = 1049 ∧ x.ok = true ∧ q.ok = true ∧ ¬ s.mode = 0 ∧ entE n x q s = 11) ∨ (mode24 n = true ∧ ¬ n = 1049 ∧ ¬ s.mode = 0 ∧ entE n x q s = 11) ∨
  (mode24 n = true ∧ n = 1049 ∧ x.ok = true ∧ q.ok = true ∧ s.mode = 0 ∧ entE n x q s = 0) ∨ (mode24 n = true ∧ ¬ n = 1049 ∧ s.mode = 0 ∧ entE n x q s = 0) := by
 unfold entE
 cases h1 : mode24 n
 ·exact .inl ⟨rfl, by simp⟩
 by_cases h2 : n = 1049
 ·cases h3 : x.ok
  ·exact .inr (.inl ⟨rfl, h2, rfl, by simp [h2]⟩)
  cases h4 : q.ok
  ·exact .inr (.inr (.inl ⟨rfl, h2, rfl, rfl, by simp [h2]⟩))
  by_cases h5 : s.mode = 0
  ·exact .inr (.inr (.inr (.inr (.inr (.inl ⟨rfl, h2, rfl, rfl, h5, by simp [h5]⟩)))))
  ·exact .inr (.inr (.inr (.inl ⟨rfl, h2, rfl, rfl, h5, by simp [h5]⟩)))
 by_cases h5 : s.mode = 0
 ·exact .inr (.inr (.inr (.inr (.inr (.inr ⟨rfl, h2, h5, by simp [h2, h5]⟩)))))
 ·exact .inr (.inr (.inr (.inr (.inl ⟨rfl, h2, h5, by simp [h2, h5]⟩))))
theorem altKnown_is {n : Int} {b : Bool} (h : mode24 n = b) (w : World) : Calls Tryd.prog 35 #[.int .i64 n] w fun e w' => e = .returned (.bool b) ∧ w = w' := h ▸ altKnown_any n w
section
variable {w0 w : World} {os : List Ob} {p : Nat} {s : Pr}
theorem savedValid_is {x : Saved} {b : Bool} (h : x.ok = b) (hS : Objs w0 w os) : Calls Tryd.prog 36 #[.agg (sv x)] w fun e w' => e = .returned (.bool b) ∧ Objs w0 w' os := h ▸ savedValid_any x hS
theorem altInked_is {q : Pen} {b : Bool} (h : q.ok = b) (hT : Tabs w0) (hS : Objs w0 w os) : Calls Tryd.prog 37 #[.agg (pv q)] w fun e w' => e = .returned (.bool b) ∧ Objs w0 w' os := h ▸ altInked_any q hT hS
set_option maxRecDepth 100000 in
set_option maxHeartbeats 4000000 in
theorem Enter_no (n : Int) (x : Saved) (q : Pen) (hT : Tabs w0) (hS : Objs w0 w (pairO p s :: os)) (hno : ¬ entE n x q s = 0) :
  Calls Tryd.prog 9 #[.pointer (some ⟨p, 0, none⟩), .int .i64 n, .agg (sv x), .agg (pv q)] w fun e w' => e = .returned (.int .i64 (entE n x q s)) ∧ Objs w0 w' (pairO p s :: os) := by
 obtain ⟨g, m, kv, ko, hK, hO⟩ := hS.openPair
 have S := Lib.hid hO
 have HK := Lib.hid hK
 have HT := Lib.hid hT
 clear hS hO hK hT
 rcases ent_cases n x q s with ⟨h1, hE⟩ | ⟨h1, h2, h3, hE⟩ | ⟨h1, h2, h3, h4, hE⟩ | ⟨h1, h2, h3, h4, h5, hE⟩ | ⟨h1, h2, h5, hE⟩ | ⟨-, -, -, -, -, hE⟩ | ⟨-, -, -, hE⟩
 case' inr.inr.inr.inr.inr.inl => exact absurd hE hno
 case' inr.inr.inr.inr.inr.inr => exact absurd hE hno
 case' inl => have H1 := Lib.hid h1; clear h1
 case' inr.inl => have H1 := Lib.hid h1; have b2 := beq_yes h2; have H3 := Lib.hid h3; clear h1 h2 h3
 case' inr.inr.inl => have H1 := Lib.hid h1; have b2 := beq_yes h2; have H3 := Lib.hid h3; have H4 := Lib.hid h4; clear h1 h2 h3 h4
 case' inr.inr.inr.inl => have H1 := Lib.hid h1; have b2 := beq_yes h2; have H3 := Lib.hid h3; have H4 := Lib.hid h4; have HU := Lib.hid (show used24 s.mode = 1 from if_neg h5); clear h1 h2 h3 h4 h5
 case' inr.inr.inr.inr.inl => have H1 := Lib.hid h1; have b2 := beq_no h2; have HU := Lib.hid (show used24 s.mode = 1 from if_neg h5); clear h1 h2 h5
 all_goals
  rw [hE]
  clear hE hno
  go_enter Tryd.func9, Tryd.ntmps9
  go_upto_region 1 with (fail)
  refine at_objsC (S.out.alloc2 (c1 := sv x) (t1 := 35) (c2 := pv q) (t2 := 29)) (fun W hW => ?_)
  generalize w.heap.size + 1 = b7 at hW ⊢
  generalize w.heap.size = b6 at hW ⊢
  have S1 := Lib.hid hW
  clear hW S
  go_wp2_with fail
  refine (pnone_no S1.out (k := 2) rfl).mono ?_
  rintro e w1 ⟨rfl, hS⟩
  have S2 := Lib.hid hS
  clear hS S1
  obtain ⟨hx6, hf6, hz6, hr6, hp6⟩ := (S2.out.box (k := 1) rfl).saved
  obtain ⟨hx, hf, hz⟩ := (S2.out.box (k := 2) rfl).facts
  try rw [HU.out] at hx
  go_wp2_with fail
  refine (altKnown_is H1.out _).mono ?_
  rintro e w2 ⟨rfl, rfl⟩
  go_wp2_with fail
 ·go_ret
  exact ⟨rfl, S2.out.tail.tail.closePair HK.out⟩
 ·refine (savedValid_is H3.out S2.out).mono ?_
  rintro e w2 ⟨rfl, hS⟩
  have S3 := Lib.hid hS
  clear hS S2 hx6 hf6 hz6 hr6 hp6 hx hf hz
  have hp7 := (S3.out.box (k := 0) rfl).penAt
  obtain ⟨hx7, hf7, hz7⟩ := (S3.out.box (k := 0) rfl).facts
  go_wp2_with fail
  refine (altInked_is H4.out HT.out S3.out).mono ?_
  rintro e w2 ⟨rfl, hS⟩
  have S4 := Lib.hid hS
  clear hS S3 hp7 hx7 hf7 hz7
  obtain ⟨hx, hf, hz⟩ := (S4.out.box (k := 2) rfl).facts
  rw [HU.out] at hx
  go_wp2_with fail
  go_ret
  exact ⟨rfl, S4.out.tail.tail.closePair HK.out⟩
 ·refine (savedValid_is H3.out S2.out).mono ?_
  rintro e w2 ⟨rfl, hS⟩
  have S3 := Lib.hid hS
  clear hS S2 hx6 hf6 hz6 hr6 hp6 hx hf hz
  have hp7 := (S3.out.box (k := 0) rfl).penAt
  obtain ⟨hx7, hf7, hz7⟩ := (S3.out.box (k := 0) rfl).facts
  go_wp2_with fail
  refine (altInked_is H4.out HT.out S3.out).mono ?_
  rintro e w2 ⟨rfl, hS⟩
  have S4 := Lib.hid hS
  clear hS S3 hp7 hx7 hf7 hz7
  go_wp2_with fail
  go_ret
  exact ⟨rfl, S4.out.tail.tail.closePair HK.out⟩
 ·refine (savedValid_is H3.out S2.out).mono ?_
  rintro e w2 ⟨rfl, hS⟩
  have S3 := Lib.hid hS
  clear hS S2 hx6 hf6 hz6 hr6 hp6 hx hf hz
  go_wp2_with fail
  go_ret
  exact ⟨rfl, S3.out.tail.tail.closePair HK.out⟩
 ·go_ret
  exact ⟨rfl, S2.out.tail.tail.closePair HK.out⟩
set_option maxRecDepth 100000 in
set_option maxHeartbeats 4000000 in
theorem Enter_yes {rr : Nat} (n : Int) (x : Saved) (q : Pen) (hT : Tabs w0) (hS : Objs w0 w (pairO p s :: os)) (hg : s.good rr) (hyes : entE n x q s = 0) :
  Calls Tryd.prog 9 #[.pointer (some ⟨p, 0, none⟩), .int .i64 n, .agg (sv x), .agg (pv q)] w fun e w' => e = .returned (.int .i64 0) ∧ Objs w0 w' (pairO p (entN n x q s) :: os) := by
 obtain ⟨g, m, kv, ko, hK, hO⟩ := hS.openPair
 have S := Lib.hid hO
 have HK := Lib.hid hK
 have HT := Lib.hid hT
 have HG := Lib.hid hg
 clear hS hO hK hT hg
 rcases ent_cases n x q s with ⟨-, hE⟩ | ⟨-, -, -, hE⟩ | ⟨-, -, -, -, hE⟩ | ⟨-, -, -, -, -, hE⟩ | ⟨-, -, -, hE⟩ | ⟨h1, h2, h3, h4, h5, hE⟩ | ⟨h1, h2, h5, hE⟩
 case' inl => rw [hyes] at hE; cases hE
 case' inr.inl => rw [hyes] at hE; cases hE
 case' inr.inr.inl => rw [hyes] at hE; cases hE
 case' inr.inr.inr.inl => rw [hyes] at hE; cases hE
 case' inr.inr.inr.inr.inl => rw [hyes] at hE; cases hE
 case' inr.inr.inr.inr.inr.inl => have H1 := Lib.hid h1; have b2 := beq_yes h2; have b3 := bne_no h2; have H3 := Lib.hid h3; have H4 := Lib.hid h4; have HU := Lib.hid (show used24 s.mode = 0 from if_pos h5); have HN := Lib.hid (show entN n x q s = { s with mode := n, kept := some x, O := wipeN s.cols q s.O } from if_pos h2); have H9 := Lib.hid (show used24 n = 1 from if_neg (by rw [h2]; decide)); clear h1 h2 h3 h4 h5
 case' inr.inr.inr.inr.inr.inr => have H1 := Lib.hid h1; have b2 := beq_no h2; have b3 := bne_yes h2; have HU := Lib.hid (show used24 s.mode = 0 from if_pos h5); have HN := Lib.hid (show entN n x q s = { s with mode := n } from if_neg h2); have H9 := Lib.hid (show used24 n = 1 from if_neg (by intro h; rw [h] at h1; cases h1)); clear h1 h2 h5
 all_goals
  clear hE hyes
  go_enter Tryd.func9, Tryd.ntmps9
  go_upto_region 1 with (fail)
  refine at_objsC (S.out.alloc2 (c1 := sv x) (t1 := 35) (c2 := pv q) (t2 := 29)) (fun W hW => ?_)
  generalize w.heap.size + 1 = b7 at hW ⊢
  generalize w.heap.size = b6 at hW ⊢
  have S1 := Lib.hid hW
  clear hW S
  go_wp2_with fail
  refine (pnone_no S1.out (k := 2) rfl).mono ?_
  rintro e w1 ⟨rfl, hS⟩
  have S2 := Lib.hid hS
  clear hS S1
  obtain ⟨hx6, hf6, hz6, hr6, hp6⟩ := (S2.out.box (k := 1) rfl).saved
  obtain ⟨hx, hf, hz⟩ := (S2.out.box (k := 2) rfl).facts
  try rw [HU.out] at hx
  go_wp2_with fail
  refine (altKnown_is H1.out _).mono ?_
  rintro e w2 ⟨rfl, rfl⟩
  go_wp2_with fail
 ·go_ret
  refine ⟨rfl, ?_⟩
  rw [HN.out]
  refine Objs.closePair (g := g) (m := m) (kv := kv) (ko := ko) ?_ HK.out
  show Objs w0 _ (.box p 44 #[.pointer (some ⟨g, 0, none⟩), .pointer (some ⟨m, 0, none⟩), .int .i64 (used24 n), .int .i64 n, kv] :: .grid g 83 s.cols s.M :: .grid m 83 s.cols s.O :: ko :: os)
  rw [H9.out]
  exact ((S2.out.setBox 2 (i := 2) (u := .int .i64 1) rfl).setBox 2 (i := 3) (u := .int .i64 n) rfl).tail.tail
 ·refine (savedValid_is H3.out S2.out).mono ?_
  rintro e w2 ⟨rfl, hS⟩
  have S3 := Lib.hid hS
  clear hS S2 hx6 hf6 hz6 hr6 hp6 hx hf hz
  have hp7 := (S3.out.box (k := 0) rfl).penAt
  obtain ⟨hx7, hf7, hz7⟩ := (S3.out.box (k := 0) rfl).facts
  go_wp2_with fail
  refine (altInked_is H4.out HT.out S3.out).mono ?_
  rintro e w2 ⟨rfl, hS⟩
  have S4 := Lib.hid hS
  clear hS S3 hp7 hx7 hf7 hz7
  obtain ⟨hx, hf, hz⟩ := (S4.out.box (k := 2) rfl).facts
  rw [HU.out] at hx
  go_upto_region 11 with (fail)
  refine at_objsC (((S4.out.setBox 2 (i := 2) (u := .int .i64 1) rfl).setBox 2 (i := 3) (u := .int .i64 n) rfl).setBox 2 (i := 4) (u := .pointer (some ⟨b6, 0, none⟩)) rfl) (fun W2 hW => ?_)
  clear hx hf hz S4
  have S5 := Lib.hid (show Objs w0 W2 (.box p 44 #[.pointer (some ⟨g, 0, none⟩), .pointer (some ⟨m, 0, none⟩), .int .i64 1, .int .i64 n, .pointer (some ⟨b6, 0, none⟩)] :: .grid m 83 s.cols s.O :: .grid g 83 s.cols s.M :: .box b6 35 (sv x) :: .box b7 29 (pv q) :: os) from (Objs.pick (σ := [_, _, _, _, _, _]) (os := os) hW [some 2, some 4, some 3, some 1, some 0] (by decide) rfl))
  clear hW
  have hp7 := (S5.out.box (k := 4) rfl).penAt
  obtain ⟨hx7, hf7, hz7⟩ := (S5.out.box (k := 4) rfl).facts
  go_wp2_with fail
  refine (pwipe_front q HT.out S5.out HG.out.c0 HG.out.cm HG.out.O.1 (by rw [HG.out.O.2.1]; exact HG.out.rm) H4.out).mono ?_
  rintro e w3 ⟨rfl, hS⟩
  have S6 := Lib.hid hS
  clear hS S5 hp7 hx7 hf7 hz7
  go_wp2_with fail
  go_ret
  refine ⟨rfl, ?_⟩
  rw [HN.out]
  refine Objs.closePair (g := g) (m := m) (kv := .pointer (some ⟨b6, 0, none⟩)) (ko := .box b6 35 (sv x)) ?_ ⟨b6, rfl, rfl⟩
  show Objs w0 w3 (.box p 44 #[.pointer (some ⟨g, 0, none⟩), .pointer (some ⟨m, 0, none⟩), .int .i64 (used24 n), .int .i64 n, .pointer (some ⟨b6, 0, none⟩)] :: .grid g 83 s.cols s.M :: .grid m 83 s.cols (wipeN s.cols q s.O) :: .box b6 35 (sv x) :: os)
  rw [H9.out]
  exact (Objs.pick (σ := [_, _, _, _, _]) (os := os) S6.out [some 0, some 2, some 1, some 3] (by decide) rfl)
end
end Go.Proofs.YtdndoikgnohkkaaDoor

namespace Go.Proofs.YtdndoikgnohkkaaDoor
open Go.RowKit

def lvE (n : Int) (q : Pen) (s : Pr) : Int := if ¬ (mode24 n = true ∧ (n = 1047 → q.ok = true)) then 2 else if s.mode = 0 then 8 else 0
def lvS (n : Int) (s : Pr) : Option Saved := if n = 1049 then s.kept else none
def lvN (n : Int) (q : Pen) (s : Pr) : Pr := if n = 1047 then { s with mode := 0, O := wipeN s.cols q s.O } else if n = 1049 then { s with mode := 0, kept := none } else { s with mode := 0 }
def keptV (k : Option Saved) : Value := .tuple #[.agg (sv (k.getD saved0)), .bool k.isSome, .int .i64 0]
theorem lv_cases (n : Int) (q : Pen) (s : Pr) :
  (mode24 n = false ∧ lvE n q s = 2) ∨ (mode24 n = true ∧ n = 1047 ∧ q.ok = false ∧ lvE n q s = 2) ∨ (mode24 n = true ∧ n = 1047 ∧ q.ok = true ∧ s.mode = 0 ∧ lvE n q s = 8) ∨ (mode24 n = true ∧ ¬ n = 1047 ∧ s.mode = 0 ∧ lvE n q s = 8) ∨
  (mode24 n = true ∧ n = 1047 ∧ q.ok = true ∧ ¬ s.mode = 0 ∧ lvE n q s = 0) ∨ (mode24 n = true ∧ ¬ n = 1047 ∧ n = 1049 ∧ ¬ s.mode = 0 ∧ lvE n q s = 0) ∨ (mode24 n = true ∧ ¬ n = 1047 ∧ ¬ n = 1049 ∧ ¬ s.mode = 0 ∧ lvE n q s = 0) := by
 unfold lvE
 cases h1 : mode24 n
 ·exact .inl ⟨rfl, by simp⟩
 by_cases h2 : n = 1047
 ·cases h4 : q.ok
  ·exact .inr (.inl ⟨rfl, h2, rfl, by simp [h2]⟩)
  by_cases h5 : s.mode = 0
  ·exact .inr (.inr (.inl ⟨rfl, h2, rfl, h5, by simp [h5]⟩))
  ·exact .inr (.inr (.inr (.inr (.inl ⟨rfl, h2, rfl, h5, by simp [h5]⟩))))
 by_cases h5 : s.mode = 0
 ·exact .inr (.inr (.inr (.inl ⟨rfl, h2, h5, by simp [h2, h5]⟩)))
 by_cases h6 : n = 1049
 ·exact .inr (.inr (.inr (.inr (.inr (.inl ⟨rfl, h2, h6, h5, by simp [h2, h5]⟩)))))
 ·exact .inr (.inr (.inr (.inr (.inr (.inr ⟨rfl, h2, h6, h5, by simp [h2, h5]⟩)))))
theorem at_objsP {w0 w : World} {os : List Ob} {P : Program} {f : Func} {φ : Ending → World → Prop} {x : Exit} {a : Act} (h : Objs w0 w os) (hc : ∀ w', Objs w0 w' os → bodyPost P f φ x a w') : bodyPost P f φ x a w := hc w h
section
variable {w0 w : World} {os : List Ob} {p : Nat} {s : Pr}
set_option maxRecDepth 100000 in
set_option maxHeartbeats 4000000 in
theorem Leave_no (n : Int) (q : Pen) (hT : Tabs w0) (hS : Objs w0 w (pairO p s :: os)) (hno : ¬ lvE n q s = 0) :
  Calls Tryd.prog 23 #[.pointer (some ⟨p, 0, none⟩), .int .i64 n, .agg (pv q)] w fun e w' => e = .returned (.tuple #[.agg (sv saved0), .bool false, .int .i64 (lvE n q s)]) ∧ Objs w0 w' (pairO p s :: os) := by
 obtain ⟨g, m, kv, ko, hK, hO⟩ := hS.openPair
 have S := Lib.hid hO
 have HK := Lib.hid hK
 have HT := Lib.hid hT
 clear hS hO hK hT
 rcases lv_cases n q s with ⟨h1, hE⟩ | ⟨h1, h2, h4, hE⟩ | ⟨h1, h2, h4, h5, hE⟩ | ⟨h1, h2, h5, hE⟩ | ⟨-, -, -, -, hE⟩ | ⟨-, -, -, -, hE⟩ | ⟨-, -, -, -, hE⟩
 case' inr.inr.inr.inr.inl => exact absurd hE hno
 case' inr.inr.inr.inr.inr.inl => exact absurd hE hno
 case' inr.inr.inr.inr.inr.inr => exact absurd hE hno
 case' inl => have H1 := Lib.hid h1; clear h1
 case' inr.inl => have H1 := Lib.hid h1; have b2 := beq_yes h2; have H4 := Lib.hid h4; clear h1 h2 h4
 case' inr.inr.inl => have H1 := Lib.hid h1; have b2 := beq_yes h2; have H4 := Lib.hid h4; have HU := Lib.hid (show used24 s.mode = 0 from if_pos h5); clear h1 h2 h4 h5
 case' inr.inr.inr.inl => have H1 := Lib.hid h1; have b2 := beq_no h2; have HU := Lib.hid (show used24 s.mode = 0 from if_pos h5); clear h1 h2 h5
 all_goals
  rw [hE]
  clear hE hno
  go_enter Tryd.func23, Tryd.ntmps23
  go_upto_region 1 with (fail)
  refine at_objsC (S.out.alloc2 (c1 := pv q) (t1 := 29) (c2 := sv saved0) (t2 := 35)) (fun W hW => ?_)
  generalize w.heap.size + 1 = b6 at hW ⊢
  generalize w.heap.size = b5 at hW ⊢
  have S1 := Lib.hid hW
  clear hW S
  go_wp2_with fail
  refine (pnone_no S1.out (k := 2) rfl).mono ?_
  rintro e w1 ⟨rfl, hS⟩
  have S2 := Lib.hid hS
  clear hS S1
  obtain ⟨hx6, hf6, hz6, hr6, hp6⟩ := (S2.out.box (k := 0) rfl).saved
  have hst6 := fun c => store_sv_row w1 b6 _ c (S2.out.box (k := 0) rfl) rfl
  obtain ⟨hx5, hf5, hz5⟩ := (S2.out.box (k := 1) rfl).facts
  have hp5 := (S2.out.box (k := 1) rfl).penAt
  obtain ⟨hx, hf, hz⟩ := (S2.out.box (k := 2) rfl).facts
  try rw [HU.out] at hx
  go_wp2_with fail
  refine (altKnown_is H1.out _).mono ?_
  rintro e w2 ⟨rfl, rfl⟩
  go_wp2_with fail
 ·refine at_objsP (S2.out.rowBox 0 (ds := sv saved0) rfl) (fun W5 hW => ?_)
  have S5 := Lib.hid hW
  clear hW
  refine bodyPost_ret (results_cell3 Tryd.results23 _ _ b6 35 _ _ rfl (S5.out.box (k := 0) rfl) Tryd.underlying35 rfl (by rw [sv_size]; exact saved_size)) rfl ?_
  exact ⟨rfl, S5.out.tail.tail.closePair HK.out⟩
 ·refine (altInked_is H4.out HT.out S2.out).mono ?_
  rintro e w2 ⟨rfl, hS⟩
  clear hx6 hf6 hz6 hr6 hp6 hst6 hx5 hf5 hz5 hp5 hx hf hz
  have S3 := Lib.hid hS
  clear hS S2
  obtain ⟨hx6, hf6, hz6, hr6, hp6⟩ := (S3.out.box (k := 0) rfl).saved
  have hst6 := fun c => store_sv_row w2 b6 _ c (S3.out.box (k := 0) rfl) rfl
  obtain ⟨hx5, hf5, hz5⟩ := (S3.out.box (k := 1) rfl).facts
  have hp5 := (S3.out.box (k := 1) rfl).penAt
  obtain ⟨hx, hf, hz⟩ := (S3.out.box (k := 2) rfl).facts
  try rw [HU.out] at hx
  go_wp2_with fail
  refine at_objsP (S3.out.rowBox 0 (ds := sv saved0) rfl) (fun W5 hW => ?_)
  have S5 := Lib.hid hW
  clear hW
  refine bodyPost_ret (results_cell3 Tryd.results23 _ _ b6 35 _ _ rfl (S5.out.box (k := 0) rfl) Tryd.underlying35 rfl (by rw [sv_size]; exact saved_size)) rfl ?_
  exact ⟨rfl, S5.out.tail.tail.closePair HK.out⟩
 ·refine (altInked_is H4.out HT.out S2.out).mono ?_
  rintro e w2 ⟨rfl, hS⟩
  clear hx6 hf6 hz6 hr6 hp6 hst6 hx5 hf5 hz5 hp5 hx hf hz
  have S3 := Lib.hid hS
  clear hS S2
  obtain ⟨hx6, hf6, hz6, hr6, hp6⟩ := (S3.out.box (k := 0) rfl).saved
  have hst6 := fun c => store_sv_row w2 b6 _ c (S3.out.box (k := 0) rfl) rfl
  obtain ⟨hx5, hf5, hz5⟩ := (S3.out.box (k := 1) rfl).facts
  have hp5 := (S3.out.box (k := 1) rfl).penAt
  obtain ⟨hx, hf, hz⟩ := (S3.out.box (k := 2) rfl).facts
  try rw [HU.out] at hx
  go_wp2_with fail
  refine at_objsP (S3.out.rowBox 0 (ds := sv saved0) rfl) (fun W5 hW => ?_)
  have S5 := Lib.hid hW
  clear hW
  refine bodyPost_ret (results_cell3 Tryd.results23 _ _ b6 35 _ _ rfl (S5.out.box (k := 0) rfl) Tryd.underlying35 rfl (by rw [sv_size]; exact saved_size)) rfl ?_
  exact ⟨rfl, S5.out.tail.tail.closePair HK.out⟩
 ·refine at_objsP (S2.out.rowBox 0 (ds := sv saved0) rfl) (fun W5 hW => ?_)
  have S5 := Lib.hid hW
  clear hW
  refine bodyPost_ret (results_cell3 Tryd.results23 _ _ b6 35 _ _ rfl (S5.out.box (k := 0) rfl) Tryd.underlying35 rfl (by rw [sv_size]; exact saved_size)) rfl ?_
  exact ⟨rfl, S5.out.tail.tail.closePair HK.out⟩
set_option maxRecDepth 100000 in
set_option maxHeartbeats 4000000 in
theorem Leave_yes {rr : Nat} (n : Int) (q : Pen) (hT : Tabs w0) (hS : Objs w0 w (pairO p s :: os)) (hg : s.good rr) (hyes : lvE n q s = 0) :
  Calls Tryd.prog 23 #[.pointer (some ⟨p, 0, none⟩), .int .i64 n, .agg (pv q)] w fun e w' => e = .returned (keptV (lvS n s)) ∧ Objs w0 w' (pairO p (lvN n q s) :: os) := by
 obtain ⟨g, m, kv, ko, hK, hO⟩ := hS.openPair
 have S := Lib.hid hO
 have HK := Lib.hid hK
 have HT := Lib.hid hT
 clear hS hO hK hT
 have HG := Lib.hid hg
 clear hg
 rcases lv_cases n q s with ⟨-, hE⟩ | ⟨-, -, -, hE⟩ | ⟨-, -, -, -, hE⟩ | ⟨-, -, -, hE⟩ | ⟨h1, h2, h4, h5, hE⟩ | ⟨h1, h2, h3, h5, hE⟩ | ⟨h1, h2, h3, h5, hE⟩
 case' inl => rw [hyes] at hE; cases hE
 case' inr.inl => rw [hyes] at hE; cases hE
 case' inr.inr.inl => rw [hyes] at hE; cases hE
 case' inr.inr.inr.inl => rw [hyes] at hE; cases hE
 case' inr.inr.inr.inr.inl => have H1 := Lib.hid h1; have b2 := beq_yes h2; have H4 := Lib.hid h4; have HU := Lib.hid (show used24 s.mode = 1 from if_neg h5); have HN := Lib.hid (show lvN n q s = { s with mode := 0, O := wipeN s.cols q s.O } from if_pos h2); have HL := Lib.hid (show lvS n s = none from if_neg (by omega)); clear h1 h2 h4 h5
 case' inr.inr.inr.inr.inr.inl =>
  have H1 := Lib.hid h1; have b2 := beq_no h2; have b3 := beq_yes h3; have HU := Lib.hid (show used24 s.mode = 1 from if_neg h5); have HN := Lib.hid (show lvN n q s = { s with mode := 0, kept := none } by unfold lvN; rw [if_neg h2, if_pos h3]); have HL := Lib.hid (show lvS n s = s.kept from if_pos h3); clear h1 h2 h3 h5
  rcases hk : s.kept with _ | x
 case' inr.inr.inr.inr.inr.inr => have H1 := Lib.hid h1; have b2 := beq_no h2; have b3 := beq_no h3; have HU := Lib.hid (show used24 s.mode = 1 from if_neg h5); have HN := Lib.hid (show lvN n q s = { s with mode := 0 } by unfold lvN; rw [if_neg h2, if_neg h3]); have HL := Lib.hid (show lvS n s = none from if_neg h3); clear h1 h2 h3 h5
 case' inr.inr.inr.inr.inr.inl.none =>
  have h := HK.out
  rw [hk] at h
  obtain rfl : kv = .pointer none := h
 case' inr.inr.inr.inr.inr.inl.some =>
  have h := HK.out
  rw [hk] at h
  obtain ⟨kp, rfl, rfl⟩ := h
 all_goals
  clear hE hyes
  go_enter Tryd.func23, Tryd.ntmps23
  go_upto_region 1 with (fail)
  refine at_objsC (S.out.alloc2 (c1 := pv q) (t1 := 29) (c2 := sv saved0) (t2 := 35)) (fun W hW => ?_)
  generalize w.heap.size + 1 = b6 at hW ⊢
  generalize w.heap.size = b5 at hW ⊢
  have S1 := Lib.hid hW
  clear hW S
  go_wp2_with fail
  refine (pnone_no S1.out (k := 2) rfl).mono ?_
  rintro e w1 ⟨rfl, hS⟩
  have S2 := Lib.hid hS
  clear hS S1
  obtain ⟨hx6, hf6, hz6, hr6, hp6⟩ := (S2.out.box (k := 0) rfl).saved
  have hst6 := fun c => store_sv_row w1 b6 _ c (S2.out.box (k := 0) rfl) rfl
  obtain ⟨hx5, hf5, hz5⟩ := (S2.out.box (k := 1) rfl).facts
  have hp5 := (S2.out.box (k := 1) rfl).penAt
  obtain ⟨hx, hf, hz⟩ := (S2.out.box (k := 2) rfl).facts
  try rw [HU.out] at hx
  go_wp2_with fail
  refine (altKnown_is H1.out _).mono ?_
  rintro e w2 ⟨rfl, rfl⟩
 ·go_upto_region 8 with (fail)
  refine at_objsC ((S2.out.setBox 2 (i := 2) (u := .int .i64 0) rfl).setBox 2 (i := 3) (u := .int .i64 0) rfl) (fun W5 hW => ?_)
  clear hx6 hf6 hz6 hr6 hp6 hst6 hx5 hf5 hz5 hp5 hx hf hz
  have S5 := Lib.hid hW
  clear hW S2
  obtain ⟨hx6, hf6, hz6, hr6, hp6⟩ := (S5.out.box (k := 0) rfl).saved
  have hst6 := fun c => store_sv_row W5 b6 _ c (S5.out.box (k := 0) rfl) rfl
  obtain ⟨hx, hf, hz⟩ := (S5.out.box (k := 2) rfl).facts
  obtain ⟨hxk, hfk, hzk, hrk, hpk⟩ := (S5.out.box (k := 5) rfl).saved
  obtain ⟨hxr, hfr, hzr⟩ := ((S5.out.rowBox 0 (ds := sv x) rfl).box (k := 2) rfl).facts
  go_upto_region 12 with (fail)
  refine at_objsC ((S5.out.rowBox 0 (ds := sv x) rfl).setBox 2 (i := 4) (u := .pointer none) rfl) (fun W6 hW => ?_)
  clear hx6 hf6 hz6 hr6 hp6 hst6 hx hf hz hxr hfr hzr hxk hfk hzk hrk hpk
  have S6 := Lib.hid hW
  clear hW S5
  obtain ⟨hx6, hf6, hz6, hr6, hp6⟩ := (S6.out.box (k := 0) rfl).saved
  have hst6 := fun c => store_sv_row W6 b6 _ c (S6.out.box (k := 0) rfl) rfl
  obtain ⟨hx, hf, hz⟩ := (S6.out.box (k := 2) rfl).facts
  go_wp2_with fail
  refine at_objsP (S6.out.rowBox 0 (ds := sv x) rfl) (fun W7 hW => ?_)
  have S7 := Lib.hid hW
  clear hW
  refine bodyPost_ret (results_cell3 Tryd.results23 _ _ b6 35 _ _ rfl (S7.out.box (k := 0) rfl) Tryd.underlying35 rfl (by rw [sv_size]; exact saved_size)) rfl ?_
  rw [HL.out]
  refine ⟨by rw [hk]; rfl, ?_⟩
  rw [HN.out]
  refine Objs.closePair (g := g) (m := m) (kv := .pointer none) (ko := .box kp 35 (sv x)) ?_ rfl
  exact S7.out.tail.tail
 ·go_upto_region 8 with (fail)
  refine at_objsC ((S2.out.setBox 2 (i := 2) (u := .int .i64 0) rfl).setBox 2 (i := 3) (u := .int .i64 0) rfl) (fun W5 hW => ?_)
  clear hx6 hf6 hz6 hr6 hp6 hst6 hx5 hf5 hz5 hp5 hx hf hz
  have S5 := Lib.hid hW
  clear hW S2
  obtain ⟨hx6, hf6, hz6, hr6, hp6⟩ := (S5.out.box (k := 0) rfl).saved
  have hst6 := fun c => store_sv_row W5 b6 _ c (S5.out.box (k := 0) rfl) rfl
  obtain ⟨hx, hf, hz⟩ := (S5.out.box (k := 2) rfl).facts
  go_wp2_with fail
  refine at_objsP (S5.out.rowBox 0 (ds := sv saved0) rfl) (fun W6 hW => ?_)
  have S6 := Lib.hid hW
  clear hW
  refine bodyPost_ret (results_cell3 Tryd.results23 _ _ b6 35 _ _ rfl (S6.out.box (k := 0) rfl) Tryd.underlying35 rfl (by rw [sv_size]; exact saved_size)) rfl ?_
  rw [HL.out]
  refine ⟨by rw [hk]; rfl, ?_⟩
  rw [HN.out]
  refine Objs.closePair (g := g) (m := m) (kv := .pointer none) (ko := ko) ?_ rfl
  exact S6.out.tail.tail
 ·go_upto_region 8 with (fail)
  refine at_objsC ((S2.out.setBox 2 (i := 2) (u := .int .i64 0) rfl).setBox 2 (i := 3) (u := .int .i64 0) rfl) (fun W5 hW => ?_)
  clear hx6 hf6 hz6 hr6 hp6 hst6 hx5 hf5 hz5 hp5 hx hf hz
  have S5 := Lib.hid hW
  clear hW S2
  obtain ⟨hx6, hf6, hz6, hr6, hp6⟩ := (S5.out.box (k := 0) rfl).saved
  have hst6 := fun c => store_sv_row W5 b6 _ c (S5.out.box (k := 0) rfl) rfl
  obtain ⟨hx, hf, hz⟩ := (S5.out.box (k := 2) rfl).facts
  go_wp2_with fail
  refine at_objsP (S5.out.rowBox 0 (ds := sv saved0) rfl) (fun W6 hW => ?_)
  have S6 := Lib.hid hW
  clear hW
  refine bodyPost_ret (results_cell3 Tryd.results23 _ _ b6 35 _ _ rfl (S6.out.box (k := 0) rfl) Tryd.underlying35 rfl (by rw [sv_size]; exact saved_size)) rfl ?_
  rw [HL.out]
  refine ⟨rfl, ?_⟩
  rw [HN.out]
  refine Objs.closePair (g := g) (m := m) (kv := kv) (ko := ko) ?_ HK.out
  exact S6.out.tail.tail
 ·go_wp2_with fail
  refine (altInked_is H4.out HT.out S2.out).mono ?_
  rintro e w2 ⟨rfl, hS⟩
  clear hx6 hf6 hz6 hr6 hp6 hst6 hx5 hf5 hz5 hp5 hx hf hz
  have S3 := Lib.hid hS
  clear hS S2
  obtain ⟨hx6, hf6, hz6, hr6, hp6⟩ := (S3.out.box (k := 0) rfl).saved
  have hst6 := fun c => store_sv_row w2 b6 _ c (S3.out.box (k := 0) rfl) rfl
  obtain ⟨hx5, hf5, hz5⟩ := (S3.out.box (k := 1) rfl).facts
  have hp5 := (S3.out.box (k := 1) rfl).penAt
  obtain ⟨hx, hf, hz⟩ := (S3.out.box (k := 2) rfl).facts
  try rw [HU.out] at hx
  go_upto_region 8 with (fail)
  refine at_objsC ((S3.out.setBox 2 (i := 2) (u := .int .i64 0) rfl).setBox 2 (i := 3) (u := .int .i64 0) rfl) (fun W5 hW => ?_)
  clear hx6 hf6 hz6 hr6 hp6 hst6 hx5 hf5 hz5 hp5 hx hf hz
  have S5 := Lib.hid hW
  clear hW S3
  obtain ⟨hx6, hf6, hz6, hr6, hp6⟩ := (S5.out.box (k := 0) rfl).saved
  have hst6 := fun c => store_sv_row W5 b6 _ c (S5.out.box (k := 0) rfl) rfl
  obtain ⟨hx, hf, hz⟩ := (S5.out.box (k := 2) rfl).facts
  go_upto_region 9 with (fail)
  clear hx6 hf6 hz6 hr6 hp6 hst6 hx hf hz
  refine wp_region_stage (w0 := w0) (os := ko :: os) (by kernel_rfl) (by kernel_rfl) (by kernel_rfl) [(4, 3, [], fun vs => .grid m 83 ↑s.cols (wipeN s.cols q s.O)), (0, 4, [], fun vs => .box b6 35 (sv saved0))] [[0], [], [1], [2, 4], [0], [], []] [.box b6 35 (sv saved0), .box b5 29 (pv q), .box p 44 #[.pointer (some ⟨g, 0, none⟩), .pointer (some ⟨m, 0, none⟩), .int .i64 0, .int .i64 0, kv], .grid g 83 ↑s.cols s.M, .grid m 83 ↑s.cols s.O] (fun opn u => match opn with | 0 => u = .agg (sv saved0) | 1 => u = .pointer (some ⟨p, 0, none⟩) | 2 => u = .agg (pv q) | 3 => u = .int .i64 0 | 4 => True | 5 => u = .bool false | 6 => u = .int .i64 0 | _ => True) (fun vs => [.box b6 35 (sv saved0), .box b5 29 (pv q), .box p 44 #[.pointer (some ⟨g, 0, none⟩), .pointer (some ⟨m, 0, none⟩), .int .i64 0, .int .i64 0, kv], .grid g 83 ↑s.cols s.M, .grid m 83 ↑s.cols (wipeN s.cols q s.O)]) (by kernel_rfl) (fun vs => by rfl) S5.out ?_ ?_
  ·apply sc
   ·intro a w' vs σ hS hl hs hk
    have f6 : a.tmps[6]?.getD undef = .pointer (some ⟨b6, 0, none⟩) := sof hk
    have hx := (hS.box (sg (hs 0 (by decide)))).saved.2.2.2.1
    exact rp (.agg (sv saved0)) (by simp [execOp, Act.eval, f6, go_sem, hx]) hl hs hS
   apply sc
   ·intro a w' vs σ hS hl hs hk
    have f0 : a.tmps[0]?.getD undef = .pointer (some ⟨p, 0, none⟩) := sof hk
    exact rp (pt p 0) (by simp [execOp, Act.eval, f0, go_sem]) hl hs hS
   apply sc
   ·intro a w' vs σ hS hl hs hk
    have f5 : a.tmps[5]?.getD undef = .pointer (some ⟨b5, 0, none⟩) := sof hk
    have hx := (hS.box (sg (hs 1 (by decide)))).penAt
    exact rp (.agg (pv q)) (by simp [execOp, Act.eval, f5, go_sem, hx]) hl hs hS
   apply sc
   ·intro a w' vs σ hS hl hs hk
    have e44 : a.tmps.getD 44 undef = .pointer (some ⟨p, 0, none⟩) := svv hk 1
    have e45 : a.tmps.getD 45 undef = .agg (pv q) := svv hk 2
    exact ro_call (f := 38) (wanted_none rfl) rfl (by simp only [List.map_toArray, List.map_cons, List.map_nil, Act.eval, e44, e45] <;> rfl) (fun _ _ => by kernel_rfl) ((pwipe_at q HT.out hS (k := 2) (j := 4) (sg (hs 2 (by decide))) (sg (hs 4 (by decide))) (by decide) HG.out.c0 HG.out.cm HG.out.O.1 (by rw [HG.out.O.2.1]; exact HG.out.rm) H4.out).mono fun e w2 ⟨h1, h2⟩ => ⟨_, h1, sp_set 4 (.grid m 83 ↑s.cols (wipeN s.cols q s.O)) (by kernel_rfl) (by simp) (by decide) hl hs (by rfl) h2 rfl, trivial⟩)
   apply sc
   ·intro a w' vs σ hS hl hs hk
    have f6 : a.tmps[6]?.getD undef = .pointer (some ⟨b6, 0, none⟩) := sof hk
    have f43 : a.tmps[43]?.getD undef = .agg (sv saved0) := svf hk 0
    have h1 : σ[0]? = some (.box b6 35 (sv saved0)) := hs 0 (by decide)
    have hst := store_sv_row w' b6 (sv saved0) saved0 (hS.box (sg h1)) rfl
    exact rstep_store (w2 := w'.setRow b6 (sv saved0)) (wanted_none rfl) rfl (by simp [execOp, Act.eval, f6, f43, hst, go_sem]) (sp_set 0 (.box b6 35 (sv saved0)) (by kernel_rfl) (by simp) (by decide) hl hs (by rfl) (hS.rowBox 0 (ds := sv saved0) (sg h1)) trivial) trivial
   apply sc
   ·intro a w' vs σ hS hl hs hk
    exact rp (.bool false) (by simp [execOp, Act.eval, go_sem]) hl hs hS
   apply sc
   ·intro a w' vs σ hS hl hs hk
    have f46 : a.tmps[46]?.getD undef = .int .i64 0 := svf hk 3
    exact rp (.int .i64 0) (by simp [execOp, Act.eval, f46, go_sem]) hl hs hS
   exact SSteps.nil
  ·intro vs w' hS hv
   have q0 : vs 0 = _ := hv 0 (by decide)
   have q1 : vs 1 = _ := hv 1 (by decide)
   have q2 : vs 2 = _ := hv 2 (by decide)
   have q3 : vs 3 = _ := hv 3 (by decide)
   have q5 : vs 5 = _ := hv 5 (by decide)
   have q6 : vs 6 = _ := hv 6 (by decide)
   have S2 := Lib.hid hS
   simp only [putL, Act.put, Nat.zero_add, Nat.reduceAdd, List.setIfInBounds_toArray, List.set_cons_succ, List.set_cons_zero, q0, q1, q2, q3, q5, q6]
   clear hS hv q0 q1 q2 q3 q5 q6
   have S6 := S2
   clear S2
   go_wp2_with fail
   refine bodyPost_ret (results_cell3 Tryd.results23 _ _ b6 35 _ _ rfl (S6.out.box (k := 0) rfl) Tryd.underlying35 rfl (by rw [sv_size]; exact saved_size)) rfl ?_
   rw [HL.out]
   refine ⟨rfl, ?_⟩
   rw [HN.out]
   refine Objs.closePair (g := g) (m := m) (kv := kv) (ko := ko) ?_ HK.out
   exact S6.out.tail.tail
end
end Go.Proofs.YtdndoikgnohkkaaDoor

namespace Go.Proofs.YtdndoikgnohkkaaDoor
open Go.RowKit

section
variable {w0 w : World} {os : List Ob} {L : List Ln} {v b : Value}
theorem Objs.storeLine {k j i gr n c : Nat} {l : Ln} {v2 : Value} {cs : List Cell} {s : Bool} (hS : Objs w0 w os) (hk : os[k]? = some (.linesx (.slice (some ⟨gr, 0, none⟩) n c) L i b)) (hj : os[j]? = some (.cells v2 cs)) (hkj : k ≠ j) (hl : L[i]? = some l) :
  Objs w0 ((w.setCell ⟨gr, i * 2, none⟩ v2).setCell ⟨gr, i * 2 + 1, none⟩ (.bool s)) ((os.set k (.lines (.slice (some ⟨gr, 0, none⟩) n c) (L.set i (cs, s)))).set j .none) := by
 have h1 := hS.storeRow hk hj hkj (s := l.2) (by rw [hl]; rfl)
 have hi : i < L.length := (List.getElem?_eq_some_iff.1 hl).1
 have hkl : k < os.length := (List.getElem?_eq_some_iff.1 hk).1
 have h2 := h1.storeSoft (k := k) (i := i) (l := (cs, l.2)) (s := s) (gr := gr) (n := n) (c := c) (L := L.set i (cs, l.2)) (by rw [List.getElem?_set_ne (Ne.symm hkj), List.getElem?_set_self hkl]) (by rw [List.getElem?_set_self hi])
 rw [List.set_comm _ _ (Ne.symm hkj), List.set_set, List.set_set] at h2
 exact h2
end
end Go.Proofs.YtdndoikgnohkkaaDoor

namespace Go.Proofs.YtdndoikgnohkkaaDoor
open Go.RowKit

def tupV : Value → Value
 | .tuple a => lineV (a.getD 0 undef)
 | v => v
section
variable {w0 w : World} {os : List Ob} {p cols : Nat} {L : List Ln}
end
end Go.Proofs.YtdndoikgnohkkaaDoor

namespace Go.Proofs.YtdndoikgnohkkaaDoor
open Go.RowKit

theorem wipeK_set {cols k : Nat} {q : Pen} {O : List Ln} (hk : k < O.length) : (wipeK cols q k O).set k (List.replicate cols (blank q), false) = wipeK cols q (k + 1) O := by
 show (wipeK cols q k O).set k (blankL cols q) = _
 unfold wipeK
 rw [List.set_append_right _ _ (by simp)]
 simp [List.replicate_succ']
 rw [List.drop_eq_getElem_cons hk]
 rfl
section
variable {w0 w : World} {os : List Ob} {p m o : Nat} {md : Int} {sx : Saved} {kx : Bool}
theorem used_any {k : Nat} (hS : Objs w0 w os) (hk : os[k]? = some (.box p 103 (rpv m o md sx kx))) : Calls Tryd.prog 51 #[.pointer (some ⟨p, 0, none⟩)] w fun e w' => e = .returned (.pointer (some ⟨if md = 0 then m else o, 0, none⟩)) ∧ Objs w0 w' os := by
 obtain ⟨hx, hf, hz, hr⟩ := (hS.box hk).rpair
 have S := Lib.hid hS
 clear hS
 by_cases h : md = 0
 case' pos => rw [if_pos h]; have hb := bne_no h
 case' neg => rw [if_neg h]; have hb := bne_yes h
 all_goals
  clear h
  go_enter Tryd.func51, Tryd.ntmps51
  go_wp2_with fail
  go_ret
  exact ⟨rfl, S.out⟩
set_option maxRecDepth 100000 in
set_option maxHeartbeats 4000000 in
theorem rwipe_front {cols : Nat} {O : List Ln} (q : Pen) (hS : Objs w0 w (.box p 103 (rpv m o md sx kx) :: .grid o 106 cols O :: os)) (hc : 0 < cols) (hcm : cols ≤ 1000) (hR : Rect cols O) (hO : O.length ≤ 1000) :
  Calls Tryd.prog 79 #[.pointer (some ⟨p, 0, none⟩), .agg (pv q)] w fun e w' => e = .returned (.tuple #[]) ∧ Objs w0 w' (.box p 103 (rpv m o md sx kx) :: .grid o 106 cols (wipeN cols q O) :: os) := by
 have S := Lib.hid hS
 have HRO := Lib.hid hR
 clear hS hR
 go_enter Tryd.func79, Tryd.ntmps79
 go_upto_region 1 with (fail)
 refine at_objsC (S.out.alloc1 (c1 := pv q) (t1 := 29)) (fun W hW => ?_)
 generalize w.heap.size = b3 at hW ⊢
 have S1 := Lib.hid hW
 clear hW S
 go_wp2_with fail
 go_loopw [4] (fun x wr => ∃ n : Nat, n ≤ O.length ∧ x = .int .i64 n ∧ Objs w0 wr (.box b3 29 (pv q) :: .box p 103 (rpv m o md sx kx) :: .grid o 106 ↑cols (wipeK cols q n O) :: os)) (fun x _ => O.length - (intOf x).toNat)
 case atStart => exact ⟨0, Nat.zero_le _, rfl, by rw [wipeK_zero]; exact S1.out⟩
 case round =>
  clear S1
  obtain ⟨n, hn, rfl, hS⟩ := hrel
  have S2 := Lib.hid hS
  clear hS
  have HLEN := Lib.hid (wipeK_length (cols := cols) (q := q) hn)
  obtain ⟨hxp, hfp, hzp, hrp⟩ := (S2.out.box (k := 1) rfl).rpair
  obtain ⟨A, c, hB, -, -⟩ := S2.out.gridRd (k := 2) rfl
  obtain ⟨hxo, hfo, hzo⟩ := hB.facts
  clear hB
  by_cases hlt : n < O.length
  ·have hlt1 : (n : Int) < ((wipeK cols q n O).length : Int) := by rw [HLEN.out]; omega
   go_upto_region 4 with (fail)
   clear hxp hfp hzp hrp hxo hfo hzo
   obtain ⟨l, hl⟩ := get_of (show n < (wipeK cols q n O).length by rw [HLEN.out]; exact hlt)
   have HL := Lib.hid hl
   obtain ⟨v, hS1⟩ := S2.out.openGrid (k := 2) rfl
   obtain ⟨b, hS2⟩ := hS1.openRow (k := 0) rfl HL.out
   obtain ⟨gr, cg, rfl, hgc, hgm, -, hzg, -, -, hfg⟩ := hS2.linesxRd (k := 1) rfl
   have SX := Lib.hid hS2
   have hb0 : (0 : Int) ≤ (n : Int) := by omega
   have hb1 := hlt1
   clear hl hS1 hS2 S2 hgc hgm hzg hfg hlt1
   refine wp_region_stage (w0 := w0) (os := os) (by kernel_rfl) (by kernel_rfl) (by kernel_rfl) [(0, 16, [16], fun vs => .cells (lineV (vs 16)) (List.replicate cols (blank q))), (2, 18, [], fun vs => .lines (.slice (some ⟨gr, 0, none⟩) (wipeK cols q n O).length cg) ((wipeK cols q n O).set n ((List.replicate cols (blank q)), false))), (0, 18, [], fun vs => .none)] [[], [], [], [4], [], [], [5], [], [], [], [], [4], [], [], [5], [3], [0], [], [0, 2]] [.none, .cells b l.1, .linesx (.slice (some ⟨gr, 0, none⟩) (wipeK cols q n O).length cg) (wipeK cols q n O) n b, .box b3 29 (pv q), .box p 103 (rpv m o md sx kx), .box o 106 #[.int .i64 ↑cols, .slice (some ⟨gr, 0, none⟩) (wipeK cols q n O).length cg]] (fun opn u => match opn with | 0 => u = .pointer (some ⟨p, 0, none⟩) | 1 => u = .pointer (some ⟨p, 0, none⟩) | 2 => u = .pointer (some ⟨p, 1, none⟩) | 3 => u = .pointer (some ⟨o, 0, none⟩) | 4 => u = .pointer (some ⟨o, 0, none⟩) | 5 => u = .pointer (some ⟨o, 1, none⟩) | 6 => u = .slice (some ⟨gr, 0, none⟩) (wipeK cols q n O).length cg | 7 => u = .int .i64 ↑n | 8 => u = .pointer (some ⟨p, 0, none⟩) | 9 => u = .pointer (some ⟨p, 0, none⟩) | 10 => u = .pointer (some ⟨p, 1, none⟩) | 11 => u = .pointer (some ⟨o, 0, none⟩) | 12 => u = .pointer (some ⟨o, 0, none⟩) | 13 => u = .pointer (some ⟨o, 0, none⟩) | 14 => u = .int .i64 ↑cols | 15 => u = .agg (pv q) | 16 => ∃ A m c, u = .agg #[.slice A m c, .bool false] | 17 => u = .pointer (some ⟨gr, n * 2, none⟩) | 18 => True | _ => True) (fun vs => [.none, .cells b l.1, .lines (.slice (some ⟨gr, 0, none⟩) (wipeK cols q n O).length cg) ((wipeK cols q n O).set n ((List.replicate cols (blank q)), false)), .box b3 29 (pv q), .box p 103 (rpv m o md sx kx), .box o 106 #[.int .i64 ↑cols, .slice (some ⟨gr, 0, none⟩) (wipeK cols q n O).length cg]]) (by kernel_rfl) (fun vs => by rfl) SX.out.pad ?_ ?_
   ·apply sc
    ·intro a w' vs σ hS hl hs hk
     have f0 : a.tmps[0]?.getD undef = .pointer (some ⟨p, 0, none⟩) := sof hk
     exact rp (pt p 0) (by simp [execOp, Act.eval, f0, go_sem]) hl hs hS
    apply sc
    ·intro a w' vs σ hS hl hs hk
     have f17 : a.tmps[17]?.getD undef = .pointer (some ⟨p, 0, none⟩) := svf hk 0
     exact rp (pt p 0) (by simp [execOp, Act.eval, f17, go_sem]) hl hs hS
    apply sc
    ·intro a w' vs σ hS hl hs hk
     have f18 : a.tmps[18]?.getD undef = .pointer (some ⟨p, 0, none⟩) := svf hk 1
     exact rp (pt p 1) (by simp [execOp, Act.eval, f18, go_sem]) hl hs hS
    apply sc
    ·intro a w' vs σ hS hl hs hk
     have f19 : a.tmps[19]?.getD undef = .pointer (some ⟨p, 1, none⟩) := svf hk 2
     have hx := (hS.box (sg (hs 4 (by decide)))).cell
     exact rp (pt o 0) (by simp [execOp, Act.eval, f19, go_sem, hx]) hl hs hS
    apply sc
    ·intro a w' vs σ hS hl hs hk
     have f20 : a.tmps[20]?.getD undef = .pointer (some ⟨o, 0, none⟩) := svf hk 3
     exact rp (pt o 0) (by simp [execOp, Act.eval, f20, go_sem]) hl hs hS
    apply sc
    ·intro a w' vs σ hS hl hs hk
     have f21 : a.tmps[21]?.getD undef = .pointer (some ⟨o, 0, none⟩) := svf hk 4
     exact rp (pt o 1) (by simp [execOp, Act.eval, f21, go_sem]) hl hs hS
    apply sc
    ·intro a w' vs σ hS hl hs hk
     have f22 : a.tmps[22]?.getD undef = .pointer (some ⟨o, 1, none⟩) := svf hk 5
     have hx := (hS.box (sg (hs 5 (by decide)))).cell
     exact rp (.slice (some ⟨gr, 0, none⟩) (wipeK cols q n O).length cg) (by simp [execOp, Act.eval, f22, go_sem, hx]) hl hs hS
    apply sc
    ·intro a w' vs σ hS hl hs hk
     have f4 : a.tmps[4]?.getD undef = .int .i64 ↑n := sof hk
     exact rp (.int .i64 ↑n) (by simp [execOp, Act.eval, f4, go_sem]) hl hs hS
    apply sc
    ·intro a w' vs σ hS hl hs hk
     have f0 : a.tmps[0]?.getD undef = .pointer (some ⟨p, 0, none⟩) := sof hk
     exact rp (pt p 0) (by simp [execOp, Act.eval, f0, go_sem]) hl hs hS
    apply sc
    ·intro a w' vs σ hS hl hs hk
     have f25 : a.tmps[25]?.getD undef = .pointer (some ⟨p, 0, none⟩) := svf hk 8
     exact rp (pt p 0) (by simp [execOp, Act.eval, f25, go_sem]) hl hs hS
    apply sc
    ·intro a w' vs σ hS hl hs hk
     have f26 : a.tmps[26]?.getD undef = .pointer (some ⟨p, 0, none⟩) := svf hk 9
     exact rp (pt p 1) (by simp [execOp, Act.eval, f26, go_sem]) hl hs hS
    apply sc
    ·intro a w' vs σ hS hl hs hk
     have f27 : a.tmps[27]?.getD undef = .pointer (some ⟨p, 1, none⟩) := svf hk 10
     have hx := (hS.box (sg (hs 4 (by decide)))).cell
     exact rp (pt o 0) (by simp [execOp, Act.eval, f27, go_sem, hx]) hl hs hS
    apply sc
    ·intro a w' vs σ hS hl hs hk
     have f28 : a.tmps[28]?.getD undef = .pointer (some ⟨o, 0, none⟩) := svf hk 11
     exact rp (pt o 0) (by simp [execOp, Act.eval, f28, go_sem]) hl hs hS
    apply sc
    ·intro a w' vs σ hS hl hs hk
     have f29 : a.tmps[29]?.getD undef = .pointer (some ⟨o, 0, none⟩) := svf hk 12
     exact rp (pt o 0) (by simp [execOp, Act.eval, f29, go_sem]) hl hs hS
    apply sc
    ·intro a w' vs σ hS hl hs hk
     have f30 : a.tmps[30]?.getD undef = .pointer (some ⟨o, 0, none⟩) := svf hk 13
     have hx := (hS.box (sg (hs 5 (by decide)))).cell
     exact rp (.int .i64 ↑cols) (by simp [execOp, Act.eval, f30, go_sem, hx]) hl hs hS
    apply sc
    ·intro a w' vs σ hS hl hs hk
     have f3 : a.tmps[3]?.getD undef = .pointer (some ⟨b3, 0, none⟩) := sof hk
     have hx := (hS.box (sg (hs 3 (by decide)))).penAt
     exact rp (.agg (pv q)) (by simp [execOp, Act.eval, f3, go_sem, hx]) hl hs hS
    apply sc
    ·intro a w' vs σ hS hl hs hk
     have e31 : a.tmps.getD 31 undef = .int .i64 ↑cols := svv hk 14
     have e32 : a.tmps.getD 32 undef = .agg (pv q) := svv hk 15
     have h0 : σ[0]? = some .none := hs 0 (by decide)
     exact ro_call (f := 59) (wanted_none rfl) rfl (by simp only [List.map_toArray, List.map_cons, List.map_nil, Act.eval, e31, e32] <;> rfl) (fun _ _ => by kernel_rfl) ((r14Blanks_any cols (by omega) q w0 _ _ hS).mono fun e w2 ⟨x, h1, h2⟩ => ⟨_, h1, sp_set 0 (.cells x (List.replicate cols (blank q))) (by kernel_rfl) (by simp) (by decide) hl hs (by rfl) (h2.place (sg h0)) (by obtain ⟨A', c', e, -⟩ := h2.cellsRd (k := 0) rfl; exact ⟨A', _, c', by rw [e]⟩), trivial⟩)
    apply sc
    ·intro a w' vs σ hS hl hs hk
     have f23 : a.tmps[23]?.getD undef = .slice (some ⟨gr, 0, none⟩) (wipeK cols q n O).length cg := svf hk 6
     have f24 : a.tmps[24]?.getD undef = .int .i64 ↑n := svf hk 7
     exact rp (pt gr (n * 2)) (by simp [execOp, Act.eval, f23, f24, go_sem, hb0, hb1]) hl hs hS
    apply sc
    ·intro a w' vs σ hS hl hs hk
     have f34 : a.tmps[34]?.getD undef = .pointer (some ⟨gr, n * 2, none⟩) := svf hk 17
     have e33 : a.tmps.getD 33 undef = vs 16 := sk_val hk 16 (by kernel_rfl) rfl rfl
     have p33 : (fun u : Value => ∃ A m c, u = .agg #[.slice A m c, .bool false]) (vs 16) := (hk.1 16 (by kernel_rfl)).1
     have f33 := gd e33
     obtain ⟨A7, n7, c7, q7⟩ := p33
     have h1 : σ[2]? = some (.linesx (.slice (some ⟨gr, 0, none⟩) (wipeK cols q n O).length cg) (wipeK cols q n O) n b) := hs 2 (by decide)
     have h2 : σ[0]? = some (.cells (lineV (vs 16)) (List.replicate cols (blank q))) := hs 0 (by decide)
     rw [q7, show lineV (.agg #[.slice A7 n7 c7, .bool false]) = .slice A7 n7 c7 from rfl] at h2
     obtain ⟨g', c', e', -, -, -, hz, hc1, hc2, hf⟩ := hS.linesxRd (sg h1)
     simp only [Value.slice.injEq, Option.some.injEq, Addr.mk.injEq, and_true, true_and] at e'
     obtain ⟨rfl, -⟩ := e'
     have hc2 := hc2 l HL.out
     exact rstep_store (w2 := (w'.setCell ⟨gr, n * 2, none⟩ (.slice A7 n7 c7)).setCell ⟨gr, n * 2 + 1, none⟩ (.bool false)) (wanted_none rfl) rfl (by simp [execOp, Act.eval, f34, e33, f33, q7, hf, hz, hc1, hc2, go_sem]) (sp_set2 2 0 (.lines (.slice (some ⟨gr, 0, none⟩) (wipeK cols q n O).length cg) ((wipeK cols q n O).set n ((List.replicate cols (blank q)), false))) .none (by decide) (by kernel_rfl) (by simp) (by simp) (by decide) (by decide) hl hs (by rfl) (by rfl) (hS.storeLine (k := 2) (j := 0) (s := false) (sg h1) (sg h2) (by decide) HL.out) trivial) trivial
    exact SSteps.nil
   ·intro vs w' hS hv
    have q0 : vs 0 = _ := hv 0 (by decide)
    have q1 : vs 1 = _ := hv 1 (by decide)
    have q2 : vs 2 = _ := hv 2 (by decide)
    have q3 : vs 3 = _ := hv 3 (by decide)
    have q4 : vs 4 = _ := hv 4 (by decide)
    have q5 : vs 5 = _ := hv 5 (by decide)
    have q6 : vs 6 = _ := hv 6 (by decide)
    have q7 : vs 7 = _ := hv 7 (by decide)
    have q8 : vs 8 = _ := hv 8 (by decide)
    have q9 : vs 9 = _ := hv 9 (by decide)
    have q10 : vs 10 = _ := hv 10 (by decide)
    have q11 : vs 11 = _ := hv 11 (by decide)
    have q12 : vs 12 = _ := hv 12 (by decide)
    have q13 : vs 13 = _ := hv 13 (by decide)
    have q14 : vs 14 = _ := hv 14 (by decide)
    have q15 : vs 15 = _ := hv 15 (by decide)
    have q17 : vs 17 = _ := hv 17 (by decide)
    have S2 := Lib.hid hS
    simp only [putL, Act.put, Nat.zero_add, Nat.reduceAdd, List.setIfInBounds_toArray, List.set_cons_succ, List.set_cons_zero, q0, q1, q2, q3, q4, q5, q6, q7, q8, q9, q10, q11, q12, q13, q14, q15, q17]
    clear hS hv q0 q1 q2 q3 q4 q5 q6 q7 q8 q9 q10 q11 q12 q13 q14 q15 q17
    have S3 := Lib.hid (show Objs w0 _ (.lines _ _ :: .box b3 29 (pv q) :: .box p 103 (rpv m o md sx kx) :: .box o 106 _ :: os) from (S2.out.del 0).del 0)
    clear SX S2
    rw [wipeK_set hlt] at S3
    have S4 := Lib.hid (S3.out.closeGrid (k := 2) rfl)
    clear S3
    go_wp2_with fail
    go_roundw
    case rel => exact ⟨n + 1, by omega, by go_num, S4.out⟩
    case measure => simp [intOf]; omega
  ·have HE := Lib.hid (show n = O.length by omega)
   have hlt1 : ¬ (n : Int) < ((wipeK cols q n O).length : Int) := by rw [HLEN.out]; omega
   go_wp2_with fail
   go_end0
   exact ⟨rfl, by have h := S2.out.tail; rw [HE.out, wipeK_all] at h; exact h⟩
theorem rwipe_at {cols k j : Nat} {O : List Ln} (q : Pen) (hS : Objs w0 w os) (hk : os[k]? = some (.box p 103 (rpv m o md sx kx))) (hj : os[j]? = some (.grid o 106 cols O)) (hkj : k ≠ j) (hc : 0 < cols) (hcm : cols ≤ 1000) (hR : Rect cols O) (hO : O.length ≤ 1000) :
  Calls Tryd.prog 79 #[.pointer (some ⟨p, 0, none⟩), .agg (pv q)] w fun e w' => e = .returned (.tuple #[]) ∧ Objs w0 w' (os.set j (.grid o 106 cols (wipeN cols q O))) := by
 have h := pair_call hS hk hj hkj (fun rest h => rwipe_front q h hc hcm hR hO)
 rw [set_self hk] at h
 exact h
end
end Go.Proofs.YtdndoikgnohkkaaDoor
