/-
  Part 5 of the texts on which the proofs of this seat stand: each part says ahead of it what it shows.
-/
import Derived.Test.YtjligfbaljnhnaaDoorM4
import Derived.ProofKit
import Derived.OpenShut
import Derived.Deep.Slices
import Derived.Lib.LaidTab
import Derived.ChangeSame
import Derived.Carry
import Derived.Test.YtjligfbaljnhnaaDoorCards
import Derived.Test.YtjligfbaljnhnaaDoorTie
import Derived.WalkKit
import Derived.Deep.DeepHandedRow

/-
  The law's parts of the chapter on erasing: small, does.
-/
set_option linter.unusedSimpArgs false
set_option linter.unusedVariables false
namespace Go.Proofs.YtjligfbaljnhnaaDoor
open Go.RowKit

def act17N (a : Act17) (cols : Nat) (L : List Ln) : List Ln := if act17ok a L.length cols = true then act17L a cols L else L
section
variable {w0 w : World} {os : List Ob} {p x cols : Nat} {L : List Ln}
set_option maxHeartbeats 4000000 in
theorem l17does_any (a : Act17) (hT : Tabs w0) (hS : Objs w0 w (.grid p 35 cols L :: .grid x 48 cols L :: os)) (hc : 0 < cols) (hcm : cols ≤ 1000) (hR : Rect cols L) (hL : 0 < L.length) (hLm : L.length ≤ 1000000) :
    Calls Tryd.prog 26 #[.pointer (some ⟨p, 0, none⟩), .pointer (some ⟨x, 0, none⟩), .agg (av17 a)] w fun e w' => e = .returned (.bool true) ∧ Objs w0 w' (.grid p 35 cols (act17N a cols L) :: .grid x 48 cols (act17N a cols L) :: os) := by
  have HT := Lib.hid hT
  have S := Lib.hid hS
  have HR := Lib.hid hR
  have HOKi := Lib.hid (act17ok_iff (a := a) (rows := L.length) (cols := cols))
  have HNO := Lib.hid (show act17ok a L.length cols = false → Calls Tryd.prog 26 #[.pointer (some ⟨p, 0, none⟩), .pointer (some ⟨x, 0, none⟩), .agg (av17 a)] w fun e w' => e = .returned (.bool true) ∧ Objs w0 w' (.grid p 35 cols L :: .grid x 48 cols L :: os) from fun ho => by
    have HO := Lib.hid ho
    clear hT hS hR ho
    obtain ⟨what, n, row, col, pend, q⟩ := a
    cases hin : inG row col pend L.length cols with
    | false =>
      have HIN := Lib.hid hin
      clear hin HOKi
      go_enter Tryd.func26, Tryd.ntmps26
      go_upto_region 1 with (fail)
      refine at_objsC S.out.alloc1 (fun W hW => ?_)
      obtain ⟨hx, hf, hz, hr, hp⟩ := (hW.box (k := 0) rfl).act17
      have SW := Lib.hid hW
      clear hW
      go_wp2_with fail
      refine (l17in_any _ _ _ SW.out (k := 2) rfl hcm).mono ?_
      rw [HIN.out]
      rintro e w1 ⟨rfl, hW⟩
      clear hx hf hz hr hp
      obtain ⟨hx, hf, hz, hr, hp⟩ := (hW.box (k := 0) rfl).act17
      have S1 := Lib.hid hW
      clear hW SW
      go_wp2_with fail
      refine (l17call_no ⟨what, n, row, col, pend, q⟩ HT.out S1.out (k := 1) rfl hc hcm hL HO.out).mono ?_
      rintro e w4 ⟨rfl, hW⟩
      have S4 := Lib.hid hW
      clear hW hx hf hz hr hp
      go_wp2_with fail
      go_ret
      exact ⟨rfl, S4.out.tail⟩
    | true =>
      have HIN := Lib.hid hin
      cases hq : q.ok with
      | false =>
        have HQ := Lib.hid hq
        clear hin HOKi hq
        go_enter Tryd.func26, Tryd.ntmps26
        go_upto_region 1 with (fail)
        refine at_objsC S.out.alloc1 (fun W hW => ?_)
        obtain ⟨hx, hf, hz, hr, hp⟩ := (hW.box (k := 0) rfl).act17
        have SW := Lib.hid hW
        clear hW
        go_wp2_with fail
        refine (l17in_any _ _ _ SW.out (k := 2) rfl hcm).mono ?_
        rw [HIN.out]
        rintro e w1 ⟨rfl, hW⟩
        clear hx hf hz hr hp
        obtain ⟨hx, hf, hz, hr, hp⟩ := (hW.box (k := 0) rfl).act17
        have S1 := Lib.hid hW
        clear hW SW
        go_wp2_with fail
        refine (pure_call (r14Blank_any _ _) S1.out).mono ?_
        rintro e w2 ⟨rfl, hW⟩
        clear hx hf hz hr hp
        obtain ⟨hx, hf, hz, hr, hp⟩ := (hW.box (k := 0) rfl).act17
        have S2 := Lib.hid hW
        clear hW S1
        go_wp2_with fail
        refine (pure_call (cellValid_any _ _ (S2.out.tabs HT.out)) S2.out).mono ?_
        rw [ok_blank, HQ.out]
        rintro e w3 ⟨rfl, hW⟩
        clear hx hf hz hr hp
        obtain ⟨hx, hf, hz, hr, hp⟩ := (hW.box (k := 0) rfl).act17
        have S3 := Lib.hid hW
        clear hW S2
        go_wp2_with fail
        refine (l17call_no ⟨what, n, row, col, pend, q⟩ HT.out S3.out (k := 1) rfl hc hcm hL HO.out).mono ?_
        rintro e w4 ⟨rfl, hW⟩
        have S4 := Lib.hid hW
        clear hW hx hf hz hr hp
        go_wp2_with fail
        go_ret
        exact ⟨rfl, S4.out.tail⟩
      | true =>
        have HQ := Lib.hid hq
        have hnn : ¬ (0 ≤ n ∧ (what = 0 ∨ what = 1 → n ≤ 2)) := fun h => by have := HO.out; rw [HOKi.out.2 ⟨hin, hq, h.1, h.2⟩] at this; cases this
        clear hin hq HOKi
        by_cases h0 : n < 0
        · clear hnn
          go_enter Tryd.func26, Tryd.ntmps26
          go_upto_region 1 with (fail)
          refine at_objsC S.out.alloc1 (fun W hW => ?_)
          obtain ⟨hx, hf, hz, hr, hp⟩ := (hW.box (k := 0) rfl).act17
          have SW := Lib.hid hW
          clear hW
          go_wp2_with fail
          refine (l17in_any _ _ _ SW.out (k := 2) rfl hcm).mono ?_
          rw [HIN.out]
          rintro e w1 ⟨rfl, hW⟩
          clear hx hf hz hr hp
          obtain ⟨hx, hf, hz, hr, hp⟩ := (hW.box (k := 0) rfl).act17
          have S1 := Lib.hid hW
          clear hW SW
          go_wp2_with fail
          refine (pure_call (r14Blank_any _ _) S1.out).mono ?_
          rintro e w2 ⟨rfl, hW⟩
          clear hx hf hz hr hp
          obtain ⟨hx, hf, hz, hr, hp⟩ := (hW.box (k := 0) rfl).act17
          have S2 := Lib.hid hW
          clear hW S1
          go_wp2_with fail
          refine (pure_call (cellValid_any _ _ (S2.out.tabs HT.out)) S2.out).mono ?_
          rw [ok_blank, HQ.out]
          rintro e w3 ⟨rfl, hW⟩
          clear hx hf hz hr hp
          obtain ⟨hx, hf, hz, hr, hp⟩ := (hW.box (k := 0) rfl).act17
          have S3 := Lib.hid hW
          clear hW S2
          go_wp2_with fail
          refine (l17call_no ⟨what, n, row, col, pend, q⟩ HT.out S3.out (k := 1) rfl hc hcm hL HO.out).mono ?_
          rintro e w4 ⟨rfl, hW⟩
          have S4 := Lib.hid hW
          clear hW hx hf hz hr hp
          go_wp2_with fail
          go_ret
          exact ⟨rfl, S4.out.tail⟩
        · have h2 : 2 < n := by omega
          by_cases hw0 : what = 0
          · have hb := beq_yes hw0
            clear hnn hw0
            go_enter Tryd.func26, Tryd.ntmps26
            go_upto_region 1 with (fail)
            refine at_objsC S.out.alloc1 (fun W hW => ?_)
            obtain ⟨hx, hf, hz, hr, hp⟩ := (hW.box (k := 0) rfl).act17
            have SW := Lib.hid hW
            clear hW
            go_wp2_with fail
            refine (l17in_any _ _ _ SW.out (k := 2) rfl hcm).mono ?_
            rw [HIN.out]
            rintro e w1 ⟨rfl, hW⟩
            clear hx hf hz hr hp
            obtain ⟨hx, hf, hz, hr, hp⟩ := (hW.box (k := 0) rfl).act17
            have S1 := Lib.hid hW
            clear hW SW
            go_wp2_with fail
            refine (pure_call (r14Blank_any _ _) S1.out).mono ?_
            rintro e w2 ⟨rfl, hW⟩
            clear hx hf hz hr hp
            obtain ⟨hx, hf, hz, hr, hp⟩ := (hW.box (k := 0) rfl).act17
            have S2 := Lib.hid hW
            clear hW S1
            go_wp2_with fail
            refine (pure_call (cellValid_any _ _ (S2.out.tabs HT.out)) S2.out).mono ?_
            rw [ok_blank, HQ.out]
            rintro e w3 ⟨rfl, hW⟩
            clear hx hf hz hr hp
            obtain ⟨hx, hf, hz, hr, hp⟩ := (hW.box (k := 0) rfl).act17
            have S3 := Lib.hid hW
            clear hW S2
            go_wp2_with fail
            refine (l17call_no ⟨what, n, row, col, pend, q⟩ HT.out S3.out (k := 1) rfl hc hcm hL HO.out).mono ?_
            rintro e w4 ⟨rfl, hW⟩
            have S4 := Lib.hid hW
            clear hW hx hf hz hr hp
            go_wp2_with fail
            go_ret
            exact ⟨rfl, S4.out.tail⟩
          · have hw1 : what = 1 := by omega
            have hb0 := beq_no hw0
            have hb := beq_yes hw1
            clear hnn hw0 hw1
            go_enter Tryd.func26, Tryd.ntmps26
            go_upto_region 1 with (fail)
            refine at_objsC S.out.alloc1 (fun W hW => ?_)
            obtain ⟨hx, hf, hz, hr, hp⟩ := (hW.box (k := 0) rfl).act17
            have SW := Lib.hid hW
            clear hW
            go_wp2_with fail
            refine (l17in_any _ _ _ SW.out (k := 2) rfl hcm).mono ?_
            rw [HIN.out]
            rintro e w1 ⟨rfl, hW⟩
            clear hx hf hz hr hp
            obtain ⟨hx, hf, hz, hr, hp⟩ := (hW.box (k := 0) rfl).act17
            have S1 := Lib.hid hW
            clear hW SW
            go_wp2_with fail
            refine (pure_call (r14Blank_any _ _) S1.out).mono ?_
            rintro e w2 ⟨rfl, hW⟩
            clear hx hf hz hr hp
            obtain ⟨hx, hf, hz, hr, hp⟩ := (hW.box (k := 0) rfl).act17
            have S2 := Lib.hid hW
            clear hW S1
            go_wp2_with fail
            refine (pure_call (cellValid_any _ _ (S2.out.tabs HT.out)) S2.out).mono ?_
            rw [ok_blank, HQ.out]
            rintro e w3 ⟨rfl, hW⟩
            clear hx hf hz hr hp
            obtain ⟨hx, hf, hz, hr, hp⟩ := (hW.box (k := 0) rfl).act17
            have S3 := Lib.hid hW
            clear hW S2
            go_wp2_with fail
            refine (l17call_no ⟨what, n, row, col, pend, q⟩ HT.out S3.out (k := 1) rfl hc hcm hL HO.out).mono ?_
            rintro e w4 ⟨rfl, hW⟩
            have S4 := Lib.hid hW
            clear hW hx hf hz hr hp
            go_wp2_with fail
            go_ret
            exact ⟨rfl, S4.out.tail⟩
  )
  cases ho : act17ok a L.length cols with
  | false =>
    have e : act17N a cols L = L := by unfold act17N; rw [ho]; rfl
    rw [e]
    exact HNO.out ho
  | true =>
    have e : act17N a cols L = act17L a cols L := by unfold act17N; rw [if_pos ho]
    rw [e]
    have HO := Lib.hid ho
    obtain ⟨what, n, row, col, pend, q⟩ := a
    obtain ⟨h1, h2, h3, h4⟩ := act17ok_iff.1 ho
    have hin := ingrid_iff.1 h1
    obtain ⟨y, rfl⟩ : ∃ y : Nat, row = y := ⟨row.toNat, by have := hin.1; simp at this ⊢; omega⟩
    obtain ⟨j, rfl⟩ : ∃ j : Nat, col = j := ⟨col.toNat, by have := hin.2.1; simp at this ⊢; omega⟩
    have hy : y < L.length := by have := hin.1; simp at this; omega
    have hj : j < cols := by have := hin.2.1; simp at this; omega
    simp only at h1 h2 h3 h4
    have HIN := Lib.hid h1
    have HQ := Lib.hid h2
    have d1 : ¬ (n < 0) := by omega
    clear HNO e ho hT hS hR h1 h2 hin HOKi
    by_cases hw0 : what = 0
    · subst hw0
      have HL := Lib.hid (show act17L ⟨0, n, y, j, pend, q⟩ cols L = eraseLine cols y j n q L by simp [act17L])
      have d2 : ¬ (2 < n) := by omega
      clear h3 h4
      go_enter Tryd.func26, Tryd.ntmps26
      go_upto_region 1 with (fail)
      refine at_objsC S.out.alloc1 (fun W hW => ?_)
      obtain ⟨hx, hf, hz, hr, hp⟩ := (hW.box (k := 0) rfl).act17
      have SW := Lib.hid hW
      clear hW
      go_wp2_with fail
      refine (l17in_any _ _ _ SW.out (k := 2) rfl hcm).mono ?_
      rw [HIN.out]
      rintro e w1 ⟨rfl, hW⟩
      clear hx hf hz hr hp
      obtain ⟨hx, hf, hz, hr, hp⟩ := (hW.box (k := 0) rfl).act17
      have S1 := Lib.hid hW
      clear hW SW
      go_wp2_with fail
      refine (pure_call (r14Blank_any _ _) S1.out).mono ?_
      rintro e w2 ⟨rfl, hW⟩
      clear hx hf hz hr hp
      obtain ⟨hx, hf, hz, hr, hp⟩ := (hW.box (k := 0) rfl).act17
      have S2 := Lib.hid hW
      clear hW S1
      go_wp2_with fail
      refine (pure_call (cellValid_any _ _ (S2.out.tabs HT.out)) S2.out).mono ?_
      rw [ok_blank, HQ.out]
      rintro e w3 ⟨rfl, hW⟩
      clear hx hf hz hr hp
      obtain ⟨hx, hf, hz, hr, hp⟩ := (hW.box (k := 0) rfl).act17
      have S3 := Lib.hid hW
      clear hW S2
      go_wp2_with fail
      refine (front_call S3.out (k := 2) rfl (fun os1 h => r17InLine_front n q h hcm HR.out hLm hy hj)).mono ?_
      rintro e w4 ⟨rfl, hW⟩
      clear hx hf hz hr hp
      obtain ⟨hx, hf, hz, hr, hp⟩ := (hW.box (k := 0) rfl).act17
      have S4 := Lib.hid hW
      clear hW S3
      go_wp2_with fail
      refine (l17call_yes ⟨0, n, y, j, pend, q⟩ HT.out S4.out (k := 1) rfl hcm HR.out hLm HO.out).mono ?_
      rintro e w5 ⟨rfl, hW⟩
      rw [HL.out] at hW
      have S5 := Lib.hid hW
      clear hW hx hf hz hr hp
      go_wp2_with fail
      go_ret
      exact ⟨rfl, by rw [HL.out]; exact S5.out.tail⟩
    have hb0 := beq_no hw0
    by_cases hw1 : what = 1
    · subst hw1
      have HL := Lib.hid (show act17L ⟨1, n, y, j, pend, q⟩ cols L = eraseScr cols y j n q L by simp [act17L])
      have d2 : ¬ (2 < n) := by omega
      clear h3 h4 hw0 hb0
      go_enter Tryd.func26, Tryd.ntmps26
      go_upto_region 1 with (fail)
      refine at_objsC S.out.alloc1 (fun W hW => ?_)
      obtain ⟨hx, hf, hz, hr, hp⟩ := (hW.box (k := 0) rfl).act17
      have SW := Lib.hid hW
      clear hW
      go_wp2_with fail
      refine (l17in_any _ _ _ SW.out (k := 2) rfl hcm).mono ?_
      rw [HIN.out]
      rintro e w1 ⟨rfl, hW⟩
      clear hx hf hz hr hp
      obtain ⟨hx, hf, hz, hr, hp⟩ := (hW.box (k := 0) rfl).act17
      have S1 := Lib.hid hW
      clear hW SW
      go_wp2_with fail
      refine (pure_call (r14Blank_any _ _) S1.out).mono ?_
      rintro e w2 ⟨rfl, hW⟩
      clear hx hf hz hr hp
      obtain ⟨hx, hf, hz, hr, hp⟩ := (hW.box (k := 0) rfl).act17
      have S2 := Lib.hid hW
      clear hW S1
      go_wp2_with fail
      refine (pure_call (cellValid_any _ _ (S2.out.tabs HT.out)) S2.out).mono ?_
      rw [ok_blank, HQ.out]
      rintro e w3 ⟨rfl, hW⟩
      clear hx hf hz hr hp
      obtain ⟨hx, hf, hz, hr, hp⟩ := (hW.box (k := 0) rfl).act17
      have S3 := Lib.hid hW
      clear hW S2
      go_wp2_with fail
      refine (front_call S3.out (k := 2) rfl (fun os1 h => r17InScreen_front n q h hcm HR.out hLm hy hj)).mono ?_
      rintro e w4 ⟨rfl, hW⟩
      clear hx hf hz hr hp
      obtain ⟨hx, hf, hz, hr, hp⟩ := (hW.box (k := 0) rfl).act17
      have S4 := Lib.hid hW
      clear hW S3
      go_wp2_with fail
      refine (l17call_yes ⟨1, n, y, j, pend, q⟩ HT.out S4.out (k := 1) rfl hcm HR.out hLm HO.out).mono ?_
      rintro e w5 ⟨rfl, hW⟩
      rw [HL.out] at hW
      have S5 := Lib.hid hW
      clear hW hx hf hz hr hp
      go_wp2_with fail
      go_ret
      exact ⟨rfl, by rw [HL.out]; exact S5.out.tail⟩
    have hb1 := beq_no hw1
    have HL := Lib.hid (show act17L ⟨what, n, y, j, pend, q⟩ cols L = eraseCh cols y j n q L by simp [act17L, hw0, hw1])
    have H3 := Lib.hid h3
    clear h4 hw0 hw1 h3
    go_enter Tryd.func26, Tryd.ntmps26
    go_upto_region 1 with (fail)
    refine at_objsC S.out.alloc1 (fun W hW => ?_)
    obtain ⟨hx, hf, hz, hr, hp⟩ := (hW.box (k := 0) rfl).act17
    have SW := Lib.hid hW
    clear hW
    go_wp2_with fail
    refine (l17in_any _ _ _ SW.out (k := 2) rfl hcm).mono ?_
    rw [HIN.out]
    rintro e w1 ⟨rfl, hW⟩
    clear hx hf hz hr hp
    obtain ⟨hx, hf, hz, hr, hp⟩ := (hW.box (k := 0) rfl).act17
    have S1 := Lib.hid hW
    clear hW SW
    go_wp2_with fail
    refine (pure_call (r14Blank_any _ _) S1.out).mono ?_
    rintro e w2 ⟨rfl, hW⟩
    clear hx hf hz hr hp
    obtain ⟨hx, hf, hz, hr, hp⟩ := (hW.box (k := 0) rfl).act17
    have S2 := Lib.hid hW
    clear hW S1
    go_wp2_with fail
    refine (pure_call (cellValid_any _ _ (S2.out.tabs HT.out)) S2.out).mono ?_
    rw [ok_blank, HQ.out]
    rintro e w3 ⟨rfl, hW⟩
    clear hx hf hz hr hp
    obtain ⟨hx, hf, hz, hr, hp⟩ := (hW.box (k := 0) rfl).act17
    have S3 := Lib.hid hW
    clear hW S2
    go_wp2_with fail
    refine (front_call S3.out (k := 2) rfl (fun os1 h => r17Chars_front n q h hcm HR.out hLm hy hj H3.out)).mono ?_
    rintro e w4 ⟨rfl, hW⟩
    clear hx hf hz hr hp
    obtain ⟨hx, hf, hz, hr, hp⟩ := (hW.box (k := 0) rfl).act17
    have S4 := Lib.hid hW
    clear hW S3
    go_wp2_with fail
    refine (l17call_yes ⟨what, n, y, j, pend, q⟩ HT.out S4.out (k := 1) rfl hcm HR.out hLm HO.out).mono ?_
    rintro e w5 ⟨rfl, hW⟩
    rw [HL.out] at hW
    have S5 := Lib.hid hW
    clear hW hx hf hz hr hp
    go_wp2_with fail
    go_ret
    exact ⟨rfl, by rw [HL.out]; exact S5.out.tail⟩
end
end Go.Proofs.YtjligfbaljnhnaaDoor

/-
  The grids with which a law of the later chapters begins: filled with given cells.
-/
set_option linter.unusedSimpArgs false
set_option linter.unusedVariables false
namespace Go.Proofs.YtjligfbaljnhnaaDoor
open Go.RowKit

theorem Objs.nestAll {w0 w w' : World} {os os2 : List Ob} (h : Objs w0 w os) (h2 : Objs w w' os2) : Objs w0 w' (os2 ++ os) := by
  obtain ⟨h1, F, a2, a3, a4, a5⟩ := h
  obtain ⟨hb, G, b2, b3, b4, b5⟩ := h2
  have hlt : ∀ i b, F i b → b < w.heap.size := fun i b hF => by
    rcases Nat.lt_or_ge i os.length with hi | hi
    · exact (a2 i os[i] (by simp [hi])).lt hF
    · exact (a4 i hi b hF).elim
  refine ⟨h1.trans (hb.mono h1.size), fun i => if i < os2.length then G i else F (i - os2.length), fun i o hi => ?_, fun i b hF => ?_, fun i hi b hF => ?_, fun i j b hi hj => ?_⟩
  · by_cases hl : i < os2.length
    · simp only [hl, if_true]
      rw [List.getElem?_append_left hl] at hi
      exact b2 i o hi
    · simp only [hl, if_false]
      rw [List.getElem?_append_right (by omega)] at hi
      exact (a2 _ o hi).chg (Chg.of_below hb noBlk) (fun _ _ hf => hf)
  · simp only at hF
    split at hF
    · have := b3 i b hF; have := h1.size; omega
    · exact a3 _ b hF
  · simp only at hF
    rw [List.length_append] at hi
    rw [if_neg (by omega)] at hF
    exact a4 _ (by omega) b hF
  · simp only at hi hj
    split at hi <;> split at hj
    · exact b5 i j b hi hj
    · have := b3 i b hi; have := hlt _ b hj; omega
    · have := b3 j b hj; have := hlt _ b hi; omega
    · have := a5 _ _ b hi hj; omega
/-- A row is filled: from column col on, with the cells from number n on. -/
def begCells (cols lim : Nat) (fill : List Cell) (row : Nat) : Nat → Nat → Nat → List Ln → Nat × List Ln
  | 0, n, _, L => (n, L)
  | fuel + 1, n, col, L =>
    if col < cols ∧ n < lim then
      if ¬ (cAt fill (n % fill.length)).ok = true ∨ (cAt fill (n % fill.length)).width = 0 ∨ (cols : Int) < col + (cAt fill (n % fill.length)).width then begCells cols lim fill row fuel (n + 1) (col + 1) L
      else begCells cols lim fill row fuel (n + 1) (col + (cAt fill (n % fill.length)).width.toNat) (rowMod row (putC col (cAt fill (n % fill.length))) L)
    else (n, L)
theorem begCells_stop {cols lim : Nat} {fill : List Cell} {row n col : Nat} {L : List Ln} (h : ¬ (col < cols ∧ n < lim)) : begCells cols lim fill row (lim - n) n col L = (n, L) := by
  cases hf : lim - n with
  | zero => rfl
  | succ f => unfold begCells; rw [if_neg h]
theorem begCells_skip {cols lim : Nat} {fill : List Cell} {row n col : Nat} {L : List Ln} {y : Cell} (hy : cAt fill (n % fill.length) = y) (h1 : col < cols) (h2 : n < lim) (h : ¬ y.ok = true ∨ y.width = 0 ∨ (cols : Int) < col + y.width) :
    begCells cols lim fill row (lim - n) n col L = begCells cols lim fill row (lim - (n + 1)) (n + 1) (col + 1) L := by
  rw [show lim - n = (lim - (n + 1)) + 1 by omega]
  conv => lhs; unfold begCells
  rw [if_pos ⟨h1, h2⟩, hy, if_pos h]
theorem begCells_put {cols lim : Nat} {fill : List Cell} {row n col : Nat} {L : List Ln} {y : Cell} (hy : cAt fill (n % fill.length) = y) (h1 : col < cols) (h2 : n < lim) (h : ¬ (¬ y.ok = true ∨ y.width = 0 ∨ (cols : Int) < col + y.width)) :
    begCells cols lim fill row (lim - n) n col L = begCells cols lim fill row (lim - (n + 1)) (n + 1) (col + y.width.toNat) (rowMod row (putC col y) L) := by
  rw [show lim - n = (lim - (n + 1)) + 1 by omega]
  conv => lhs; unfold begCells
  rw [if_pos ⟨h1, h2⟩, hy, if_neg h]
/-- Whether a row is soft, by the bits of a number. -/
def softB (soft : Int) (row : Nat) : Bool := (soft / 2 ^ (row % 16)).tmod 2 == 1
/-- All rows are filled; k of them are left. -/
def begRows (rows cols lim : Nat) (fill : List Cell) (soft : Int) : Nat → Nat → List Ln → List Ln
  | 0, _, L => L
  | k + 1, n, L => begRows rows cols lim fill soft k (begCells cols lim fill (rows - (k + 1)) (lim - n) n 0 L).1 (softMod (rows - (k + 1)) (softB soft (rows - (k + 1))) (begCells cols lim fill (rows - (k + 1)) (lim - n) n 0 L).2)
def begunP (rows cols : Nat) (fill : List Cell) (soft : Int) : List Ln := begRows rows cols (fill.length * rows * cols) fill soft rows 0 (List.replicate rows (List.replicate cols (blank pen0), false))
theorem begRows_step {rows cols lim : Nat} {fill : List Cell} {soft : Int} {row n : Nat} {L : List Ln} {r : Nat × List Ln} (h : row < rows) (hr : begCells cols lim fill row (lim - n) n 0 L = r) :
    begRows rows cols lim fill soft (rows - row) n L = begRows rows cols lim fill soft (rows - (row + 1)) r.1 (softMod row (softB soft row) r.2) := by
  rw [show rows - row = (rows - (row + 1)) + 1 by omega]
  conv => lhs; unfold begRows
  rw [show rows - (rows - (row + 1) + 1) = row by omega, hr]
theorem begCells_rect {cols lim : Nat} {fill : List Cell} {row : Nat} (fuel n col : Nat) {L : List Ln} (hR : Rect cols L) : Rect cols (begCells cols lim fill row fuel n col L).2 ∧ (begCells cols lim fill row fuel n col L).2.length = L.length := by
  induction fuel generalizing n col L with
  | zero => exact ⟨hR, rfl⟩
  | succ f ih =>
    unfold begCells
    split
    · split
      · exact ih _ _ hR
      · have := ih (n + 1) (col + (cAt fill (n % fill.length)).width.toNat) (hR.rowMod row (f := putC col (cAt fill (n % fill.length))) (fun cs h => by rw [putC_length, h]))
        rwa [rowMod_length] at this
    · exact ⟨hR, rfl⟩
theorem begRows_rect {rows cols lim : Nat} {fill : List Cell} {soft : Int} (k n : Nat) {L : List Ln} (hR : Rect cols L) : Rect cols (begRows rows cols lim fill soft k n L) ∧ (begRows rows cols lim fill soft k n L).length = L.length := by
  induction k generalizing n L with
  | zero => exact ⟨hR, rfl⟩
  | succ k ih =>
    unfold begRows
    have h1 := begCells_rect (cols := cols) (lim := lim) (fill := fill) (row := rows - (k + 1)) (lim - n) n 0 hR
    have h2 := ih (begCells cols lim fill (rows - (k + 1)) (lim - n) n 0 L).1 (h1.1.softMod (rows - (k + 1)) (softB soft (rows - (k + 1))))
    rw [softMod_length, h1.2] at h2
    exact h2
theorem rect_new (rows cols : Nat) (p : Pen) : Rect cols (List.replicate rows (List.replicate cols (blank p), false)) := fun l hl => by rw [(List.mem_replicate.1 hl).2]; simp
theorem begunP_rect (rows cols : Nat) (fill : List Cell) (soft : Int) : Rect cols (begunP rows cols fill soft) ∧ (begunP rows cols fill soft).length = rows := by
  have := begRows_rect (rows := rows) (cols := cols) (lim := fill.length * rows * cols) (fill := fill) (soft := soft) rows 0 (rect_new rows cols pen0)
  rw [List.length_replicate] at this
  exact this
end Go.Proofs.YtjligfbaljnhnaaDoor

/-
  The grids with which the laws of chapter 17 begin.
-/
set_option linter.unusedSimpArgs false
set_option linter.unusedVariables false
namespace Go.Proofs.YtjligfbaljnhnaaDoor
open Go.RowKit

set_option maxRecDepth 100000 in
set_option maxHeartbeats 4000000 in
theorem l17begun_base (A : Option Addr) (c : Nat) (fill : List Cell) (rows cols : Nat) (soft : Int) (w : World) (hT : Tabs w) (ha : RdC w A c fill) (h1 : 1 ≤ rows) (h2 : rows ≤ 6) (h3 : 1 ≤ cols) (h4 : cols ≤ 12) (h5 : fill.length ≤ 20) (hs : 0 ≤ soft ∧ soft ≤ 65535) :
    Calls Tryd.prog 25 #[.int .i64 rows, .int .i64 cols, .slice A fill.length c, .int .u16 soft] w fun e w' => ∃ p x, e = .returned (.tuple #[.pointer (some ⟨p, 0, none⟩), .pointer (some ⟨x, 0, none⟩)]) ∧ Objs w w' [.grid p 35 cols (begunP rows cols fill soft), .grid x 48 cols (begunP rows cols fill soft)] := by
  have HT := Lib.hid hT
  have HA := Lib.hid ha
  obtain ⟨lim, hlim⟩ : ∃ lim : Nat, lim = fill.length * rows * cols := ⟨_, rfl⟩
  obtain ⟨lr, hlr⟩ : ∃ lr : Nat, lr = fill.length * rows := ⟨_, rfl⟩
  have hlrm : lr ≤ 120 := by rw [hlr]; exact Nat.mul_le_mul h5 h2
  have hlimm : lim ≤ 1440 := by rw [hlim, ← hlr]; exact Nat.mul_le_mul hlrm h4
  have HM1 := Lib.hid (show (fill.length : Int) * (rows : Int) = (lr : Int) by rw [hlr]; simp)
  have HM2 := Lib.hid (show (lr : Int) * (cols : Int) = (lim : Int) by rw [hlim, hlr]; simp)
  have HG := Lib.hid (show begunP rows cols fill soft = begRows rows cols lim fill soft (rows - 0) 0 (List.replicate rows (List.replicate cols (blank pen0), false)) by unfold begunP; rw [hlim]; rfl)
  have HF0 := Lib.hid (show 0 < lim → 0 < fill.length from fun h => by rcases Nat.eq_zero_or_pos fill.length with e | e; (rw [hlim, e] at h; simp at h); exact e)
  obtain ⟨G, hG⟩ : ∃ G, G = begunP rows cols fill soft := ⟨_, rfl⟩
  rw [← hG] at HG ⊢
  have HR0 := Lib.hid (rect_new rows cols pen0)
  clear hT ha hlim hlr hG
  go_enter Tryd.func25, Tryd.ntmps25
  go_wp2_with fail
  refine (gridNew_yes rows cols h1 (by omega) h3 (by omega) w w [] (objs_start w)).mono ?_
  rintro e w1 ⟨p, rfl, hS⟩
  have S1 := Lib.hid hS
  clear hS
  go_wp2_with fail
  refine (r14New_any rows cols (by omega) (by omega) w w1 _ S1.out).mono ?_
  rintro e w2 ⟨x, rfl, hS⟩
  have S2 := Lib.hid hS.swap
  clear hS S1
  go_wp2_with fail
  go_loopw [13, 14, 15, 16, 17] (fun vn vr _ _ _ wr => ∃ (n row : Nat) (L : List Ln), (row ≤ rows ∧ n ≤ 2000) ∧ vn = .int .i64 n ∧ vr = .int .i64 row ∧ (Rect cols L ∧ L.length = rows) ∧ Hid (begRows rows cols lim fill soft (rows - row) n L = G) ∧ Objs w wr [.grid p 35 cols L, .grid x 48 cols L]) (fun _ vr _ _ _ _ => rows - (intOf vr).toNat)
  case atStart => exact ⟨0, 0, _, ⟨Nat.zero_le _, by omega⟩, rfl, rfl, ⟨HR0.out, by simp⟩, Lib.hid HG.out.symm, S2.out⟩
  case round =>
    obtain ⟨n, row, L, ⟨hrow, hnm⟩, rfl, rfl, hRL, HJ, hS⟩ := hrel
    have HRL := Lib.hid hRL
    have S := Lib.hid hS
    clear hRL hS
    by_cases hlt : row < rows
    case neg =>
      have HE := Lib.hid (show L = G by have := HJ.out; rw [show rows - row = 0 by omega] at this; exact this)
      go_wp2_with fail
      go_ret2
      exact ⟨p, x, rfl, by rw [← HE.out]; exact S.out⟩
    obtain ⟨R, hRR⟩ : ∃ R, R = begCells cols lim fill row (lim - n) n 0 L := ⟨_, rfl⟩
    have HJ2 := Lib.hid (show begRows rows cols lim fill soft (rows - (row + 1)) R.1 (softMod row (softB soft row) R.2) = G by rw [← begRows_step hlt hRR.symm]; exact HJ.out)
    have HRR := Lib.hid hRR.symm
    clear hRR
    go_wp2_with fail
    go_loopw [13, 15, 16] (fun vn vc _ wr => ∃ (n col : Nat) (L : List Ln), vn = .int .i64 n ∧ vc = .int .i64 col ∧ n ≤ 2000 ∧ col ≤ 20 ∧ (Rect cols L ∧ L.length = rows) ∧ Hid (begCells cols lim fill row (lim - n) n col L = R) ∧ Objs w wr [.grid p 35 cols L, .grid x 48 cols L]) (fun vn _ _ _ => lim - (intOf vn).toNat)
    case atStart => exact ⟨n, 0, L, rfl, rfl, hnm, by omega, HRL.out, HRR, S.out⟩
    case round =>
      obtain ⟨m, col, LL, rfl, rfl, hm, hcol, hRLL, HJC, hS⟩ := hrel
      have HRLL := Lib.hid hRLL
      have SS := Lib.hid hS
      clear hRLL hS
      have HW1 := Lib.hid (show IntKind.i64.wrap ((fill.length : Int) * (rows : Int)) = (lr : Int) by rw [HM1.out]; exact IntWalk.i64_in _ (by omega))
      have HW2 := Lib.hid (show IntKind.i64.wrap ((lr : Int) * (cols : Int)) = (lim : Int) by rw [HM2.out]; exact IntWalk.i64_in _ (by omega))
      by_cases hcc : col < cols
      case neg =>
        have HE := Lib.hid (show R = (m, LL) by rw [← HJC.out]; exact begCells_stop (by omega))
        have HRW := Lib.hid (show row < LL.length by rw [HRLL.out.2]; exact hlt)
        have HLM := Lib.hid (show LL.length ≤ 1000000 by rw [HRLL.out.2]; omega)
        go_wp2_with fail
        refine (SetSoftG _ SS.out (k := 0) rfl (by omega) HRW.out HLM.out).mono ?_
        rintro e w3 ⟨rfl, hS⟩
        obtain ⟨l, hl⟩ := get_of HRW.out
        obtain ⟨sb, hsb⟩ : ∃ sb, sb = softB soft row := ⟨_, rfl⟩
        have HSB := Lib.hid hsb
        rw [show ((soft / 2 ^ (row % 16)).tmod 2 == 1) = sb from hsb.symm] at hS ⊢
        obtain ⟨v, hS1⟩ := (show Objs w w3 [.grid p 35 cols (softMod row sb LL), .grid x 48 cols LL] from hS).openGrid (k := 1) rfl
        have HN := Lib.hid (softMod_some (s := sb) hl)
        obtain ⟨Av, cv', rfl, hcm2, hrd⟩ := hS1.linesRd (k := 0) rfl
        obtain ⟨F, bs, hF, -⟩ := hS1.get (k := 0) rfl
        obtain ⟨A2, c2, e2, -, -, -, h4'⟩ := hF.form
        simp only [Value.slice.injEq, true_and] at e2
        obtain ⟨rfl, rfl⟩ := e2
        have hpos : 0 < LL.length := by have := HRW.out; omega
        obtain ⟨g, rfl, hz, -, hso, hfz⟩ := h4' hpos
        have hso2 := hso row l hl
        obtain ⟨hx0, hf0, hz0⟩ := (hS1.box (k := 2) rfl).facts
        have hS2 := ((hS1.storeSoft (k := 0) (s := sb) rfl hl) : Objs w _ [.lines _ _, _, _]).closeGrid (k := 1) rfl
        rw [← softMod_some hl] at hS2
        have S4 := Lib.hid hS2
        have hrw := HRW.out
        have hll := HRLL.out.2
        rw [hll] at hrw
        have HRX := Lib.hid (show Rect cols (softMod row sb LL) ∧ (softMod row sb LL).length = rows from ⟨HRLL.out.1.softMod _ _, by rw [softMod_length]; exact HRLL.out.2⟩)
        clear hS hS1 hcm2 hrd hF h4' hso hS2 hsb hl hll hpos
        go_wp2_with fail
        go_roundw
        case rel => exact ⟨m, row + 1, softMod row sb LL, ⟨by omega, hm⟩, by go_num, by go_num, HRX.out, Lib.hid (by have := HJ2.out; rw [HE.out, ← HSB.out] at this; exact this), S4.out⟩
        case measure => simp [intOf]; omega
      by_cases hml : m < lim
      case neg =>
        have HE := Lib.hid (show R = (m, LL) by rw [← HJC.out]; exact begCells_stop (by omega))
        have HRW := Lib.hid (show row < LL.length by rw [HRLL.out.2]; exact hlt)
        have HLM := Lib.hid (show LL.length ≤ 1000000 by rw [HRLL.out.2]; omega)
        have hw1 := HW1.out
        have hw2 := HW2.out
        go_wp2_with fail
        refine (SetSoftG _ SS.out (k := 0) rfl (by omega) HRW.out HLM.out).mono ?_
        rintro e w3 ⟨rfl, hS⟩
        obtain ⟨l, hl⟩ := get_of HRW.out
        obtain ⟨sb, hsb⟩ : ∃ sb, sb = softB soft row := ⟨_, rfl⟩
        have HSB := Lib.hid hsb
        rw [show ((soft / 2 ^ (row % 16)).tmod 2 == 1) = sb from hsb.symm] at hS ⊢
        obtain ⟨v, hS1⟩ := (show Objs w w3 [.grid p 35 cols (softMod row sb LL), .grid x 48 cols LL] from hS).openGrid (k := 1) rfl
        have HN := Lib.hid (softMod_some (s := sb) hl)
        obtain ⟨Av, cv', rfl, hcm2, hrd⟩ := hS1.linesRd (k := 0) rfl
        obtain ⟨F, bs, hF, -⟩ := hS1.get (k := 0) rfl
        obtain ⟨A2, c2, e2, -, -, -, h4'⟩ := hF.form
        simp only [Value.slice.injEq, true_and] at e2
        obtain ⟨rfl, rfl⟩ := e2
        have hpos : 0 < LL.length := by have := HRW.out; omega
        obtain ⟨g, rfl, hz, -, hso, hfz⟩ := h4' hpos
        have hso2 := hso row l hl
        obtain ⟨hx0, hf0, hz0⟩ := (hS1.box (k := 2) rfl).facts
        have hS2 := ((hS1.storeSoft (k := 0) (s := sb) rfl hl) : Objs w _ [.lines _ _, _, _]).closeGrid (k := 1) rfl
        rw [← softMod_some hl] at hS2
        have S4 := Lib.hid hS2
        have hrw := HRW.out
        have hll := HRLL.out.2
        rw [hll] at hrw
        have HRX := Lib.hid (show Rect cols (softMod row sb LL) ∧ (softMod row sb LL).length = rows from ⟨HRLL.out.1.softMod _ _, by rw [softMod_length]; exact HRLL.out.2⟩)
        clear hS hS1 hcm2 hrd hF h4' hso hS2 hsb hl hll hpos
        go_wp2_with fail
        go_roundw
        case rel => exact ⟨m, row + 1, softMod row sb LL, ⟨by omega, hm⟩, by go_num, by go_num, HRX.out, Lib.hid (by have := HJ2.out; rw [HE.out, ← HSB.out] at this; exact this), S4.out⟩
        case measure => simp [intOf]; omega
      have hw1 := HW1.out
      have hw2 := HW2.out
      have hf0 : 0 < fill.length := HF0.out (by omega)
      have hkl : m % fill.length < fill.length := Nat.mod_lt _ hf0
      obtain ⟨b, off, rfl, hz, hr⟩ := (HA.out.bel SS.out.base).at_ hkl
      have hce := elem_cell hr hkl
      obtain ⟨y, hy⟩ : ∃ y, fill[m % fill.length] = y := ⟨_, rfl⟩
      rw [hy] at hce
      have HY := Lib.hid (show cAt fill (m % fill.length) = y by rw [cAt_eq hkl]; exact hy)
      clear hy hr
      cases hok : y.ok with
      | false =>
        have HJN := Lib.hid (begCells_skip (row := row) (L := LL) HY.out hcc hml (.inl (by simp [hok])))
        have HOK := Lib.hid hok
        clear hok
        go_wp2_with fail
        refine (pure_call (cellValid_any y _ (SS.out.alloc1.tabs HT.out)) SS.out.alloc1).mono ?_
        rw [HOK.out]
        rintro e w3 ⟨rfl, hS⟩
        have S3 := Lib.hid hS
        clear hS hce
        go_wp2_with fail
        go_roundw
        case rel => exact ⟨m + 1, col + 1, LL, by go_num, by go_num, by omega, by omega, HRLL.out, Lib.hid (HJN.out.symm.trans HJC.out), S3.out.tail⟩
        case measure => simp [intOf]; omega
      | true =>
        have hyw : 0 ≤ y.width ∧ y.width ≤ 2 := by rcases ok_width hok with h | h | h <;> omega
        have HOK := Lib.hid hok
        clear hok
        by_cases hw0 : y.width = 0
        · have HJN := Lib.hid (begCells_skip (row := row) (L := LL) HY.out hcc hml (.inr (.inl hw0)))
          have hb := beq_yes hw0
          clear hw0
          go_wp2_with fail
          refine (pure_call (cellValid_any y _ (SS.out.alloc1.tabs HT.out)) SS.out.alloc1).mono ?_
          rw [HOK.out]
          rintro e w3 ⟨rfl, hS⟩
          obtain ⟨hx, hf, hz2, hc1, hc2⟩ := (hS.box (k := 0) rfl).box
          have S3 := Lib.hid hS
          clear hS hce
          go_wp2_with fail
          go_roundw
          case rel => exact ⟨m + 1, col + 1, LL, by go_num, by go_num, by omega, by omega, HRLL.out, Lib.hid (HJN.out.symm.trans HJC.out), S3.out.tail⟩
          case measure => simp [intOf]; omega
        by_cases hov : (cols : Int) < col + y.width
        · have HJN := Lib.hid (begCells_skip (row := row) (L := LL) HY.out hcc hml (.inr (.inr hov)))
          have hb := beq_no hw0
          clear hw0
          go_wp2_with fail
          refine (pure_call (cellValid_any y _ (SS.out.alloc1.tabs HT.out)) SS.out.alloc1).mono ?_
          rw [HOK.out]
          rintro e w3 ⟨rfl, hS⟩
          obtain ⟨hx, hf, hz2, hc1, hc2⟩ := (hS.box (k := 0) rfl).box
          have S3 := Lib.hid hS
          clear hS hce
          go_wp2_with fail
          go_roundw
          case rel => exact ⟨m + 1, col + 1, LL, by go_num, by go_num, by omega, by omega, HRLL.out, Lib.hid (HJN.out.symm.trans HJC.out), S3.out.tail⟩
          case measure => simp [intOf]; omega
        have HJN := Lib.hid (begCells_put (row := row) (L := LL) HY.out hcc hml (by rw [HOK.out]; simp; omega))
        have hb := beq_no hw0
        have HW := Lib.hid hw0
        have HFIT := Lib.hid (show (col : Int) + y.width ≤ cols by omega)
        have HRW := Lib.hid (show row < LL.length by rw [HRLL.out.2]; exact hlt)
        clear hw0
        go_wp2_with fail
        refine (pure_call (cellValid_any y _ (SS.out.alloc1.tabs HT.out)) SS.out.alloc1).mono ?_
        rw [HOK.out]
        rintro e w3 ⟨rfl, hS⟩
        obtain ⟨hx, hf, hz2, hc1, hc2⟩ := (hS.box (k := 0) rfl).box
        have S3 := Lib.hid hS
        clear hS hce
        go_wp2_with fail
        refine (PutG y HT.out S3.out (k := 1) rfl (by omega) HRLL.out.1 HRW.out HOK.out HW.out HFIT.out).mono ?_
        rintro e w4 ⟨rfl, hS⟩
        clear hx hf hz2 hc1 hc2
        obtain ⟨hx, hf, hz2, hc1, hc2⟩ := (hS.box (k := 0) rfl).box
        have S4 := Lib.hid hS
        clear hS S3
        go_wp2_with fail
        refine (r14PutG y S4.out (k := 2) rfl (by omega) HRLL.out.1 HRW.out HOK.out HW.out HFIT.out).mono ?_
        rintro e w5 ⟨rfl, hS⟩
        clear hx hf hz2 hc1 hc2
        obtain ⟨hx, hf, hz2, hc1, hc2⟩ := (hS.box (k := 0) rfl).box
        have S5 := Lib.hid hS
        clear hS S4
        go_wp2_with fail
        go_roundw
        case rel => exact ⟨m + 1, col + y.width.toNat, rowMod row (putC col y) LL, by go_num, congrArg (Value.int .i64) (by omega), by omega, by omega, ⟨HRLL.out.1.rowMod _ (fun cs h => by rw [putC_length, h]), by rw [rowMod_length]; exact HRLL.out.2⟩, Lib.hid (HJN.out.symm.trans HJC.out), S5.out.tail⟩
        case measure => simp [intOf]; omega
end Go.Proofs.YtjligfbaljnhnaaDoor

/-
  The law's rowed of chapter 17: a row is as it is spelled. And small.
-/
set_option linter.unusedSimpArgs false
set_option linter.unusedVariables false
namespace Go.Proofs.YtjligfbaljnhnaaDoor
open Go.RowKit

def smallB (rows cols : Int) (n : Nat) : Bool := decide ((1 ≤ rows ∧ rows ≤ 6) ∧ (1 ≤ cols ∧ cols ≤ 12) ∧ n ≤ 20)
set_option maxHeartbeats 1000000 in
theorem l17small_any (rows cols : Int) (A : Option Addr) (n c : Nat) (w : World) (hn : n ≤ maxLen) : Calls Tryd.prog 24 #[.int .i64 rows, .int .i64 cols, .slice A n c] w fun e w' => e = .returned (.bool (smallB rows cols n)) ∧ w = w' := by
  have hn63 : n ≤ 9223372036854775807 := by unfold maxLen at hn; omega
  clear hn
  have no : ∀ h : ¬ ((1 ≤ rows ∧ rows ≤ 6) ∧ (1 ≤ cols ∧ cols ≤ 12) ∧ n ≤ 20), Hid (smallB rows cols n = false) := fun h => Lib.hid (decide_eq_false h)
  by_cases h1 : 1 ≤ rows
  case neg =>
    have HE := no (by omega)
    clear no
    go_enter Tryd.func24, Tryd.ntmps24
    go_wp2_with fail
    go_ret
    exact ⟨by rw [HE.out]; rfl, rfl⟩
  by_cases h2 : rows ≤ 6
  case neg =>
    have HE := no (by omega)
    clear no
    go_enter Tryd.func24, Tryd.ntmps24
    go_wp2_with fail
    go_ret
    exact ⟨by rw [HE.out]; rfl, rfl⟩
  by_cases h3 : 1 ≤ cols
  case neg =>
    have HE := no (by omega)
    clear no
    go_enter Tryd.func24, Tryd.ntmps24
    go_wp2_with fail
    go_ret
    exact ⟨by rw [HE.out]; rfl, rfl⟩
  by_cases h4 : cols ≤ 12
  case neg =>
    have HE := no (by omega)
    clear no
    go_enter Tryd.func24, Tryd.ntmps24
    go_wp2_with fail
    go_ret
    exact ⟨by rw [HE.out]; rfl, rfl⟩
  by_cases h5 : n ≤ 20
  case neg =>
    have HE := no (by omega)
    clear no
    go_enter Tryd.func24, Tryd.ntmps24
    go_wp2_with fail
    go_ret
    exact ⟨by rw [HE.out]; simp; omega, rfl⟩
  have HE := Lib.hid (show smallB rows cols n = true from decide_eq_true ⟨⟨h1, h2⟩, ⟨h3, h4⟩, h5⟩)
  clear no
  go_enter Tryd.func24, Tryd.ntmps24
  go_wp2_with fail
  go_ret
  exact ⟨by rw [HE.out]; simp; omega, rfl⟩
def spelt (bs : List Bool) : List Cell := bs.map fun b => if b then ⟨97, 0, 0, 0, 1, pen0⟩ else blank pen0
theorem wantAt {bs : List Bool} {want : ByteArray} (h : want = ⟨(bs.map fun b => if b then 49 else 48).toArray⟩) {m : Nat} (hm : m < want.size) (hb : m < bs.length) : want[m]'hm = if bs[m] then 49 else 48 := by
  subst h
  show ((bs.map fun b => if b then (49 : UInt8) else 48).toArray)[m]'_ = _
  simp
theorem spelt_at {bs : List Bool} {m : Nat} (hb : m < bs.length) (h : m < (spelt bs).length) : (spelt bs)[m] = if bs[m] then ⟨97, 0, 0, 0, 1, pen0⟩ else blank pen0 := by simp [spelt]
section
variable {w0 w : World} {os : List Ob} {k p cols : Nat} {L : List Ln}
set_option maxHeartbeats 2000000 in
theorem l17rowed_yes {y : Nat} (bs : List Bool) (s : Bool) (want : ByteArray) (hwant : want = ⟨(bs.map fun b => if b then 49 else 48).toArray⟩) (hS : Objs w0 w os) (hk : os[k]? = some (.grid p 35 cols L)) (hc : 0 < cols) (hl : L[y]? = some (spelt bs, s)) (hbs : bs.length ≤ 1000) :
    Calls Tryd.prog 52 #[.pointer (some ⟨p, 0, none⟩), .int .i64 y, .string want, .bool s] w fun e w' => e = .returned (.bool true) ∧ Objs w0 w' os := by
  have S := Lib.hid hS
  have HK := Lib.hid hk
  have HL := Lib.hid hl
  have hsl : (spelt bs).length = bs.length := by simp [spelt]
  have HSL := Lib.hid hsl
  have hwl : want.size = bs.length := by rw [hwant]; simp [ByteArray.size]
  clear hS hk hl hsl
  have HWL := Lib.hid hwl
  have HWANT := Lib.hid hwant
  clear hwl hwant
  go_enter Tryd.func52, Tryd.ntmps52
  go_wp2_with fail
  refine (Line_yes S.out HK.out hc HL.out (by rw [HSL.out]; omega)).mono ?_
  rintro e w1 ⟨v, rfl, hS⟩
  obtain ⟨A, c, rfl, hrd⟩ := hS.cellsRd (k := 0) rfl
  have S1 := Lib.hid hS
  clear hS hrd
  simp only [HSL.out]
  have hsz : ((bs.length : Int) != (want.size : Int)) = false := by have := HWL.out; simp; omega
  have S2 := Lib.hid (S1.out.alloc1 (c1 := #[.slice A (spelt bs).length c, .bool s]) (t1 := 71))
  rw [HSL.out] at S2
  clear S1
  go_wp2_with fail
  go_loopw [11, 12] (fun vi _ wr => ∃ m : Nat, m ≤ bs.length ∧ vi = .int .i64 m ∧ Objs w0 wr (.box w1.heap.size 71 #[.slice A bs.length c, .bool s] :: .cells (.slice A bs.length c) (spelt bs) :: os)) (fun vi _ _ => bs.length - (intOf vi).toNat)
  case atStart => exact ⟨0, Nat.zero_le _, rfl, S2.out⟩
  case round =>
    obtain ⟨m, hm, rfl, hS⟩ := hrel
    have S3 := Lib.hid hS
    clear hS
    by_cases hlt : m < bs.length
    case neg =>
      have hge : ¬ m < want.size := by rw [HWL.out]; exact hlt
      go_wp2_with fail
      go_ret
      exact ⟨rfl, S3.out.tail.tail⟩
    have hlt2 : m < want.size := by rw [HWL.out]; exact hlt
    have hwa := wantAt HWANT.out hlt2 hlt
    cases hb : bs[m] with
    | true =>
      rw [hb, if_pos rfl] at hwa
      have hq : (((want[m]'hlt2).toNat : Int) == 49) = true := by rw [hwa]; rfl
      clear hwa
      go_upto_region 10 with (fail)
      refine at_objsC (S3.out.alloc1 (c1 := cv ⟨97, 0, 0, 0, 1, pen0⟩) (t1 := 65)) (fun W hSW => ?_)
      obtain ⟨hx, hf, hz, hc1, hc2⟩ := (hSW.box (k := 0) rfl).box
      obtain ⟨hx9, hf9, hz9⟩ := (hSW.box (k := 1) rfl).facts
      obtain ⟨-, hrd⟩ := hSW.cellsRd' (k := 2) rfl
      have hltc : m < (spelt bs).length := by rw [HSL.out]; exact hlt
      obtain ⟨b, off, rfl, hzc, hr⟩ := hrd.at_ hltc
      have hce := elem_cell hr hltc
      rw [spelt_at hlt hltc, hb] at hce
      simp only [if_true, Bool.false_eq_true, if_false, blank] at hce
      have SW := Lib.hid hSW
      clear hrd hr hSW hltc
      refine wp_region_below (by kernel_rfl) (by kernel_rfl) ?_
      repeat (go_big_quiet_step (fail))
      refine wpQuiet_nil ?_
      intro w2 hb2
      have S4 := Lib.hid (SW.out.bel hb2)
      clear hx hf hz hc1 hc2 hx9 hf9 hz9 hce hzc
      go_wp2_with fail
      go_roundw
      case rel => exact ⟨m + 1, by omega, by go_num, S4.out.tail⟩
      case measure => simp [intOf]; omega
    | false =>
      rw [hb, if_neg (by decide)] at hwa
      have hq : (((want[m]'hlt2).toNat : Int) == 49) = false := by rw [hwa]; rfl
      clear hwa
      go_upto_region 10 with (fail)
      refine at_objsC (S3.out.alloc1 (c1 := cv ⟨0, 0, 0, 0, 1, pen0⟩) (t1 := 65)) (fun W hSW => ?_)
      obtain ⟨hx, hf, hz, hc1, hc2⟩ := (hSW.box (k := 0) rfl).box
      obtain ⟨hx9, hf9, hz9⟩ := (hSW.box (k := 1) rfl).facts
      obtain ⟨-, hrd⟩ := hSW.cellsRd' (k := 2) rfl
      have hltc : m < (spelt bs).length := by rw [HSL.out]; exact hlt
      obtain ⟨b, off, rfl, hzc, hr⟩ := hrd.at_ hltc
      have hce := elem_cell hr hltc
      rw [spelt_at hlt hltc, hb] at hce
      simp only [if_true, Bool.false_eq_true, if_false, blank] at hce
      have SW := Lib.hid hSW
      clear hrd hr hSW hltc
      refine wp_region_below (by kernel_rfl) (by kernel_rfl) ?_
      repeat (go_big_quiet_step (fail))
      refine wpQuiet_nil ?_
      intro w2 hb2
      have S4 := Lib.hid (SW.out.bel hb2)
      clear hx hf hz hc1 hc2 hx9 hf9 hz9 hce hzc
      go_wp2_with fail
      go_roundw
      case rel => exact ⟨m + 1, by omega, by go_num, S4.out.tail⟩
      case measure => simp [intOf]; omega
end
end Go.Proofs.YtjligfbaljnhnaaDoor

/-
  The law's known of chapter 17: the examples of the chapter.
-/
set_option linter.unusedSimpArgs false
set_option linter.unusedVariables false
namespace Go.Proofs.YtjligfbaljnhnaaDoor
open Go.RowKit

def k17_0 : List Ln := begunP 3 4 [⟨97, 0, 0, 0, 1, pen0⟩] 7
def k17_1 : List Ln := eraseLine 4 1 2 0 pen0 k17_0
def k17_2 : List Ln := eraseLine 4 0 2 1 pen0 k17_1
def k17_3 : List Ln := eraseCh 4 2 1 2 pen0 k17_2
def k17_4 : List Ln := eraseScr 4 1 0 0 pen0 k17_3
def k17_5 : List Ln := eraseCh 4 0 3 99 pen0 k17_4
theorem k17_rect0 : Rect 4 k17_0 := by intro l hl; revert l; decide +kernel
theorem k17_rect1 : Rect 4 k17_1 := by intro l hl; revert l; decide +kernel
theorem k17_rect2 : Rect 4 k17_2 := by intro l hl; revert l; decide +kernel
theorem k17_rect3 : Rect 4 k17_3 := by intro l hl; revert l; decide +kernel
theorem k17_rect4 : Rect 4 k17_4 := by intro l hl; revert l; decide +kernel
theorem k17_rect5 : Rect 4 k17_5 := by intro l hl; revert l; decide +kernel
theorem k17_len0 : k17_0.length = 3 := by kernel_rfl
theorem k17_len1 : k17_1.length = 3 := by kernel_rfl
theorem k17_len2 : k17_2.length = 3 := by kernel_rfl
theorem k17_len3 : k17_3.length = 3 := by kernel_rfl
theorem k17_len4 : k17_4.length = 3 := by kernel_rfl
theorem k17_len5 : k17_5.length = 3 := by kernel_rfl
set_option maxRecDepth 100000 in
set_option maxHeartbeats 4000000 in
theorem l17known_any (w : World) (hT : Tabs w) : Calls Tryd.prog 15 #[] w fun e w' => e = .returned (.bool true) ∧ Below w.heap.size w w' := by
  have HT := Lib.hid hT
  clear hT
  go_enter Tryd.func15, Tryd.ntmps15
  go_wp2_with (first | (refine wpList_bs1 (wanted_none rfl) _ rfl ⟨97, 0, 0, 0, 1, pen0⟩ rfl ?_))
  refine (l17begun_base _ _ [⟨97, 0, 0, 0, 1, pen0⟩] 3 4 7 _ (HT.out.bel ((Below.refl _ _).alloc (Nat.le_refl _) _)) (RdC.lit w [⟨97, 0, 0, 0, 1, pen0⟩]) (by decide) (by decide) (by decide) (by decide) (by decide) (by decide)).mono ?_
  rintro e w1 ⟨p, x, rfl, hS⟩
  have hS0 := ((objs_start w).alloc1 (c1 := fv [⟨97, 0, 0, 0, 1, pen0⟩]) (t1 := 65)).nestAll hS
  have S0 := Lib.hid (show Objs w w1 (.grid p 35 4 k17_0 :: .grid x 48 4 k17_0 :: [.box w.heap.size 65 (fv [⟨97, 0, 0, 0, 1, pen0⟩])]) from hS0)
  clear hS hS0
  go_wp2_with fail
  have T0 := Lib.hid (show Objs w _ (.box w1.heap.size 29 (pv pen0) :: .grid p 35 4 k17_0 :: .grid x 48 4 k17_0 :: [.box w.heap.size 65 (fv [⟨97, 0, 0, 0, 1, pen0⟩])]) from S0.out.alloc1)
  clear S0
  refine (show Calls Tryd.prog 33 #[.pointer (some ⟨p, 0, none⟩), .agg #[.int .i64 1, .int .i64 2, .bool false], .int .i64 0, .agg (pv pen0)] _ _ from (front_call T0.out (k := 1) rfl (fun os1 h => eraseInLine_front (i := 1) (j := 2) (pend := false) 0 pen0 HT.out h (by decide) k17_rect0 (by decide +kernel) (by decide +kernel) (by decide +kernel) (by decide)))).mono ?_
  rintro e w2 ⟨rfl, hS⟩
  have T1 := Lib.hid (show Objs w w2 (.box w1.heap.size 29 (pv pen0) :: .grid p 35 4 k17_1 :: .grid x 48 4 k17_0 :: [.box w.heap.size 65 (fv [⟨97, 0, 0, 0, 1, pen0⟩])]) from hS)
  clear hS T0
  have hp := (T1.out.box (k := 0) rfl).penAt
  go_wp2_with fail
  clear hp
  refine (show Calls Tryd.prog 52 #[.pointer (some ⟨p, 0, none⟩), .int .i64 1, .string ⟨#[49, 49, 48, 48]⟩, .bool false] _ _ from (l17rowed_yes (y := 1) [true, true, false, false] false _ rfl T1.out (k := 1) rfl (by decide) (by kernel_rfl) (by decide))).mono ?_
  rintro e w3 ⟨rfl, hS⟩
  have T2 := Lib.hid (show Objs w w3 (.box w1.heap.size 29 (pv pen0) :: .grid p 35 4 k17_1 :: .grid x 48 4 k17_0 :: [.box w.heap.size 65 (fv [⟨97, 0, 0, 0, 1, pen0⟩])]) from hS)
  clear hS T1
  have hp := (T2.out.box (k := 0) rfl).penAt
  go_wp2_with fail
  clear hp
  refine (show Calls Tryd.prog 33 #[.pointer (some ⟨p, 0, none⟩), .agg #[.int .i64 0, .int .i64 2, .bool false], .int .i64 1, .agg (pv pen0)] _ _ from (front_call T2.out (k := 1) rfl (fun os1 h => eraseInLine_front (i := 0) (j := 2) (pend := false) 1 pen0 HT.out h (by decide) k17_rect1 (by decide +kernel) (by decide +kernel) (by decide +kernel) (by decide)))).mono ?_
  rintro e w4 ⟨rfl, hS⟩
  have T3 := Lib.hid (show Objs w w4 (.box w1.heap.size 29 (pv pen0) :: .grid p 35 4 k17_2 :: .grid x 48 4 k17_0 :: [.box w.heap.size 65 (fv [⟨97, 0, 0, 0, 1, pen0⟩])]) from hS)
  clear hS T2
  have hp := (T3.out.box (k := 0) rfl).penAt
  go_wp2_with fail
  clear hp
  refine (show Calls Tryd.prog 52 #[.pointer (some ⟨p, 0, none⟩), .int .i64 0, .string ⟨#[48, 48, 48, 49]⟩, .bool true] _ _ from (l17rowed_yes (y := 0) [false, false, false, true] true _ rfl T3.out (k := 1) rfl (by decide) (by kernel_rfl) (by decide))).mono ?_
  rintro e w5 ⟨rfl, hS⟩
  have T4 := Lib.hid (show Objs w w5 (.box w1.heap.size 29 (pv pen0) :: .grid p 35 4 k17_2 :: .grid x 48 4 k17_0 :: [.box w.heap.size 65 (fv [⟨97, 0, 0, 0, 1, pen0⟩])]) from hS)
  clear hS T3
  have hp := (T4.out.box (k := 0) rfl).penAt
  go_wp2_with fail
  clear hp
  refine (show Calls Tryd.prog 32 #[.pointer (some ⟨p, 0, none⟩), .agg #[.int .i64 2, .int .i64 1, .bool false], .int .i64 2, .agg (pv pen0)] _ _ from (front_call T4.out (k := 1) rfl (fun os1 h => eraseChars_front (y := 2) (j := 1) (pend := false) 2 pen0 HT.out h (by decide) k17_rect2 (by decide +kernel) (by decide +kernel) (by decide +kernel) (by decide)))).mono ?_
  rintro e w6 ⟨rfl, hS⟩
  have T5 := Lib.hid (show Objs w w6 (.box w1.heap.size 29 (pv pen0) :: .grid p 35 4 k17_3 :: .grid x 48 4 k17_0 :: [.box w.heap.size 65 (fv [⟨97, 0, 0, 0, 1, pen0⟩])]) from hS)
  clear hS T4
  have hp := (T5.out.box (k := 0) rfl).penAt
  go_wp2_with fail
  clear hp
  refine (show Calls Tryd.prog 52 #[.pointer (some ⟨p, 0, none⟩), .int .i64 2, .string ⟨#[49, 48, 48, 49]⟩, .bool true] _ _ from (l17rowed_yes (y := 2) [true, false, false, true] true _ rfl T5.out (k := 1) rfl (by decide) (by kernel_rfl) (by decide))).mono ?_
  rintro e w7 ⟨rfl, hS⟩
  have T6 := Lib.hid (show Objs w w7 (.box w1.heap.size 29 (pv pen0) :: .grid p 35 4 k17_3 :: .grid x 48 4 k17_0 :: [.box w.heap.size 65 (fv [⟨97, 0, 0, 0, 1, pen0⟩])]) from hS)
  clear hS T5
  have hp := (T6.out.box (k := 0) rfl).penAt
  go_wp2_with fail
  clear hp
  refine (show Calls Tryd.prog 51 #[.pointer (some ⟨p, 0, none⟩), .agg #[.int .i64 1, .int .i64 0, .bool false], .int .i64 0, .agg (pv pen0)] _ _ from (front_call T6.out (k := 1) rfl (fun os1 h => eraseInScreen_front (y := 1) (j := 0) (pend := false) 0 pen0 HT.out h (by decide) k17_rect3 (by decide +kernel) (by decide +kernel) (by decide +kernel) (by decide)))).mono ?_
  rintro e w8 ⟨rfl, hS⟩
  have T7 := Lib.hid (show Objs w w8 (.box w1.heap.size 29 (pv pen0) :: .grid p 35 4 k17_4 :: .grid x 48 4 k17_0 :: [.box w.heap.size 65 (fv [⟨97, 0, 0, 0, 1, pen0⟩])]) from hS)
  clear hS T6
  have hp := (T7.out.box (k := 0) rfl).penAt
  go_wp2_with fail
  clear hp
  refine (show Calls Tryd.prog 52 #[.pointer (some ⟨p, 0, none⟩), .int .i64 0, .string ⟨#[48, 48, 48, 49]⟩, .bool true] _ _ from (l17rowed_yes (y := 0) [false, false, false, true] true _ rfl T7.out (k := 1) rfl (by decide) (by kernel_rfl) (by decide))).mono ?_
  rintro e w9 ⟨rfl, hS⟩
  have T8 := Lib.hid (show Objs w w9 (.box w1.heap.size 29 (pv pen0) :: .grid p 35 4 k17_4 :: .grid x 48 4 k17_0 :: [.box w.heap.size 65 (fv [⟨97, 0, 0, 0, 1, pen0⟩])]) from hS)
  clear hS T7
  have hp := (T8.out.box (k := 0) rfl).penAt
  go_wp2_with fail
  clear hp
  refine (show Calls Tryd.prog 52 #[.pointer (some ⟨p, 0, none⟩), .int .i64 1, .string ⟨#[48, 48, 48, 48]⟩, .bool false] _ _ from (l17rowed_yes (y := 1) [false, false, false, false] false _ rfl T8.out (k := 1) rfl (by decide) (by kernel_rfl) (by decide))).mono ?_
  rintro e w10 ⟨rfl, hS⟩
  have T9 := Lib.hid (show Objs w w10 (.box w1.heap.size 29 (pv pen0) :: .grid p 35 4 k17_4 :: .grid x 48 4 k17_0 :: [.box w.heap.size 65 (fv [⟨97, 0, 0, 0, 1, pen0⟩])]) from hS)
  clear hS T8
  have hp := (T9.out.box (k := 0) rfl).penAt
  go_wp2_with fail
  clear hp
  refine (show Calls Tryd.prog 52 #[.pointer (some ⟨p, 0, none⟩), .int .i64 2, .string ⟨#[48, 48, 48, 48]⟩, .bool false] _ _ from (l17rowed_yes (y := 2) [false, false, false, false] false _ rfl T9.out (k := 1) rfl (by decide) (by kernel_rfl) (by decide))).mono ?_
  rintro e w11 ⟨rfl, hS⟩
  have T10 := Lib.hid (show Objs w w11 (.box w1.heap.size 29 (pv pen0) :: .grid p 35 4 k17_4 :: .grid x 48 4 k17_0 :: [.box w.heap.size 65 (fv [⟨97, 0, 0, 0, 1, pen0⟩])]) from hS)
  clear hS T9
  have hp := (T10.out.box (k := 0) rfl).penAt
  go_wp2_with fail
  clear hp
  refine (show Calls Tryd.prog 33 #[.pointer (some ⟨p, 0, none⟩), .agg #[.int .i64 0, .int .i64 0, .bool false], .int .i64 3, .agg (pv pen0)] _ _ from (eraseInLine_no 3 pen0 HT.out T10.out (k := 1) rfl (by decide) (by decide) (by decide +kernel) (by decide +kernel))).mono ?_
  rintro e w12 ⟨rfl, hS⟩
  have T11 := Lib.hid (show Objs w w12 (.box w1.heap.size 29 (pv pen0) :: .grid p 35 4 k17_4 :: .grid x 48 4 k17_0 :: [.box w.heap.size 65 (fv [⟨97, 0, 0, 0, 1, pen0⟩])]) from hS)
  clear hS T10
  have hp := (T11.out.box (k := 0) rfl).penAt
  go_wp2_with fail
  clear hp
  refine (show Calls Tryd.prog 32 #[.pointer (some ⟨p, 0, none⟩), .agg #[.int .i64 0, .int .i64 0, .bool false], .int .i64 (-1), .agg (pv pen0)] _ _ from (eraseChars_no (-1) pen0 HT.out T11.out (k := 1) rfl (by decide) (by decide) (by decide +kernel) (by decide +kernel))).mono ?_
  rintro e w13 ⟨rfl, hS⟩
  have T12 := Lib.hid (show Objs w w13 (.box w1.heap.size 29 (pv pen0) :: .grid p 35 4 k17_4 :: .grid x 48 4 k17_0 :: [.box w.heap.size 65 (fv [⟨97, 0, 0, 0, 1, pen0⟩])]) from hS)
  clear hS T11
  have hp := (T12.out.box (k := 0) rfl).penAt
  go_wp2_with fail
  clear hp
  refine (show Calls Tryd.prog 33 #[.pointer (some ⟨p, 0, none⟩), .agg #[.int .i64 3, .int .i64 0, .bool false], .int .i64 2, .agg (pv pen0)] _ _ from (eraseInLine_no 2 pen0 HT.out T12.out (k := 1) rfl (by decide) (by decide) (by decide +kernel) (by decide +kernel))).mono ?_
  rintro e w14 ⟨rfl, hS⟩
  have T13 := Lib.hid (show Objs w w14 (.box w1.heap.size 29 (pv pen0) :: .grid p 35 4 k17_4 :: .grid x 48 4 k17_0 :: [.box w.heap.size 65 (fv [⟨97, 0, 0, 0, 1, pen0⟩])]) from hS)
  clear hS T12
  have hp := (T13.out.box (k := 0) rfl).penAt
  go_wp2_with fail
  clear hp
  refine (show Calls Tryd.prog 32 #[.pointer (some ⟨p, 0, none⟩), .agg #[.int .i64 0, .int .i64 3, .bool false], .int .i64 99, .agg (pv pen0)] _ _ from (front_call T13.out (k := 1) rfl (fun os1 h => eraseChars_front (y := 0) (j := 3) (pend := false) 99 pen0 HT.out h (by decide) k17_rect4 (by decide +kernel) (by decide +kernel) (by decide +kernel) (by decide)))).mono ?_
  rintro e w15 ⟨rfl, hS⟩
  have T14 := Lib.hid (show Objs w w15 (.box w1.heap.size 29 (pv pen0) :: .grid p 35 4 k17_5 :: .grid x 48 4 k17_0 :: [.box w.heap.size 65 (fv [⟨97, 0, 0, 0, 1, pen0⟩])]) from hS)
  clear hS T13
  have hp := (T14.out.box (k := 0) rfl).penAt
  go_wp2_with fail
  clear hp
  refine (show Calls Tryd.prog 52 #[.pointer (some ⟨p, 0, none⟩), .int .i64 0, .string ⟨#[48, 48, 48, 48]⟩, .bool false] _ _ from (l17rowed_yes (y := 0) [false, false, false, false] false _ rfl T14.out (k := 1) rfl (by decide) (by kernel_rfl) (by decide))).mono ?_
  rintro e w16 ⟨rfl, hS⟩
  have T15 := Lib.hid (show Objs w w16 (.box w1.heap.size 29 (pv pen0) :: .grid p 35 4 k17_5 :: .grid x 48 4 k17_0 :: [.box w.heap.size 65 (fv [⟨97, 0, 0, 0, 1, pen0⟩])]) from hS)
  clear hS T14
  have hp := (T15.out.box (k := 0) rfl).penAt
  go_wp2_with fail
  clear hp
  go_ret
  exact ⟨rfl, T15.out.base⟩
end Go.Proofs.YtjligfbaljnhnaaDoor

/-
  From a walk to the row: what the row's list of variables gives, what arguments look like, and a law's last step.
-/
set_option linter.unusedSimpArgs false
set_option linter.unusedVariables false
set_option linter.constructorNameAsVariable false
set_option maxRecDepth 100000
namespace Go.Proofs.YtjligfbaljnhnaaDoor
open Go.ChangeShapes Go.WideShapes Go.ChangeAt Go.RowKit Go.Deep Go.WideElems

section
variable {H : Type} {enc : TypeId × Value → H}

theorem trodAll_below {P : Program} (hl : laidOutB P = true) {W W' : World} (hb : Below W.heap.size W W') {sp : Nat → Bool} : ∀ (ts : List TypeId) (vs : List Value) (ds : List (DataW H)) (ps : List MemPlace), (∀ t ∈ ts, P.readableRec t = true ∧ t < P.types.size) →
    DataW.TrodAll enc P W 0 (fun _ => true) true ts vs ds ps → (∀ x ∈ ps, x.block < W.heap.size) → (∀ x ∈ ps, sp x.block = true) → DataW.TrodAll enc P W' 0 sp true ts vs ds ps
  | [], [], [], ps, _, h, _, _ => h
  | t :: ts, v :: vs, d :: ds, ps, ht, h, hlt, hs => by
    obtain ⟨p, q, h1, h2, rfl⟩ := h
    exact ⟨p, q, Trod_stays hl (ht t (by simp)).1 (ht t (by simp)).2 h1 (fun x hx => hb.same (hlt x (by simp [hx]))) (fun x hx => hs x (by simp [hx])),
      trodAll_below hl hb ts vs ds q (fun u hu => ht u (by simp [hu])) h2 (fun x hx => hlt x (by simp [hx])) (fun x hx => hs x (by simp [hx])), rfl⟩
  | [], _ :: _, _, _, _, h, _, _ => by cases h
  | [], [], _ :: _, _, _, h, _, _ => by cases h
  | _ :: _, [], _, _, _, h, _, _ => by cases h
  | _ :: _, _ :: _, [], _, _, h, _, _ => by cases h

/-- The last step of a law: it has returned true and made memory alone. -/
theorem law_post {P : Program} {f : Func} {s : ChangeSpec} {W W' : World} {args : Array Value} {ds gs : List (DataW H)} {before : List MemPlace} {tb : TypeId} (hv : s.vars = []) (hl : laidOutB P = true)
    (hW : DataW.Whole enc P f.params.toList s.vars false W args.toList ds gs before) (hpar : ∀ t ∈ f.params.toList, P.readableRec t = true ∧ t < P.types.size)
    (hfn : gs = [] → (s.fn H (ds ++ gs)).results = [.lit (.bool true)] ∧ (s.fn H (ds ++ gs)).args = ds ∧ (s.fn H (ds ++ gs)).vars = []) (hr : f.resultTypes = #[tb]) (htb : P.underlying tb = some .bool) (hb : Below W.heap.size W W') :
    s.post enc P f false true false false W args (.bool true) W' := by
  have hlt : ∀ p ∈ before, p.block < W.heap.size := fun p hp => hW.lt p hp
  have hW' := hW
  obtain ⟨p, q, hA, hV, rfl, hfz, hnd⟩ := hW
  rw [hv] at hV
  obtain ⟨rfl, rfl⟩ := trodVars_none hV
  obtain ⟨f1, f2, f3⟩ := hfn rfl
  have hargs : ∀ sp : Nat → Bool, (∀ x ∈ p, sp x.block = true) → DataW.TrodAll enc P W' 0 sp true f.params.toList args.toList (s.fn H (ds ++ [])).args p := fun sp hs => by
    rw [f2]; exact trodAll_below hl hb _ _ _ _ hpar hA (fun x hx => hlt x (by simp [hx])) hs
  have hres : ∀ (b : Nat) (sp : Nat → Bool) (hd : Bool), DataW.TrodAll enc P W' b sp hd f.resultTypes.toList ((Value.bool true).resultList f.resultTypes.size) (s.fn H (ds ++ [])).results [] := fun b sp hd => by
    rw [f1, hr]; exact trodAll_cons_mk (shut_bool htb _) trodAll_mk0
  have hvars : ∀ sp : Nat → Bool, DataW.TrodVars enc P W' sp s.vars (s.fn H (ds ++ [])).vars [] := fun sp => by rw [hv, f3]; rfl
  have hold : ∀ x ∈ p, (fun b => decide (b < W.heap.size)) x.block = true := fun x hx => by simpa using hlt x (by simp [hx])
  refine ⟨ds, [], p ++ [], [], p, [], hW', hres _ _ _, hargs _ hold, hvars _, World.keptBut_mono (fun x hx => ⟨hx, ?_⟩) (hb.frame (· ∈ p ++ [])), fun h => by cases h⟩
  exact Or.inr (by simpa using hx)

section
variable {w : World} {base : Nat} {sp : Nat → Bool} {hd : Bool} {fuel : Nat} {cs : List Value} {x : DataW H × List MemPlace}
theorem cells_color : Tryd.prog.cellsOf 26 = 5 := by kernel_rfl
theorem cells_pen : Tryd.prog.cellsOf 29 = 11 := by kernel_rfl
theorem cells_cell : Tryd.prog.cellsOf 65 = 16 := by kernel_rfl
theorem cells_arr3 : Tryd.prog.cellsOf 63 = 3 := by kernel_rfl
theorem cells_i32 : Tryd.prog.cellsOf 21 = 1 := by kernel_rfl
theorem cells_int : Tryd.prog.cellsOf 3 = 1 := by kernel_rfl
theorem cells_u8 : Tryd.prog.cellsOf 5 = 1 := by kernel_rfl
theorem cells_kind : Tryd.prog.cellsOf 24 = 1 := by kernel_rfl
theorem cells_flags : Tryd.prog.cellsOf 27 = 1 := by kernel_rfl
/-- A field that is a number. -/
theorem num_field {P : Program} {t : TypeId} {k : IntKind} {c : Value} {y : Option (DataW H × List MemPlace)} (ht : P.underlying t = some (.int k)) (hy : y.isSome = true) (h : DataW.trod enc P w base sp hd fuel t [c] = y) : ∃ n, c = .int k n := by
  obtain ⟨z, hz⟩ := Option.isSome_iff_exists.1 hy
  obtain ⟨n, hn, _⟩ := DataW.trod_int ht (h.trans hz)
  exact ⟨n, by simpa using hn⟩
theorem trod_color (h : DataW.trod enc Tryd.prog w base sp hd fuel 26 cs = some x) : ∃ k i r g b, cs = [.int .i64 k, .int .u8 i, .int .u8 r, .int .u8 g, .int .u8 b] := by
  obtain ⟨xs, n, _, _, hlen, hxl, hf⟩ := DataW.trod_struct Tryd.underlying26 h
  rw [cells_color] at hlen
  match cs, hlen, hf with
  | [c0, c1, c2, c3, c4], _, hf =>
    have h0 : DataW.trod enc Tryd.prog w base sp hd n 24 (([c0, c1, c2, c3, c4].drop 0).take (Tryd.prog.cellsOf 24)) = xs[0]? := hf 0 _ rfl
    have h1 : DataW.trod enc Tryd.prog w base sp hd n 5 (([c0, c1, c2, c3, c4].drop 1).take (Tryd.prog.cellsOf 5)) = xs[1]? := hf 1 _ rfl
    have h2 : DataW.trod enc Tryd.prog w base sp hd n 5 (([c0, c1, c2, c3, c4].drop 2).take (Tryd.prog.cellsOf 5)) = xs[2]? := hf 2 _ rfl
    have h3 : DataW.trod enc Tryd.prog w base sp hd n 5 (([c0, c1, c2, c3, c4].drop 3).take (Tryd.prog.cellsOf 5)) = xs[3]? := hf 3 _ rfl
    have h4 : DataW.trod enc Tryd.prog w base sp hd n 5 (([c0, c1, c2, c3, c4].drop 4).take (Tryd.prog.cellsOf 5)) = xs[4]? := hf 4 _ rfl
    simp only [cells_kind, cells_u8, List.drop_zero, List.drop_succ_cons, List.take_succ_cons, List.take_zero] at h0 h1 h2 h3 h4
    obtain ⟨k, rfl⟩ := num_field Tryd.underlying24 (by simp [hxl]) h0
    obtain ⟨i, rfl⟩ := num_field Tryd.underlying5 (by simp [hxl]) h1
    obtain ⟨r, rfl⟩ := num_field Tryd.underlying5 (by simp [hxl]) h2
    obtain ⟨g, rfl⟩ := num_field Tryd.underlying5 (by simp [hxl]) h3
    obtain ⟨b, rfl⟩ := num_field Tryd.underlying5 (by simp [hxl]) h4
    exact ⟨k, i, r, g, b, rfl⟩
theorem some_of {α : Type} {y : Option α} (h : y.isSome = true) : ∃ z, y = some z := Option.isSome_iff_exists.1 h
theorem trod_pen (h : DataW.trod enc Tryd.prog w base sp hd fuel 29 cs = some x) : ∃ q : Pen, cs = (pv q).toList := by
  obtain ⟨xs, n, _, _, hlen, hxl, hf⟩ := DataW.trod_struct Tryd.underlying29 h
  rw [cells_pen] at hlen
  have h0 : DataW.trod enc Tryd.prog w base sp hd n 26 ((cs.drop 0).take (Tryd.prog.cellsOf 26)) = xs[0]? := hf 0 _ rfl
  have h1 : DataW.trod enc Tryd.prog w base sp hd n 26 ((cs.drop 5).take (Tryd.prog.cellsOf 26)) = xs[1]? := hf 1 _ rfl
  have h2 : DataW.trod enc Tryd.prog w base sp hd n 27 ((cs.drop 10).take (Tryd.prog.cellsOf 27)) = xs[2]? := hf 2 _ rfl
  obtain ⟨z0, e0⟩ := some_of (show (xs[0]?).isSome = true by simp [hxl])
  obtain ⟨z1, e1⟩ := some_of (show (xs[1]?).isSome = true by simp [hxl])
  simp only [cells_color, cells_flags] at h0 h1 h2
  obtain ⟨k, i, r, g, b, hc0⟩ := trod_color (h0.trans e0)
  obtain ⟨k', i', r', g', b', hc1⟩ := trod_color (h1.trans e1)
  match cs, hlen with
  | [c0, c1, c2, c3, c4, c5, c6, c7, c8, c9, c10], _ =>
    simp only [List.drop_zero, List.drop_succ_cons, List.take_succ_cons, List.take_zero] at h2 hc0 hc1
    obtain ⟨fl, rfl⟩ := num_field Tryd.underlying27 (by simp [hxl]) h2
    simp only [List.cons.injEq, and_true] at hc0 hc1
    obtain ⟨rfl, rfl, rfl, rfl, rfl⟩ := hc0
    obtain ⟨rfl, rfl, rfl, rfl, rfl⟩ := hc1
    exact ⟨⟨k, i, r, g, b, k', i', r', g', b', fl⟩, rfl⟩
theorem trod_arr3 (h : DataW.trod enc Tryd.prog w base sp hd fuel 63 cs = some x) : ∃ a b c, cs = [.int .i32 a, .int .i32 b, .int .i32 c] := by
  obtain ⟨xs, n, _, _, hlen, hxl, hf⟩ := DataW.trod_array Tryd.underlying63 h
  rw [cells_arr3] at hlen
  match cs, hlen with
  | [c0, c1, c2], _ =>
    have h0 := hf 0 (by omega)
    have h1 := hf 1 (by omega)
    have h2 := hf 2 (by omega)
    simp only [cells_i32, Nat.zero_mul, Nat.one_mul, Nat.mul_one, List.drop_zero, List.drop_succ_cons, List.take_succ_cons, List.take_zero] at h0 h1 h2
    obtain ⟨a, rfl⟩ := num_field Tryd.underlying21 (by simp [hxl]) h0
    obtain ⟨b, rfl⟩ := num_field Tryd.underlying21 (by simp [hxl]) h1
    obtain ⟨c, rfl⟩ := num_field Tryd.underlying21 (by simp [hxl]) h2
    exact ⟨a, b, c, rfl⟩
theorem trod_cell (h : DataW.trod enc Tryd.prog w base sp hd fuel 65 cs = some x) : ∃ q : Cell, cs = (cv q).toList := by
  obtain ⟨xs, n, _, _, hlen, hxl, hf⟩ := DataW.trod_struct Tryd.underlying65 h
  rw [cells_cell] at hlen
  have h0 : DataW.trod enc Tryd.prog w base sp hd n 21 ((cs.drop 0).take (Tryd.prog.cellsOf 21)) = xs[0]? := hf 0 _ rfl
  have h1 : DataW.trod enc Tryd.prog w base sp hd n 63 ((cs.drop 1).take (Tryd.prog.cellsOf 63)) = xs[1]? := hf 1 _ rfl
  have h2 : DataW.trod enc Tryd.prog w base sp hd n 3 ((cs.drop 4).take (Tryd.prog.cellsOf 3)) = xs[2]? := hf 2 _ rfl
  have h3 : DataW.trod enc Tryd.prog w base sp hd n 29 ((cs.drop 5).take (Tryd.prog.cellsOf 29)) = xs[3]? := hf 3 _ rfl
  obtain ⟨z1, e1⟩ := some_of (show (xs[1]?).isSome = true by simp [hxl])
  obtain ⟨z3, e3⟩ := some_of (show (xs[3]?).isSome = true by simp [hxl])
  simp only [cells_i32, cells_arr3, cells_int, cells_pen] at h0 h1 h2 h3
  obtain ⟨m0, m1, m2, hm⟩ := trod_arr3 (h1.trans e1)
  obtain ⟨q, hq⟩ := trod_pen (h3.trans e3)
  match cs, hlen with
  | [c0, c1, c2, c3, c4, c5, c6, c7, c8, c9, c10, c11, c12, c13, c14, c15], _ =>
    simp only [List.drop_zero, List.drop_succ_cons, List.take_succ_cons, List.take_zero] at h0 h2 hm hq
    obtain ⟨r, rfl⟩ := num_field Tryd.underlying21 (by simp [hxl]) h0
    obtain ⟨wd, rfl⟩ := num_field Tryd.underlying3 (by simp [hxl]) h2
    simp only [List.cons.injEq, and_true] at hm
    obtain ⟨rfl, rfl, rfl⟩ := hm
    simp only [pv, List.cons.injEq, and_true] at hq
    obtain ⟨rfl, rfl, rfl, rfl, rfl, rfl, rfl, rfl, rfl, rfl, rfl⟩ := hq
    exact ⟨⟨r, m0, m1, m2, wd, q⟩, rfl⟩
end
theorem open_pen {v : Value} {w : World} {r : Reach} {b0 base : Nat} {sp : Nat → Bool} {hd : Bool} {d : DataW H} {p : List MemPlace} (hv : Value.okWide Tryd.prog w r b0 29 v) (h : DataW.Trod enc Tryd.prog w base sp hd 29 v d p) : ∃ q : Pen, v = .agg (pv q) := by
  obtain ⟨cs, rfl, _⟩ := okWide_struct Tryd.underlying29 hv
  obtain ⟨fuel, hf⟩ := h
  obtain ⟨q, hq⟩ := trod_pen hf
  exact ⟨q, by rw [show cs = pv q from by simpa [Value.cells] using hq]⟩
theorem open_cell {v : Value} {w : World} {r : Reach} {b0 base : Nat} {sp : Nat → Bool} {hd : Bool} {d : DataW H} {p : List MemPlace} (hv : Value.okWide Tryd.prog w r b0 65 v) (h : DataW.Trod enc Tryd.prog w base sp hd 65 v d p) : ∃ q : Cell, v = .agg (cv q) := by
  obtain ⟨cs, rfl, _⟩ := okWide_struct Tryd.underlying65 hv
  obtain ⟨fuel, hf⟩ := h
  obtain ⟨q, hq⟩ := trod_cell hf
  exact ⟨q, by rw [show cs = cv q from by simpa [Value.cells] using hq]⟩
/-- A slice of cells that came in, at a world. -/
theorem trod_cells {w : World} {fuel : Nat} {cs : List Value} {x : DataW H × List MemPlace} {hd : Bool} (h : DataW.trod enc Tryd.prog w 0 (fun _ => true) hd fuel 52 cs = some x) : ∃ A c l, cs = [.slice A l.length c] ∧ RdC w A c l ∧ c ≤ maxLen := by
  rcases open_slice Tryd.underlying52 h with ⟨rfl, _⟩ | ⟨a, len, cap, m, n, D, Pl, rfl, _, hl, hm, hmm, _, hi⟩
  · exact ⟨none, 0, [], rfl, RdC.nil _, by simp [maxLen]⟩
  · simp only [if_true] at hmm
    subst hmm
    rw [cells_cell] at hi
    have hall : ∀ i, i < len → ∃ c : Cell, ∀ j, j < 16 → w.cell? ((a.add (i * 16)).add j) = (cv c)[j]? := by
      intro i hlt
      obtain ⟨cs', hc, ht⟩ := hi i (by omega)
      obtain ⟨_, hcl, hat⟩ := World.cells?_some hc
      obtain ⟨c, rfl⟩ := trod_cell ht
      exact ⟨c, fun j hj => by rw [hat j hj]; simp⟩
    have hl2 : ∃ l : List Cell, l.length = len ∧ ∀ i (h : i < l.length), ∀ j, j < 16 → w.cell? ((a.add (i * 16)).add j) = (cv l[i])[j]? := by
      refine ⟨(List.range len).map fun i => if h : i < len then (hall i h).choose else cell0, by simp, fun i h j hj => ?_⟩
      have hlt : i < len := by simpa using h
      simp only [List.getElem_map, List.getElem_range, hlt, dif_pos]
      exact (hall i hlt).choose_spec j hj
    obtain ⟨l, rfl, hcell⟩ := hl2
    refine ⟨some a, m, l, rfl, ⟨hl, (fun h => by cases h), fun hn => ?_⟩, hm⟩
    have h00 := hcell 0 hn 0 (by omega)
    simp only [Nat.zero_mul, Addr.add_zero', cv_get0] at h00
    obtain ⟨b, off, spot⟩ := a
    have hspot : spot = none := by
      cases spot with
      | none => rfl
      | some q => simp [World.cell?] at h00; split at h00 <;> simp at h00
    subst hspot
    refine ⟨b, off, rfl, block_lt_of_cell h00, fun j v hv => ?_⟩
    have hj : j < (flat l).length := (List.getElem?_eq_some_iff.1 hv).1
    rw [flat_length] at hj
    have hk : j / 16 < l.length := by omega
    have := hcell (j / 16) hk (j % 16) (by omega)
    rw [add_at, add_at] at this
    rw [show off + j = off + j / 16 * 16 + j % 16 by omega, this, ← hv, ← flat_at l (j / 16) (j % 16) l[j / 16] (by simp [hk]) (by omega)]
    congr 1; omega
theorem open_cells {v : Value} {w : World} {r : Reach} {b0 : Nat} {hd : Bool} {d : DataW H} {p : List MemPlace} (hv : Value.okWide Tryd.prog w r b0 52 v) (h : DataW.Trod enc Tryd.prog w 0 (fun _ => true) hd 52 v d p) : ∃ A c l, v = .slice A l.length c ∧ RdC w A c l ∧ c ≤ maxLen := by
  obtain ⟨a0, n, c, rfl⟩ := okWide_slice Tryd.underlying52 hv
  obtain ⟨fuel, hf⟩ := h
  obtain ⟨A, c', l, he, hr⟩ := trod_cells hf
  exact ⟨A, c', l, by simpa [Value.cells] using he, hr⟩
end
end Go.Proofs.YtjligfbaljnhnaaDoor

/-
  What a line among the arguments looks like.
-/
set_option linter.unusedSimpArgs false
set_option linter.unusedVariables false
set_option linter.constructorNameAsVariable false
set_option maxRecDepth 100000
namespace Go.Proofs.YtjligfbaljnhnaaDoor
open Go.ChangeShapes Go.WideShapes Go.ChangeAt Go.RowKit Go.Deep Go.WideElems

section
variable {H : Type} {enc : TypeId × Value → H}
theorem cells_line : Tryd.prog.cellsOf 71 = 2 := by kernel_rfl
theorem cells_slice : Tryd.prog.cellsOf 52 = 1 := by kernel_rfl
theorem cells_bool : Tryd.prog.cellsOf 4 = 1 := by kernel_rfl
theorem trod_line {w : World} {fuel : Nat} {cs : List Value} {x : DataW H × List MemPlace} {hd : Bool} (h : DataW.trod enc Tryd.prog w 0 (fun _ => true) hd fuel 71 cs = some x) : ∃ A c l s, cs = [.slice A l.length c, .bool s] ∧ RdC w A c l ∧ c ≤ maxLen := by
  obtain ⟨xs, n, _, _, hlen, hxl, hf⟩ := DataW.trod_struct Tryd.underlying71 h
  rw [cells_line] at hlen
  match cs, hlen, hf with
  | [c0, c1], _, hf =>
    have h0 : DataW.trod enc Tryd.prog w 0 (fun _ => true) hd n 52 (([c0, c1].drop 0).take (Tryd.prog.cellsOf 52)) = xs[0]? := hf 0 _ rfl
    have h1 : DataW.trod enc Tryd.prog w 0 (fun _ => true) hd n 4 (([c0, c1].drop 1).take (Tryd.prog.cellsOf 4)) = xs[1]? := hf 1 _ rfl
    obtain ⟨z0, e0⟩ := some_of (show (xs[0]?).isSome = true by simp [hxl])
    obtain ⟨z1, e1⟩ := some_of (show (xs[1]?).isSome = true by simp [hxl])
    simp only [cells_slice, cells_bool, List.drop_zero, List.drop_succ_cons, List.take_succ_cons, List.take_zero] at h0 h1
    obtain ⟨A, c, l, he, hr, hm⟩ := trod_cells (h0.trans e0)
    obtain ⟨b, hb, _⟩ := DataW.trod_bool Tryd.underlying4 (h1.trans e1)
    simp only [List.cons.injEq, and_true] at he hb
    subst he
    subst hb
    exact ⟨A, c, l, b, rfl, hr, hm⟩
theorem open_line {v : Value} {w : World} {r : Reach} {b0 : Nat} {hd : Bool} {d : DataW H} {p : List MemPlace} (hv : Value.okWide Tryd.prog w r b0 71 v) (h : DataW.Trod enc Tryd.prog w 0 (fun _ => true) hd 71 v d p) : ∃ A c l s, v = .agg #[.slice A l.length c, .bool s] ∧ RdC w A c l ∧ c ≤ maxLen := by
  obtain ⟨cs, rfl, _⟩ := okWide_struct Tryd.underlying71 hv
  obtain ⟨fuel, hf⟩ := h
  obtain ⟨A, c, l, s, he, hr⟩ := trod_line hf
  exact ⟨A, c, l, s, by rw [show cs = #[.slice A l.length c, .bool s] from by simpa [Value.cells] using congrArg List.toArray he], hr⟩
end
end Go.Proofs.YtjligfbaljnhnaaDoor

/-
  What cursors, and slices of records, look like among the arguments.
-/
set_option linter.unusedSimpArgs false
set_option linter.unusedVariables false
set_option linter.constructorNameAsVariable false
set_option maxRecDepth 100000
namespace Go.Proofs.YtjligfbaljnhnaaDoor
open Go.ChangeShapes Go.WideShapes Go.ChangeAt Go.RowKit Go.Deep Go.WideElems

section
variable {H : Type} {enc : TypeId × Value → H}
theorem cells_cursor : Tryd.prog.cellsOf 23 = 3 := by kernel_rfl
theorem trod_cursor {w : World} {base : Nat} {sp : Nat → Bool} {fuel : Nat} {cs : List Value} {x : DataW H × List MemPlace} {hd : Bool} (h : DataW.trod enc Tryd.prog w base sp hd fuel 23 cs = some x) : ∃ r c b, cs = [.int .i64 r, .int .i64 c, .bool b] := by
  obtain ⟨xs, n, _, _, hlen, hxl, hf⟩ := DataW.trod_struct Tryd.underlying23 h
  rw [cells_cursor] at hlen
  match cs, hlen, hf with
  | [c0, c1, c2], _, hf =>
    have h0 : DataW.trod enc Tryd.prog w base sp hd n 3 (([c0, c1, c2].drop 0).take (Tryd.prog.cellsOf 3)) = xs[0]? := hf 0 _ rfl
    have h1 : DataW.trod enc Tryd.prog w base sp hd n 3 (([c0, c1, c2].drop 1).take (Tryd.prog.cellsOf 3)) = xs[1]? := hf 1 _ rfl
    have h2 : DataW.trod enc Tryd.prog w base sp hd n 4 (([c0, c1, c2].drop 2).take (Tryd.prog.cellsOf 4)) = xs[2]? := hf 2 _ rfl
    obtain ⟨z2, e2⟩ := some_of (show (xs[2]?).isSome = true by simp [hxl])
    simp only [cells_int, cells_bool, List.drop_zero, List.drop_succ_cons, List.take_succ_cons, List.take_zero] at h0 h1 h2
    obtain ⟨r, rfl⟩ := num_field Tryd.underlying3 (by simp [hxl]) h0
    obtain ⟨c, rfl⟩ := num_field Tryd.underlying3 (by simp [hxl]) h1
    obtain ⟨b, hb, _⟩ := DataW.trod_bool Tryd.underlying4 (h2.trans e2)
    simp only [List.cons.injEq, and_true] at hb
    subst hb
    exact ⟨r, c, b, rfl⟩
theorem open_cursor {v : Value} {w : World} {r : Reach} {b0 base : Nat} {sp : Nat → Bool} {hd : Bool} {d : DataW H} {p : List MemPlace} (hv : Value.okWide Tryd.prog w r b0 23 v) (h : DataW.Trod enc Tryd.prog w base sp hd 23 v d p) : ∃ r c b, v = .agg #[.int .i64 r, .int .i64 c, .bool b] := by
  obtain ⟨cs, rfl, _⟩ := okWide_struct Tryd.underlying23 hv
  obtain ⟨fuel, hf⟩ := h
  obtain ⟨r, c, b, he⟩ := trod_cursor hf
  exact ⟨r, c, b, by rw [show cs = #[.int .i64 r, .int .i64 c, .bool b] from by simpa [Value.cells] using congrArg List.toArray he]⟩
/-- A slice of records, at a world. -/
theorem trod_recs {V : Type} [Inhabited V] {Pr : V → Prop} {w : World} {fuel : Nat} {cs : List Value} {x : DataW H × List MemPlace} {hd : Bool} {tS tE : TypeId} {k : Nat} (av : V → Array Value) (hu : Tryd.prog.underlying tS = some (.slice tE)) (hk : Tryd.prog.cellsOf tE = k) (hk0 : 0 < k) (hav : ∀ a, (av a).size = k)
    (helem : ∀ (fuel : Nat) (cs' : List Value) (x' : DataW H × List MemPlace), DataW.trod enc Tryd.prog w 0 (fun _ => true) hd fuel tE cs' = some x' → ∃ a, cs' = (av a).toList ∧ Pr a)
    (h : DataW.trod enc Tryd.prog w 0 (fun _ => true) hd fuel tS cs = some x) : ∃ (A : Option Addr) (c : Nat) (l : List V), cs = [.slice A l.length c] ∧ RdRec w A c k (l.map av) ∧ c ≤ maxLen ∧ ∀ a ∈ l, Pr a := by
  rcases open_slice hu h with ⟨rfl, _⟩ | ⟨a, len, cap, m, n, D, Pl, rfl, _, hl, hm, hmm, _, hi⟩
  · exact ⟨none, 0, [], rfl, ⟨by simp, fun _ => rfl, fun h => by simp at h⟩, by simp [maxLen], fun a ha => by simp at ha⟩
  · simp only [if_true] at hmm
    subst hmm
    rw [hk] at hi
    have hall : ∀ i, i < len → ∃ c : V, Pr c ∧ ∀ j, j < k → w.cell? ((a.add (i * k)).add j) = (av c)[j]? := by
      intro i hlt
      obtain ⟨cs', hc, ht⟩ := hi i (by omega)
      obtain ⟨_, hcl, hat⟩ := World.cells?_some hc
      obtain ⟨c, rfl, hp⟩ := helem _ _ _ ht
      exact ⟨c, hp, fun j hj => by rw [hat j hj]; simp⟩
    have hl2 : ∃ l : List V, l.length = len ∧ (∀ i (h : i < l.length), ∀ j, j < k → w.cell? ((a.add (i * k)).add j) = (av l[i])[j]?) ∧ ∀ c ∈ l, Pr c := by
      refine ⟨(List.range len).map fun i => if h : i < len then (hall i h).choose else default, by simp, fun i h j hj => ?_, fun c hc => ?_⟩
      · have hlt : i < len := by simpa using h
        simp only [List.getElem_map, List.getElem_range, hlt, dif_pos]
        exact (hall i hlt).choose_spec.2 j hj
      · obtain ⟨i, hi2, rfl⟩ := List.mem_map.1 hc
        have hlt : i < len := by simpa using hi2
        rw [dif_pos hlt]
        exact (hall i hlt).choose_spec.1
    obtain ⟨l, rfl, hcell, hpr⟩ := hl2
    refine ⟨some a, m, l, rfl, ⟨by simpa using hl, (fun h => by cases h), fun hn => ?_⟩, hm, hpr⟩
    have hn' : 0 < l.length := by simpa using hn
    have h00 := hcell 0 hn' 0 hk0
    have hsz : 0 < (av l[0]).size := by rw [hav]; exact hk0
    rw [Nat.zero_mul, Addr.add_zero', Addr.add_zero', Array.getElem?_eq_getElem hsz] at h00
    obtain ⟨b, off, spot⟩ := a
    have hspot : spot = none := by
      cases spot with
      | none => rfl
      | some q => simp [World.cell?] at h00; split at h00 <;> simp at h00
    subst hspot
    refine ⟨b, off, rfl, block_lt_of_cell h00, fun i r hr => ?_⟩
    rw [List.getElem?_map] at hr
    cases hli : l[i]? with
    | none => rw [hli] at hr; cases hr
    | some y =>
      rw [hli] at hr
      simp only [Option.map_some, Option.some.injEq] at hr
      subst hr
      obtain ⟨hil, hy⟩ := List.getElem?_eq_some_iff.1 hli
      refine recAt_of (hav y) (fun j v hv => ?_)
      have hj : j < k := by have := (List.getElem?_eq_some_iff.1 hv).1; simp [hav] at this; exact this
      have := hcell i hil j hj
      rw [add_at, add_at] at this
      rw [this, hy]
      simpa using hv
theorem open_recs {V : Type} [Inhabited V] {Pr : V → Prop} {v : Value} {w : World} {r : Reach} {b0 : Nat} {hd : Bool} {d : DataW H} {p : List MemPlace} {tS tE : TypeId} {k : Nat} (av : V → Array Value) (hu : Tryd.prog.underlying tS = some (.slice tE)) (hk : Tryd.prog.cellsOf tE = k) (hk0 : 0 < k) (hav : ∀ a, (av a).size = k)
    (helem : ∀ (fuel : Nat) (cs' : List Value) (x' : DataW H × List MemPlace), DataW.trod enc Tryd.prog w 0 (fun _ => true) hd fuel tE cs' = some x' → ∃ a, cs' = (av a).toList ∧ Pr a)
    (hv : Value.okWide Tryd.prog w r b0 tS v) (h : DataW.Trod enc Tryd.prog w 0 (fun _ => true) hd tS v d p) : ∃ (A : Option Addr) (c : Nat) (l : List V), v = .slice A l.length c ∧ RdRec w A c k (l.map av) ∧ c ≤ maxLen ∧ ∀ a ∈ l, Pr a := by
  obtain ⟨a0, n, c, rfl⟩ := okWide_slice hu hv
  obtain ⟨fuel, hf⟩ := h
  obtain ⟨A, c', l, he, hr⟩ := trod_recs av hu hk hk0 hav helem hf
  exact ⟨A, c', l, by simpa [Value.cells] using he, hr⟩
end
end Go.Proofs.YtjligfbaljnhnaaDoor

/-
  What the calls of chapter 17 look like among the arguments.
-/
set_option linter.unusedSimpArgs false
set_option linter.unusedVariables false
set_option linter.constructorNameAsVariable false
set_option maxRecDepth 100000
namespace Go.Proofs.YtjligfbaljnhnaaDoor
open Go.ChangeShapes Go.WideShapes Go.ChangeAt Go.RowKit Go.Deep Go.WideElems

instance : Inhabited Act17 := ⟨⟨0, 0, 0, 0, false, pen0⟩⟩
section
variable {H : Type} {enc : TypeId × Value → H}
theorem cells_act17 : Tryd.prog.cellsOf 31 = 16 := by kernel_rfl
theorem trod_act17 {w : World} {base : Nat} {sp : Nat → Bool} {fuel : Nat} {cs : List Value} {x : DataW H × List MemPlace} {hd : Bool} (h : DataW.trod enc Tryd.prog w base sp hd fuel 31 cs = some x) : ∃ a : Act17, cs = (av17 a).toList := by
  obtain ⟨xs, n, _, _, hlen, hxl, hf⟩ := DataW.trod_struct Tryd.underlying31 h
  rw [cells_act17] at hlen
  have h0 : DataW.trod enc Tryd.prog w base sp hd n 3 ((cs.drop 0).take (Tryd.prog.cellsOf 3)) = xs[0]? := hf 0 _ rfl
  have h1 : DataW.trod enc Tryd.prog w base sp hd n 3 ((cs.drop 1).take (Tryd.prog.cellsOf 3)) = xs[1]? := hf 1 _ rfl
  have h2 : DataW.trod enc Tryd.prog w base sp hd n 23 ((cs.drop 2).take (Tryd.prog.cellsOf 23)) = xs[2]? := hf 2 _ rfl
  have h3 : DataW.trod enc Tryd.prog w base sp hd n 29 ((cs.drop 5).take (Tryd.prog.cellsOf 29)) = xs[3]? := hf 3 _ rfl
  obtain ⟨z2, e2⟩ := some_of (show (xs[2]?).isSome = true by simp [hxl])
  obtain ⟨z3, e3⟩ := some_of (show (xs[3]?).isSome = true by simp [hxl])
  simp only [cells_int, cells_cursor, cells_pen] at h0 h1 h2 h3
  obtain ⟨r, c, b, hm⟩ := trod_cursor (h2.trans e2)
  obtain ⟨q, hq⟩ := trod_pen (h3.trans e3)
  match cs, hlen with
  | [c0, c1, c2, c3, c4, c5, c6, c7, c8, c9, c10, c11, c12, c13, c14, c15], _ =>
    simp only [List.drop_zero, List.drop_succ_cons, List.take_succ_cons, List.take_zero] at h0 h1 hm hq
    obtain ⟨wh, rfl⟩ := num_field Tryd.underlying3 (by simp [hxl]) h0
    obtain ⟨nn, rfl⟩ := num_field Tryd.underlying3 (by simp [hxl]) h1
    simp only [List.cons.injEq, and_true] at hm
    obtain ⟨rfl, rfl, rfl⟩ := hm
    simp only [pv, List.cons.injEq, and_true] at hq
    obtain ⟨rfl, rfl, rfl, rfl, rfl, rfl, rfl, rfl, rfl, rfl, rfl⟩ := hq
    exact ⟨⟨wh, nn, r, c, b, q⟩, rfl⟩
theorem open_act17 {v : Value} {w : World} {r : Reach} {b0 base : Nat} {sp : Nat → Bool} {hd : Bool} {d : DataW H} {p : List MemPlace} (hv : Value.okWide Tryd.prog w r b0 31 v) (h : DataW.Trod enc Tryd.prog w base sp hd 31 v d p) : ∃ a : Act17, v = .agg (av17 a) := by
  obtain ⟨cs, rfl, _⟩ := okWide_struct Tryd.underlying31 hv
  obtain ⟨fuel, hf⟩ := h
  obtain ⟨a, ha⟩ := trod_act17 hf
  exact ⟨a, by rw [show cs = av17 a from by simpa [Value.cells] using ha]⟩
theorem open_acts17 {v : Value} {w : World} {r : Reach} {b0 : Nat} {hd : Bool} {d : DataW H} {p : List MemPlace} (hv : Value.okWide Tryd.prog w r b0 59 v) (h : DataW.Trod enc Tryd.prog w 0 (fun _ => true) hd 59 v d p) : ∃ (A : Option Addr) (c : Nat) (l : List Act17), v = .slice A l.length c ∧ RdRec w A c 16 (l.map av17) ∧ c ≤ maxLen := by
  obtain ⟨A, c, l, h1, h2, h3, -⟩ := open_recs (Pr := fun _ => True) av17 Tryd.underlying59 cells_act17 (by decide) av17_size (fun fuel cs' x' h => by obtain ⟨a, ha⟩ := trod_act17 h; exact ⟨a, ha, trivial⟩) hv h
  exact ⟨A, c, l, h1, h2, h3⟩
end
end Go.Proofs.YtjligfbaljnhnaaDoor

/-
  What the rows' list gives: the program's two tables lie in their blocks. And the pieces that every card of this seat asks.
-/
set_option linter.unusedSimpArgs false
set_option linter.unusedVariables false
set_option linter.constructorNameAsVariable false
set_option maxRecDepth 100000
namespace Go.Proofs.YtjligfbaljnhnaaDoor
open Go.ChangeShapes Go.WideShapes Go.ChangeAt Go.RowKit Go.Deep Go.WideElems

theorem own_knob : ownKnob Tryd.prog.godebug = none := by kernel_rfl
theorem laid_out : laidOutB Tryd.prog = true := by kernel_rfl
def pairData {H : Type} (x : Int × Int) : DataW H := .agg [.lit (.int .i32 x.1), .lit (.int .i32 x.2)]
theorem cells_pair : Tryd.prog.cellsOf 133 = 2 := by kernel_rfl
section
variable {H : Type} {enc : TypeId × Value → H} {w : World} {base : Nat} {sp : Nat → Bool} {hd : Bool} {fuel : Nat} {cs : List Value}
theorem num_lit {t : TypeId} {c : Value} {n : Int} {p : List MemPlace} (ht : Tryd.prog.underlying t = some (.int .i32)) (h : DataW.trod enc Tryd.prog w base sp hd fuel t [c] = some (.lit (.int .i32 n), p)) : c = .int .i32 n := by
  obtain ⟨m, hm, hx, _⟩ := DataW.trod_int ht h
  simp only [Prod.mk.injEq, DataW.lit.injEq, Lit.int.injEq, true_and] at hx
  simp only [List.cons.injEq, and_true] at hm
  rw [hm, hx.1]
theorem trod_pair {x : Int × Int} {p : List MemPlace} (h : DataW.trod enc Tryd.prog w base sp hd fuel 133 cs = some (pairData x, p)) : cs = [.int .i32 x.1, .int .i32 x.2] := by
  obtain ⟨xs, n, _, hx, hlen, hxl, hf⟩ := DataW.trod_array Tryd.underlying133 h
  rw [cells_pair] at hlen
  match cs, hlen, xs, hxl, hf, hx with
  | [c0, c1], _, [y0, y1], _, hf, hx =>
    have h0 := hf 0 (by omega)
    have h1 := hf 1 (by omega)
    simp only [cells_i32, Nat.zero_mul, Nat.one_mul, List.drop_zero, List.drop_succ_cons, List.take_succ_cons, List.take_zero, List.getElem?_cons_zero, List.getElem?_cons_succ] at h0 h1
    simp only [pairData, List.map_cons, List.map_nil, Prod.mk.injEq, DataW.agg.injEq, List.cons.injEq, and_true] at hx
    obtain ⟨y0a, y0b⟩ := y0
    obtain ⟨y1a, y1b⟩ := y1
    obtain ⟨⟨e0, e1⟩, _⟩ := hx
    simp only at e0 e1
    subst e0 e1
    rw [num_lit Tryd.underlying21 h0, num_lit Tryd.underlying21 h1]
theorem trod_table {t : TypeId} {tab : List (Int × Int)} {p : List MemPlace} (ht : Tryd.prog.underlying t = some (.array tab.length 133)) (h : DataW.trod enc Tryd.prog w base sp hd fuel t cs = some (.agg (tab.map pairData), p)) :
    ∀ k, k < tab.length → cs[k * 2]? = some (.int .i32 (loOf tab k)) ∧ cs[k * 2 + 1]? = some (.int .i32 (hiOf tab k)) := by
  obtain ⟨xs, n, _, hx, hlen, hxl, hf⟩ := DataW.trod_array ht h
  intro k hk
  have hkf := hf k hk
  rw [cells_pair] at hkf
  have hk2 : k < xs.length := by omega
  rw [List.getElem?_eq_getElem hk2] at hkf
  simp only [Prod.mk.injEq, DataW.agg.injEq] at hx
  have he : xs[k].1 = pairData tab[k] := by
    have := congrArg (fun l => l[k]?) hx.1
    simp only [List.getElem?_map, List.getElem?_eq_getElem hk, List.getElem?_eq_getElem hk2, Option.map_some, Option.some.injEq] at this
    exact this.symm
  have hp := trod_pair (x := tab[k]) (p := xs[k].2) (by rw [hkf, ← he])
  have g0 := congrArg (fun l => l[0]?) hp
  have g1 := congrArg (fun l => l[1]?) hp
  simp only [List.getElem?_take, List.getElem?_drop, List.getElem?_cons_zero, List.getElem?_cons_succ, Nat.add_zero] at g0 g1
  simp only [loOf, hiOf, List.getD_eq_getElem?_getD, List.getElem?_eq_getElem hk, Option.getD_some]
  exact ⟨by simpa using g0, by simpa using g1⟩
end
theorem pairs_of {W : World} {name : String} {g : Nat} {t : TypeId} {tab : List (Int × Int)} {cs : Array Value} {fuel : Nat} {p : List MemPlace} {base : Nat} {sp : Nat → Bool} {hd : Bool} {H : Type} {enc : TypeId × Value → H} (hg : Tryd.prog.globalNamed name = some g) (ht : Tryd.prog.underlying t = some (.array tab.length 133))
    (hv : W.var? Tryd.prog name = some cs) (h : DataW.trod enc Tryd.prog W base sp hd fuel t cs.toList = some (.agg (tab.map pairData), p)) (hn : 0 < tab.length) : Pairs W g tab.length (loOf tab) (hiOf tab) := by
  have hc := World.var?_cell hg hv
  have htb := trod_table ht h
  refine ⟨?_, fun k hk => ?_⟩
  · have := (htb 0 hn).1
    have h0 := hc 0
    simp only [Nat.zero_mul, Array.getElem?_toList] at this
    rw [this] at h0
    exact block_lt_of_cell h0
  · obtain ⟨h1, h2⟩ := htb k hk
    rw [hc, hc]
    exact ⟨by simpa using h1, by simpa using h2⟩
theorem tabs_of {W : World} (h : laidMetH Tryd.prog Rows.eraseNilRow.laid W) : Tabs W := by
  have h' : laidMet Tryd.prog Rows.eraseNilRow.laid W := h
  obtain ⟨ps, ⟨g, t, cs, fuel, p, q, hg, ht, hv, hd, ⟨g2, t2, cs2, fuel2, p2, q2, hg2, ht2, hv2, hd2, _⟩, _⟩, _⟩ := h'
  have e1 : Tryd.prog.globalNamed "scrollback/width.marks" = some 0 := by kernel_rfl
  have e2 : Tryd.prog.globalNamed "scrollback/width.wide" = some 1 := by kernel_rfl
  obtain rfl := Option.some.inj (e1.symm.trans hg)
  obtain rfl := Option.some.inj (e2.symm.trans hg2)
  have f1 : (Tryd.prog.globals[0]?).map (·.type) = some 134 := by kernel_rfl
  have f2 : (Tryd.prog.globals[1]?).map (·.type) = some 135 := by kernel_rfl
  obtain rfl := Option.some.inj (f1.symm.trans ht)
  obtain rfl := Option.some.inj (f2.symm.trans ht2)
  exact ⟨pairs_of (tab := marksTab) e1 Tryd.underlying134 hv hd (by decide), pairs_of (tab := wideTab) e2 Tryd.underlying135 hv2 hd2 (by decide)⟩
/-- A world for the witnesses: the tables hold what their initialisers lay. -/
def setTab (n : Nat) (tab : List (Int × Int)) (h : Array Obj) : Array Obj := h.modify n fun
  | .cells _ t frozen => .cells (tab.flatMap fun x => [Value.int .i32 x.1, Value.int .i32 x.2]).toArray t frozen
  | o => o
noncomputable def laidWorld (os : Os) : World :=
  { World.holding Tryd.prog os ⟨#[], #[], []⟩ with heap := setTab 1 wideTab (setTab 0 marksTab (World.holding Tryd.prog os ⟨#[], #[], []⟩).heap) }
end Go.Proofs.YtjligfbaljnhnaaDoor

/-
  EraseLines, EraseScreens, ErasePlays: the laws return true.
-/
set_option linter.unusedSimpArgs false
set_option linter.unusedVariables false
namespace Go.Proofs.YtjligfbaljnhnaaDoor
open Go.RowKit

theorem front2_call {P : Program} {f : FuncId} {args : Array Value} {a b a' b' : Ob} {r : Value} {w0 w : World} {os : List Ob} (hS : Objs w0 w os) (h0 : os[0]? = some a) (h1 : os[1]? = some b)
    (hc : ∀ r', Objs w0 w (a :: b :: r') → Calls P f args w fun e w' => e = .returned r ∧ Objs w0 w' (a' :: b' :: r')) : Calls P f args w fun e w' => e = .returned r ∧ Objs w0 w' ((os.set 0 a').set 1 b') := by
  match os, h0, h1, hS with
  | x :: y :: r', h0, h1, hS =>
    simp at h0 h1
    subst h0 h1
    exact hc r' hS
theorem Objs.addNone2 {w0 w : World} {a b : Ob} {os : List Ob} (h : Objs w0 w (a :: b :: os)) : Objs w0 w (a :: b :: .none :: .none :: os) :=
  (h.pad.pad.move (i := 2) (j := 0) rfl rfl (by decide)).move (i := 3) (j := 1) rfl rfl (by decide)
theorem act17N_rect {a : Act17} {cols : Nat} {L : List Ln} (hR : Rect cols L) : Rect cols (act17N a cols L) ∧ (act17N a cols L).length = L.length := by
  unfold act17N
  split
  · rename_i h; exact act17_rect hR h
  · exact ⟨hR, rfl⟩
theorem small_true {rows cols : Int} {n : Nat} (h : smallB rows cols n = true) : ∃ rr s : Nat, rows = rr ∧ cols = s ∧ (1 ≤ rr ∧ rr ≤ 6) ∧ (1 ≤ s ∧ s ≤ 12) ∧ n ≤ 20 := by
  have := of_decide_eq_true h
  exact ⟨rows.toNat, cols.toNat, by omega, by omega, by omega, by omega, this.2.2⟩
set_option maxRecDepth 100000 in
set_option maxHeartbeats 8000000 in
theorem l17EraseLines_any (rows cols : Int) (A : Option Addr) (c : Nat) (fill : List Cell) (soft : Int) (a : Act17) (w : World) (hT : Tabs w) (ha : RdC w A c fill) (hm : c ≤ maxLen) (hs : 0 ≤ soft ∧ soft ≤ 65535) :
    Calls Tryd.prog 5 #[.int .i64 rows, .int .i64 cols, .slice A fill.length c, .int .u16 soft, .agg (av17 a)] w fun e w' => e = .returned (.bool true) ∧ Below w.heap.size w w' := by
  have HT := Lib.hid hT
  have HA := Lib.hid ha
  have hfm : fill.length ≤ maxLen := Nat.le_trans ha.1 hm
  clear hT ha hm
  have S0 := Lib.hid ((objs_start w).alloc1 (c1 := av17 a) (t1 := 31))
  cases hsm : smallB rows cols fill.length with
  | false =>
    have HSM := Lib.hid hsm
    clear hsm
    go_enter Tryd.func5, Tryd.ntmps5
    go_wp2_with fail
    refine (l17small_any rows cols A fill.length c _ hfm).mono ?_
    rw [HSM.out]
    rintro e w1 ⟨rfl, rfl⟩
    go_wp2_with fail
    refine (l17known_any _ (S0.out.tabs HT.out)).mono ?_
    rintro e w1 ⟨rfl, hb⟩
    have HB := Lib.hid (S0.out.bel hb).base
    clear hb
    go_wp2_with fail
    go_ret
    exact ⟨rfl, HB.out⟩
  | true =>
    obtain ⟨rr, s, rfl, rfl, ⟨h1, h2⟩, ⟨h3, h4⟩, h5⟩ := small_true hsm
    have HSM := Lib.hid hsm
    clear hsm
    go_enter Tryd.func5, Tryd.ntmps5
    go_wp2_with fail
    refine (l17small_any rr s A fill.length c _ hfm).mono ?_
    rw [HSM.out]
    rintro e w1 ⟨rfl, rfl⟩
    generalize w.heap.size = b9 at S0 ⊢
    go_wp2_with fail
    go_loopw [11, 12, 13] (fun vw _ _ wr => ∃ (k : Nat) (a' : Act17), k ≤ 4 ∧ vw = .int .i64 k ∧ Objs w wr [.box b9 31 (av17 a')]) (fun vw _ _ _ => 4 - (intOf vw).toNat)
    case atStart => exact ⟨0, a, by omega, rfl, S0.out⟩
    case round =>
      obtain ⟨k, a', hk, rfl, hS⟩ := hrel
      have S := Lib.hid hS
      clear hS
      by_cases hlt : k < 3
      case neg =>
        go_wp2_with fail
        refine (l17known_any _ (S.out.tabs HT.out)).mono ?_
        rintro e w1 ⟨rfl, hb⟩
        have HB := Lib.hid (S.out.bel hb).base
        clear hb
        go_wp2_with fail
        go_ret
        exact ⟨rfl, HB.out⟩
      go_wp2_with fail
      refine (l17begun_base A c fill rr s soft wr (S.out.tabs HT.out) (HA.out.bel S.out.base) h1 h2 h3 h4 h5 hs).mono ?_
      rintro e w1 ⟨p, x, rfl, hS⟩
      have hc0 : 0 < s := by omega
      have hcm0 : s ≤ 1000 := by omega
      have HR0 := Lib.hid (begunP_rect rr s fill soft).1
      have hlen0 := (begunP_rect rr s fill soft).2
      obtain ⟨L0, hL0e⟩ : ∃ L0, L0 = begunP rr s fill soft := ⟨_, rfl⟩
      rw [← hL0e] at HR0 hlen0 hS
      have hL0 : 0 < L0.length := by omega
      have hLm0 : L0.length ≤ 1000000 := by omega
      have hS1 := (show Objs w w1 (_ :: _ :: [.box b9 31 (av17 a')]) from S.out.nestAll hS)
      obtain ⟨hx9, hf9, hz9, -, -⟩ := (hS1.box (k := 2) rfl).act17
      have hS2 := hS1.setBox 2 (i := 0) (u := .int .i64 k) rfl
      rw [av17_set0] at hS2
      obtain ⟨a1, ha1⟩ : ∃ a1, a1 = { a' with what := (k : Int) } := ⟨_, rfl⟩
      rw [← ha1] at hS2
      have hS2' := (show Objs w _ [.grid p 35 ↑s L0, .grid x 48 ↑s L0, .box b9 31 (av17 a1)] from hS2)
      have SZ := Lib.hid (show Objs w _ [.grid p 35 ↑s L0, .grid x 48 ↑s L0, .none, .none, .box b9 31 (av17 a1)] from hS2'.addNone2)
      obtain ⟨L1, hL1e⟩ : ∃ L1, L1 = act17N a1 s L0 := ⟨_, rfl⟩
      have hN := act17N_rect (a := a1) HR0.out
      rw [← hL1e] at hN
      have HR1 := Lib.hid hN.1
      have hLm1 : L1.length ≤ 1000000 := by rw [hN.2]; exact hLm0
      have HM1 := Lib.hid (HR1.out.mill hcm0)
      have HD := Lib.hid (show ∀ r W, Objs w W (.grid p 35 ↑s L0 :: .grid x 48 ↑s L0 :: r) → Calls Tryd.prog 26 #[.pointer (some ⟨p, 0, none⟩), .pointer (some ⟨x, 0, none⟩), .agg (av17 a1)] W fun e w' => e = .returned (.bool true) ∧ Objs w w' (.grid p 35 ↑s L1 :: .grid x 48 ↑s L1 :: r) from fun r W h => by rw [hL1e]; exact l17does_any a1 HT.out h hc0 hcm0 HR0.out hL0 hLm0)
      clear hS hS1 hS2 hS2' hN hL1e ha1 hL0e
      go_upto_region 8 with (fail)
      refine wp_region_stage (w0 := w) (os := []) (by kernel_rfl) (by kernel_rfl) (by kernel_rfl) [(0, 6, [], fun vs => .grid p 35 ↑s L1), (1, 6, [], fun vs => .grid x 48 ↑s L1), (2, 11, [11], fun vs => .lines (vs 11) L1), (1, 15, [15], fun vs => .box x 48 #[.int .i64 ↑s, vs 15]), (3, 15, [15], fun vs => .lines (vs 15) L1)] [[], [], [], [], [], [4], [0, 1], [], [], [], [], [0, 2], [], [], [], [1, 3], [2, 3], [], []] [.grid p 35 ↑s L0, .grid x 48 ↑s L0, .none, .none, .box b9 31 (av17 a1)] (fun i u => match i with | 0 => u = (.pointer (some ⟨p, 0, none⟩) : Value) | 1 => u = (.bool false : Value) | 2 => u = (.bool false : Value) | 3 => u = (.pointer (some ⟨p, 0, none⟩) : Value) | 4 => u = (.pointer (some ⟨x, 0, none⟩) : Value) | 5 => u = (.agg (av17 a1) : Value) | 6 => u = (.bool true : Value) | 7 => u = (.bool false : Value) | 8 => u = (.bool false : Value) | 9 => u = (.bool false : Value) | 10 => u = (.pointer (some ⟨p, 0, none⟩) : Value) | 11 => ∃ A c, u = .slice A (L1).length c | 12 => u = (.pointer (some ⟨x, 0, none⟩) : Value) | 13 => u = (.pointer (some ⟨x, 0, none⟩) : Value) | 14 => u = (.pointer (some ⟨x, 1, none⟩) : Value) | 15 => ∃ A c, u = .slice A (L1).length c | 16 => u = (.bool true : Value) | 17 => u = (.bool false : Value) | 18 => u = (.bool false : Value) | _ => True) (fun vs => [.grid p 35 ↑s L1, .box x 48 #[.int .i64 ↑s, vs 15], .lines (vs 11) L1, .lines (vs 15) L1, .box b9 31 (av17 a1)]) (by kernel_rfl) (fun vs => by rfl) SZ.out ?_ ?_
      · refine SSteps.cons (fun a w' vs σ hS hl hs hk => ?_) ?_
        · have e12 : a.tmps.getD 12 undef = (.pointer (some ⟨p, 0, none⟩) : Value) := (sk_old hk 12 (by kernel_rfl)).trans rfl
          have f12 := gd e12
          exact ro_pure (v := .pointer (some ⟨p, 0, none⟩)) (wanted_none rfl) (by simp [execOp, Act.eval, e12, f12, go_sem]) (sp_same (by kernel_rfl) hl hs hS (show (.pointer (some ⟨p, 0, none⟩) : Value) = _ from rfl)) trivial
        refine SSteps.cons (fun a w' vs σ hS hl hs hk => ?_) ?_
        · have e34 : a.tmps.getD 34 undef = (.pointer (some ⟨p, 0, none⟩) : Value) := (sk_val hk 0 (by kernel_rfl) rfl rfl).trans ((hk.1 0 (by kernel_rfl)).1)
          have f34 := gd e34
          exact ro_pure (v := .bool false) (wanted_none rfl) (by simp [execOp, Act.eval, e34, f34, go_sem]) (sp_same (by kernel_rfl) hl hs hS (show (.bool false : Value) = _ from rfl)) trivial
        refine SSteps.cons (fun a w' vs σ hS hl hs hk => ?_) ?_
        · have e35 : a.tmps.getD 35 undef = (.bool false : Value) := (sk_val hk 1 (by kernel_rfl) rfl rfl).trans ((hk.1 1 (by kernel_rfl)).1)
          have f35 := gd e35
          exact ro_pure (v := .bool false) (wanted_none rfl) (by simp [execOp, Act.eval, e35, f35, go_sem]) (sp_same (by kernel_rfl) hl hs hS (show (.bool false : Value) = _ from rfl)) trivial
        refine SSteps.cons (fun a w' vs σ hS hl hs hk => ?_) ?_
        · have e12 : a.tmps.getD 12 undef = (.pointer (some ⟨p, 0, none⟩) : Value) := (sk_old hk 12 (by kernel_rfl)).trans rfl
          have f12 := gd e12
          exact ro_pure (v := .pointer (some ⟨p, 0, none⟩)) (wanted_yes rfl rfl rfl (show _ = _ from (sk_val hk 2 (by kernel_rfl) rfl rfl).trans ((hk.1 2 (by kernel_rfl)).1))) (by simp [execOp, Act.eval, e12, f12, go_sem]) (sp_same (by kernel_rfl) hl hs hS (show (.pointer (some ⟨p, 0, none⟩) : Value) = _ from rfl)) trivial
        refine SSteps.cons (fun a w' vs σ hS hl hs hk => ?_) ?_
        · have e13 : a.tmps.getD 13 undef = (.pointer (some ⟨x, 0, none⟩) : Value) := (sk_old hk 13 (by kernel_rfl)).trans rfl
          have f13 := gd e13
          exact ro_pure (v := .pointer (some ⟨x, 0, none⟩)) (wanted_yes rfl rfl rfl (show _ = _ from (sk_val hk 2 (by kernel_rfl) rfl rfl).trans ((hk.1 2 (by kernel_rfl)).1))) (by simp [execOp, Act.eval, e13, f13, go_sem]) (sp_same (by kernel_rfl) hl hs hS (show (.pointer (some ⟨x, 0, none⟩) : Value) = _ from rfl)) trivial
        refine SSteps.cons (fun a w' vs σ hS hl hs hk => ?_) ?_
        · have e9 : a.tmps.getD 9 undef = (.pointer (some ⟨b9, 0, none⟩) : Value) := (sk_old hk 9 (by kernel_rfl)).trans rfl
          have f9 := gd e9
          have hx := (hS.box (sg (hs 4 (by decide)))).recAt 16 (av17_size _)
          exact ro_pure (v := .agg (av17 a1)) (wanted_yes rfl rfl rfl (show _ = _ from (sk_val hk 2 (by kernel_rfl) rfl rfl).trans ((hk.1 2 (by kernel_rfl)).1))) (by simp [execOp, Act.eval, e9, f9, go_sem, hx]) (sp_same (by kernel_rfl) hl hs hS (show (.agg (av17 a1) : Value) = _ from rfl)) trivial
        refine SSteps.cons (fun a w' vs σ hS hl hs hk => ?_) ?_
        · have e37 : a.tmps.getD 37 undef = (.pointer (some ⟨p, 0, none⟩) : Value) := (sk_val hk 3 (by kernel_rfl) rfl rfl).trans ((hk.1 3 (by kernel_rfl)).1)
          have f37 := gd e37
          have e38 : a.tmps.getD 38 undef = (.pointer (some ⟨x, 0, none⟩) : Value) := (sk_val hk 4 (by kernel_rfl) rfl rfl).trans ((hk.1 4 (by kernel_rfl)).1)
          have f38 := gd e38
          have e39 : a.tmps.getD 39 undef = (.agg (av17 a1) : Value) := (sk_val hk 5 (by kernel_rfl) rfl rfl).trans ((hk.1 5 (by kernel_rfl)).1)
          have f39 := gd e39
          have h0 : σ[0]? = some (.grid p 35 ↑s L0) := hs 0 (by decide)
          have h1 : σ[1]? = some (.grid x 48 ↑s L0) := hs 1 (by decide)
          exact ro_call (f := 26) (wanted_yes rfl rfl rfl (show _ = _ from (sk_val hk 2 (by kernel_rfl) rfl rfl).trans ((hk.1 2 (by kernel_rfl)).1))) rfl (by simp only [List.map_toArray, List.map_cons, List.map_nil, Act.eval, e37, e38, e39] <;> rfl) (fun _ _ => by kernel_rfl) ((front2_call hS (sg h0) (sg h1) (fun r h => HD.out r _ h)).mono fun e w2 ⟨h1, h2⟩ => ⟨_, h1, sp_set2 0 1 _ _ (by decide) (by kernel_rfl) (by simp) (by simp) (by decide) (by decide) hl hs (by rfl) (by rfl) h2 rfl, trivial⟩)
        refine SSteps.cons (fun a w' vs σ hS hl hs hk => ?_) ?_
        · have e40 : a.tmps.getD 40 undef = (.bool true : Value) := (sk_val hk 6 (by kernel_rfl) rfl rfl).trans ((hk.1 6 (by kernel_rfl)).1)
          have f40 := gd e40
          exact ro_pure (v := .bool false) (wanted_yes rfl rfl rfl (show _ = _ from (sk_val hk 2 (by kernel_rfl) rfl rfl).trans ((hk.1 2 (by kernel_rfl)).1))) (by simp [execOp, Act.eval, e40, f40, go_sem]) (sp_same (by kernel_rfl) hl hs hS (show (.bool false : Value) = _ from rfl)) trivial
        refine SSteps.cons (fun a w' vs σ hS hl hs hk => ?_) ?_
        · have e36 : a.tmps.getD 36 undef = (.bool false : Value) := (sk_val hk 2 (by kernel_rfl) rfl rfl).trans ((hk.1 2 (by kernel_rfl)).1)
          have f36 := gd e36
          have e41 : a.tmps.getD 41 undef = (.bool false : Value) := (sk_val hk 7 (by kernel_rfl) rfl rfl).trans ((hk.1 7 (by kernel_rfl)).1)
          have f41 := gd e41
          exact ro_pure (v := .bool false) (wanted_none rfl) (by simp [execOp, Act.eval, e36, f36, e41, f41, go_sem]) (sp_same (by kernel_rfl) hl hs hS (show (.bool false : Value) = _ from rfl)) trivial
        refine SSteps.cons (fun a w' vs σ hS hl hs hk => ?_) ?_
        · have e42 : a.tmps.getD 42 undef = (.bool false : Value) := (sk_val hk 8 (by kernel_rfl) rfl rfl).trans ((hk.1 8 (by kernel_rfl)).1)
          have f42 := gd e42
          exact ro_pure (v := .bool false) (wanted_none rfl) (by simp [execOp, Act.eval, e42, f42, go_sem]) (sp_same (by kernel_rfl) hl hs hS (show (.bool false : Value) = _ from rfl)) trivial
        refine SSteps.cons (fun a w' vs σ hS hl hs hk => ?_) ?_
        · have e12 : a.tmps.getD 12 undef = (.pointer (some ⟨p, 0, none⟩) : Value) := (sk_old hk 12 (by kernel_rfl)).trans rfl
          have f12 := gd e12
          exact ro_pure (v := .pointer (some ⟨p, 0, none⟩)) (wanted_yes rfl rfl rfl (show _ = _ from (sk_val hk 9 (by kernel_rfl) rfl rfl).trans ((hk.1 9 (by kernel_rfl)).1))) (by simp [execOp, Act.eval, e12, f12, go_sem]) (sp_same (by kernel_rfl) hl hs hS (show (.pointer (some ⟨p, 0, none⟩) : Value) = _ from rfl)) trivial
        refine SSteps.cons (fun a w' vs σ hS hl hs hk => ?_) ?_
        · have e44 : a.tmps.getD 44 undef = (.pointer (some ⟨p, 0, none⟩) : Value) := (sk_val hk 10 (by kernel_rfl) rfl rfl).trans ((hk.1 10 (by kernel_rfl)).1)
          have f44 := gd e44
          have h0 : σ[0]? = some (.grid p 35 ↑s L1) := hs 0 (by decide)
          have hn : σ[2]? = some .none := hs 2 (by decide)
          exact ro_call (f := 22) (wanted_yes rfl rfl rfl (show _ = _ from (sk_val hk 9 (by kernel_rfl) rfl rfl).trans ((hk.1 9 (by kernel_rfl)).1))) rfl (by simp only [List.map_toArray, List.map_cons, List.map_nil, Act.eval, e44] <;> rfl) (fun _ _ => by kernel_rfl) ((Lines_any hS (sg h0) hc0 HM1.out hLm1).mono fun e w2 ⟨x, h1, h2⟩ => ⟨_, h1, sp_set 2 (.lines x L1) (by kernel_rfl) (by simp) (by decide) hl hs (by rfl) (h2.place (sg hn)) (by obtain ⟨A, c, e, -⟩ := h2.linesRd (k := 0) rfl; exact ⟨A, c, e⟩), trivial⟩)
        refine SSteps.cons (fun a w' vs σ hS hl hs hk => ?_) ?_
        · have e13 : a.tmps.getD 13 undef = (.pointer (some ⟨x, 0, none⟩) : Value) := (sk_old hk 13 (by kernel_rfl)).trans rfl
          have f13 := gd e13
          exact ro_pure (v := .pointer (some ⟨x, 0, none⟩)) (wanted_yes rfl rfl rfl (show _ = _ from (sk_val hk 9 (by kernel_rfl) rfl rfl).trans ((hk.1 9 (by kernel_rfl)).1))) (by simp [execOp, Act.eval, e13, f13, go_sem]) (sp_same (by kernel_rfl) hl hs hS (show (.pointer (some ⟨x, 0, none⟩) : Value) = _ from rfl)) trivial
        refine SSteps.cons (fun a w' vs σ hS hl hs hk => ?_) ?_
        · have e46 : a.tmps.getD 46 undef = (.pointer (some ⟨x, 0, none⟩) : Value) := (sk_val hk 12 (by kernel_rfl) rfl rfl).trans ((hk.1 12 (by kernel_rfl)).1)
          have f46 := gd e46
          exact ro_pure (v := .pointer (some ⟨x, 0, none⟩)) (wanted_yes rfl rfl rfl (show _ = _ from (sk_val hk 9 (by kernel_rfl) rfl rfl).trans ((hk.1 9 (by kernel_rfl)).1))) (by simp [execOp, Act.eval, e46, f46, go_sem]) (sp_same (by kernel_rfl) hl hs hS (show (.pointer (some ⟨x, 0, none⟩) : Value) = _ from rfl)) trivial
        refine SSteps.cons (fun a w' vs σ hS hl hs hk => ?_) ?_
        · have e47 : a.tmps.getD 47 undef = (.pointer (some ⟨x, 0, none⟩) : Value) := (sk_val hk 13 (by kernel_rfl) rfl rfl).trans ((hk.1 13 (by kernel_rfl)).1)
          have f47 := gd e47
          exact ro_pure (v := .pointer (some ⟨x, 1, none⟩)) (wanted_yes rfl rfl rfl (show _ = _ from (sk_val hk 9 (by kernel_rfl) rfl rfl).trans ((hk.1 9 (by kernel_rfl)).1))) (by simp [execOp, Act.eval, e47, f47, go_sem]) (sp_same (by kernel_rfl) hl hs hS (show (.pointer (some ⟨x, 1, none⟩) : Value) = _ from rfl)) trivial
        refine SSteps.cons (fun a w' vs σ hS hl hs hk => ?_) ?_
        · have e48 : a.tmps.getD 48 undef = (.pointer (some ⟨x, 1, none⟩) : Value) := (sk_val hk 14 (by kernel_rfl) rfl rfl).trans ((hk.1 14 (by kernel_rfl)).1)
          have f48 := gd e48
          have h1 : σ[1]? = some (.grid x 48 ↑s L1) := hs 1 (by decide)
          have hn : σ[3]? = some .none := hs 3 (by decide)
          obtain ⟨vL, hO⟩ := hS.openGrid (sg h1)
          obtain ⟨A5, c5, q5, -, -⟩ := hO.linesRd (k := 0) rfl
          subst q5
          have hx := (hO.box (k := 2) (show (_ :: List.set _ _ _)[2]? = _ from set_at (sg h1))).cell
          have hO2 := hO.place (k := 3) (by rw [List.getElem?_set_ne (by decide)]; exact sg hn)
          exact rs_run (v' := .slice A5 (L1).length c5) (w' := w') (wanted_yes rfl rfl rfl (show _ = _ from (sk_val hk 9 (by kernel_rfl) rfl rfl).trans ((hk.1 9 (by kernel_rfl)).1))) (by simp [execOp, Act.eval, e48, f48, go_sem, hx]) (sp_set2 1 3 _ _ (by decide) (by kernel_rfl) (by simp) (by simp) (by decide) (by decide) hl hs (by rfl) (by rfl) hO2 ⟨A5, c5, rfl⟩)
        refine SSteps.cons (fun a w' vs σ hS hl hs hk => ?_) ?_
        · have e45 : a.tmps.getD 45 undef = vs 11 := sk_val hk 11 (by kernel_rfl) rfl rfl
          have p45 : (fun u : Value => ∃ A c, u = .slice A (L1).length c) (vs 11) := (hk.1 11 (by kernel_rfl)).1
          have f45 := gd e45
          have e49 : a.tmps.getD 49 undef = vs 15 := sk_val hk 15 (by kernel_rfl) rfl rfl
          have p49 : (fun u : Value => ∃ A c, u = .slice A (L1).length c) (vs 15) := (hk.1 15 (by kernel_rfl)).1
          have f49 := gd e49
          obtain ⟨A1, c1, q1⟩ := p45
          obtain ⟨A2, c2, q2⟩ := p49
          have h2 : σ[2]? = some (.lines (vs 11) L1) := hs 2 (by decide)
          have h3 : σ[3]? = some (.lines (vs 15) L1) := hs 3 (by decide)
          rw [q1] at h2
          rw [q2] at h3
          have hr1 := (hS.linesRd' (sg h2)).2.2
          have hr2 := (hS.linesRd' (sg h3)).2.2
          have hcon := r14SameLines_any A1 A2 c1 c2 L1 L1 w' hr1 hr2 hLm1 hLm1 HM1.out HM1.out
          rw [show decide (L1 = L1) = true by simp] at hcon
          exact ro_call (f := 21) (wanted_yes rfl rfl rfl (show _ = _ from (sk_val hk 9 (by kernel_rfl) rfl rfl).trans ((hk.1 9 (by kernel_rfl)).1))) rfl (by simp only [List.map_toArray, List.map_cons, List.map_nil, Act.eval, e45, e49, q1, q2] <;> rfl) (fun _ _ => by kernel_rfl) (hcon.mono fun e w2 ⟨h1, h2⟩ => ⟨_, h1, sp_same (by kernel_rfl) hl hs (hS.bel h2) rfl, trivial⟩)
        refine SSteps.cons (fun a w' vs σ hS hl hs hk => ?_) ?_
        · have e50 : a.tmps.getD 50 undef = (.bool true : Value) := (sk_val hk 16 (by kernel_rfl) rfl rfl).trans ((hk.1 16 (by kernel_rfl)).1)
          have f50 := gd e50
          exact ro_pure (v := .bool false) (wanted_yes rfl rfl rfl (show _ = _ from (sk_val hk 9 (by kernel_rfl) rfl rfl).trans ((hk.1 9 (by kernel_rfl)).1))) (by simp [execOp, Act.eval, e50, f50, go_sem]) (sp_same (by kernel_rfl) hl hs hS (show (.bool false : Value) = _ from rfl)) trivial
        refine SSteps.cons (fun a w' vs σ hS hl hs hk => ?_) ?_
        · have e43 : a.tmps.getD 43 undef = (.bool false : Value) := (sk_val hk 9 (by kernel_rfl) rfl rfl).trans ((hk.1 9 (by kernel_rfl)).1)
          have f43 := gd e43
          have e51 : a.tmps.getD 51 undef = (.bool false : Value) := (sk_val hk 17 (by kernel_rfl) rfl rfl).trans ((hk.1 17 (by kernel_rfl)).1)
          have f51 := gd e51
          exact ro_pure (v := .bool false) (wanted_none rfl) (by simp [execOp, Act.eval, e43, f43, e51, f51, go_sem]) (sp_same (by kernel_rfl) hl hs hS (show (.bool false : Value) = _ from rfl)) trivial
        exact SSteps.nil
      · intro vs w' hS hv
        have q0 := (show vs 0 = (.pointer (some ⟨p, 0, none⟩) : Value) from hv 0 (by decide))
        have q1 := (show vs 1 = (.bool false : Value) from hv 1 (by decide))
        have q2 := (show vs 2 = (.bool false : Value) from hv 2 (by decide))
        have q3 := (show vs 3 = (.pointer (some ⟨p, 0, none⟩) : Value) from hv 3 (by decide))
        have q4 := (show vs 4 = (.pointer (some ⟨x, 0, none⟩) : Value) from hv 4 (by decide))
        have q5 := (show vs 5 = (.agg (av17 a1) : Value) from hv 5 (by decide))
        have q6 := (show vs 6 = (.bool true : Value) from hv 6 (by decide))
        have q7 := (show vs 7 = (.bool false : Value) from hv 7 (by decide))
        have q8 := (show vs 8 = (.bool false : Value) from hv 8 (by decide))
        have q9 := (show vs 9 = (.bool false : Value) from hv 9 (by decide))
        have q10 := (show vs 10 = (.pointer (some ⟨p, 0, none⟩) : Value) from hv 10 (by decide))
        have q12 := (show vs 12 = (.pointer (some ⟨x, 0, none⟩) : Value) from hv 12 (by decide))
        have q13 := (show vs 13 = (.pointer (some ⟨x, 0, none⟩) : Value) from hv 13 (by decide))
        have q14 := (show vs 14 = (.pointer (some ⟨x, 1, none⟩) : Value) from hv 14 (by decide))
        have q16 := (show vs 16 = (.bool true : Value) from hv 16 (by decide))
        have q17 := (show vs 17 = (.bool false : Value) from hv 17 (by decide))
        have q18 := (show vs 18 = (.bool false : Value) from hv 18 (by decide))
        obtain ⟨A9, c9, q9⟩ := (show ∃ A c, vs 11 = .slice A (L1).length c from hv 11 (by decide))
        obtain ⟨A8, c8, q8⟩ := (show ∃ A c, vs 15 = .slice A (L1).length c from hv 15 (by decide))
        have S2 := Lib.hid hS
        simp only [putL, Act.put, Nat.zero_add, Nat.reduceAdd, List.setIfInBounds_toArray, List.set_cons_succ, List.set_cons_zero, q0, q1, q2, q3, q4, q5, q6, q7, q8, q9, q10, q12, q13, q14, q16, q17, q18]
        clear hS hv q0 q1 q2 q3 q4 q5 q6 q7 q8 q9 q10 q12 q13 q14 q16 q17 q18
        simp only [q9, q8]
        have S3 := Lib.hid (((((S2.out.del 0).del 0).del 0).del 0))
        go_wp2_with fail
        go_roundw
        case rel => exact ⟨k + 2, a1, by omega, by go_num, S3.out⟩
        case measure => simp [intOf]; omega
set_option maxRecDepth 100000 in
set_option maxHeartbeats 8000000 in
theorem l17EraseScreens_any (rows cols : Int) (A : Option Addr) (c : Nat) (fill : List Cell) (soft : Int) (a : Act17) (w : World) (hT : Tabs w) (ha : RdC w A c fill) (hm : c ≤ maxLen) (hs : 0 ≤ soft ∧ soft ≤ 65535) :
    Calls Tryd.prog 6 #[.int .i64 rows, .int .i64 cols, .slice A fill.length c, .int .u16 soft, .agg (av17 a)] w fun e w' => e = .returned (.bool true) ∧ Below w.heap.size w w' := by
  have HT := Lib.hid hT
  have HA := Lib.hid ha
  have hfm : fill.length ≤ maxLen := Nat.le_trans ha.1 hm
  clear hT ha hm
  have S := Lib.hid ((objs_start w).alloc1 (c1 := av17 a) (t1 := 31))
  cases hsm : smallB rows cols fill.length with
  | false =>
    have HSM := Lib.hid hsm
    clear hsm
    go_enter Tryd.func6, Tryd.ntmps6
    go_wp2_with fail
    refine (l17small_any rows cols A fill.length c _ hfm).mono ?_
    rw [HSM.out]
    rintro e w1 ⟨rfl, rfl⟩
    go_wp2_with fail
    refine (l17known_any _ (S.out.tabs HT.out)).mono ?_
    rintro e w1 ⟨rfl, hb⟩
    have HB := Lib.hid (S.out.bel hb).base
    clear hb
    go_wp2_with fail
    go_ret
    exact ⟨rfl, HB.out⟩
  | true =>
    obtain ⟨rr, s, rfl, rfl, ⟨h1, h2⟩, ⟨h3, h4⟩, h5⟩ := small_true hsm
    have HSM := Lib.hid hsm
    clear hsm
    go_enter Tryd.func6, Tryd.ntmps6
    go_wp2_with fail
    refine (l17small_any rr s A fill.length c _ hfm).mono ?_
    rw [HSM.out]
    rintro e w1 ⟨rfl, rfl⟩
    generalize hb9 : w.heap.size = b9 at S ⊢
    go_wp2_with fail
    refine (l17begun_base A c fill rr s soft _ (S.out.tabs HT.out) (HA.out.bel S.out.base) h1 h2 h3 h4 h5 hs).mono ?_
    rintro e w1 ⟨p, x, rfl, hS⟩
    have hc0 : 0 < s := by omega
    have hcm0 : s ≤ 1000 := by omega
    have HR0 := Lib.hid (begunP_rect rr s fill soft).1
    have hlen0 := (begunP_rect rr s fill soft).2
    obtain ⟨L0, hL0e⟩ : ∃ L0, L0 = begunP rr s fill soft := ⟨_, rfl⟩
    rw [← hL0e] at HR0 hlen0 hS
    have hL0 : 0 < L0.length := by omega
    have hLm0 : L0.length ≤ 1000000 := by omega
    have hS1 := (show Objs w w1 (_ :: _ :: [.box b9 31 (av17 a)]) from S.out.nestAll hS)
    obtain ⟨hx9, hf9, hz9, -, -⟩ := (hS1.box (k := 2) rfl).act17
    have hS2 := hS1.setBox 2 (i := 0) (u := .int .i64 1) rfl
    rw [av17_set0] at hS2
    obtain ⟨a1, ha1⟩ : ∃ a1, a1 = { a with what := (1 : Int) } := ⟨_, rfl⟩
    rw [← ha1] at hS2
    have hS2' := (show Objs w _ [.grid p 35 ↑s L0, .grid x 48 ↑s L0, .box b9 31 (av17 a1)] from hS2)
    have SZ := Lib.hid (show Objs w _ [.grid p 35 ↑s L0, .grid x 48 ↑s L0, .none, .none, .box b9 31 (av17 a1)] from hS2'.addNone2)
    obtain ⟨L1, hL1e⟩ : ∃ L1, L1 = act17N a1 s L0 := ⟨_, rfl⟩
    have hN := act17N_rect (a := a1) HR0.out
    rw [← hL1e] at hN
    have HR1 := Lib.hid hN.1
    have hLm1 : L1.length ≤ 1000000 := by rw [hN.2]; exact hLm0
    have HM1 := Lib.hid (HR1.out.mill hcm0)
    have HD := Lib.hid (show ∀ r W, Objs w W (.grid p 35 ↑s L0 :: .grid x 48 ↑s L0 :: r) → Calls Tryd.prog 26 #[.pointer (some ⟨p, 0, none⟩), .pointer (some ⟨x, 0, none⟩), .agg (av17 a1)] W fun e w' => e = .returned (.bool true) ∧ Objs w w' (.grid p 35 ↑s L1 :: .grid x 48 ↑s L1 :: r) from fun r W h => by rw [hL1e]; exact l17does_any a1 HT.out h hc0 hcm0 HR0.out hL0 hLm0)
    clear hS hS1 hS2 hS2' hN hL1e ha1 hL0e
    go_upto_region 5 with (fail)
    refine wp_region_stage (w0 := w) (os := []) (by kernel_rfl) (by kernel_rfl) (by kernel_rfl) [(0, 6, [], fun vs => .grid p 35 ↑s L1), (1, 6, [], fun vs => .grid x 48 ↑s L1), (2, 10, [10], fun vs => .lines (vs 10) L1), (1, 14, [14], fun vs => .box x 48 #[.int .i64 ↑s, vs 14]), (3, 14, [14], fun vs => .lines (vs 14) L1)] [[], [], [], [], [], [4], [0, 1], [], [], [], [0, 2], [], [], [], [1, 3], [2, 3], [], [], [], [], []] [.grid p 35 ↑s L0, .grid x 48 ↑s L0, .none, .none, .box b9 31 (av17 a1)] (fun i u => match i with | 0 => u = (.pointer (some ⟨p, 0, none⟩) : Value) | 1 => u = (.bool true : Value) | 2 => u = (.bool true : Value) | 3 => u = (.pointer (some ⟨p, 0, none⟩) : Value) | 4 => u = (.pointer (some ⟨x, 0, none⟩) : Value) | 5 => u = (.agg (av17 a1) : Value) | 6 => u = (.bool true : Value) | 7 => u = (.bool true : Value) | 8 => u = (.bool true : Value) | 9 => u = (.pointer (some ⟨p, 0, none⟩) : Value) | 10 => ∃ A c, u = .slice A (L1).length c | 11 => u = (.pointer (some ⟨x, 0, none⟩) : Value) | 12 => u = (.pointer (some ⟨x, 0, none⟩) : Value) | 13 => u = (.pointer (some ⟨x, 1, none⟩) : Value) | 14 => ∃ A c, u = .slice A (L1).length c | 15 => u = (.bool true : Value) | 16 => u = (.bool true : Value) | 17 => u = (.bool true : Value) | 18 => u = (.bool true : Value) | 19 => u = (.bool true : Value) | 20 => u = (.bool true : Value) | _ => True) (fun vs => [.grid p 35 ↑s L1, .box x 48 #[.int .i64 ↑s, vs 14], .lines (vs 10) L1, .lines (vs 14) L1, .box b9 31 (av17 a1)]) (by kernel_rfl) (fun vs => by rfl) SZ.out ?_ ?_
    · refine SSteps.cons (fun a w' vs σ hS hl hs hk => ?_) ?_
      · have e11 : a.tmps.getD 11 undef = (.pointer (some ⟨p, 0, none⟩) : Value) := (sk_old hk 11 (by kernel_rfl)).trans rfl
        have f11 := gd e11
        exact ro_pure (v := .pointer (some ⟨p, 0, none⟩)) (wanted_none rfl) (by simp [execOp, Act.eval, e11, f11, go_sem]) (sp_same (by kernel_rfl) hl hs hS (show (.pointer (some ⟨p, 0, none⟩) : Value) = _ from rfl)) trivial
      refine SSteps.cons (fun a w' vs σ hS hl hs hk => ?_) ?_
      · have e28 : a.tmps.getD 28 undef = (.pointer (some ⟨p, 0, none⟩) : Value) := (sk_val hk 0 (by kernel_rfl) rfl rfl).trans ((hk.1 0 (by kernel_rfl)).1)
        have f28 := gd e28
        exact ro_pure (v := .bool true) (wanted_none rfl) (by simp [execOp, Act.eval, e28, f28, go_sem]) (sp_same (by kernel_rfl) hl hs hS (show (.bool true : Value) = _ from rfl)) trivial
      refine SSteps.cons (fun a w' vs σ hS hl hs hk => ?_) ?_
      · have e29 : a.tmps.getD 29 undef = (.bool true : Value) := (sk_val hk 1 (by kernel_rfl) rfl rfl).trans ((hk.1 1 (by kernel_rfl)).1)
        have f29 := gd e29
        exact ro_pure (v := .bool true) (wanted_none rfl) (by simp [execOp, Act.eval, e29, f29, go_sem]) (sp_same (by kernel_rfl) hl hs hS (show (.bool true : Value) = _ from rfl)) trivial
      refine SSteps.cons (fun a w' vs σ hS hl hs hk => ?_) ?_
      · have e11 : a.tmps.getD 11 undef = (.pointer (some ⟨p, 0, none⟩) : Value) := (sk_old hk 11 (by kernel_rfl)).trans rfl
        have f11 := gd e11
        exact ro_pure (v := .pointer (some ⟨p, 0, none⟩)) (wanted_yes rfl rfl rfl (show _ = _ from (sk_val hk 2 (by kernel_rfl) rfl rfl).trans ((hk.1 2 (by kernel_rfl)).1))) (by simp [execOp, Act.eval, e11, f11, go_sem]) (sp_same (by kernel_rfl) hl hs hS (show (.pointer (some ⟨p, 0, none⟩) : Value) = _ from rfl)) trivial
      refine SSteps.cons (fun a w' vs σ hS hl hs hk => ?_) ?_
      · have e12 : a.tmps.getD 12 undef = (.pointer (some ⟨x, 0, none⟩) : Value) := (sk_old hk 12 (by kernel_rfl)).trans rfl
        have f12 := gd e12
        exact ro_pure (v := .pointer (some ⟨x, 0, none⟩)) (wanted_yes rfl rfl rfl (show _ = _ from (sk_val hk 2 (by kernel_rfl) rfl rfl).trans ((hk.1 2 (by kernel_rfl)).1))) (by simp [execOp, Act.eval, e12, f12, go_sem]) (sp_same (by kernel_rfl) hl hs hS (show (.pointer (some ⟨x, 0, none⟩) : Value) = _ from rfl)) trivial
      refine SSteps.cons (fun a w' vs σ hS hl hs hk => ?_) ?_
      · have e9 : a.tmps.getD 9 undef = (.pointer (some ⟨b9, 0, none⟩) : Value) := (sk_old hk 9 (by kernel_rfl)).trans rfl
        have f9 := gd e9
        have hx := (hS.box (sg (hs 4 (by decide)))).recAt 16 (av17_size _)
        exact ro_pure (v := .agg (av17 a1)) (wanted_yes rfl rfl rfl (show _ = _ from (sk_val hk 2 (by kernel_rfl) rfl rfl).trans ((hk.1 2 (by kernel_rfl)).1))) (by simp [execOp, Act.eval, e9, f9, go_sem, hx]) (sp_same (by kernel_rfl) hl hs hS (show (.agg (av17 a1) : Value) = _ from rfl)) trivial
      refine SSteps.cons (fun a w' vs σ hS hl hs hk => ?_) ?_
      · have e31 : a.tmps.getD 31 undef = (.pointer (some ⟨p, 0, none⟩) : Value) := (sk_val hk 3 (by kernel_rfl) rfl rfl).trans ((hk.1 3 (by kernel_rfl)).1)
        have f31 := gd e31
        have e32 : a.tmps.getD 32 undef = (.pointer (some ⟨x, 0, none⟩) : Value) := (sk_val hk 4 (by kernel_rfl) rfl rfl).trans ((hk.1 4 (by kernel_rfl)).1)
        have f32 := gd e32
        have e33 : a.tmps.getD 33 undef = (.agg (av17 a1) : Value) := (sk_val hk 5 (by kernel_rfl) rfl rfl).trans ((hk.1 5 (by kernel_rfl)).1)
        have f33 := gd e33
        have h0 : σ[0]? = some (.grid p 35 ↑s L0) := hs 0 (by decide)
        have h1 : σ[1]? = some (.grid x 48 ↑s L0) := hs 1 (by decide)
        exact ro_call (f := 26) (wanted_yes rfl rfl rfl (show _ = _ from (sk_val hk 2 (by kernel_rfl) rfl rfl).trans ((hk.1 2 (by kernel_rfl)).1))) rfl (by simp only [List.map_toArray, List.map_cons, List.map_nil, Act.eval, e31, e32, e33] <;> rfl) (fun _ _ => by kernel_rfl) ((front2_call hS (sg h0) (sg h1) (fun r h => HD.out r _ h)).mono fun e w2 ⟨h1, h2⟩ => ⟨_, h1, sp_set2 0 1 _ _ (by decide) (by kernel_rfl) (by simp) (by simp) (by decide) (by decide) hl hs (by rfl) (by rfl) h2 rfl, trivial⟩)
      refine SSteps.cons (fun a w' vs σ hS hl hs hk => ?_) ?_
      · have e30 : a.tmps.getD 30 undef = (.bool true : Value) := (sk_val hk 2 (by kernel_rfl) rfl rfl).trans ((hk.1 2 (by kernel_rfl)).1)
        have f30 := gd e30
        have e34 : a.tmps.getD 34 undef = (.bool true : Value) := (sk_val hk 6 (by kernel_rfl) rfl rfl).trans ((hk.1 6 (by kernel_rfl)).1)
        have f34 := gd e34
        exact ro_pure (v := .bool true) (wanted_none rfl) (by simp [execOp, Act.eval, e30, f30, e34, f34, go_sem]) (sp_same (by kernel_rfl) hl hs hS (show (.bool true : Value) = _ from rfl)) trivial
      refine SSteps.cons (fun a w' vs σ hS hl hs hk => ?_) ?_
      · have e35 : a.tmps.getD 35 undef = (.bool true : Value) := (sk_val hk 7 (by kernel_rfl) rfl rfl).trans ((hk.1 7 (by kernel_rfl)).1)
        have f35 := gd e35
        exact ro_pure (v := .bool true) (wanted_none rfl) (by simp [execOp, Act.eval, e35, f35, go_sem]) (sp_same (by kernel_rfl) hl hs hS (show (.bool true : Value) = _ from rfl)) trivial
      refine SSteps.cons (fun a w' vs σ hS hl hs hk => ?_) ?_
      · have e11 : a.tmps.getD 11 undef = (.pointer (some ⟨p, 0, none⟩) : Value) := (sk_old hk 11 (by kernel_rfl)).trans rfl
        have f11 := gd e11
        exact ro_pure (v := .pointer (some ⟨p, 0, none⟩)) (wanted_yes rfl rfl rfl (show _ = _ from (sk_val hk 8 (by kernel_rfl) rfl rfl).trans ((hk.1 8 (by kernel_rfl)).1))) (by simp [execOp, Act.eval, e11, f11, go_sem]) (sp_same (by kernel_rfl) hl hs hS (show (.pointer (some ⟨p, 0, none⟩) : Value) = _ from rfl)) trivial
      refine SSteps.cons (fun a w' vs σ hS hl hs hk => ?_) ?_
      · have e37 : a.tmps.getD 37 undef = (.pointer (some ⟨p, 0, none⟩) : Value) := (sk_val hk 9 (by kernel_rfl) rfl rfl).trans ((hk.1 9 (by kernel_rfl)).1)
        have f37 := gd e37
        have h0 : σ[0]? = some (.grid p 35 ↑s L1) := hs 0 (by decide)
        have hn : σ[2]? = some .none := hs 2 (by decide)
        exact ro_call (f := 22) (wanted_yes rfl rfl rfl (show _ = _ from (sk_val hk 8 (by kernel_rfl) rfl rfl).trans ((hk.1 8 (by kernel_rfl)).1))) rfl (by simp only [List.map_toArray, List.map_cons, List.map_nil, Act.eval, e37] <;> rfl) (fun _ _ => by kernel_rfl) ((Lines_any hS (sg h0) hc0 HM1.out hLm1).mono fun e w2 ⟨x, h1, h2⟩ => ⟨_, h1, sp_set 2 (.lines x L1) (by kernel_rfl) (by simp) (by decide) hl hs (by rfl) (h2.place (sg hn)) (by obtain ⟨A, c, e, -⟩ := h2.linesRd (k := 0) rfl; exact ⟨A, c, e⟩), trivial⟩)
      refine SSteps.cons (fun a w' vs σ hS hl hs hk => ?_) ?_
      · have e12 : a.tmps.getD 12 undef = (.pointer (some ⟨x, 0, none⟩) : Value) := (sk_old hk 12 (by kernel_rfl)).trans rfl
        have f12 := gd e12
        exact ro_pure (v := .pointer (some ⟨x, 0, none⟩)) (wanted_yes rfl rfl rfl (show _ = _ from (sk_val hk 8 (by kernel_rfl) rfl rfl).trans ((hk.1 8 (by kernel_rfl)).1))) (by simp [execOp, Act.eval, e12, f12, go_sem]) (sp_same (by kernel_rfl) hl hs hS (show (.pointer (some ⟨x, 0, none⟩) : Value) = _ from rfl)) trivial
      refine SSteps.cons (fun a w' vs σ hS hl hs hk => ?_) ?_
      · have e39 : a.tmps.getD 39 undef = (.pointer (some ⟨x, 0, none⟩) : Value) := (sk_val hk 11 (by kernel_rfl) rfl rfl).trans ((hk.1 11 (by kernel_rfl)).1)
        have f39 := gd e39
        exact ro_pure (v := .pointer (some ⟨x, 0, none⟩)) (wanted_yes rfl rfl rfl (show _ = _ from (sk_val hk 8 (by kernel_rfl) rfl rfl).trans ((hk.1 8 (by kernel_rfl)).1))) (by simp [execOp, Act.eval, e39, f39, go_sem]) (sp_same (by kernel_rfl) hl hs hS (show (.pointer (some ⟨x, 0, none⟩) : Value) = _ from rfl)) trivial
      refine SSteps.cons (fun a w' vs σ hS hl hs hk => ?_) ?_
      · have e40 : a.tmps.getD 40 undef = (.pointer (some ⟨x, 0, none⟩) : Value) := (sk_val hk 12 (by kernel_rfl) rfl rfl).trans ((hk.1 12 (by kernel_rfl)).1)
        have f40 := gd e40
        exact ro_pure (v := .pointer (some ⟨x, 1, none⟩)) (wanted_yes rfl rfl rfl (show _ = _ from (sk_val hk 8 (by kernel_rfl) rfl rfl).trans ((hk.1 8 (by kernel_rfl)).1))) (by simp [execOp, Act.eval, e40, f40, go_sem]) (sp_same (by kernel_rfl) hl hs hS (show (.pointer (some ⟨x, 1, none⟩) : Value) = _ from rfl)) trivial
      refine SSteps.cons (fun a w' vs σ hS hl hs hk => ?_) ?_
      · have e41 : a.tmps.getD 41 undef = (.pointer (some ⟨x, 1, none⟩) : Value) := (sk_val hk 13 (by kernel_rfl) rfl rfl).trans ((hk.1 13 (by kernel_rfl)).1)
        have f41 := gd e41
        have h1 : σ[1]? = some (.grid x 48 ↑s L1) := hs 1 (by decide)
        have hn : σ[3]? = some .none := hs 3 (by decide)
        obtain ⟨vL, hO⟩ := hS.openGrid (sg h1)
        obtain ⟨A5, c5, q5, -, -⟩ := hO.linesRd (k := 0) rfl
        subst q5
        have hx := (hO.box (k := 2) (show (_ :: List.set _ _ _)[2]? = _ from set_at (sg h1))).cell
        have hO2 := hO.place (k := 3) (by rw [List.getElem?_set_ne (by decide)]; exact sg hn)
        exact rs_run (v' := .slice A5 (L1).length c5) (w' := w') (wanted_yes rfl rfl rfl (show _ = _ from (sk_val hk 8 (by kernel_rfl) rfl rfl).trans ((hk.1 8 (by kernel_rfl)).1))) (by simp [execOp, Act.eval, e41, f41, go_sem, hx]) (sp_set2 1 3 _ _ (by decide) (by kernel_rfl) (by simp) (by simp) (by decide) (by decide) hl hs (by rfl) (by rfl) hO2 ⟨A5, c5, rfl⟩)
      refine SSteps.cons (fun a w' vs σ hS hl hs hk => ?_) ?_
      · have e38 : a.tmps.getD 38 undef = vs 10 := sk_val hk 10 (by kernel_rfl) rfl rfl
        have p38 : (fun u : Value => ∃ A c, u = .slice A (L1).length c) (vs 10) := (hk.1 10 (by kernel_rfl)).1
        have f38 := gd e38
        have e42 : a.tmps.getD 42 undef = vs 14 := sk_val hk 14 (by kernel_rfl) rfl rfl
        have p42 : (fun u : Value => ∃ A c, u = .slice A (L1).length c) (vs 14) := (hk.1 14 (by kernel_rfl)).1
        have f42 := gd e42
        obtain ⟨A1, c1, q1⟩ := p38
        obtain ⟨A2, c2, q2⟩ := p42
        have h2 : σ[2]? = some (.lines (vs 10) L1) := hs 2 (by decide)
        have h3 : σ[3]? = some (.lines (vs 14) L1) := hs 3 (by decide)
        rw [q1] at h2
        rw [q2] at h3
        have hr1 := (hS.linesRd' (sg h2)).2.2
        have hr2 := (hS.linesRd' (sg h3)).2.2
        have hcon := r14SameLines_any A1 A2 c1 c2 L1 L1 w' hr1 hr2 hLm1 hLm1 HM1.out HM1.out
        rw [show decide (L1 = L1) = true by simp] at hcon
        exact ro_call (f := 21) (wanted_yes rfl rfl rfl (show _ = _ from (sk_val hk 8 (by kernel_rfl) rfl rfl).trans ((hk.1 8 (by kernel_rfl)).1))) rfl (by simp only [List.map_toArray, List.map_cons, List.map_nil, Act.eval, e38, e42, q1, q2] <;> rfl) (fun _ _ => by kernel_rfl) (hcon.mono fun e w2 ⟨h1, h2⟩ => ⟨_, h1, sp_same (by kernel_rfl) hl hs (hS.bel h2) rfl, trivial⟩)
      refine SSteps.cons (fun a w' vs σ hS hl hs hk => ?_) ?_
      · have e36 : a.tmps.getD 36 undef = (.bool true : Value) := (sk_val hk 8 (by kernel_rfl) rfl rfl).trans ((hk.1 8 (by kernel_rfl)).1)
        have f36 := gd e36
        have e43 : a.tmps.getD 43 undef = (.bool true : Value) := (sk_val hk 15 (by kernel_rfl) rfl rfl).trans ((hk.1 15 (by kernel_rfl)).1)
        have f43 := gd e43
        exact ro_pure (v := .bool true) (wanted_none rfl) (by simp [execOp, Act.eval, e36, f36, e43, f43, go_sem]) (sp_same (by kernel_rfl) hl hs hS (show (.bool true : Value) = _ from rfl)) trivial
      refine SSteps.cons (fun a w' vs σ hS hl hs hk => ?_) ?_
      · have e44 : a.tmps.getD 44 undef = (.bool true : Value) := (sk_val hk 16 (by kernel_rfl) rfl rfl).trans ((hk.1 16 (by kernel_rfl)).1)
        have f44 := gd e44
        exact ro_pure (v := .bool true) (wanted_none rfl) (by simp [execOp, Act.eval, e44, f44, go_sem]) (sp_same (by kernel_rfl) hl hs hS (show (.bool true : Value) = _ from rfl)) trivial
      refine SSteps.cons (fun a w' vs σ hS hl hs hk => ?_) ?_
      · exact ro_call (f := 15) (wanted_yes rfl rfl rfl (show _ = _ from (sk_val hk 17 (by kernel_rfl) rfl rfl).trans ((hk.1 17 (by kernel_rfl)).1))) rfl (by simp <;> rfl) (fun _ _ => by kernel_rfl) ((l17known_any w' (HT.out.bel hS.base)).mono fun e w2 ⟨h1, h2⟩ => ⟨_, h1, sp_same (by kernel_rfl) hl hs (hS.bel h2) rfl, trivial⟩)
      refine SSteps.cons (fun a w' vs σ hS hl hs hk => ?_) ?_
      · have e45 : a.tmps.getD 45 undef = (.bool true : Value) := (sk_val hk 17 (by kernel_rfl) rfl rfl).trans ((hk.1 17 (by kernel_rfl)).1)
        have f45 := gd e45
        have e46 : a.tmps.getD 46 undef = (.bool true : Value) := (sk_val hk 18 (by kernel_rfl) rfl rfl).trans ((hk.1 18 (by kernel_rfl)).1)
        have f46 := gd e46
        exact ro_pure (v := .bool true) (wanted_none rfl) (by simp [execOp, Act.eval, e45, f45, e46, f46, go_sem]) (sp_same (by kernel_rfl) hl hs hS (show (.bool true : Value) = _ from rfl)) trivial
      refine SSteps.cons (fun a w' vs σ hS hl hs hk => ?_) ?_
      · have e47 : a.tmps.getD 47 undef = (.bool true : Value) := (sk_val hk 19 (by kernel_rfl) rfl rfl).trans ((hk.1 19 (by kernel_rfl)).1)
        have f47 := gd e47
        exact ro_pure (v := .bool true) (wanted_none rfl) (by simp [execOp, Act.eval, e47, f47, go_sem]) (sp_same (by kernel_rfl) hl hs hS (show (.bool true : Value) = _ from rfl)) trivial
      exact SSteps.nil
    · intro vs w' hS hv
      have q0 := (show vs 0 = (.pointer (some ⟨p, 0, none⟩) : Value) from hv 0 (by decide))
      have q1 := (show vs 1 = (.bool true : Value) from hv 1 (by decide))
      have q2 := (show vs 2 = (.bool true : Value) from hv 2 (by decide))
      have q3 := (show vs 3 = (.pointer (some ⟨p, 0, none⟩) : Value) from hv 3 (by decide))
      have q4 := (show vs 4 = (.pointer (some ⟨x, 0, none⟩) : Value) from hv 4 (by decide))
      have q5 := (show vs 5 = (.agg (av17 a1) : Value) from hv 5 (by decide))
      have q6 := (show vs 6 = (.bool true : Value) from hv 6 (by decide))
      have q7 := (show vs 7 = (.bool true : Value) from hv 7 (by decide))
      have q8 := (show vs 8 = (.bool true : Value) from hv 8 (by decide))
      have q9 := (show vs 9 = (.pointer (some ⟨p, 0, none⟩) : Value) from hv 9 (by decide))
      have q11 := (show vs 11 = (.pointer (some ⟨x, 0, none⟩) : Value) from hv 11 (by decide))
      have q12 := (show vs 12 = (.pointer (some ⟨x, 0, none⟩) : Value) from hv 12 (by decide))
      have q13 := (show vs 13 = (.pointer (some ⟨x, 1, none⟩) : Value) from hv 13 (by decide))
      have q15 := (show vs 15 = (.bool true : Value) from hv 15 (by decide))
      have q16 := (show vs 16 = (.bool true : Value) from hv 16 (by decide))
      have q17 := (show vs 17 = (.bool true : Value) from hv 17 (by decide))
      have q18 := (show vs 18 = (.bool true : Value) from hv 18 (by decide))
      have q19 := (show vs 19 = (.bool true : Value) from hv 19 (by decide))
      have q20 := (show vs 20 = (.bool true : Value) from hv 20 (by decide))
      obtain ⟨A9, c9, q9⟩ := (show ∃ A c, vs 10 = .slice A (L1).length c from hv 10 (by decide))
      obtain ⟨A8, c8, q8⟩ := (show ∃ A c, vs 14 = .slice A (L1).length c from hv 14 (by decide))
      have S2 := Lib.hid hS
      simp only [putL, Act.put, Nat.zero_add, Nat.reduceAdd, List.setIfInBounds_toArray, List.set_cons_succ, List.set_cons_zero, q0, q1, q2, q3, q4, q5, q6, q7, q8, q9, q11, q12, q13, q15, q16, q17, q18, q19, q20]
      clear hS hv q0 q1 q2 q3 q4 q5 q6 q7 q8 q9 q11 q12 q13 q15 q16 q17 q18 q19 q20
      simp only [q9, q8]
      go_wp2_with fail
      go_ret
      exact ⟨rfl, S2.out.base⟩
end Go.Proofs.YtjligfbaljnhnaaDoor

/-
  ErasePlays: the law returns true.
-/
set_option linter.unusedSimpArgs false
set_option linter.unusedVariables false
namespace Go.Proofs.YtjligfbaljnhnaaDoor
open Go.RowKit

/-- The reference's grid is closed again; the lines are left. -/
theorem close_rows {w0 w : World} {o l1 : Ob} {x : Nat} {t : TypeId} {cols : Int} {v : Value} {L : List Ln} {os : List Ob} (h : Objs w0 w (o :: .box x t #[.int .i64 cols, v] :: l1 :: .lines v L :: os)) : Objs w0 w (o :: .grid x t cols L :: os) := by
  have h1 := (h.lift (k := 3) rfl).closeGrid (k := 1) rfl
  exact (h1.del 2).del 2
set_option maxRecDepth 100000 in
set_option maxHeartbeats 8000000 in
theorem l17ErasePlays_any (rows cols : Int) (A : Option Addr) (c : Nat) (fill : List Cell) (soft : Int) (Al : Option Addr) (cl : Nat) (l : List Act17) (w : World) (hT : Tabs w) (ha : RdC w A c fill) (hm : c ≤ maxLen) (hs : 0 ≤ soft ∧ soft ≤ 65535) (hal : RdRec w Al cl 16 (l.map av17)) (hml : cl ≤ maxLen) :
    Calls Tryd.prog 7 #[.int .i64 rows, .int .i64 cols, .slice A fill.length c, .int .u16 soft, .slice Al l.length cl] w fun e w' => e = .returned (.bool true) ∧ Below w.heap.size w w' := by
  have HT := Lib.hid hT
  have HA := Lib.hid ha
  have HAL := Lib.hid hal
  have hfm : fill.length ≤ maxLen := Nat.le_trans ha.1 hm
  have hlm : l.length ≤ maxLen := Nat.le_trans (by have := hal.1; simpa using this) hml
  have hlm2 : l.length ≤ 9223372036854775807 := by unfold maxLen at hlm; omega
  clear hT ha hm hal hml hlm
  cases hsm : smallB rows cols fill.length with
  | false =>
    have HSM := Lib.hid hsm
    clear hsm
    go_enter Tryd.func7, Tryd.ntmps7
    go_wp2_with fail
    refine (l17small_any rows cols A fill.length c _ hfm).mono ?_
    rw [HSM.out]
    rintro e w1 ⟨rfl, rfl⟩
    go_wp2_with fail
    refine (l17known_any _ HT.out).mono ?_
    rintro e w1 ⟨rfl, hb⟩
    have HB := Lib.hid hb
    clear hb
    go_wp2_with fail
    go_ret
    exact ⟨rfl, HB.out⟩
  | true =>
    obtain ⟨rr, s, rfl, rfl, ⟨h1, h2⟩, ⟨h3, h4⟩, h5⟩ := small_true hsm
    have HSM := Lib.hid hsm
    clear hsm
    by_cases hl30 : l.length ≤ 30
    case neg =>
      have hgt : (30 : Int) < l.length := by omega
      go_enter Tryd.func7, Tryd.ntmps7
      go_wp2_with fail
      refine (l17small_any rr s A fill.length c _ hfm).mono ?_
      rw [HSM.out]
      rintro e w1 ⟨rfl, rfl⟩
      go_wp2_with fail
      refine (l17known_any _ HT.out).mono ?_
      rintro e w1 ⟨rfl, hb⟩
      have HB := Lib.hid hb
      clear hb
      go_wp2_with fail
      go_ret
      exact ⟨rfl, HB.out⟩
    go_enter Tryd.func7, Tryd.ntmps7
    go_wp2_with fail
    refine (l17small_any rr s A fill.length c _ hfm).mono ?_
    rw [HSM.out]
    rintro e w1 ⟨rfl, rfl⟩
    go_wp2_with fail
    refine (l17begun_base A c fill rr s soft _ HT.out HA.out h1 h2 h3 h4 h5 hs).mono ?_
    rintro e w1 ⟨p, x, rfl, hS⟩
    have hc0 : 0 < s := by omega
    have hcm0 : s ≤ 1000 := by omega
    have HR0 := Lib.hid (begunP_rect rr s fill soft).1
    have hlen0 := (begunP_rect rr s fill soft).2
    obtain ⟨L0, hL0e⟩ : ∃ L0, L0 = begunP rr s fill soft := ⟨_, rfl⟩
    rw [← hL0e] at HR0 hlen0 hS
    have hL0 : 0 < L0.length := by omega
    have hLm0 : L0.length ≤ 1000000 := by omega
    have S0 := Lib.hid hS
    clear hS hL0e
    have hc0 : 0 < s := hc0
    go_wp2_with fail
    go_loopw [13] (fun vi wr => ∃ (k : Nat) (L0 : List Ln), k ≤ l.length ∧ vi = .int .i64 k ∧ (Rect s L0 ∧ L0.length = rr) ∧ Objs w wr [.grid p 35 ↑s L0, .grid x 48 ↑s L0]) (fun vi _ => l.length - (intOf vi).toNat)
    case atStart => exact ⟨0, L0, Nat.zero_le _, rfl, ⟨HR0.out, hlen0⟩, S0.out⟩
    case round =>
      clear hL0 hLm0 hlen0 HR0 S0 L0
      obtain ⟨k, L0, hk, rfl, ⟨hR0, hlen0⟩, hS⟩ := hrel
      have HR0 := Lib.hid hR0
      have S := Lib.hid hS
      clear hS hR0
      by_cases hlt : k < l.length
      case neg =>
        go_wp2_with fail
        refine (l17known_any _ (S.out.tabs HT.out)).mono ?_
        rintro e w1 ⟨rfl, hb⟩
        have HB := Lib.hid (S.out.bel hb).base
        clear hb
        go_wp2_with fail
        go_ret
        exact ⟨rfl, HB.out⟩
      have hL0 : 0 < L0.length := by omega
      have hLm0 : L0.length ≤ 1000000 := by omega
      obtain ⟨a1, ha1⟩ : ∃ a1, a1 = l[k] := ⟨_, rfl⟩
      obtain ⟨ba, oa, rfl, hba, hre⟩ := HAL.out.at_ (i := k) (r := av17 a1) (by simp [hlt, ha1])
      have hlz : (0 : Int) ≤ (k : Int) := by omega
      have hlz2 : (k : Int) < (l.length : Int) := by omega
      have SZ := Lib.hid (show Objs w _ [.grid p 35 ↑s L0, .grid x 48 ↑s L0, .none, .none] from S.out.addNone2)
      obtain ⟨L1, hL1e⟩ : ∃ L1, L1 = act17N a1 s L0 := ⟨_, rfl⟩
      have hN := act17N_rect (a := a1) HR0.out
      rw [← hL1e] at hN
      have HR1 := Lib.hid hN.1
      have hLm1 : L1.length ≤ 1000000 := by rw [hN.2]; exact hLm0
      have HM1 := Lib.hid (HR1.out.mill hcm0)
      have HD := Lib.hid (show ∀ r W, Objs w W (.grid p 35 ↑s L0 :: .grid x 48 ↑s L0 :: r) → Calls Tryd.prog 26 #[.pointer (some ⟨p, 0, none⟩), .pointer (some ⟨x, 0, none⟩), .agg (av17 a1)] W fun e w' => e = .returned (.bool true) ∧ Objs w w' (.grid p 35 ↑s L1 :: .grid x 48 ↑s L1 :: r) from fun r W h => by rw [hL1e]; exact l17does_any a1 HT.out h hc0 hcm0 HR0.out hL0 hLm0)
      have hlen1 : L1.length = rr := by rw [hN.2]; exact hlen0
      clear hN hL1e ha1
      go_upto_region 9 with (fail)
      refine wp_region_stage (w0 := w) (os := []) (by kernel_rfl) (by kernel_rfl) (by kernel_rfl) [(0, 6, [], fun vs => .grid p 35 ↑s L1), (1, 6, [], fun vs => .grid x 48 ↑s L1), (2, 10, [10], fun vs => .lines (vs 10) L1), (1, 14, [14], fun vs => .box x 48 #[.int .i64 ↑s, vs 14]), (3, 14, [14], fun vs => .lines (vs 14) L1)] [[], [], [], [], [], [], [0, 1], [], [], [], [0, 2], [], [], [], [1, 3], [2, 3], [], []] [.grid p 35 ↑s L0, .grid x 48 ↑s L0, .none, .none] (fun i u => match i with | 0 => u = (.pointer (some ⟨p, 0, none⟩) : Value) | 1 => u = (.pointer (some ⟨x, 0, none⟩) : Value) | 2 => u = (.slice (some ⟨ba, oa, none⟩) l.length cl : Value) | 3 => u = (.int .i64 ↑k : Value) | 4 => u = (.pointer (some ⟨ba, oa + k * 16, none⟩) : Value) | 5 => u = (.agg (av17 a1) : Value) | 6 => u = (.bool true : Value) | 7 => u = (.bool false : Value) | 8 => u = (.bool false : Value) | 9 => u = (.pointer (some ⟨p, 0, none⟩) : Value) | 10 => ∃ A c, u = .slice A (L1).length c | 11 => u = (.pointer (some ⟨x, 0, none⟩) : Value) | 12 => u = (.pointer (some ⟨x, 0, none⟩) : Value) | 13 => u = (.pointer (some ⟨x, 1, none⟩) : Value) | 14 => ∃ A c, u = .slice A (L1).length c | 15 => u = (.bool true : Value) | 16 => u = (.bool false : Value) | 17 => u = (.bool false : Value) | _ => True) (fun vs => [.grid p 35 ↑s L1, .box x 48 #[.int .i64 ↑s, vs 14], .lines (vs 10) L1, .lines (vs 14) L1]) (by kernel_rfl) (fun vs => by rfl) SZ.out ?_ ?_
      · refine SSteps.cons (fun a w' vs σ hS hl hs hk => ?_) ?_
        · have e11 : a.tmps.getD 11 undef = (.pointer (some ⟨p, 0, none⟩) : Value) := (sk_old hk 11 (by kernel_rfl)).trans rfl
          have f11 := gd e11
          exact ro_pure (v := .pointer (some ⟨p, 0, none⟩)) (wanted_none rfl) (by simp [execOp, Act.eval, e11, f11, go_sem]) (sp_same (by kernel_rfl) hl hs hS (show (.pointer (some ⟨p, 0, none⟩) : Value) = _ from rfl)) trivial
        refine SSteps.cons (fun a w' vs σ hS hl hs hk => ?_) ?_
        · have e12 : a.tmps.getD 12 undef = (.pointer (some ⟨x, 0, none⟩) : Value) := (sk_old hk 12 (by kernel_rfl)).trans rfl
          have f12 := gd e12
          exact ro_pure (v := .pointer (some ⟨x, 0, none⟩)) (wanted_none rfl) (by simp [execOp, Act.eval, e12, f12, go_sem]) (sp_same (by kernel_rfl) hl hs hS (show (.pointer (some ⟨x, 0, none⟩) : Value) = _ from rfl)) trivial
        refine SSteps.cons (fun a w' vs σ hS hl hs hk => ?_) ?_
        · have e4 : a.tmps.getD 4 undef = (.slice (some ⟨ba, oa, none⟩) l.length cl : Value) := (sk_old hk 4 (by kernel_rfl)).trans rfl
          have f4 := gd e4
          exact ro_pure (v := .slice (some ⟨ba, oa, none⟩) l.length cl) (wanted_none rfl) (by simp [execOp, Act.eval, e4, f4, go_sem]) (sp_same (by kernel_rfl) hl hs hS (show (.slice (some ⟨ba, oa, none⟩) l.length cl : Value) = _ from rfl)) trivial
        refine SSteps.cons (fun a w' vs σ hS hl hs hk => ?_) ?_
        · have e13 : a.tmps.getD 13 undef = (.int .i64 ↑k : Value) := (sk_old hk 13 (by kernel_rfl)).trans rfl
          have f13 := gd e13
          exact ro_pure (v := .int .i64 ↑k) (wanted_none rfl) (by simp [execOp, Act.eval, e13, f13, go_sem]) (sp_same (by kernel_rfl) hl hs hS (show (.int .i64 ↑k : Value) = _ from rfl)) trivial
        refine SSteps.cons (fun a w' vs σ hS hl hs hk => ?_) ?_
        · have e43 : a.tmps.getD 43 undef = (.slice (some ⟨ba, oa, none⟩) l.length cl : Value) := (sk_val hk 2 (by kernel_rfl) rfl rfl).trans ((hk.1 2 (by kernel_rfl)).1)
          have f43 := gd e43
          have e44 : a.tmps.getD 44 undef = (.int .i64 ↑k : Value) := (sk_val hk 3 (by kernel_rfl) rfl rfl).trans ((hk.1 3 (by kernel_rfl)).1)
          have f44 := gd e44
          exact ro_pure (v := .pointer (some ⟨ba, oa + k * 16, none⟩)) (wanted_none rfl) (by simp [execOp, Act.eval, e43, f43, e44, f44, go_sem, hlz, hlz2]) (sp_same (by kernel_rfl) hl hs hS (show (.pointer (some ⟨ba, oa + k * 16, none⟩) : Value) = _ from rfl)) trivial
        refine SSteps.cons (fun a w' vs σ hS hl hs hk => ?_) ?_
        · have e45 : a.tmps.getD 45 undef = (.pointer (some ⟨ba, oa + k * 16, none⟩) : Value) := (sk_val hk 4 (by kernel_rfl) rfl rfl).trans ((hk.1 4 (by kernel_rfl)).1)
          have f45 := gd e45
          have hx := (recAt_below hS.base hba (oa + k * 16) 16).trans hre
          exact ro_pure (v := .agg (av17 a1)) (wanted_none rfl) (by simp [execOp, Act.eval, e45, f45, go_sem, hx]) (sp_same (by kernel_rfl) hl hs hS (show (.agg (av17 a1) : Value) = _ from rfl)) trivial
        refine SSteps.cons (fun a w' vs σ hS hl hs hk => ?_) ?_
        · have e41 : a.tmps.getD 41 undef = (.pointer (some ⟨p, 0, none⟩) : Value) := (sk_val hk 0 (by kernel_rfl) rfl rfl).trans ((hk.1 0 (by kernel_rfl)).1)
          have f41 := gd e41
          have e42 : a.tmps.getD 42 undef = (.pointer (some ⟨x, 0, none⟩) : Value) := (sk_val hk 1 (by kernel_rfl) rfl rfl).trans ((hk.1 1 (by kernel_rfl)).1)
          have f42 := gd e42
          have e46 : a.tmps.getD 46 undef = (.agg (av17 a1) : Value) := (sk_val hk 5 (by kernel_rfl) rfl rfl).trans ((hk.1 5 (by kernel_rfl)).1)
          have f46 := gd e46
          have h0 : σ[0]? = some (.grid p 35 ↑s L0) := hs 0 (by decide)
          have h1 : σ[1]? = some (.grid x 48 ↑s L0) := hs 1 (by decide)
          exact ro_call (f := 26) (wanted_none rfl) rfl (by simp only [List.map_toArray, List.map_cons, List.map_nil, Act.eval, e41, e42, e46] <;> rfl) (fun _ _ => by kernel_rfl) ((front2_call hS (sg h0) (sg h1) (fun r h => HD.out r _ h)).mono fun e w2 ⟨h1, h2⟩ => ⟨_, h1, sp_set2 0 1 _ _ (by decide) (by kernel_rfl) (by simp) (by simp) (by decide) (by decide) hl hs (by rfl) (by rfl) h2 rfl, trivial⟩)
        refine SSteps.cons (fun a w' vs σ hS hl hs hk => ?_) ?_
        · have e47 : a.tmps.getD 47 undef = (.bool true : Value) := (sk_val hk 6 (by kernel_rfl) rfl rfl).trans ((hk.1 6 (by kernel_rfl)).1)
          have f47 := gd e47
          exact ro_pure (v := .bool false) (wanted_none rfl) (by simp [execOp, Act.eval, e47, f47, go_sem]) (sp_same (by kernel_rfl) hl hs hS (show (.bool false : Value) = _ from rfl)) trivial
        refine SSteps.cons (fun a w' vs σ hS hl hs hk => ?_) ?_
        · have e48 : a.tmps.getD 48 undef = (.bool false : Value) := (sk_val hk 7 (by kernel_rfl) rfl rfl).trans ((hk.1 7 (by kernel_rfl)).1)
          have f48 := gd e48
          exact ro_pure (v := .bool false) (wanted_none rfl) (by simp [execOp, Act.eval, e48, f48, go_sem]) (sp_same (by kernel_rfl) hl hs hS (show (.bool false : Value) = _ from rfl)) trivial
        refine SSteps.cons (fun a w' vs σ hS hl hs hk => ?_) ?_
        · have e11 : a.tmps.getD 11 undef = (.pointer (some ⟨p, 0, none⟩) : Value) := (sk_old hk 11 (by kernel_rfl)).trans rfl
          have f11 := gd e11
          exact ro_pure (v := .pointer (some ⟨p, 0, none⟩)) (wanted_yes rfl rfl rfl (show _ = _ from (sk_val hk 8 (by kernel_rfl) rfl rfl).trans ((hk.1 8 (by kernel_rfl)).1))) (by simp [execOp, Act.eval, e11, f11, go_sem]) (sp_same (by kernel_rfl) hl hs hS (show (.pointer (some ⟨p, 0, none⟩) : Value) = _ from rfl)) trivial
        refine SSteps.cons (fun a w' vs σ hS hl hs hk => ?_) ?_
        · have e50 : a.tmps.getD 50 undef = (.pointer (some ⟨p, 0, none⟩) : Value) := (sk_val hk 9 (by kernel_rfl) rfl rfl).trans ((hk.1 9 (by kernel_rfl)).1)
          have f50 := gd e50
          have h0 : σ[0]? = some (.grid p 35 ↑s L1) := hs 0 (by decide)
          have hn : σ[2]? = some .none := hs 2 (by decide)
          exact ro_call (f := 22) (wanted_yes rfl rfl rfl (show _ = _ from (sk_val hk 8 (by kernel_rfl) rfl rfl).trans ((hk.1 8 (by kernel_rfl)).1))) rfl (by simp only [List.map_toArray, List.map_cons, List.map_nil, Act.eval, e50] <;> rfl) (fun _ _ => by kernel_rfl) ((Lines_any hS (sg h0) hc0 HM1.out hLm1).mono fun e w2 ⟨x, h1, h2⟩ => ⟨_, h1, sp_set 2 (.lines x L1) (by kernel_rfl) (by simp) (by decide) hl hs (by rfl) (h2.place (sg hn)) (by obtain ⟨A, c, e, -⟩ := h2.linesRd (k := 0) rfl; exact ⟨A, c, e⟩), trivial⟩)
        refine SSteps.cons (fun a w' vs σ hS hl hs hk => ?_) ?_
        · have e12 : a.tmps.getD 12 undef = (.pointer (some ⟨x, 0, none⟩) : Value) := (sk_old hk 12 (by kernel_rfl)).trans rfl
          have f12 := gd e12
          exact ro_pure (v := .pointer (some ⟨x, 0, none⟩)) (wanted_yes rfl rfl rfl (show _ = _ from (sk_val hk 8 (by kernel_rfl) rfl rfl).trans ((hk.1 8 (by kernel_rfl)).1))) (by simp [execOp, Act.eval, e12, f12, go_sem]) (sp_same (by kernel_rfl) hl hs hS (show (.pointer (some ⟨x, 0, none⟩) : Value) = _ from rfl)) trivial
        refine SSteps.cons (fun a w' vs σ hS hl hs hk => ?_) ?_
        · have e52 : a.tmps.getD 52 undef = (.pointer (some ⟨x, 0, none⟩) : Value) := (sk_val hk 11 (by kernel_rfl) rfl rfl).trans ((hk.1 11 (by kernel_rfl)).1)
          have f52 := gd e52
          exact ro_pure (v := .pointer (some ⟨x, 0, none⟩)) (wanted_yes rfl rfl rfl (show _ = _ from (sk_val hk 8 (by kernel_rfl) rfl rfl).trans ((hk.1 8 (by kernel_rfl)).1))) (by simp [execOp, Act.eval, e52, f52, go_sem]) (sp_same (by kernel_rfl) hl hs hS (show (.pointer (some ⟨x, 0, none⟩) : Value) = _ from rfl)) trivial
        refine SSteps.cons (fun a w' vs σ hS hl hs hk => ?_) ?_
        · have e53 : a.tmps.getD 53 undef = (.pointer (some ⟨x, 0, none⟩) : Value) := (sk_val hk 12 (by kernel_rfl) rfl rfl).trans ((hk.1 12 (by kernel_rfl)).1)
          have f53 := gd e53
          exact ro_pure (v := .pointer (some ⟨x, 1, none⟩)) (wanted_yes rfl rfl rfl (show _ = _ from (sk_val hk 8 (by kernel_rfl) rfl rfl).trans ((hk.1 8 (by kernel_rfl)).1))) (by simp [execOp, Act.eval, e53, f53, go_sem]) (sp_same (by kernel_rfl) hl hs hS (show (.pointer (some ⟨x, 1, none⟩) : Value) = _ from rfl)) trivial
        refine SSteps.cons (fun a w' vs σ hS hl hs hk => ?_) ?_
        · have e54 : a.tmps.getD 54 undef = (.pointer (some ⟨x, 1, none⟩) : Value) := (sk_val hk 13 (by kernel_rfl) rfl rfl).trans ((hk.1 13 (by kernel_rfl)).1)
          have f54 := gd e54
          have h1 : σ[1]? = some (.grid x 48 ↑s L1) := hs 1 (by decide)
          have hn : σ[3]? = some .none := hs 3 (by decide)
          obtain ⟨vL, hO⟩ := hS.openGrid (sg h1)
          obtain ⟨A5, c5, q5, -, -⟩ := hO.linesRd (k := 0) rfl
          subst q5
          have hx := (hO.box (k := 2) (show (_ :: List.set _ _ _)[2]? = _ from set_at (sg h1))).cell
          have hO2 := hO.place (k := 3) (by rw [List.getElem?_set_ne (by decide)]; exact sg hn)
          exact rs_run (v' := .slice A5 (L1).length c5) (w' := w') (wanted_yes rfl rfl rfl (show _ = _ from (sk_val hk 8 (by kernel_rfl) rfl rfl).trans ((hk.1 8 (by kernel_rfl)).1))) (by simp [execOp, Act.eval, e54, f54, go_sem, hx]) (sp_set2 1 3 _ _ (by decide) (by kernel_rfl) (by simp) (by simp) (by decide) (by decide) hl hs (by rfl) (by rfl) hO2 ⟨A5, c5, rfl⟩)
        refine SSteps.cons (fun a w' vs σ hS hl hs hk => ?_) ?_
        · have e51 : a.tmps.getD 51 undef = vs 10 := sk_val hk 10 (by kernel_rfl) rfl rfl
          have p51 : (fun u : Value => ∃ A c, u = .slice A (L1).length c) (vs 10) := (hk.1 10 (by kernel_rfl)).1
          have f51 := gd e51
          have e55 : a.tmps.getD 55 undef = vs 14 := sk_val hk 14 (by kernel_rfl) rfl rfl
          have p55 : (fun u : Value => ∃ A c, u = .slice A (L1).length c) (vs 14) := (hk.1 14 (by kernel_rfl)).1
          have f55 := gd e55
          obtain ⟨A1, c1, q1⟩ := p51
          obtain ⟨A2, c2, q2⟩ := p55
          have h2 : σ[2]? = some (.lines (vs 10) L1) := hs 2 (by decide)
          have h3 : σ[3]? = some (.lines (vs 14) L1) := hs 3 (by decide)
          rw [q1] at h2
          rw [q2] at h3
          have hr1 := (hS.linesRd' (sg h2)).2.2
          have hr2 := (hS.linesRd' (sg h3)).2.2
          have hcon := r14SameLines_any A1 A2 c1 c2 L1 L1 w' hr1 hr2 hLm1 hLm1 HM1.out HM1.out
          rw [show decide (L1 = L1) = true by simp] at hcon
          exact ro_call (f := 21) (wanted_yes rfl rfl rfl (show _ = _ from (sk_val hk 8 (by kernel_rfl) rfl rfl).trans ((hk.1 8 (by kernel_rfl)).1))) rfl (by simp only [List.map_toArray, List.map_cons, List.map_nil, Act.eval, e51, e55, q1, q2] <;> rfl) (fun _ _ => by kernel_rfl) (hcon.mono fun e w2 ⟨h1, h2⟩ => ⟨_, h1, sp_same (by kernel_rfl) hl hs (hS.bel h2) rfl, trivial⟩)
        refine SSteps.cons (fun a w' vs σ hS hl hs hk => ?_) ?_
        · have e56 : a.tmps.getD 56 undef = (.bool true : Value) := (sk_val hk 15 (by kernel_rfl) rfl rfl).trans ((hk.1 15 (by kernel_rfl)).1)
          have f56 := gd e56
          exact ro_pure (v := .bool false) (wanted_yes rfl rfl rfl (show _ = _ from (sk_val hk 8 (by kernel_rfl) rfl rfl).trans ((hk.1 8 (by kernel_rfl)).1))) (by simp [execOp, Act.eval, e56, f56, go_sem]) (sp_same (by kernel_rfl) hl hs hS (show (.bool false : Value) = _ from rfl)) trivial
        refine SSteps.cons (fun a w' vs σ hS hl hs hk => ?_) ?_
        · have e49 : a.tmps.getD 49 undef = (.bool false : Value) := (sk_val hk 8 (by kernel_rfl) rfl rfl).trans ((hk.1 8 (by kernel_rfl)).1)
          have f49 := gd e49
          have e57 : a.tmps.getD 57 undef = (.bool false : Value) := (sk_val hk 16 (by kernel_rfl) rfl rfl).trans ((hk.1 16 (by kernel_rfl)).1)
          have f57 := gd e57
          exact ro_pure (v := .bool false) (wanted_none rfl) (by simp [execOp, Act.eval, e49, f49, e57, f57, go_sem]) (sp_same (by kernel_rfl) hl hs hS (show (.bool false : Value) = _ from rfl)) trivial
        exact SSteps.nil
      · intro vs w' hS hv
        have q0 := (show vs 0 = (.pointer (some ⟨p, 0, none⟩) : Value) from hv 0 (by decide))
        have q1 := (show vs 1 = (.pointer (some ⟨x, 0, none⟩) : Value) from hv 1 (by decide))
        have q2 := (show vs 2 = (.slice (some ⟨ba, oa, none⟩) l.length cl : Value) from hv 2 (by decide))
        have q3 := (show vs 3 = (.int .i64 ↑k : Value) from hv 3 (by decide))
        have q4 := (show vs 4 = (.pointer (some ⟨ba, oa + k * 16, none⟩) : Value) from hv 4 (by decide))
        have q5 := (show vs 5 = (.agg (av17 a1) : Value) from hv 5 (by decide))
        have q6 := (show vs 6 = (.bool true : Value) from hv 6 (by decide))
        have q7 := (show vs 7 = (.bool false : Value) from hv 7 (by decide))
        have q8 := (show vs 8 = (.bool false : Value) from hv 8 (by decide))
        have q9 := (show vs 9 = (.pointer (some ⟨p, 0, none⟩) : Value) from hv 9 (by decide))
        have q11 := (show vs 11 = (.pointer (some ⟨x, 0, none⟩) : Value) from hv 11 (by decide))
        have q12 := (show vs 12 = (.pointer (some ⟨x, 0, none⟩) : Value) from hv 12 (by decide))
        have q13 := (show vs 13 = (.pointer (some ⟨x, 1, none⟩) : Value) from hv 13 (by decide))
        have q15 := (show vs 15 = (.bool true : Value) from hv 15 (by decide))
        have q16 := (show vs 16 = (.bool false : Value) from hv 16 (by decide))
        have q17 := (show vs 17 = (.bool false : Value) from hv 17 (by decide))
        obtain ⟨A9, c9, q9⟩ := (show ∃ A c, vs 10 = .slice A (L1).length c from hv 10 (by decide))
        obtain ⟨A8, c8, q8⟩ := (show ∃ A c, vs 14 = .slice A (L1).length c from hv 14 (by decide))
        have S2 := Lib.hid hS
        simp only [putL, Act.put, Nat.zero_add, Nat.reduceAdd, List.setIfInBounds_toArray, List.set_cons_succ, List.set_cons_zero, q0, q1, q2, q3, q4, q5, q6, q7, q8, q9, q11, q12, q13, q15, q16, q17]
        clear hS hv q0 q1 q2 q3 q4 q5 q6 q7 q8 q9 q11 q12 q13 q15 q16 q17
        simp only [q9, q8]
        have S3 := Lib.hid (close_rows S2.out)
        go_wp2_with fail
        go_roundw
        case rel => exact ⟨k + 1, L1, by omega, by go_num, ⟨HR1.out, hlen1⟩, S3.out⟩
        case measure => simp [intOf]; omega
end Go.Proofs.YtjligfbaljnhnaaDoor

/-
  EraseNil: the law returns true.
-/
set_option linter.unusedSimpArgs false
set_option linter.unusedVariables false
namespace Go.Proofs.YtjligfbaljnhnaaDoor
open Go.RowKit

set_option maxRecDepth 100000 in
set_option maxHeartbeats 4000000 in
theorem l17EraseNil_any (a : Act17) (w : World) (hT : Tabs w) : Calls Tryd.prog 3 #[.agg (av17 a)] w fun e w' => e = .returned (.bool true) ∧ Below w.heap.size w w' := by
  have HT := Lib.hid hT
  clear hT
  have S0 := Lib.hid ((objs_start w).alloc3 (c1 := av17 a) (t1 := 31) (c2 := #[.int .i64 0, .slice none 0 0]) (t2 := 35) (c3 := #[.pointer none, .pointer (some ⟨w.heap.size + 1, 0, none⟩)]) (t3 := 32))
  go_enter Tryd.func3, Tryd.ntmps3
  go_wp2_with fail
  generalize w.heap.size + 1 + 1 = b8 at S0 ⊢
  generalize w.heap.size + 1 = b7 at S0 ⊢
  generalize w.heap.size = b1 at S0 ⊢
  go_loopw [2, 4, 5, 10] (fun _ _ _ vi wr => ∃ (i : Nat) (a' : Act17), i ≤ 2 ∧ vi = .int .i64 i ∧ Objs w wr [.box b8 32 #[.pointer none, .pointer (some ⟨b7, 0, none⟩)], .box b7 35 #[.int .i64 0, .slice none 0 0], .box b1 31 (av17 a')]) (fun _ _ _ vi _ => 2 - (intOf vi).toNat)
  case atStart => exact ⟨0, a, by omega, rfl, S0.out⟩
  case round =>
    obtain ⟨i, a', hi, rfl, hS⟩ := hrel
    have S := Lib.hid hS
    clear hS
    by_cases hlt : i < 2
    case neg =>
      go_wp2_with fail
      refine (l17known_any _ (S.out.tabs HT.out)).mono ?_
      rintro e w1 ⟨rfl, hb⟩
      have HB := Lib.hid (S.out.bel hb).base
      clear hb
      go_wp2_with fail
      go_ret
      exact ⟨rfl, HB.out⟩
    obtain ⟨hx8, hf8, hz8⟩ := (S.out.box (k := 0) rfl).facts
    have hG : ∃ gp : Option Addr, Hid (#[Value.pointer none, .pointer (some ⟨b7, 0, none⟩)][i]? = some (.pointer gp)) ∧ Hid (∀ W, Objs w W [.box b8 32 #[.pointer none, .pointer (some ⟨b7, 0, none⟩)], .box b7 35 #[.int .i64 0, .slice none 0 0], .box b1 31 (av17 a')] → True) ∧ Hid (∀ W aa, Objs w W [.box b8 32 #[.pointer none, .pointer (some ⟨b7, 0, none⟩)], .box b7 35 #[.int .i64 0, .slice none 0 0], .box b1 31 (av17 aa)] → NoRows W (.pointer gp)) := by
      have : i = 0 ∨ i = 1 := by omega
      rcases this with rfl | rfl
      · exact ⟨none, Lib.hid rfl, Lib.hid (fun _ _ => trivial), Lib.hid (fun W aa h => noRows_nil W)⟩
      · exact ⟨some ⟨b7, 0, none⟩, Lib.hid rfl, Lib.hid (fun _ _ => trivial), Lib.hid (fun W aa h => noRows_zero (h.box (k := 1) rfl))⟩
    obtain ⟨gp, HV, -, HN⟩ := hG
    have hdi : decide ((i : Int) < 2) = true := by simp; omega
    have hxi := (hx8 i).trans HV.out
    clear hx8
    go_wp2_with fail
    go_loopw [2, 5] (fun _ vk wr => ∃ (k : Nat) (a' : Act17), k ≤ 3 ∧ vk = .int .i64 k ∧ Objs w wr [.box b8 32 #[.pointer none, .pointer (some ⟨b7, 0, none⟩)], .box b7 35 #[.int .i64 0, .slice none 0 0], .box b1 31 (av17 a')]) (fun _ vk _ => 3 - (intOf vk).toNat)
    case atStart => exact ⟨0, a', by omega, rfl, S.out⟩
    case round =>
      clear hxi hf8 hz8
      obtain ⟨k, a2, hk, rfl, hS⟩ := hrel
      by_cases hkt : k < 3
      case neg =>
        have S2 := Lib.hid hS
        clear hS
        go_wp2_with fail
        go_roundw
        case rel => exact ⟨i + 1, a2, by omega, by go_num, S2.out⟩
        case measure => simp [intOf]; omega
      obtain ⟨hx, hf, hz, -, -⟩ := (hS.box (k := 2) rfl).act17
      have hS2 := hS.setBox 2 (i := 0) (u := .int .i64 k) rfl
      rw [av17_set0] at hS2
      obtain ⟨a1, ha1⟩ : ∃ a1, a1 = { a2 with what := (k : Int) } := ⟨_, rfl⟩
      rw [← ha1] at hS2
      have S2 := Lib.hid (show Objs w _ [.box b8 32 #[.pointer none, .pointer (some ⟨b7, 0, none⟩)], .box b7 35 #[.int .i64 0, .slice none 0 0], .box b1 31 (av17 a1)] from hS2)
      clear hS hS2 ha1
      go_upto_region 8 with (fail)
      refine at_objsC S2.out (fun W hW => ?_)
      clear hx hf hz
      obtain ⟨hx, hf, hz, hr, hp⟩ := (hW.box (k := 2) rfl).act17
      have S3 := Lib.hid hW
      clear hW
      go_wp2_with fail
      refine (l17call_zero a1 (HN.out _ _ S3.out)).mono ?_
      rintro e w3 ⟨rfl, hb⟩
      have S4 := Lib.hid (S3.out.bel hb)
      clear hb hx hf hz hr hp
      go_wp2_with fail
      go_roundw
      case rel => exact ⟨k + 1, a1, by omega, by go_num, S4.out⟩
      case measure => simp [intOf]; omega
end Go.Proofs.YtjligfbaljnhnaaDoor
