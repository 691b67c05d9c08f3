/-
  The chapter's examples of layer 4: known() returns true.
-/
import Derived.Test.YtmfhepjmmpnkaaaDoorLaw4
import Derived.Test.YtmfhepjmmpnkaaaDoorMem2
import Derived.Test.YtmfhepjmmpnkaaaDoorGrow2
import Derived.Deep.Cut
set_option linter.unusedSimpArgs false
set_option linter.unusedVariables false
namespace Go.Proofs.YtmfhepjmmpnkaaaDoor
open Go.RowKit

theorem of_yes {r : Int} {p : Pen} {no : Int} {want : List Cell} (h : ofIs r p no want = true) (A : Option Addr) (c : Nat) (w : World) (ht : Tabs w) (ha : RdC w A c want) (hn : want.length ≤ 1000000) :
    Calls Tryd.prog 18 #[.int .i32 r, .agg (pv p), .int .i64 no, .slice A want.length c] w fun e w' => e = .returned (.bool true) ∧ Below w.heap.size w w' := h ▸ l04of_any r p no A c want w ht ha hn
theorem mark_yes {c : Cell} {r : Int} {want : Cell} {no : Int} (h : markIs c r want no = true) (w : World) (ht : Tabs w) :
    Calls Tryd.prog 21 #[.agg (cv c), .int .i32 r, .agg (cv want), .int .i64 no] w fun e w' => e = .returned (.bool true) ∧ Below w.heap.size w w' := h ▸ l04mark_any c r want no w ht
theorem row_is {cs : List Cell} {x : Bool} (h : rowOk cs = x) (A : Option Addr) (c : Nat) (w : World) (ht : Tabs w) (ha : RdC w A c cs) (hn : cs.length ≤ 1000000) :
    Calls Tryd.prog 22 #[.slice A cs.length c] w fun e w' => e = .returned (.bool x) ∧ Below w.heap.size w w' := h ▸ cellRow_any A c cs w ht ha hn
theorem valid_is {c : Cell} {x : Bool} (h : c.ok = x) (w : World) (ht : Tabs w) : Calls Tryd.prog 32 #[.agg (cv c)] w fun e w' => e = .returned (.bool x) ∧ Below w.heap.size w w' := h ▸ cellValid_any c w ht
theorem text_is {c : Cell} {s : ByteArray} (h : c.text = s) (w : World) : Calls Tryd.prog 33 #[.agg (cv c)] w fun e w' => e = .returned (.string s) ∧ Below w.heap.size w w' := h ▸ cellText_any c w
theorem texts_is {cs : List Cell} {s : ByteArray} (h : textsOf cs = s) (A : Option Addr) (c : Nat) (w : World) (ha : RdC w A c cs) (hn : cs.length ≤ 1000000) :
    Calls Tryd.prog 24 #[.slice A cs.length c] w fun e w' => e = .returned (.string s) ∧ Below w.heap.size w w' := h ▸ cellTexts_any A c cs w ha hn
theorem fixes_is {l want : List Cell} (h : decide (fixL l = want) = true) (A B : Option Addr) (c d : Nat) (w : World) (ha : RdC w A c l) (hb : RdC w B d want) (hn : l.length ≤ 100000) (hm : want.length ≤ 100000) :
    Calls Tryd.prog 70 #[.slice A l.length c, .slice B want.length d] w fun e w' => e = .returned (.bool true) ∧ Below w.heap.size w w' := h ▸ l04fixes_any A B c d l want w ha hb hn hm

def cA : Cell := ⟨97, 0, 0, 0, 1, pen0⟩
def cW : Cell := ⟨19968, 0, 0, 0, 2, pen0⟩
def cE : Cell := ⟨0, 0, 0, 0, 1, pen0⟩
def cBold : Cell := ⟨19968, 0, 0, 0, 2, penf 1⟩
def cSp : Cell := ⟨0, 0, 0, 0, 0, penf 1⟩
def cOne : Cell := ⟨97, 769, 0, 0, 1, pen0⟩
def cNo : Cell := ⟨0, 0, 0, 0, 1, penf 1⟩
def cTwo : Cell := ⟨97, 769, 770, 0, 1, pen0⟩
def cThree : Cell := ⟨97, 769, 770, 771, 1, pen0⟩
theorem blk_at {w : World} {g g' : Nat} {t : TypeId} {cs : Array Value} (e : g' = g) (h : Blk w g' t cs) : Blk w g t cs := e ▸ h
theorem blk3 (w : World) (c d e : Array Value) : Blk (((w.alloc (.cells c 30)).alloc (.cells d 30)).alloc (.cells e 30)).drew w.heap.size 30 c ∧ Blk (((w.alloc (.cells c 30)).alloc (.cells d 30)).alloc (.cells e 30)).drew (w.heap.size + 1) 30 d ∧
    Blk (((w.alloc (.cells c 30)).alloc (.cells d 30)).alloc (.cells e 30)).drew (w.heap.size + 1 + 1) 30 e ∧ Below w.heap.size w (((w.alloc (.cells c 30)).alloc (.cells d 30)).alloc (.cells e 30)).drew :=
  ⟨((Blk.new w 30 c).alloc _).alloc _, by refine blk_at ?_ ((Blk.new (w.alloc _) 30 d).alloc _); simp, by refine blk_at ?_ (Blk.new ((w.alloc _).alloc _) 30 e); simp,
    ((((Below.refl _ _).alloc (Nat.le_refl _) _).alloc (by simp) _).alloc (by simp; omega) _).drew⟩
theorem below_one {w w1 : World} {o : Obj} (h : Below (w.alloc o).heap.size (w.alloc o) w1) : Below w.heap.size w w1 := ((Below.refl _ _).alloc (Nat.le_refl _) o).trans (h.mono (by simp))

/-- The variables of the first part. -/
structure KV (w : World) (b1 b2 b3 b4 b5 b6 b7 : Nat) : Prop where
  h1 : Blk w b1 27 (pv pen0)
  h2 : Blk w b2 27 (pv (penf 1))
  h3 : Blk w b3 30 (cv cA)
  h4 : Blk w b4 30 (cv cW)
  h5 : Blk w b5 30 (cv cE)
  h6 : Blk w b6 30 (cv cBold)
  h7 : Blk w b7 30 (cv cSp)
section
variable {w w' : World} {b1 b2 b3 b4 b5 b6 b7 : Nat}
theorem KV.bel (h : KV w b1 b2 b3 b4 b5 b6 b7) (hb : Below w.heap.size w w') : KV w' b1 b2 b3 b4 b5 b6 b7 := ⟨h.h1.bel hb, h.h2.bel hb, h.h3.bel hb, h.h4.bel hb, h.h5.bel hb, h.h6.bel hb, h.h7.bel hb⟩
theorem KV.low {m : Nat} (h : KV w b1 b2 b3 b4 b5 b6 b7) (hb : Below m w w') (m1 : b1 < m) (m2 : b2 < m) (m3 : b3 < m) (m4 : b4 < m) (m5 : b5 < m) (m6 : b6 < m) (m7 : b7 < m) : KV w' b1 b2 b3 b4 b5 b6 b7 := ⟨h.h1.below hb m1, h.h2.below hb m2, h.h3.below hb m3, h.h4.below hb m4, h.h5.below hb m5, h.h6.below hb m6, h.h7.below hb m7⟩
theorem KV.facts (h : KV w b1 b2 b3 b4 b5 b6 b7) : (penAt w b1 0 = some pen0 ∧ penAt w b2 0 = some (penf 1) ∧ cellAt w b3 0 = some cA ∧ cellAt w b4 0 = some cW ∧ cellAt w b5 0 = some cE ∧ cellAt w b6 0 = some cBold ∧ cellAt w b7 0 = some cSp) ∧
    b1 < w.heap.size ∧ b2 < w.heap.size ∧ b3 < w.heap.size ∧ b4 < w.heap.size ∧ b5 < w.heap.size ∧ b6 < w.heap.size ∧ b7 < w.heap.size :=
  ⟨⟨h.h1.penAt, h.h2.penAt, h.h3.cellAt, h.h4.cellAt, h.h5.cellAt, h.h6.cellAt, h.h7.cellAt⟩, h.h1.lt, h.h2.lt, h.h3.lt, h.h4.lt, h.h5.lt, h.h6.lt, h.h7.lt⟩
end

set_option maxRecDepth 100000 in
set_option maxHeartbeats 8000000 in
theorem l04known_any (w : World) (ht : Tabs w) : Calls Tryd.prog 19 #[] w fun e w' => e = .returned (.bool true) ∧ Below w.heap.size w w' := by
  have HT := Lib.hid ht
  clear ht
  go_enter Tryd.func19, Tryd.ntmps19
  go_upto_region 6 with (fail)
  go_cut [1, 2, 3, 4, 5, 6, 7] from 12 (fun s1 s2 s3 s4 s5 s6 s7 wc => ∃ b1 b2 b3 b4 b5 b6 b7 : Nat, s1 = .pointer (some ⟨b1, 0, none⟩) ∧ s2 = .pointer (some ⟨b2, 0, none⟩) ∧ s3 = .pointer (some ⟨b3, 0, none⟩) ∧ s4 = .pointer (some ⟨b4, 0, none⟩) ∧ s5 = .pointer (some ⟨b5, 0, none⟩) ∧ s6 = .pointer (some ⟨b6, 0, none⟩) ∧ s7 = .pointer (some ⟨b7, 0, none⟩) ∧ KV wc b1 b2 b3 b4 b5 b6 b7 ∧ Below w.heap.size w wc)
  case first =>
    go_wp2_with fail
    go_meet
    case rel =>
      refine ⟨_, _, _, _, _, _, _, rfl, rfl, rfl, rfl, rfl, rfl, rfl, ⟨?_, ?_, ?_, ?_, ?_, ?_, ?_⟩, ?_⟩
      · exact ((((((Blk.new _ _ _).alloc _).alloc _).alloc _).alloc _).alloc _).alloc _
      · refine blk_at ?_ ((((((Blk.new _ _ _).alloc _).alloc _).alloc _).alloc _).alloc _)
        simp
      · refine blk_at ?_ (((((Blk.new _ _ _).alloc _).alloc _).alloc _).alloc _)
        simp
      · refine blk_at ?_ ((((Blk.new _ _ _).alloc _).alloc _).alloc _)
        simp
      · refine blk_at ?_ (((Blk.new _ _ _).alloc _).alloc _)
        simp
      · refine blk_at ?_ (((Blk.new _ _ _).alloc _))
        simp
      · refine blk_at ?_ ((Blk.new _ _ _))
        simp
      · exact (((((((Below.refl _ _).alloc (Nat.le_refl _) _).alloc (by simp) _).alloc (by simp; omega) _).alloc (by simp; omega) _).alloc (by simp; omega) _).alloc (by simp; omega) _).alloc (by simp; omega) _
  case rest =>
    obtain ⟨b1, b2, b3, b4, b5, b6, b7, rfl, rfl, rfl, rfl, rfl, rfl, rfl, hk, hb⟩ := hcut
    have HK := Lib.hid hk
    have HB := Lib.hid hb
    obtain ⟨⟨f1, f2, f3, f4, f5, f6, f7⟩, l1, l2, l3, l4, l5, l6, l7⟩ := hk.facts
    clear hk hb

    go_wp2_with (first | (refine wpList_bs1 rfl _ rfl _ rfl ?_) | (refine wpList_bs2 rfl _ _ rfl _ _ rfl rfl ?_) | (refine wpList_bs3 rfl _ _ _ rfl _ _ _ rfl rfl rfl ?_) | (refine wpList_bs4 rfl _ _ _ _ rfl _ _ _ _ rfl rfl rfl rfl ?_))
    refine (of_yes (want := [cA]) (by decide +kernel) _ _ _ ((HT.out.bel HB.out).bel ((Below.refl _ _).alloc (Nat.le_refl _) _)) (RdC.lit _ _) (by decide)).mono ?_
    rintro e w1 ⟨rfl, hb⟩
    have hb' := below_one hb
    have HK := Lib.hid (HK.out.bel hb')
    have HB := Lib.hid (HB.out.trans (hb'.mono HB.out.size))
    clear f1 f2 f3 f4 f5 f6 f7 l1 l2 l3 l4 l5 l6 l7
    clear hb hb'
    obtain ⟨⟨f1, f2, f3, f4, f5, f6, f7⟩, l1, l2, l3, l4, l5, l6, l7⟩ := HK.out.facts
    go_wp2_with (first | (refine wpList_bs1 rfl _ rfl _ rfl ?_) | (refine wpList_bs2 rfl _ _ rfl _ _ rfl rfl ?_) | (refine wpList_bs3 rfl _ _ _ rfl _ _ _ rfl rfl rfl ?_) | (refine wpList_bs4 rfl _ _ _ _ rfl _ _ _ _ rfl rfl rfl rfl ?_))
    refine (of_yes (want := [cBold, cSp]) (by decide +kernel) _ _ _ ((HT.out.bel HB.out).bel ((Below.refl _ _).alloc (Nat.le_refl _) _)) (RdC.lit _ _) (by decide)).mono ?_
    rintro e w2 ⟨rfl, hb⟩
    have hb' := below_one hb
    have HK := Lib.hid (HK.out.bel hb')
    have HB := Lib.hid (HB.out.trans (hb'.mono HB.out.size))
    clear f1 f2 f3 f4 f5 f6 f7 l1 l2 l3 l4 l5 l6 l7
    clear hb hb'
    obtain ⟨⟨f1, f2, f3, f4, f5, f6, f7⟩, l1, l2, l3, l4, l5, l6, l7⟩ := HK.out.facts
    go_wp2_with (first | (refine wpList_bs1 rfl _ rfl _ rfl ?_) | (refine wpList_bs2 rfl _ _ rfl _ _ rfl rfl ?_) | (refine wpList_bs3 rfl _ _ _ rfl _ _ _ rfl rfl rfl ?_) | (refine wpList_bs4 rfl _ _ _ _ rfl _ _ _ _ rfl rfl rfl rfl ?_))
    refine (of_yes (want := []) (by decide +kernel) _ _ _ (HT.out.bel HB.out) (RdC.nil _) (by decide)).mono ?_
    rintro e w3 ⟨rfl, hb⟩
    have hb' := hb
    have HK := Lib.hid (HK.out.bel hb')
    have HB := Lib.hid (HB.out.trans (hb'.mono HB.out.size))
    clear f1 f2 f3 f4 f5 f6 f7 l1 l2 l3 l4 l5 l6 l7
    clear hb hb'
    obtain ⟨⟨f1, f2, f3, f4, f5, f6, f7⟩, l1, l2, l3, l4, l5, l6, l7⟩ := HK.out.facts
    go_wp2_with (first | (refine wpList_bs1 rfl _ rfl _ rfl ?_) | (refine wpList_bs2 rfl _ _ rfl _ _ rfl rfl ?_) | (refine wpList_bs3 rfl _ _ _ rfl _ _ _ rfl rfl rfl ?_) | (refine wpList_bs4 rfl _ _ _ _ rfl _ _ _ _ rfl rfl rfl rfl ?_))
    refine (of_yes (want := []) (by decide +kernel) _ _ _ (HT.out.bel HB.out) (RdC.nil _) (by decide)).mono ?_
    rintro e w4 ⟨rfl, hb⟩
    have hb' := hb
    have HK := Lib.hid (HK.out.bel hb')
    have HB := Lib.hid (HB.out.trans (hb'.mono HB.out.size))
    clear f1 f2 f3 f4 f5 f6 f7 l1 l2 l3 l4 l5 l6 l7
    clear hb hb'
    obtain ⟨⟨f1, f2, f3, f4, f5, f6, f7⟩, l1, l2, l3, l4, l5, l6, l7⟩ := HK.out.facts
    go_upto_region 9 with (fail)
    go_cut [8, 9, 10] from 12 (fun s8 s9 s10 wd => ∃ b8 b9 b10 : Nat, s8 = .pointer (some ⟨b8, 0, none⟩) ∧ s9 = .pointer (some ⟨b9, 0, none⟩) ∧ s10 = .pointer (some ⟨b10, 0, none⟩) ∧ Blk wd b8 30 (cv cA) ∧ Blk wd b9 30 (cv cA) ∧ Blk wd b10 30 (cv cA) ∧ b8 ≠ b9 ∧ b8 ≠ b10 ∧ b9 ≠ b10 ∧ (∃ m, b1 < m ∧ b2 < m ∧ b3 < m ∧ b4 < m ∧ b5 < m ∧ b6 < m ∧ b7 < m ∧ w.heap.size ≤ m ∧ m ≤ b8 ∧ m ≤ b9 ∧ m ≤ b10) ∧ KV wd b1 b2 b3 b4 b5 b6 b7 ∧ Below w.heap.size w wd)
    case first =>
      have l31 : b3 < w4.heap.size + 1 := by omega
      have l32 : b3 < w4.heap.size + 1 + 1 := by omega
      have l33 : b3 < w4.heap.size + 1 + 1 + 1 := by omega
      have m1 : w4.heap.size < w4.heap.size + 1 + 1 := by omega
      have m2 : w4.heap.size < w4.heap.size + 1 + 1 + 1 := by omega
      have m3 : w4.heap.size + 1 < w4.heap.size + 1 + 1 + 1 := by omega
      go_region
      all_goals
        go_wp2_with fail
        go_meet
        case rel =>
          obtain ⟨k0, k1, k2, kb⟩ := blk3 w4 (cv cA) (cv cA) (cv cA)
          have kk := HK.out.bel kb
          refine ⟨_, _, _, rfl, rfl, rfl, ?_, ?_, ?_, ?_, ?_, ?_, ⟨w4.heap.size, l1, l2, l3, l4, l5, l6, l7, HB.out.size, ?_, ?_, ?_⟩, kk, HB.out.trans (kb.mono HB.out.size)⟩
          all_goals first | exact k0 | exact k1 | exact k2 | omega
    case rest =>
      clear f1 f2 f3 f4 f5 f6 f7 l1 l2 l3 l4 l5 l6 l7
      obtain ⟨b8, b9, b10, rfl, rfl, rfl, k8, k9, k10, n89, n810, n910, ⟨m, m1, m2, m3, m4, m5, m6, m7, m0, m8, m9, m10⟩, hk, hb⟩ := hcut
      have HK := Lib.hid hk
      have HB := Lib.hid hb
      have K8 := Lib.hid k8
      have K9 := Lib.hid k9
      have K10 := Lib.hid k10
      obtain ⟨x8, y8, z8, -, -⟩ := k8.box
      obtain ⟨x9, y9, z9, -, -⟩ := k9.box
      obtain ⟨x10, y10, z10, -, -⟩ := k10.box
      clear hk hb k8 k9 k10
      go_upto_region 10 with (fail)
      go_cut [] from 12 (fun we => Blk we b8 30 (cv cOne) ∧ Blk we b9 30 (cv cTwo) ∧ Blk we b10 30 (cv cThree) ∧ KV we b1 b2 b3 b4 b5 b6 b7 ∧ Below w.heap.size w we)
      case first =>
        go_wp2_with fail
        go_meet
        case rel =>
          have e8 := ((((((((K8.out.set_ 1 (.int .i32 769)).set_ 2 (.int .i32 0)).set_ 3 (.int .i32 0)).far (p := ⟨b9, 1, none⟩) n89 (.int .i32 769)).far (p := ⟨b9, 2, none⟩) n89 (.int .i32 770)).far (p := ⟨b9, 3, none⟩) n89 (.int .i32 0)).far (p := ⟨b10, 1, none⟩) n810 (.int .i32 769)).far (p := ⟨b10, 2, none⟩) n810 (.int .i32 770)).far (p := ⟨b10, 3, none⟩) n810 (.int .i32 771)
          have e9 := ((((((((K9.out.far (p := ⟨b8, 1, none⟩) (Ne.symm n89) (.int .i32 769)).far (p := ⟨b8, 2, none⟩) (Ne.symm n89) (.int .i32 0)).far (p := ⟨b8, 3, none⟩) (Ne.symm n89) (.int .i32 0)).set_ 1 (.int .i32 769)).set_ 2 (.int .i32 770)).set_ 3 (.int .i32 0)).far (p := ⟨b10, 1, none⟩) n910 (.int .i32 769)).far (p := ⟨b10, 2, none⟩) n910 (.int .i32 770)).far (p := ⟨b10, 3, none⟩) n910 (.int .i32 771)
          have e10 := ((((((((K10.out.far (p := ⟨b8, 1, none⟩) (Ne.symm n810) (.int .i32 769)).far (p := ⟨b8, 2, none⟩) (Ne.symm n810) (.int .i32 0)).far (p := ⟨b8, 3, none⟩) (Ne.symm n810) (.int .i32 0)).far (p := ⟨b9, 1, none⟩) (Ne.symm n910) (.int .i32 769)).far (p := ⟨b9, 2, none⟩) (Ne.symm n910) (.int .i32 770)).far (p := ⟨b9, 3, none⟩) (Ne.symm n910) (.int .i32 0)).set_ 1 (.int .i32 769)).set_ 2 (.int .i32 770)).set_ 3 (.int .i32 771)
          rw [cv_set1, cv_set2, cv_set3] at e8 e9 e10
          have ebel : Below m _ _ := ((((((((((Below.refl m wc).setCell (p := ⟨b8, 1, none⟩) m8 (.int .i32 769)).setCell (p := ⟨b8, 2, none⟩) m8 (.int .i32 0)).setCell (p := ⟨b8, 3, none⟩) m8 (.int .i32 0)).setCell (p := ⟨b9, 1, none⟩) m9 (.int .i32 769)).setCell (p := ⟨b9, 2, none⟩) m9 (.int .i32 770)).setCell (p := ⟨b9, 3, none⟩) m9 (.int .i32 0)).setCell (p := ⟨b10, 1, none⟩) m10 (.int .i32 769)).setCell (p := ⟨b10, 2, none⟩) m10 (.int .i32 770)).setCell (p := ⟨b10, 3, none⟩) m10 (.int .i32 771))
          exact ⟨e8, e9, e10, HK.out.low ebel m1 m2 m3 m4 m5 m6 m7, HB.out.trans (ebel.mono m0)⟩
      case rest =>
        clear K8 K9 K10 HK HB x8 y8 z8 x9 y9 z9 x10 y10 z10 n89 n810 n910 m1 m2 m3 m4 m5 m6 m7 m0 m8 m9 m10
        obtain ⟨k8, k9, k10, hk, hb⟩ := hcut
        have HK := Lib.hid hk
        have HB := Lib.hid hb
        have K8 := Lib.hid k8
        have K9 := Lib.hid k9
        have K10 := Lib.hid k10
        clear hk hb k8 k9 k10
        obtain ⟨⟨f1, f2, f3, f4, f5, f6, f7⟩, l1, l2, l3, l4, l5, l6, l7⟩ := HK.out.facts
        have f8 := K8.out.cellAt
        have l8 := K8.out.lt
        have f9 := K9.out.cellAt
        have l9 := K9.out.lt
        have f10 := K10.out.cellAt
        have l10 := K10.out.lt
        go_wp2_with (first | (refine wpList_bs1 rfl _ rfl _ rfl ?_) | (refine wpList_bs2 rfl _ _ rfl _ _ rfl rfl ?_) | (refine wpList_bs3 rfl _ _ _ rfl _ _ _ rfl rfl rfl ?_) | (refine wpList_bs4 rfl _ _ _ _ rfl _ _ _ _ rfl rfl rfl rfl ?_))
        refine (mark_yes (by decide +kernel) _ (HT.out.bel HB.out)).mono ?_
        rintro e w5 ⟨rfl, hb⟩
        have hb' := hb
        have HK := Lib.hid (HK.out.bel hb')
        have K8 := Lib.hid (K8.out.bel hb')
        have K9 := Lib.hid (K9.out.bel hb')
        have K10 := Lib.hid (K10.out.bel hb')
        have HB := Lib.hid (HB.out.trans (hb'.mono HB.out.size))
        clear f1 f2 f3 f4 f5 f6 f7 l1 l2 l3 l4 l5 l6 l7 f8 l8 f9 l9 f10 l10
        clear hb hb'
        obtain ⟨⟨f1, f2, f3, f4, f5, f6, f7⟩, l1, l2, l3, l4, l5, l6, l7⟩ := HK.out.facts
        have f8 := K8.out.cellAt
        have l8 := K8.out.lt
        have f9 := K9.out.cellAt
        have l9 := K9.out.lt
        have f10 := K10.out.cellAt
        have l10 := K10.out.lt
        go_wp2_with (first | (refine wpList_bs1 rfl _ rfl _ rfl ?_) | (refine wpList_bs2 rfl _ _ rfl _ _ rfl rfl ?_) | (refine wpList_bs3 rfl _ _ _ rfl _ _ _ rfl rfl rfl ?_) | (refine wpList_bs4 rfl _ _ _ _ rfl _ _ _ _ rfl rfl rfl rfl ?_))
        refine (mark_yes (by decide +kernel) _ (HT.out.bel HB.out)).mono ?_
        rintro e w6 ⟨rfl, hb⟩
        have hb' := hb
        have HK := Lib.hid (HK.out.bel hb')
        have K8 := Lib.hid (K8.out.bel hb')
        have K9 := Lib.hid (K9.out.bel hb')
        have K10 := Lib.hid (K10.out.bel hb')
        have HB := Lib.hid (HB.out.trans (hb'.mono HB.out.size))
        clear f1 f2 f3 f4 f5 f6 f7 l1 l2 l3 l4 l5 l6 l7 f8 l8 f9 l9 f10 l10
        clear hb hb'
        obtain ⟨⟨f1, f2, f3, f4, f5, f6, f7⟩, l1, l2, l3, l4, l5, l6, l7⟩ := HK.out.facts
        have f8 := K8.out.cellAt
        have l8 := K8.out.lt
        have f9 := K9.out.cellAt
        have l9 := K9.out.lt
        have f10 := K10.out.cellAt
        have l10 := K10.out.lt
        go_wp2_with (first | (refine wpList_bs1 rfl _ rfl _ rfl ?_) | (refine wpList_bs2 rfl _ _ rfl _ _ rfl rfl ?_) | (refine wpList_bs3 rfl _ _ _ rfl _ _ _ rfl rfl rfl ?_) | (refine wpList_bs4 rfl _ _ _ _ rfl _ _ _ _ rfl rfl rfl rfl ?_))
        refine (mark_yes (by decide +kernel) _ (HT.out.bel HB.out)).mono ?_
        rintro e w7 ⟨rfl, hb⟩
        have hb' := hb
        have HK := Lib.hid (HK.out.bel hb')
        have K8 := Lib.hid (K8.out.bel hb')
        have K9 := Lib.hid (K9.out.bel hb')
        have K10 := Lib.hid (K10.out.bel hb')
        have HB := Lib.hid (HB.out.trans (hb'.mono HB.out.size))
        clear f1 f2 f3 f4 f5 f6 f7 l1 l2 l3 l4 l5 l6 l7 f8 l8 f9 l9 f10 l10
        clear hb hb'
        obtain ⟨⟨f1, f2, f3, f4, f5, f6, f7⟩, l1, l2, l3, l4, l5, l6, l7⟩ := HK.out.facts
        have f8 := K8.out.cellAt
        have l8 := K8.out.lt
        have f9 := K9.out.cellAt
        have l9 := K9.out.lt
        have f10 := K10.out.cellAt
        have l10 := K10.out.lt
        go_wp2_with (first | (refine wpList_bs1 rfl _ rfl _ rfl ?_) | (refine wpList_bs2 rfl _ _ rfl _ _ rfl rfl ?_) | (refine wpList_bs3 rfl _ _ _ rfl _ _ _ rfl rfl rfl ?_) | (refine wpList_bs4 rfl _ _ _ _ rfl _ _ _ _ rfl rfl rfl rfl ?_))
        refine (mark_yes (by decide +kernel) _ (HT.out.bel HB.out)).mono ?_
        rintro e w8 ⟨rfl, hb⟩
        have hb' := hb
        have HK := Lib.hid (HK.out.bel hb')
        have K8 := Lib.hid (K8.out.bel hb')
        have K9 := Lib.hid (K9.out.bel hb')
        have K10 := Lib.hid (K10.out.bel hb')
        have HB := Lib.hid (HB.out.trans (hb'.mono HB.out.size))
        clear f1 f2 f3 f4 f5 f6 f7 l1 l2 l3 l4 l5 l6 l7 f8 l8 f9 l9 f10 l10
        clear hb hb'
        obtain ⟨⟨f1, f2, f3, f4, f5, f6, f7⟩, l1, l2, l3, l4, l5, l6, l7⟩ := HK.out.facts
        have f8 := K8.out.cellAt
        have l8 := K8.out.lt
        have f9 := K9.out.cellAt
        have l9 := K9.out.lt
        have f10 := K10.out.cellAt
        have l10 := K10.out.lt
        go_wp2_with (first | (refine wpList_bs1 rfl _ rfl _ rfl ?_) | (refine wpList_bs2 rfl _ _ rfl _ _ rfl rfl ?_) | (refine wpList_bs3 rfl _ _ _ rfl _ _ _ rfl rfl rfl ?_) | (refine wpList_bs4 rfl _ _ _ _ rfl _ _ _ _ rfl rfl rfl rfl ?_))
        refine (mark_yes (by decide +kernel) _ (HT.out.bel HB.out)).mono ?_
        rintro e w9 ⟨rfl, hb⟩
        have hb' := hb
        have HK := Lib.hid (HK.out.bel hb')
        have K8 := Lib.hid (K8.out.bel hb')
        have K9 := Lib.hid (K9.out.bel hb')
        have K10 := Lib.hid (K10.out.bel hb')
        have HB := Lib.hid (HB.out.trans (hb'.mono HB.out.size))
        clear f1 f2 f3 f4 f5 f6 f7 l1 l2 l3 l4 l5 l6 l7 f8 l8 f9 l9 f10 l10
        clear hb hb'
        obtain ⟨⟨f1, f2, f3, f4, f5, f6, f7⟩, l1, l2, l3, l4, l5, l6, l7⟩ := HK.out.facts
        have f8 := K8.out.cellAt
        have l8 := K8.out.lt
        have f9 := K9.out.cellAt
        have l9 := K9.out.lt
        have f10 := K10.out.cellAt
        have l10 := K10.out.lt
        go_wp2_with (first | (refine wpList_bs1 rfl _ rfl _ rfl ?_) | (refine wpList_bs2 rfl _ _ rfl _ _ rfl rfl ?_) | (refine wpList_bs3 rfl _ _ _ rfl _ _ _ rfl rfl rfl ?_) | (refine wpList_bs4 rfl _ _ _ _ rfl _ _ _ _ rfl rfl rfl rfl ?_))
        refine (mark_yes (by decide +kernel) _ (HT.out.bel HB.out)).mono ?_
        rintro e w10 ⟨rfl, hb⟩
        have hb' := hb
        have HK := Lib.hid (HK.out.bel hb')
        have K8 := Lib.hid (K8.out.bel hb')
        have K9 := Lib.hid (K9.out.bel hb')
        have K10 := Lib.hid (K10.out.bel hb')
        have HB := Lib.hid (HB.out.trans (hb'.mono HB.out.size))
        clear f1 f2 f3 f4 f5 f6 f7 l1 l2 l3 l4 l5 l6 l7 f8 l8 f9 l9 f10 l10
        clear hb hb'
        obtain ⟨⟨f1, f2, f3, f4, f5, f6, f7⟩, l1, l2, l3, l4, l5, l6, l7⟩ := HK.out.facts
        have f8 := K8.out.cellAt
        have l8 := K8.out.lt
        have f9 := K9.out.cellAt
        have l9 := K9.out.lt
        have f10 := K10.out.cellAt
        have l10 := K10.out.lt
        go_wp2_with (first | (refine wpList_bs1 rfl _ rfl _ rfl ?_) | (refine wpList_bs2 rfl _ _ rfl _ _ rfl rfl ?_) | (refine wpList_bs3 rfl _ _ _ rfl _ _ _ rfl rfl rfl ?_) | (refine wpList_bs4 rfl _ _ _ _ rfl _ _ _ _ rfl rfl rfl rfl ?_))
        refine (valid_is (x := false) (by decide +kernel) _ (HT.out.bel HB.out)).mono ?_
        rintro e w11 ⟨rfl, hb⟩
        have hb' := hb
        have HK := Lib.hid (HK.out.bel hb')
        have K8 := Lib.hid (K8.out.bel hb')
        have K9 := Lib.hid (K9.out.bel hb')
        have K10 := Lib.hid (K10.out.bel hb')
        have HB := Lib.hid (HB.out.trans (hb'.mono HB.out.size))
        clear f1 f2 f3 f4 f5 f6 f7 l1 l2 l3 l4 l5 l6 l7 f8 l8 f9 l9 f10 l10
        clear hb hb'
        obtain ⟨⟨f1, f2, f3, f4, f5, f6, f7⟩, l1, l2, l3, l4, l5, l6, l7⟩ := HK.out.facts
        have f8 := K8.out.cellAt
        have l8 := K8.out.lt
        have f9 := K9.out.cellAt
        have l9 := K9.out.lt
        have f10 := K10.out.cellAt
        have l10 := K10.out.lt
        go_wp2_with (first | (refine wpList_bs1 rfl _ rfl _ rfl ?_) | (refine wpList_bs2 rfl _ _ rfl _ _ rfl rfl ?_) | (refine wpList_bs3 rfl _ _ _ rfl _ _ _ rfl rfl rfl ?_) | (refine wpList_bs4 rfl _ _ _ _ rfl _ _ _ _ rfl rfl rfl rfl ?_))
        refine (valid_is (x := false) (by decide +kernel) _ (HT.out.bel HB.out)).mono ?_
        rintro e w12 ⟨rfl, hb⟩
        have hb' := hb
        have HK := Lib.hid (HK.out.bel hb')
        have K8 := Lib.hid (K8.out.bel hb')
        have K9 := Lib.hid (K9.out.bel hb')
        have K10 := Lib.hid (K10.out.bel hb')
        have HB := Lib.hid (HB.out.trans (hb'.mono HB.out.size))
        clear f1 f2 f3 f4 f5 f6 f7 l1 l2 l3 l4 l5 l6 l7 f8 l8 f9 l9 f10 l10
        clear hb hb'
        obtain ⟨⟨f1, f2, f3, f4, f5, f6, f7⟩, l1, l2, l3, l4, l5, l6, l7⟩ := HK.out.facts
        have f8 := K8.out.cellAt
        have l8 := K8.out.lt
        have f9 := K9.out.cellAt
        have l9 := K9.out.lt
        have f10 := K10.out.cellAt
        have l10 := K10.out.lt
        go_wp2_with (first | (refine wpList_bs1 rfl _ rfl _ rfl ?_) | (refine wpList_bs2 rfl _ _ rfl _ _ rfl rfl ?_) | (refine wpList_bs3 rfl _ _ _ rfl _ _ _ rfl rfl rfl ?_) | (refine wpList_bs4 rfl _ _ _ _ rfl _ _ _ _ rfl rfl rfl rfl ?_))
        refine (valid_is (x := false) (by decide +kernel) _ (HT.out.bel HB.out)).mono ?_
        rintro e w13 ⟨rfl, hb⟩
        have hb' := hb
        have HK := Lib.hid (HK.out.bel hb')
        have K8 := Lib.hid (K8.out.bel hb')
        have K9 := Lib.hid (K9.out.bel hb')
        have K10 := Lib.hid (K10.out.bel hb')
        have HB := Lib.hid (HB.out.trans (hb'.mono HB.out.size))
        clear f1 f2 f3 f4 f5 f6 f7 l1 l2 l3 l4 l5 l6 l7 f8 l8 f9 l9 f10 l10
        clear hb hb'
        obtain ⟨⟨f1, f2, f3, f4, f5, f6, f7⟩, l1, l2, l3, l4, l5, l6, l7⟩ := HK.out.facts
        have f8 := K8.out.cellAt
        have l8 := K8.out.lt
        have f9 := K9.out.cellAt
        have l9 := K9.out.lt
        have f10 := K10.out.cellAt
        have l10 := K10.out.lt
        go_wp2_with (first | (refine wpList_bs1 rfl _ rfl _ rfl ?_) | (refine wpList_bs2 rfl _ _ rfl _ _ rfl rfl ?_) | (refine wpList_bs3 rfl _ _ _ rfl _ _ _ rfl rfl rfl ?_) | (refine wpList_bs4 rfl _ _ _ _ rfl _ _ _ _ rfl rfl rfl rfl ?_))
        refine (valid_is (x := true) (by decide +kernel) _ (HT.out.bel HB.out)).mono ?_
        rintro e w14 ⟨rfl, hb⟩
        have hb' := hb
        have HK := Lib.hid (HK.out.bel hb')
        have K8 := Lib.hid (K8.out.bel hb')
        have K9 := Lib.hid (K9.out.bel hb')
        have K10 := Lib.hid (K10.out.bel hb')
        have HB := Lib.hid (HB.out.trans (hb'.mono HB.out.size))
        clear f1 f2 f3 f4 f5 f6 f7 l1 l2 l3 l4 l5 l6 l7 f8 l8 f9 l9 f10 l10
        clear hb hb'
        obtain ⟨⟨f1, f2, f3, f4, f5, f6, f7⟩, l1, l2, l3, l4, l5, l6, l7⟩ := HK.out.facts
        have f8 := K8.out.cellAt
        have l8 := K8.out.lt
        have f9 := K9.out.cellAt
        have l9 := K9.out.lt
        have f10 := K10.out.cellAt
        have l10 := K10.out.lt
        go_wp2_with (first | (refine wpList_bs1 rfl _ rfl _ rfl ?_) | (refine wpList_bs2 rfl _ _ rfl _ _ rfl rfl ?_) | (refine wpList_bs3 rfl _ _ _ rfl _ _ _ rfl rfl rfl ?_) | (refine wpList_bs4 rfl _ _ _ _ rfl _ _ _ _ rfl rfl rfl rfl ?_))
        refine (l04list_any _ _ _ _).mono ?_
        rintro e w' ⟨rfl, rfl⟩
        go_wp2_with (first | (refine wpList_bs1 rfl _ rfl _ rfl ?_) | (refine wpList_bs2 rfl _ _ rfl _ _ rfl rfl ?_) | (refine wpList_bs3 rfl _ _ _ rfl _ _ _ rfl rfl rfl ?_) | (refine wpList_bs4 rfl _ _ _ _ rfl _ _ _ _ rfl rfl rfl rfl ?_))
        refine (row_is (cs := [cell0]) (x := false) (by decide +kernel) _ _ _ ((HT.out.bel HB.out).bel ((Below.refl _ _).alloc (Nat.le_refl _) _)) (RdC.lit _ _) (by decide)).mono ?_
        rintro e w15 ⟨rfl, hb⟩
        have hb' := below_one hb
        have HK := Lib.hid (HK.out.bel hb')
        have K8 := Lib.hid (K8.out.bel hb')
        have K9 := Lib.hid (K9.out.bel hb')
        have K10 := Lib.hid (K10.out.bel hb')
        have HB := Lib.hid (HB.out.trans (hb'.mono HB.out.size))
        clear f1 f2 f3 f4 f5 f6 f7 l1 l2 l3 l4 l5 l6 l7 f8 l8 f9 l9 f10 l10
        clear hb hb'
        obtain ⟨⟨f1, f2, f3, f4, f5, f6, f7⟩, l1, l2, l3, l4, l5, l6, l7⟩ := HK.out.facts
        have f8 := K8.out.cellAt
        have l8 := K8.out.lt
        have f9 := K9.out.cellAt
        have l9 := K9.out.lt
        have f10 := K10.out.cellAt
        have l10 := K10.out.lt
        go_wp2_with (first | (refine wpList_bs1 rfl _ rfl _ rfl ?_) | (refine wpList_bs2 rfl _ _ rfl _ _ rfl rfl ?_) | (refine wpList_bs3 rfl _ _ _ rfl _ _ _ rfl rfl rfl ?_) | (refine wpList_bs4 rfl _ _ _ _ rfl _ _ _ _ rfl rfl rfl rfl ?_))
        refine (l04list_any _ _ _ _).mono ?_
        rintro e w' ⟨rfl, rfl⟩
        go_wp2_with (first | (refine wpList_bs1 rfl _ rfl _ rfl ?_) | (refine wpList_bs2 rfl _ _ rfl _ _ rfl rfl ?_) | (refine wpList_bs3 rfl _ _ _ rfl _ _ _ rfl rfl rfl ?_) | (refine wpList_bs4 rfl _ _ _ _ rfl _ _ _ _ rfl rfl rfl rfl ?_))
        refine (row_is (cs := [cW, cSp]) (x := false) (by decide +kernel) _ _ _ ((HT.out.bel HB.out).bel ((Below.refl _ _).alloc (Nat.le_refl _) _)) (RdC.lit _ _) (by decide)).mono ?_
        rintro e w16 ⟨rfl, hb⟩
        have hb' := below_one hb
        have HK := Lib.hid (HK.out.bel hb')
        have K8 := Lib.hid (K8.out.bel hb')
        have K9 := Lib.hid (K9.out.bel hb')
        have K10 := Lib.hid (K10.out.bel hb')
        have HB := Lib.hid (HB.out.trans (hb'.mono HB.out.size))
        clear f1 f2 f3 f4 f5 f6 f7 l1 l2 l3 l4 l5 l6 l7 f8 l8 f9 l9 f10 l10
        clear hb hb'
        obtain ⟨⟨f1, f2, f3, f4, f5, f6, f7⟩, l1, l2, l3, l4, l5, l6, l7⟩ := HK.out.facts
        have f8 := K8.out.cellAt
        have l8 := K8.out.lt
        have f9 := K9.out.cellAt
        have l9 := K9.out.lt
        have f10 := K10.out.cellAt
        have l10 := K10.out.lt
        go_wp2_with (first | (refine wpList_bs1 rfl _ rfl _ rfl ?_) | (refine wpList_bs2 rfl _ _ rfl _ _ rfl rfl ?_) | (refine wpList_bs3 rfl _ _ _ rfl _ _ _ rfl rfl rfl ?_) | (refine wpList_bs4 rfl _ _ _ _ rfl _ _ _ _ rfl rfl rfl rfl ?_))
        refine (l04list_any _ _ _ _).mono ?_
        rintro e w' ⟨rfl, rfl⟩
        go_wp2_with (first | (refine wpList_bs1 rfl _ rfl _ rfl ?_) | (refine wpList_bs2 rfl _ _ rfl _ _ rfl rfl ?_) | (refine wpList_bs3 rfl _ _ _ rfl _ _ _ rfl rfl rfl ?_) | (refine wpList_bs4 rfl _ _ _ _ rfl _ _ _ _ rfl rfl rfl rfl ?_))
        refine (row_is (cs := [cW]) (x := false) (by decide +kernel) _ _ _ ((HT.out.bel HB.out).bel ((Below.refl _ _).alloc (Nat.le_refl _) _)) (RdC.lit _ _) (by decide)).mono ?_
        rintro e w17 ⟨rfl, hb⟩
        have hb' := below_one hb
        have HK := Lib.hid (HK.out.bel hb')
        have K8 := Lib.hid (K8.out.bel hb')
        have K9 := Lib.hid (K9.out.bel hb')
        have K10 := Lib.hid (K10.out.bel hb')
        have HB := Lib.hid (HB.out.trans (hb'.mono HB.out.size))
        clear f1 f2 f3 f4 f5 f6 f7 l1 l2 l3 l4 l5 l6 l7 f8 l8 f9 l9 f10 l10
        clear hb hb'
        obtain ⟨⟨f1, f2, f3, f4, f5, f6, f7⟩, l1, l2, l3, l4, l5, l6, l7⟩ := HK.out.facts
        have f8 := K8.out.cellAt
        have l8 := K8.out.lt
        have f9 := K9.out.cellAt
        have l9 := K9.out.lt
        have f10 := K10.out.cellAt
        have l10 := K10.out.lt
        go_wp2_with (first | (refine wpList_bs1 rfl _ rfl _ rfl ?_) | (refine wpList_bs2 rfl _ _ rfl _ _ rfl rfl ?_) | (refine wpList_bs3 rfl _ _ _ rfl _ _ _ rfl rfl rfl ?_) | (refine wpList_bs4 rfl _ _ _ _ rfl _ _ _ _ rfl rfl rfl rfl ?_))
        refine (row_is (cs := []) (x := true) (by decide +kernel) _ _ _ (HT.out.bel HB.out) (RdC.nil _) (by decide)).mono ?_
        rintro e w18 ⟨rfl, hb⟩
        have hb' := hb
        have HK := Lib.hid (HK.out.bel hb')
        have K8 := Lib.hid (K8.out.bel hb')
        have K9 := Lib.hid (K9.out.bel hb')
        have K10 := Lib.hid (K10.out.bel hb')
        have HB := Lib.hid (HB.out.trans (hb'.mono HB.out.size))
        clear f1 f2 f3 f4 f5 f6 f7 l1 l2 l3 l4 l5 l6 l7 f8 l8 f9 l9 f10 l10
        clear hb hb'
        obtain ⟨⟨f1, f2, f3, f4, f5, f6, f7⟩, l1, l2, l3, l4, l5, l6, l7⟩ := HK.out.facts
        have f8 := K8.out.cellAt
        have l8 := K8.out.lt
        have f9 := K9.out.cellAt
        have l9 := K9.out.lt
        have f10 := K10.out.cellAt
        have l10 := K10.out.lt
        go_wp2_with (first | (refine wpList_bs1 rfl _ rfl _ rfl ?_) | (refine wpList_bs2 rfl _ _ rfl _ _ rfl rfl ?_) | (refine wpList_bs3 rfl _ _ _ rfl _ _ _ rfl rfl rfl ?_) | (refine wpList_bs4 rfl _ _ _ _ rfl _ _ _ _ rfl rfl rfl rfl ?_))
        refine (text_is (s := ⟨#[97, 204, 129]⟩) (by decide +kernel) _).mono ?_
        rintro e w19 ⟨rfl, hb⟩
        have hb' := hb
        have HK := Lib.hid (HK.out.bel hb')
        have K8 := Lib.hid (K8.out.bel hb')
        have K9 := Lib.hid (K9.out.bel hb')
        have K10 := Lib.hid (K10.out.bel hb')
        have HB := Lib.hid (HB.out.trans (hb'.mono HB.out.size))
        clear f1 f2 f3 f4 f5 f6 f7 l1 l2 l3 l4 l5 l6 l7 f8 l8 f9 l9 f10 l10
        clear hb hb'
        obtain ⟨⟨f1, f2, f3, f4, f5, f6, f7⟩, l1, l2, l3, l4, l5, l6, l7⟩ := HK.out.facts
        have f8 := K8.out.cellAt
        have l8 := K8.out.lt
        have f9 := K9.out.cellAt
        have l9 := K9.out.lt
        have f10 := K10.out.cellAt
        have l10 := K10.out.lt
        go_wp2_with (first | (refine wpList_bs1 rfl _ rfl _ rfl ?_) | (refine wpList_bs2 rfl _ _ rfl _ _ rfl rfl ?_) | (refine wpList_bs3 rfl _ _ _ rfl _ _ _ rfl rfl rfl ?_) | (refine wpList_bs4 rfl _ _ _ _ rfl _ _ _ _ rfl rfl rfl rfl ?_))
        refine (text_is (s := ⟨#[32]⟩) (by decide +kernel) _).mono ?_
        rintro e w20 ⟨rfl, hb⟩
        have hb' := hb
        have HK := Lib.hid (HK.out.bel hb')
        have K8 := Lib.hid (K8.out.bel hb')
        have K9 := Lib.hid (K9.out.bel hb')
        have K10 := Lib.hid (K10.out.bel hb')
        have HB := Lib.hid (HB.out.trans (hb'.mono HB.out.size))
        clear f1 f2 f3 f4 f5 f6 f7 l1 l2 l3 l4 l5 l6 l7 f8 l8 f9 l9 f10 l10
        clear hb hb'
        obtain ⟨⟨f1, f2, f3, f4, f5, f6, f7⟩, l1, l2, l3, l4, l5, l6, l7⟩ := HK.out.facts
        have f8 := K8.out.cellAt
        have l8 := K8.out.lt
        have f9 := K9.out.cellAt
        have l9 := K9.out.lt
        have f10 := K10.out.cellAt
        have l10 := K10.out.lt
        go_wp2_with (first | (refine wpList_bs1 rfl _ rfl _ rfl ?_) | (refine wpList_bs2 rfl _ _ rfl _ _ rfl rfl ?_) | (refine wpList_bs3 rfl _ _ _ rfl _ _ _ rfl rfl rfl ?_) | (refine wpList_bs4 rfl _ _ _ _ rfl _ _ _ _ rfl rfl rfl rfl ?_))
        refine (text_is (s := ⟨#[]⟩) (by decide +kernel) _).mono ?_
        rintro e w21 ⟨rfl, hb⟩
        have hb' := hb
        have HK := Lib.hid (HK.out.bel hb')
        have K8 := Lib.hid (K8.out.bel hb')
        have K9 := Lib.hid (K9.out.bel hb')
        have K10 := Lib.hid (K10.out.bel hb')
        have HB := Lib.hid (HB.out.trans (hb'.mono HB.out.size))
        clear f1 f2 f3 f4 f5 f6 f7 l1 l2 l3 l4 l5 l6 l7 f8 l8 f9 l9 f10 l10
        clear hb hb'
        obtain ⟨⟨f1, f2, f3, f4, f5, f6, f7⟩, l1, l2, l3, l4, l5, l6, l7⟩ := HK.out.facts
        have f8 := K8.out.cellAt
        have l8 := K8.out.lt
        have f9 := K9.out.cellAt
        have l9 := K9.out.lt
        have f10 := K10.out.cellAt
        have l10 := K10.out.lt
        go_wp2_with (first | (refine wpList_bs1 rfl _ rfl _ rfl ?_) | (refine wpList_bs2 rfl _ _ rfl _ _ rfl rfl ?_) | (refine wpList_bs3 rfl _ _ _ rfl _ _ _ rfl rfl rfl ?_) | (refine wpList_bs4 rfl _ _ _ _ rfl _ _ _ _ rfl rfl rfl rfl ?_))
        refine (l04list_any _ _ _ _).mono ?_
        rintro e w' ⟨rfl, rfl⟩
        go_wp2_with (first | (refine wpList_bs1 rfl _ rfl _ rfl ?_) | (refine wpList_bs2 rfl _ _ rfl _ _ rfl rfl ?_) | (refine wpList_bs3 rfl _ _ _ rfl _ _ _ rfl rfl rfl ?_) | (refine wpList_bs4 rfl _ _ _ _ rfl _ _ _ _ rfl rfl rfl rfl ?_))
        refine (texts_is (cs := [cW, cell0, cE, ⟨120, 0, 0, 0, 1, pen0⟩]) (s := ⟨#[228, 184, 128, 32, 120]⟩) (by decide +kernel) _ _ _ (RdC.lit _ _) (by decide)).mono ?_
        rintro e w22 ⟨rfl, hb⟩
        have hb' := below_one hb
        have HK := Lib.hid (HK.out.bel hb')
        have K8 := Lib.hid (K8.out.bel hb')
        have K9 := Lib.hid (K9.out.bel hb')
        have K10 := Lib.hid (K10.out.bel hb')
        have HB := Lib.hid (HB.out.trans (hb'.mono HB.out.size))
        clear f1 f2 f3 f4 f5 f6 f7 l1 l2 l3 l4 l5 l6 l7 f8 l8 f9 l9 f10 l10
        clear hb hb'
        obtain ⟨⟨f1, f2, f3, f4, f5, f6, f7⟩, l1, l2, l3, l4, l5, l6, l7⟩ := HK.out.facts
        have f8 := K8.out.cellAt
        have l8 := K8.out.lt
        have f9 := K9.out.cellAt
        have l9 := K9.out.lt
        have f10 := K10.out.cellAt
        have l10 := K10.out.lt
        go_upto_region 17 with (fail)
        go_cut [11] from 12 (fun s11 wf => ∃ b11 : Nat, s11 = .pointer (some ⟨b11, 0, none⟩) ∧ Blk wf b11 30 (cv cNo) ∧ KV wf b1 b2 b3 b4 b5 b6 b7 ∧ Below w.heap.size w wf)
        case first =>
          go_wp2_with fail
          go_meet
          case rel => exact ⟨_, rfl, Blk.new _ _ _, HK.out.bel ((Below.refl _ _).alloc (Nat.le_refl _) _), HB.out.alloc HB.out.size _⟩
        case rest =>
          clear f1 f2 f3 f4 f5 f6 f7 l1 l2 l3 l4 l5 l6 l7 f8 l8 f9 l9 f10 l10
          clear K8 K9 K10 HK HB
          obtain ⟨b11, rfl, k11, hk, hb⟩ := hcut
          have HK := Lib.hid hk
          have HB := Lib.hid hb
          have K11 := Lib.hid k11
          clear hk hb k11
          go_upto_region 18 with (fail)
          refine wp_region_grows (by kernel_rfl) (by kernel_rfl) (by kernel_rfl) (spOf [.val (.agg (cv cBold)), .val (.agg (cv cell0)), .cells [cBold, cell0], .cells [cBold, cell0], .val (.agg (cv cBold)), .val (.agg (cv cSp)), .cells [cBold, cSp], .val (.bool true), .val (.bool true), .val (.agg (cv cSp)), .val (.agg (cv cA)), .cells [cSp, cA], .cells [cSp, cA], .val (.agg (cv cNo)), .val (.agg (cv cA)), .cells [cNo, cA], .val (.bool true), .val (.bool true), .val (.bool true), .val (.agg (cv cA)), .val (.agg (cv cBold)), .cells [cA, cBold], .cells [cA, cBold], .val (.agg (cv cA)), .val (.agg (cv cNo)), .cells [cA, cNo], .val (.bool true), .val (.bool true), .val (.bool true), .val (.agg (cv cW)), .val (.agg (cv cW)), .val (.agg (cv cell0)), .cells [cW, cW, cell0], .cells [cW, cW, cell0], .val (.agg (cv cE)), .val (.agg (cv cW)), .val (.agg (cv cell0)), .cells [cE, cW, cell0], .val (.bool true), .val (.bool true), .val (.bool true)]) (fun i v w1 w2 h hb => Sp.stab _ h hb) ?_ ?_
          · skip
            refine GSteps.cons (fun a w' hb hk => ?_) ?_
            · exact gs_load (wanted_none rfl) _ rfl ((gk_same hk 6 (by kernel_rfl)).trans rfl) ((HK.out.bel hb).h6.cellAt) rfl
            refine GSteps.cons (fun a w' hb hk => ?_) ?_
            · exact gs_zero (wanted_none rfl) rfl rfl
            refine GSteps.cons (fun a w' hb hk => ?_) ?_
            · exact gs_bs2 (wanted_none rfl) _ _ rfl _ _ (show _ = _ from (hk.1 ⟨0, .data⟩ (by simp) rfl _ _ rfl rfl)) (show _ = _ from (hk.1 ⟨1, .data⟩ (by simp) rfl _ _ rfl rfl))
            refine GSteps.cons (fun a w' hb hk => ?_) ?_
            · (obtain ⟨A, c, he, hr⟩ := (hk.1 ⟨2, .data⟩ (by simp) rfl _ _ rfl rfl); exact gs_call (wanted_none rfl) rfl (by simp only [List.map_toArray, List.map_cons, List.map_nil, Act.eval, he]) (fun _ _ => by kernel_rfl) ((l04list_any _ _ _ _).mono fun e w2 ⟨h1, h2⟩ => ⟨_, h1, ⟨A, c, rfl, h2 ▸ hr⟩, h2 ▸ Below.refl _ _⟩))
            refine GSteps.cons (fun a w' hb hk => ?_) ?_
            · exact gs_load (wanted_none rfl) _ rfl ((gk_same hk 6 (by kernel_rfl)).trans rfl) ((HK.out.bel hb).h6.cellAt) rfl
            refine GSteps.cons (fun a w' hb hk => ?_) ?_
            · exact gs_load (wanted_none rfl) _ rfl ((gk_same hk 7 (by kernel_rfl)).trans rfl) ((HK.out.bel hb).h7.cellAt) rfl
            refine GSteps.cons (fun a w' hb hk => ?_) ?_
            · exact gs_bs2 (wanted_none rfl) _ _ rfl _ _ (show _ = _ from (hk.1 ⟨4, .data⟩ (by simp) rfl _ _ rfl rfl)) (show _ = _ from (hk.1 ⟨5, .data⟩ (by simp) rfl _ _ rfl rfl))
            refine GSteps.cons (fun a w' hb hk => ?_) ?_
            · (obtain ⟨A, c, he, hr⟩ := (hk.1 ⟨3, .data⟩ (by simp) rfl _ _ rfl rfl); obtain ⟨A', c', he', hr'⟩ := (hk.1 ⟨6, .data⟩ (by simp) rfl _ _ rfl rfl); exact gs_call (wanted_none rfl) rfl (by simp only [List.map_toArray, List.map_cons, List.map_nil, Act.eval, he, he']) (fun _ _ => by kernel_rfl) ((fixes_is (by decide +kernel) _ _ _ _ _ hr hr' (by decide) (by decide)).mono fun e w2 ⟨h1, h2⟩ => ⟨_, h1, rfl, h2⟩))
            refine GSteps.cons (fun a w' hb hk => ?_) ?_
            · exact gs_move (wanted_none rfl) _ rfl (show _ = _ from (hk.1 ⟨7, .data⟩ (by simp) rfl _ _ rfl rfl)) rfl
            refine GSteps.cons (fun a w' hb hk => ?_) ?_
            · exact gs_load (wanted_yes rfl rfl rfl (show _ = _ from hk.1 ⟨8, .guard⟩ (by simp) rfl _ _ rfl rfl)) _ rfl ((gk_same hk 7 (by kernel_rfl)).trans rfl) ((HK.out.bel hb).h7.cellAt) rfl
            refine GSteps.cons (fun a w' hb hk => ?_) ?_
            · exact gs_load (wanted_yes rfl rfl rfl (show _ = _ from hk.1 ⟨8, .guard⟩ (by simp) rfl _ _ rfl rfl)) _ rfl ((gk_same hk 3 (by kernel_rfl)).trans rfl) ((HK.out.bel hb).h3.cellAt) rfl
            refine GSteps.cons (fun a w' hb hk => ?_) ?_
            · exact gs_bs2 (wanted_yes rfl rfl rfl (show _ = _ from hk.1 ⟨8, .guard⟩ (by simp) rfl _ _ rfl rfl)) _ _ rfl _ _ (show _ = _ from (hk.1 ⟨9, .data⟩ (by simp) rfl _ _ rfl rfl)) (show _ = _ from (hk.1 ⟨10, .data⟩ (by simp) rfl _ _ rfl rfl))
            refine GSteps.cons (fun a w' hb hk => ?_) ?_
            · (obtain ⟨A, c, he, hr⟩ := (hk.1 ⟨11, .data⟩ (by simp) rfl _ _ rfl rfl); exact gs_call (wanted_yes rfl rfl rfl (show _ = _ from hk.1 ⟨8, .guard⟩ (by simp) rfl _ _ rfl rfl)) rfl (by simp only [List.map_toArray, List.map_cons, List.map_nil, Act.eval, he]) (fun _ _ => by kernel_rfl) ((l04list_any _ _ _ _).mono fun e w2 ⟨h1, h2⟩ => ⟨_, h1, ⟨A, c, rfl, h2 ▸ hr⟩, h2 ▸ Below.refl _ _⟩))
            refine GSteps.cons (fun a w' hb hk => ?_) ?_
            · exact gs_load (wanted_yes rfl rfl rfl (show _ = _ from hk.1 ⟨8, .guard⟩ (by simp) rfl _ _ rfl rfl)) _ rfl ((gk_same hk 11 (by kernel_rfl)).trans rfl) ((K11.out.bel hb).cellAt) rfl
            refine GSteps.cons (fun a w' hb hk => ?_) ?_
            · exact gs_load (wanted_yes rfl rfl rfl (show _ = _ from hk.1 ⟨8, .guard⟩ (by simp) rfl _ _ rfl rfl)) _ rfl ((gk_same hk 3 (by kernel_rfl)).trans rfl) ((HK.out.bel hb).h3.cellAt) rfl
            refine GSteps.cons (fun a w' hb hk => ?_) ?_
            · exact gs_bs2 (wanted_yes rfl rfl rfl (show _ = _ from hk.1 ⟨8, .guard⟩ (by simp) rfl _ _ rfl rfl)) _ _ rfl _ _ (show _ = _ from (hk.1 ⟨13, .data⟩ (by simp) rfl _ _ rfl rfl)) (show _ = _ from (hk.1 ⟨14, .data⟩ (by simp) rfl _ _ rfl rfl))
            refine GSteps.cons (fun a w' hb hk => ?_) ?_
            · (obtain ⟨A, c, he, hr⟩ := (hk.1 ⟨12, .data⟩ (by simp) rfl _ _ rfl rfl); obtain ⟨A', c', he', hr'⟩ := (hk.1 ⟨15, .data⟩ (by simp) rfl _ _ rfl rfl); exact gs_call (wanted_yes rfl rfl rfl (show _ = _ from hk.1 ⟨8, .guard⟩ (by simp) rfl _ _ rfl rfl)) rfl (by simp only [List.map_toArray, List.map_cons, List.map_nil, Act.eval, he, he']) (fun _ _ => by kernel_rfl) ((fixes_is (by decide +kernel) _ _ _ _ _ hr hr' (by decide) (by decide)).mono fun e w2 ⟨h1, h2⟩ => ⟨_, h1, rfl, h2⟩))
            refine GSteps.cons (fun a w' hb hk => ?_) ?_
            · exact gs_pick (wanted_none rfl) _ _ _ rfl (show _ = _ from (hk.1 ⟨8, .data⟩ (by simp) rfl _ _ rfl rfl)) (by rw [if_pos (by simp)]; exact (show _ = _ from (hk.1 ⟨16, .data⟩ (by simp) rfl _ _ rfl rfl))) rfl
            refine GSteps.cons (fun a w' hb hk => ?_) ?_
            · exact gs_move (wanted_none rfl) _ rfl (show _ = _ from (hk.1 ⟨17, .data⟩ (by simp) rfl _ _ rfl rfl)) rfl
            refine GSteps.cons (fun a w' hb hk => ?_) ?_
            · exact gs_load (wanted_yes rfl rfl rfl (show _ = _ from hk.1 ⟨18, .guard⟩ (by simp) rfl _ _ rfl rfl)) _ rfl ((gk_same hk 3 (by kernel_rfl)).trans rfl) ((HK.out.bel hb).h3.cellAt) rfl
            refine GSteps.cons (fun a w' hb hk => ?_) ?_
            · exact gs_load (wanted_yes rfl rfl rfl (show _ = _ from hk.1 ⟨18, .guard⟩ (by simp) rfl _ _ rfl rfl)) _ rfl ((gk_same hk 6 (by kernel_rfl)).trans rfl) ((HK.out.bel hb).h6.cellAt) rfl
            refine GSteps.cons (fun a w' hb hk => ?_) ?_
            · exact gs_bs2 (wanted_yes rfl rfl rfl (show _ = _ from hk.1 ⟨18, .guard⟩ (by simp) rfl _ _ rfl rfl)) _ _ rfl _ _ (show _ = _ from (hk.1 ⟨19, .data⟩ (by simp) rfl _ _ rfl rfl)) (show _ = _ from (hk.1 ⟨20, .data⟩ (by simp) rfl _ _ rfl rfl))
            refine GSteps.cons (fun a w' hb hk => ?_) ?_
            · (obtain ⟨A, c, he, hr⟩ := (hk.1 ⟨21, .data⟩ (by simp) rfl _ _ rfl rfl); exact gs_call (wanted_yes rfl rfl rfl (show _ = _ from hk.1 ⟨18, .guard⟩ (by simp) rfl _ _ rfl rfl)) rfl (by simp only [List.map_toArray, List.map_cons, List.map_nil, Act.eval, he]) (fun _ _ => by kernel_rfl) ((l04list_any _ _ _ _).mono fun e w2 ⟨h1, h2⟩ => ⟨_, h1, ⟨A, c, rfl, h2 ▸ hr⟩, h2 ▸ Below.refl _ _⟩))
            refine GSteps.cons (fun a w' hb hk => ?_) ?_
            · exact gs_load (wanted_yes rfl rfl rfl (show _ = _ from hk.1 ⟨18, .guard⟩ (by simp) rfl _ _ rfl rfl)) _ rfl ((gk_same hk 3 (by kernel_rfl)).trans rfl) ((HK.out.bel hb).h3.cellAt) rfl
            refine GSteps.cons (fun a w' hb hk => ?_) ?_
            · exact gs_load (wanted_yes rfl rfl rfl (show _ = _ from hk.1 ⟨18, .guard⟩ (by simp) rfl _ _ rfl rfl)) _ rfl ((gk_same hk 11 (by kernel_rfl)).trans rfl) ((K11.out.bel hb).cellAt) rfl
            refine GSteps.cons (fun a w' hb hk => ?_) ?_
            · exact gs_bs2 (wanted_yes rfl rfl rfl (show _ = _ from hk.1 ⟨18, .guard⟩ (by simp) rfl _ _ rfl rfl)) _ _ rfl _ _ (show _ = _ from (hk.1 ⟨23, .data⟩ (by simp) rfl _ _ rfl rfl)) (show _ = _ from (hk.1 ⟨24, .data⟩ (by simp) rfl _ _ rfl rfl))
            refine GSteps.cons (fun a w' hb hk => ?_) ?_
            · (obtain ⟨A, c, he, hr⟩ := (hk.1 ⟨22, .data⟩ (by simp) rfl _ _ rfl rfl); obtain ⟨A', c', he', hr'⟩ := (hk.1 ⟨25, .data⟩ (by simp) rfl _ _ rfl rfl); exact gs_call (wanted_yes rfl rfl rfl (show _ = _ from hk.1 ⟨18, .guard⟩ (by simp) rfl _ _ rfl rfl)) rfl (by simp only [List.map_toArray, List.map_cons, List.map_nil, Act.eval, he, he']) (fun _ _ => by kernel_rfl) ((fixes_is (by decide +kernel) _ _ _ _ _ hr hr' (by decide) (by decide)).mono fun e w2 ⟨h1, h2⟩ => ⟨_, h1, rfl, h2⟩))
            refine GSteps.cons (fun a w' hb hk => ?_) ?_
            · exact gs_pick (wanted_none rfl) _ _ _ rfl (show _ = _ from (hk.1 ⟨18, .data⟩ (by simp) rfl _ _ rfl rfl)) (by rw [if_pos (by simp)]; exact (show _ = _ from (hk.1 ⟨26, .data⟩ (by simp) rfl _ _ rfl rfl))) rfl
            refine GSteps.cons (fun a w' hb hk => ?_) ?_
            · exact gs_move (wanted_none rfl) _ rfl (show _ = _ from (hk.1 ⟨27, .data⟩ (by simp) rfl _ _ rfl rfl)) rfl
            refine GSteps.cons (fun a w' hb hk => ?_) ?_
            · exact gs_load (wanted_yes rfl rfl rfl (show _ = _ from hk.1 ⟨28, .guard⟩ (by simp) rfl _ _ rfl rfl)) _ rfl ((gk_same hk 4 (by kernel_rfl)).trans rfl) ((HK.out.bel hb).h4.cellAt) rfl
            refine GSteps.cons (fun a w' hb hk => ?_) ?_
            · exact gs_load (wanted_yes rfl rfl rfl (show _ = _ from hk.1 ⟨28, .guard⟩ (by simp) rfl _ _ rfl rfl)) _ rfl ((gk_same hk 4 (by kernel_rfl)).trans rfl) ((HK.out.bel hb).h4.cellAt) rfl
            refine GSteps.cons (fun a w' hb hk => ?_) ?_
            · exact gs_zero (wanted_yes rfl rfl rfl (show _ = _ from hk.1 ⟨28, .guard⟩ (by simp) rfl _ _ rfl rfl)) rfl rfl
            refine GSteps.cons (fun a w' hb hk => ?_) ?_
            · exact gs_bs3 (wanted_yes rfl rfl rfl (show _ = _ from hk.1 ⟨28, .guard⟩ (by simp) rfl _ _ rfl rfl)) _ _ _ rfl _ _ _ (show _ = _ from (hk.1 ⟨29, .data⟩ (by simp) rfl _ _ rfl rfl)) (show _ = _ from (hk.1 ⟨30, .data⟩ (by simp) rfl _ _ rfl rfl)) (show _ = _ from (hk.1 ⟨31, .data⟩ (by simp) rfl _ _ rfl rfl))
            refine GSteps.cons (fun a w' hb hk => ?_) ?_
            · (obtain ⟨A, c, he, hr⟩ := (hk.1 ⟨32, .data⟩ (by simp) rfl _ _ rfl rfl); exact gs_call (wanted_yes rfl rfl rfl (show _ = _ from hk.1 ⟨28, .guard⟩ (by simp) rfl _ _ rfl rfl)) rfl (by simp only [List.map_toArray, List.map_cons, List.map_nil, Act.eval, he]) (fun _ _ => by kernel_rfl) ((l04list_any _ _ _ _).mono fun e w2 ⟨h1, h2⟩ => ⟨_, h1, ⟨A, c, rfl, h2 ▸ hr⟩, h2 ▸ Below.refl _ _⟩))
            refine GSteps.cons (fun a w' hb hk => ?_) ?_
            · exact gs_load (wanted_yes rfl rfl rfl (show _ = _ from hk.1 ⟨28, .guard⟩ (by simp) rfl _ _ rfl rfl)) _ rfl ((gk_same hk 5 (by kernel_rfl)).trans rfl) ((HK.out.bel hb).h5.cellAt) rfl
            refine GSteps.cons (fun a w' hb hk => ?_) ?_
            · exact gs_load (wanted_yes rfl rfl rfl (show _ = _ from hk.1 ⟨28, .guard⟩ (by simp) rfl _ _ rfl rfl)) _ rfl ((gk_same hk 4 (by kernel_rfl)).trans rfl) ((HK.out.bel hb).h4.cellAt) rfl
            refine GSteps.cons (fun a w' hb hk => ?_) ?_
            · exact gs_zero (wanted_yes rfl rfl rfl (show _ = _ from hk.1 ⟨28, .guard⟩ (by simp) rfl _ _ rfl rfl)) rfl rfl
            refine GSteps.cons (fun a w' hb hk => ?_) ?_
            · exact gs_bs3 (wanted_yes rfl rfl rfl (show _ = _ from hk.1 ⟨28, .guard⟩ (by simp) rfl _ _ rfl rfl)) _ _ _ rfl _ _ _ (show _ = _ from (hk.1 ⟨34, .data⟩ (by simp) rfl _ _ rfl rfl)) (show _ = _ from (hk.1 ⟨35, .data⟩ (by simp) rfl _ _ rfl rfl)) (show _ = _ from (hk.1 ⟨36, .data⟩ (by simp) rfl _ _ rfl rfl))
            refine GSteps.cons (fun a w' hb hk => ?_) ?_
            · (obtain ⟨A, c, he, hr⟩ := (hk.1 ⟨33, .data⟩ (by simp) rfl _ _ rfl rfl); obtain ⟨A', c', he', hr'⟩ := (hk.1 ⟨37, .data⟩ (by simp) rfl _ _ rfl rfl); exact gs_call (wanted_yes rfl rfl rfl (show _ = _ from hk.1 ⟨28, .guard⟩ (by simp) rfl _ _ rfl rfl)) rfl (by simp only [List.map_toArray, List.map_cons, List.map_nil, Act.eval, he, he']) (fun _ _ => by kernel_rfl) ((fixes_is (by decide +kernel) _ _ _ _ _ hr hr' (by decide) (by decide)).mono fun e w2 ⟨h1, h2⟩ => ⟨_, h1, rfl, h2⟩))
            refine GSteps.cons (fun a w' hb hk => ?_) ?_
            · exact gs_pick (wanted_none rfl) _ _ _ rfl (show _ = _ from (hk.1 ⟨28, .data⟩ (by simp) rfl _ _ rfl rfl)) (by rw [if_pos (by simp)]; exact (show _ = _ from (hk.1 ⟨38, .data⟩ (by simp) rfl _ _ rfl rfl))) rfl
            refine GSteps.cons (fun a w' hb hk => ?_) ?_
            · exact gs_assign (wanted_none rfl) _ rfl (show _ = _ from (hk.1 ⟨39, .data⟩ (by simp) rfl _ _ rfl rfl)) rfl
            exact GSteps.nil
          · intro vs w' hb h
            have h0 : vs 40 = .bool true := h 40 _ _ rfl rfl
            go_wp2_with fail
            refine bodyPost_ret (results_tmp Tryd.results19 _ _ _) ?_ ⟨?_, HB.out.trans (hb.mono HB.out.size)⟩
            · exact putL_defers _ _ _ _
            · rw [putL_is (by kernel_rfl) vs _ 40 _ 0 rfl rfl (by simp), h0]
end Go.Proofs.YtmfhepjmmpnkaaaDoor
