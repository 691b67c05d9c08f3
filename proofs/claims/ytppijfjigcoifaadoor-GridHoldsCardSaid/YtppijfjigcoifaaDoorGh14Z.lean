/-
  GridHolds: the law returns true.
-/
import Derived.Test.YtppijfjigcoifaaDoorG5
import Derived.Test.YtppijfjigcoifaaDoorG4
import Derived.Deep.DeepCutAuto
import Derived.Deep.CutBlock
set_option linter.unusedSimpArgs false
set_option linter.unusedVariables false
namespace Go.Proofs.YtppijfjigcoifaaDoor
open Go.RowKit

theorem RdC.cellOfH {w : World} {A : Option Addr} {c k : Nat} {cs : List Cell} (h : RdC w A c cs) (hk : k < cs.length) : ∃ b off, A = some ⟨b, off, none⟩ ∧ b < w.heap.size ∧ cellAt w b (off + k * 16) = some (cAt cs k) := by
 obtain ⟨b, off, e, hz, hr⟩ := h.at_ hk
 exact ⟨b, off, e, hz, by rw [cAt_eq hk]; exact elem_cell hr hk⟩
@[go_sem] theorem store_av14_newH {b : Nat} (w : World) (zs : Array Value) (a : Act14) (hb : b = w.heap.size) (hz : zs.size = 34) :
  (storeCells ⟨b, 0, none⟩ (av14 a).toList 0).run Tryd.prog (w.alloc (.cells zs 90)) = .ok () (w.alloc (.cells (av14 a) 90)) := by
 subst hb
 exact run_storeCells_new w 90 zs (av14 a) (by rw [av14_size]; kernel_rfl) hz (by simp [av14, Value.oneCell'])
section
variable {s rr : Nat} {a : Act14} {L0 : List Ln}
theorem hoG_no (hK : Kept14 s rr L0) (hrm : rr ≤ 1000) (h : ¬ a.what = 5) : HoG s rr a L0 (act14N a s L0) (act14E a s L0.length) [] := by
 have h1 := hoG_any (a := a) hK hrm
 have h2 : act14G a L0 = [] := by unfold act14G; rw [if_neg (fun g => h g.1)]
 rw [h2] at h1
 rw [hK.2.1]
 exact h1
theorem hoG_roll (hK : Kept14 s rr L0) (hrm : rr ≤ 1000) : HoG s rr a L0 (act14N a s L0) (act14E a s L0.length) (act14G a L0) := by
 have h1 := hoG_any (a := a) hK hrm
 rw [hK.2.1]
 exact h1
theorem hoG_none (hK : Kept14 s rr L0) (hrm : rr ≤ 1000) (h0 : ¬ a.what = 0) (h1 : ¬ a.what = 1) (h2 : ¬ a.what = 2) (h3 : ¬ a.what = 3) (h4 : ¬ a.what = 4) (h5 : ¬ a.what = 5) : HoG s rr a L0 L0 0 [] := by
 have h := hoG_no (a := a) hK hrm h5
 have e1 : act14N a s L0 = L0 := by unfold act14N; rw [if_neg h0, if_neg h1, if_neg h2, if_neg h3, if_neg h4, if_neg h5]
 have e2 : act14E a s L0.length = 0 := by unfold act14E; rw [if_neg h0, if_neg h1, if_neg h2, if_neg h3, if_neg h4, if_neg h5]
 rw [e1, e2] at h
 exact h
theorem fit_all {L : List Ln} (hR : Rect s L) (hV : AllV L) : L.map (fun l : Ln => (fitTo s l.1, l.2)) = L := by
 conv => rhs; rw [← List.map_id L]
 apply List.map_congr_left
 intro l hl
 have h1 := hR l hl
 have h2 : fitTo l.1.length l.1 = l.1 := fit_len (rowOk_is.2 (hV l hl))
 rw [h1] at h2
 simp only [h2, id]
theorem sameC_eqL {x y : Ln} (h : sameC (some x) (some y)) : eqL x.1 false y.1 false = true := by
 rw [h x y rfl rfl]; exact eqL_self _ _
end
structure Pcs (w : World) (G LS LW LL : List Ln) (mS : Nat) (A17 : Option Addr) (c17 : Nat) (A18 : Option Addr) (n18 c18 : Nat) (A19 : Option Addr) (n19 c19 : Nat) : Prop where
 rS : RdL w A17 c17 LS
 rW : RdL w A18 c18 LW
 rL : RdL w A19 c19 LL
 nS : mS = LS.length
 nW : n18 = LW.length
 nL : n19 = LL.length
 same : LL = G
 len : LS.length = LW.length
 cells : ∀ r : Nat, sameC LS[r]? LW[r]?
 mS1 : ∀ l ∈ LS, l.1.length ≤ 1000000
 mW1 : ∀ l ∈ LW, l.1.length ≤ 1000000
 big : mS ≤ 1000
def midA (ad : Addr) (c lo : Nat) : Option Addr := if c = lo then some ad else some (ad.add (lo * 2))
@[go_sem high] theorem run_midL (w : World) (ad : Addr) (n c lo hi : Nat) (h1 : lo ≤ hi) (h2 : hi ≤ c) : (Instr.slice 30 (.slice (some ad) n c) (some (.int .i64 lo)) (some (.int .i64 hi)) none).run Tryd.prog w = .ok (.slice (midA ad c lo) (hi - lo) (c - lo)) w := by
 unfold midA
 by_cases h6 : c = lo
 ·obtain rfl : hi = lo := by omega
  simp [go_sem, h6]
 ·simp [go_sem, h1, h2, h6]
theorem RdL.mid {w : World} {b off c lo hi : Nat} {L : List Ln} (h : RdL w (some ⟨b, off, none⟩) c L) (h1 : lo ≤ hi) (h2 : hi ≤ L.length) : RdL w (midA ⟨b, off, none⟩ c lo) (c - lo) ((L.drop lo).take (hi - lo)) := by
 have hc := h.1
 unfold midA
 split
 ·rw [show hi - lo = 0 by omega, List.take_zero]
  exact RdL.empty _ _ _
 ·rw [add_at]
  exact h.part (by omega) (by omega)
section
variable {w w' : World} {G L0 L1 LS LW LL : List Ln} {mS : Nat} {A17 : Option Addr} {c17 : Nat} {A18 : Option Addr} {n18 c18 : Nat} {A19 : Option Addr} {n19 c19 : Nat}
theorem Pcs.bel (h : Pcs w G LS LW LL mS A17 c17 A18 n18 c18 A19 n19 c19) (hb : Below w.heap.size w w') : Pcs w' G LS LW LL mS A17 c17 A18 n18 c18 A19 n19 c19 :=
 ⟨h.rS.bel hb, h.rW.bel hb, h.rL.bel hb, h.nS, h.nW, h.nL, h.same, h.len, h.cells, h.mS1, h.mW1, h.big⟩
theorem sub_mem {P : Ln → Prop} {L : List Ln} {a m : Nat} (h : ∀ l ∈ L, P l) : ∀ l ∈ (L.drop a).take m, P l := fun l hl => h l (List.mem_of_mem_drop (List.mem_of_mem_take hl))
theorem sub_get {L : List Ln} {a m r : Nat} {l : Ln} (h : ((L.drop a).take m)[r]? = some l) : r < m ∧ L[a + r]? = some l := by
 rw [List.getElem?_take] at h
 split at h
 ·rw [List.getElem?_drop] at h
  exact ⟨by assumption, h⟩
 ·cases h
theorem pcs_up {g1 o1 c14 g0 o0 c11 rr top bot nG b1 m1 t1 : Nat} (h1 : RdL w (some ⟨g1, o1, none⟩) c14 L1) (h0 : RdL w (some ⟨g0, o0, none⟩) c11 L0) (e1 : L1.length = rr) (e0 : L0.length = rr) (hq : b1 = bot + 1 ∧ m1 = bot + 1 - nG ∧ t1 = top + nG) (htb : top ≤ bot) (hbr : bot < rr) (hgl : nG ≤ bot + 1 - top) (x1 : ∀ l ∈ L1, l.1.length ≤ 1000000) (x0 : ∀ l ∈ L0, l.1.length ≤ 1000000) (hg : 0 < nG)
  (hu : G = (L0.drop top).take G.length ∧ ∀ r, top ≤ r → r + G.length ≤ bot → sameC L1[r]? L0[r + G.length]?) (hn : nG = G.length) (hrr : rr ≤ 1000) : Pcs w G ((L1.drop top).take (m1 - top)) ((L0.drop t1).take (b1 - t1)) ((L0.drop top).take (t1 - top)) (m1 - top) (midA ⟨g1, o1, none⟩ c14 top) (c14 - top) (midA ⟨g0, o0, none⟩ c11 t1) (b1 - t1) (c11 - t1) (midA ⟨g0, o0, none⟩ c11 top) (t1 - top) (c11 - top) := by
 obtain ⟨q1, q2, q3⟩ := hq
 subst q1 q2 q3
 rw [← hn] at hu
 refine ⟨h1.mid (by omega) (by omega), h0.mid (by omega) (by omega), h0.mid (by omega) (by omega), ?_, ?_, ?_, ?_, ?_, fun r l l' hl hl' => ?_, sub_mem x1, sub_mem x0, by omega⟩
 ·simp; omega
 ·simp; omega
 ·simp; omega
 ·rw [show top + nG - top = nG by omega]; exact hu.1.symm
 ·simp; omega
 ·obtain ⟨f1, f2⟩ := sub_get hl
  obtain ⟨f3, f4⟩ := sub_get hl'
  have := hu.2 (top + r) (by omega) (by omega)
  rw [show top + r + nG = top + nG + r by omega, f2, f4] at this
  exact this l l' rfl rfl
theorem pcs_down {g1 o1 c14 g0 o0 c11 rr top bot nG b1 m1 t1 : Nat} (h1 : RdL w (some ⟨g1, o1, none⟩) c14 L1) (h0 : RdL w (some ⟨g0, o0, none⟩) c11 L0) (e1 : L1.length = rr) (e0 : L0.length = rr) (hq : b1 = bot + 1 ∧ m1 = bot + 1 - nG ∧ t1 = top + nG) (htb : top ≤ bot) (hbr : bot < rr) (hgl : nG ≤ bot + 1 - top) (x1 : ∀ l ∈ L1, l.1.length ≤ 1000000) (x0 : ∀ l ∈ L0, l.1.length ≤ 1000000) (hg : 0 < nG)
  (hu : G = (L0.drop (bot + 1 - G.length)).take G.length ∧ ∀ r, top + G.length ≤ r → r ≤ bot → sameC L1[r]? L0[r - G.length]?) (hn : nG = G.length) (hrr : rr ≤ 1000) : Pcs w G ((L1.drop t1).take (b1 - t1)) ((L0.drop top).take (m1 - top)) ((L0.drop m1).take (b1 - m1)) (b1 - t1) (midA ⟨g1, o1, none⟩ c14 t1) (c14 - t1) (midA ⟨g0, o0, none⟩ c11 top) (m1 - top) (c11 - top) (midA ⟨g0, o0, none⟩ c11 m1) (b1 - m1) (c11 - m1) := by
 obtain ⟨q1, q2, q3⟩ := hq
 subst q1 q2 q3
 rw [← hn] at hu
 refine ⟨h1.mid (by omega) (by omega), h0.mid (by omega) (by omega), h0.mid (by omega) (by omega), ?_, ?_, ?_, ?_, ?_, fun r l l' hl hl' => ?_, sub_mem x1, sub_mem x0, by omega⟩
 ·simp; omega
 ·simp; omega
 ·simp; omega
 ·rw [show bot + 1 - (bot + 1 - nG) = nG by omega]; exact hu.1.symm
 ·simp; omega
 ·obtain ⟨f1, f2⟩ := sub_get hl
  obtain ⟨f3, f4⟩ := sub_get hl'
  have := hu.2 (top + nG + r) (by omega) (by omega)
  rw [show top + nG + r - nG = top + r by omega, f2, f4] at this
  exact this l l' rfl rfl
end
set_option maxRecDepth 100000 in
set_option maxHeartbeats 400000000 in
theorem l14GridHolds_any (rows cols : Int) (Al : Option Addr) (cl : Nat) (l : List Act14) (w : World) (hT : Tabs w) (hal : RdRec w Al cl 34 (l.map av14)) (hml : cl ≤ maxLen) (hok : ∀ a ∈ l, Ac14 w a) :
  Calls Tryd.prog 13 #[.int .i64 rows, .int .i64 cols, .slice Al l.length cl] w fun e w' => e = .returned (.bool true) ∧ Below w.heap.size w w' := by
 have HT := Lib.hid hT
 have HAL := Lib.hid hal
 have HOK := Lib.hid hok
 have HML := Lib.hid hml
 have hlm : l.length ≤ 9223372036854775807 := by have := hal.1; unfold maxLen at hml; simp at this; omega
 clear hT hal hml hok
 have hcases : (rows < 1 ∨ (1 ≤ rows ∧ 8 < rows) ∨ ((1 ≤ rows ∧ rows ≤ 8) ∧ cols < 1) ∨ ((1 ≤ rows ∧ rows ≤ 8) ∧ 1 ≤ cols ∧ 16 < cols)) ∨ ((1 ≤ rows ∧ rows ≤ 8) ∧ 1 ≤ cols ∧ cols ≤ 16) := by omega
 rcases hcases with hno | ⟨⟨h1, h2⟩, h3, h4⟩
 ·rcases hno with h | ⟨h, h2⟩ | ⟨⟨h, h2⟩, h3⟩ | ⟨⟨h, h2⟩, h3, h4⟩
  all_goals
   go_enter Tryd.func13, Tryd.ntmps13
   go_wp2_with fail
   refine (l14known_any _ HT.out).mono ?_
   rintro e w1 ⟨rfl, hb⟩
   go_wp2_with fail
   go_ret
   exact ⟨rfl, hb⟩
 cases hsm : small14b 40 l with
 | false =>
  have HSM := Lib.hid hsm
  clear hsm
  go_enter Tryd.func13, Tryd.ntmps13
  go_wp2_with fail
  refine (small14_any Al cl l 40 (by decide) _ HAL.out HML.out).mono ?_
  rw [HSM.out]
  rintro e w1 ⟨rfl, rfl⟩
  go_wp2_with fail
  refine (l14known_any _ HT.out).mono ?_
  rintro e w1 ⟨rfl, hb⟩
  go_wp2_with fail
  go_ret
  exact ⟨rfl, hb⟩
 | true =>
 have HSM := Lib.hid hsm
 have HS40 := Lib.hid (small14_true hsm).2
 clear hsm
 obtain ⟨rr, rfl⟩ : ∃ rr : Nat, rows = rr := ⟨rows.toNat, by omega⟩
 obtain ⟨s, rfl⟩ : ∃ s : Nat, cols = s := ⟨cols.toNat, by omega⟩
 have g1 : 1 ≤ rr := by omega
 have g2 : rr ≤ 8 := by omega
 have g3 : 1 ≤ s := by omega
 have g4 : s ≤ 16 := by omega
 have hc0 : 0 < s := by omega
 have hcm0 : s ≤ 1000 := by omega
 have hrm : rr ≤ 1000 := by omega
 go_enter Tryd.func13, Tryd.ntmps13
 go_wp2_with fail
 refine (small14_any Al cl l 40 (by decide) _ HAL.out HML.out).mono ?_
 rw [HSM.out]
 rintro e w1 ⟨rfl, rfl⟩
 go_wp2_with fail
 refine (gridNew_yes rr s g1 (by omega) g3 (by omega) w _ [] (objs_start w)).mono ?_
 rintro e w1 ⟨p, rfl, hS⟩
 obtain ⟨L0, hL0⟩ : ∃ L0, L0 = List.replicate rr (List.replicate s (blank pen0), false) := ⟨_, rfl⟩
 have HK0 := Lib.hid (show Kept14 s rr L0 by rw [hL0]; exact kept14_new s rr)
 rw [← hL0] at hS
 have S1 := Lib.hid hS
 clear hS hL0
 go_wp2_with fail
 go_loopg [9] l.length (fun g vi wr => ∃ (k : Nat) (L0 : List Ln), k ≤ l.length ∧ g = l.length - k ∧ vi = .int .i64 k ∧ Hid (Kept14 s rr L0) ∧ Objs w wr [.grid p 58 ↑s L0])
 case atStart => exact ⟨0, L0, Nat.zero_le _, rfl, rfl, HK0, S1.out⟩
 case round =>
  as_aux_lemma =>
   clear S1 HK0 L0
   obtain ⟨k0, L0, hk0, rfl, rfl, HK0, hS⟩ := hrel
   have S := Lib.hid hS
   clear hS
   have hL0m : L0.length ≤ 1000 := by rw [HK0.out.2.1]; omega
   by_cases hlt : k0 < l.length
   case neg =>
    as_aux_lemma =>
     go_wp2_with fail
     refine (Lines_any S.out (k := 0) rfl hc0 (HK0.out.1.mill hcm0) (by omega)).mono ?_
     rintro x w3 ⟨vL, rfl, hS⟩
     obtain ⟨AL, cL, rfl, -, hRL⟩ := hS.linesRd (k := 0) rfl
     have HRL := Lib.hid hRL
     have S1 := Lib.hid hS
     clear hS S hRL
     go_wp2_with fail
     refine (gridOf_yes AL cL L0 s w3 (S1.out.tabs HT.out) HRL.out g3 hcm0 (by rw [HK0.out.2.1]; exact g1) hL0m (fun l hl => by rw [HK0.out.1 l hl]; omega) (fun l hl => by
      have h2 := rowOk_is.2 (HK0.out.2.2 l hl)
      have h3 := HK0.out.1 l hl
      simp [lineOk, h2]; omega)).mono ?_
     rintro x w4 ⟨h2, rfl, hS⟩
     rw [fit_all HK0.out.1 HK0.out.2.2] at hS
     have S2 := Lib.hid (S1.out.nest hS)
     clear hS S1 HRL
     go_wp2_with fail
     have hcon := Same_any S2.out (k1 := 0) (k2 := 2) rfl rfl hc0 hc0 (by omega) (by omega) (HK0.out.1.mill hcm0) (HK0.out.1.mill hcm0)
     rw [show (decide (s = s) && decide (L0 = L0)) = true by simp] at hcon
     refine hcon.mono ?_
     rintro x w5 ⟨rfl, hS⟩
     have S3 := Lib.hid hS
     clear hS S2 hcon
     go_wp2_with fail
     refine (l14known_any _ (S3.out.tabs HT.out)).mono ?_
     rintro e w6 ⟨rfl, hb⟩
     have HB := Lib.hid (S3.out.bel hb).base
     clear hb
     go_wp2_with fail
     go_ret
     exact ⟨rfl, HB.out⟩
   obtain ⟨a1, ha1⟩ : ∃ a1, a1 = l[k0] := ⟨_, rfl⟩
   have HA1 := Lib.hid (show Ac14 w a1 by rw [ha1]; exact HOK.out _ (List.getElem_mem _))
   have h40 : a1.cs.length ≤ 100000 := by have := HS40.out l[k0] (List.getElem_mem _); rw [ha1]; omega
   obtain ⟨ba, oa, rfl, hba, hre⟩ := HAL.out.at_ (i := k0) (r := av14 a1) (by simp [hlt, ha1])
   have hlz : (0 : Int) ≤ (k0 : Int) := by omega
   have hlz2 : (k0 : Int) < (l.length : Int) := by omega
   have hrec := (recAt_below S.out.base hba (oa + k0 * 34) 34).trans hre
   clear hre ha1
   go_upto_region 10 with (fail)
   clear hrec
   refine at_objsC (S.out.alloc1 (c1 := av14 a1) (t1 := 90)) (fun W hW => ?_)
   generalize wr.heap.size = b10 at hW ⊢
   have S1 := Lib.hid hW
   clear hW S
   go_wp2_with fail
   refine (Lines_any S1.out (k := 1) rfl hc0 (HK0.out.1.mill hcm0) (by omega)).mono ?_
   rintro x w4 ⟨v11, rfl, hS⟩
   obtain ⟨A11, c11, rfl, -, -⟩ := hS.linesRd (k := 0) rfl
   have S2 := Lib.hid hS
   clear hS S1
   obtain ⟨hx, hf, hz, hr, hp, hcl, hpc⟩ := (S2.out.box (k := 1) rfl).act14
   go_upto_block 2 with (fail)
   go_cut [12, 13] (fun s12 s13 wx => ∃ (e : Int) (nG : Nat) (AG : Option Addr) (cG : Nat) (G L1 : List Ln), s12 = .int .i64 e ∧ s13 = .slice AG nG cG ∧ Hid (HoG s rr a1 L0 L1 e G ∧ nG = G.length) ∧ Objs w wx [.lines (.slice AG nG cG) G, .lines (.slice A11 L0.length c11) L0, .box b10 90 (av14 a1), .grid p 58 ↑s L1])
   case first =>
    as_aux_lemma =>
     by_cases h0 : a1.what = 0
     case pos =>
      as_aux_lemma =>
       have hb0 := beq_yes h0
       have HW := Lib.hid h0
       clear h0
       go_wp2_with fail
       refine (hgPut HW.out HT.out S2.out (k := 2) rfl hc0 hcm0 HK0.out.1).mono ?_
       rintro x w6 ⟨rfl, hS⟩
       have S3 := Lib.hid hS.nilLines
       clear hS S2 hx hf hz hr hp hcl hpc
       go_wp2_with fail
       go_meet
       case rel => exact ⟨_, 0, none, 0, [], act14N a1 s L0, rfl, rfl, Lib.hid ⟨hoG_no HK0.out hrm (by have := HW.out; omega), rfl⟩, S3.out⟩
     by_cases h1 : a1.what = 1
     case pos =>
      as_aux_lemma =>
       have hb0 := beq_no h0
       have hb1 := beq_yes h1
       have HW := Lib.hid h1
       clear h0 h1
       go_wp2_with fail
       refine (hgClear HW.out HT.out S2.out (k := 2) rfl hc0 hcm0 HK0.out.1).mono ?_
       rintro x w6 ⟨rfl, hS⟩
       have S3 := Lib.hid hS.nilLines
       clear hS S2 hx hf hz hr hp hcl hpc
       go_wp2_with fail
       go_meet
       case rel => exact ⟨_, 0, none, 0, [], act14N a1 s L0, rfl, rfl, Lib.hid ⟨hoG_no HK0.out hrm (by have := HW.out; omega), rfl⟩, S3.out⟩
     by_cases h2 : a1.what = 2
     case pos =>
      as_aux_lemma =>
       have hb0 := beq_no h0
       have hb1 := beq_no h1
       have hb2 := beq_yes h2
       have HW := Lib.hid h2
       clear h0 h1 h2
       go_wp2_with fail
       refine (hgShift HW.out HT.out S2.out (k := 2) rfl hc0 hcm0 HK0.out.1 HA1.out.2.1).mono ?_
       rintro x w6 ⟨rfl, hS⟩
       have S3 := Lib.hid hS.nilLines
       clear hS S2 hx hf hz hr hp hcl hpc
       go_wp2_with fail
       go_meet
       case rel => exact ⟨_, 0, none, 0, [], act14N a1 s L0, rfl, rfl, Lib.hid ⟨hoG_no HK0.out hrm (by have := HW.out; omega), rfl⟩, S3.out⟩
     by_cases h3 : a1.what = 3
     case pos =>
      as_aux_lemma =>
       have hb0 := beq_no h0
       have hb1 := beq_no h1
       have hb2 := beq_no h2
       have hb3 := beq_yes h3
       have HW := Lib.hid h3
       clear h0 h1 h2 h3
       go_wp2_with fail
       refine (hgSetLine HW.out HT.out S2.out (k := 2) rfl hc0 hcm0 HA1.out.2.2.2.1 h40).mono ?_
       rintro x w6 ⟨rfl, hS⟩
       have S3 := Lib.hid hS.nilLines
       clear hS S2 hx hf hz hr hp hcl hpc
       go_wp2_with fail
       go_meet
       case rel => exact ⟨_, 0, none, 0, [], act14N a1 s L0, rfl, rfl, Lib.hid ⟨hoG_no HK0.out hrm (by have := HW.out; omega), rfl⟩, S3.out⟩
     by_cases h4 : a1.what = 4
     case pos =>
      as_aux_lemma =>
       have hb0 := beq_no h0
       have hb1 := beq_no h1
       have hb2 := beq_no h2
       have hb3 := beq_no h3
       have hb4 := beq_yes h4
       have HW := Lib.hid h4
       clear h0 h1 h2 h3 h4
       go_wp2_with fail
       refine (hgSetSoft HW.out S2.out (k := 2) rfl hc0 hL0m).mono ?_
       rintro x w6 ⟨rfl, hS⟩
       have S3 := Lib.hid hS.nilLines
       clear hS S2 hx hf hz hr hp hcl hpc
       go_wp2_with fail
       go_meet
       case rel => exact ⟨_, 0, none, 0, [], act14N a1 s L0, rfl, rfl, Lib.hid ⟨hoG_no HK0.out hrm (by have := HW.out; omega), rfl⟩, S3.out⟩
     by_cases h5 : a1.what = 5
     case pos =>
      as_aux_lemma =>
       have hb0 := beq_no h0
       have hb1 := beq_no h1
       have hb2 := beq_no h2
       have hb3 := beq_no h3
       have hb4 := beq_no h4
       have hb5 := beq_yes h5
       have HW := Lib.hid h5
       clear h0 h1 h2 h3 h4 h5
       go_wp2_with fail
       refine (hgRoll HW.out HT.out S2.out (k := 2) rfl hc0 hcm0 hL0m HA1.out.2.2.1).mono ?_
       rintro x w6 ⟨AG, cG, rfl, hS⟩
       have S3 := Lib.hid hS
       clear hS S2 hx hf hz hr hp hcl hpc
       go_wp2_with fail
       go_meet
       case rel => exact ⟨_, _, AG, cG, act14G a1 L0, act14N a1 s L0, rfl, rfl, Lib.hid ⟨hoG_roll HK0.out hrm, rfl⟩, S3.out⟩
     have hb0 := beq_no h0
     have hb1 := beq_no h1
     have hb2 := beq_no h2
     have hb3 := beq_no h3
     have hb4 := beq_no h4
     have hb5 := beq_no h5
     have HN := Lib.hid (hoG_none HK0.out hrm h0 h1 h2 h3 h4 h5)
     clear h0 h1 h2 h3 h4 h5 hx hf hz hr hp hcl hpc
     go_wp2_with fail
     go_meet
     case rel => exact ⟨0, 0, none, 0, [], L0, rfl, rfl, Lib.hid ⟨HN.out, rfl⟩, S2.out.nilLines⟩

   case rest =>
    as_aux_lemma =>
     obtain ⟨e, nG, AG, cG, G, L1, rfl, rfl, HR, hS⟩ := hcut
     have S4 := Lib.hid hS
     clear hS S2 hx hf hz hr hp hcl hpc
     have HLL1 := Lib.hid (show L1.length = rr from HR.out.1.kept.2.1)
     have HK1 := Lib.hid HR.out.1.kept
     have HNG := Lib.hid HR.out.2
     have hL1m : L1.length ≤ 1000 := by have := HLL1.out; omega
     go_wp2_with fail
     refine (Lines_any S4.out (k := 3) rfl hc0 (HK1.out.1.mill hcm0) (by omega)).mono ?_
     rintro x w7 ⟨v14, rfl, hS⟩
     obtain ⟨A14, c14, rfl, -, -⟩ := hS.linesRd (k := 0) rfl
     have S5 := Lib.hid hS
     clear hS S4
     go_upto_region 27 with (fail)
     have hn0 : ((L0.length : Int) != (rr : Int)) = false := bne_no (by rw [HK0.out.2.1])
     have hn1 : ((L1.length : Int) != (rr : Int)) = false := bne_no (by rw [HLL1.out])
     have SR0 := Lib.hid (S5.out.linesRd' (k := 2) rfl).2.2
     have SR1 := Lib.hid (S5.out.linesRd' (k := 0) rfl).2.2
     go_cut [161] (fun s161 wx => s161 = .bool false ∧ Objs w wx [.lines (.slice A14 L1.length c14) L1, .lines (.slice AG nG cG) G, .lines (.slice A11 L0.length c11) L0, .box b10 90 (av14 a1), .grid p 58 ↑s L1])
     case first =>
      as_aux_lemma =>
       by_cases he : e = 0
       case neg =>
        as_aux_lemma =>
         have hbe := bne_yes he
         have hg0 : ((nG : Int) != 0) = false := bne_no (by rw [HNG.out, (HR.out.1.bad he).2]; rfl)
         have HSAME := Lib.hid (show Calls Tryd.prog 19 #[.slice A11 L0.length c11, .slice A14 L1.length c14] w7 fun x w' => x = .returned (.bool true) ∧ Below w7.heap.size w7 w' by
          have hcon := r14SameLines_any A11 A14 c11 c14 L0 L1 w7 SR0.out SR1.out (by omega) (by omega) (HK0.out.1.mill hcm0) (HK1.out.1.mill hcm0)
          rw [(HR.out.1.bad he).1] at hcon ⊢
          simpa using hcon)
         clear he
         go_wp2_with fail
         refine HSAME.out.mono ?_
         rintro x w8 ⟨rfl, hb⟩
         have S6 := Lib.hid (S5.out.bel hb)
         clear hb
         go_wp2_with fail
         go_meet
         case rel => exact ⟨rfl, S6.out⟩
       case pos =>
        as_aux_lemma =>
         have hbe := bne_no he
         clear he
         go_wp2_with fail
         go_meet
         case rel => exact ⟨rfl, S5.out⟩
     case rest =>
      as_aux_lemma =>
       obtain ⟨rfl, hS⟩ := hcut
       have S6 := Lib.hid hS
       clear hS S5 SR0 SR1 hn0 hn1
       go_wp2_with fail
       go_loopg [15] rr (fun g v wx => ∃ k : Nat, k ≤ rr ∧ g = rr - k ∧ v = .int .i64 k ∧ Objs w wx [.lines (.slice A14 L1.length c14) L1, .lines (.slice AG nG cG) G, .lines (.slice A11 L0.length c11) L0, .box b10 90 (av14 a1), .grid p 58 ↑s L1])
       case atStart => exact ⟨0, Nat.zero_le _, rfl, rfl, S6.out⟩
       case round =>
        as_aux_lemma =>
         clear S6
         obtain ⟨k, hk, rfl, rfl, hS⟩ := hrel
         have S7 := Lib.hid hS
         clear hS
         by_cases hkr : k < rr
         case pos =>
          as_aux_lemma =>
           obtain ⟨l0, hl0⟩ := get_of (show k < L0.length by rw [HK0.out.2.1]; exact hkr)
           obtain ⟨l1, hl1'⟩ := get_of (show k < L1.length by rw [HLL1.out]; exact hkr)
           obtain ⟨g1, o1, B1v, d1v, rfl, hzg1, hc3, hc4, hB1⟩ := (S7.out.linesRd' (k := 0) rfl).2.2.at_ hl1'
           have HB1 := Lib.hid hB1
           have hk0 : (0 : Int) ≤ (k : Int) := by omega
           have hk1 : (k : Int) < (L0.length : Int) := by have := HK0.out.2.1; omega
           have hk2 : (k : Int) < (L1.length : Int) := by have := HLL1.out; omega
           have hls1 : ((l1.1.length : Int) != (s : Int)) = false := bne_no (by rw [HK1.out.1.at_ hl1'])
           have hlm1 : l1.1.length ≤ 1000000 := by rw [HK1.out.1.at_ hl1']; omega
           have HOKL := Lib.hid (show lineOk l1.1 = true by
            have h1 := HK1.out.2.2 l1 (List.mem_of_getElem? hl1')
            have h2 := rowOk_is.2 h1
            have h3 := HK1.out.1.at_ hl1'
            simp [lineOk, h2]; omega)
           clear hB1
           go_wp2_with fail
           refine (lvalid_is HOKL.out _ _ _ _ (S7.out.tabs HT.out) HB1.out hlm1).mono ?_
           rintro x w8 ⟨rfl, hb⟩
           have S8 := Lib.hid (S7.out.bel hb)
           clear hb S7 hc3 hc4 hzg1 HB1
           go_upto_region 34 with (fail)
           obtain ⟨hx, hf, hz, hr, hp, hcl, hpc⟩ := (S8.out.box (k := 3) rfl).act14
           obtain ⟨g0, o0, B0, d0, rfl, hzg0, hc1, hc2, hB0⟩ := (S8.out.linesRd' (k := 2) rfl).2.2.at_ hl0
           obtain ⟨g1', o1', B1, d1, e1, hzg1, hc3, hc4, hB1⟩ := (S8.out.linesRd' (k := 0) rfl).2.2.at_ hl1'
           obtain ⟨rfl, rfl⟩ : g1 = g1' ∧ o1 = o1' := by simpa using e1
           have HB0 := Lib.hid hB0
           have HB1 := Lib.hid hB1
           clear hB0 hB1 e1
           by_cases hw4 : a1.what ≤ 4
           case neg =>
            as_aux_lemma =>
             have hwq : ¬ a1.what ≤ 4 := hw4
             clear hl0 hl1' hw4
             refine wp_region_stage (w0 := w8) (os := []) (by kernel_rfl) (by kernel_rfl) (by kernel_rfl) [] [[], [], [], [], [], [], [], [], [], [], [], [], [], [], [], [], [], [], [], [], []] [] (fun opn u => match opn with | 0 => u = .pointer (some ⟨b10, 0, none⟩) | 1 => u = .int .i64 a1.what | 2 => u = .bool false | 3 => u = .bool false | 4 => u = (undef : Value) | 5 => u = (undef : Value) | 6 => u = (undef : Value) | 7 => u = (undef : Value) | 8 => u = .bool false | 9 => u = .bool false | 10 => u = (undef : Value) | 11 => u = (undef : Value) | 12 => u = (undef : Value) | 13 => u = (undef : Value) | 14 => u = (undef : Value) | 15 => u = (undef : Value) | 16 => u = (undef : Value) | 17 => u = (undef : Value) | 18 => u = (undef : Value) | 19 => u = (undef : Value) | 20 => u = .bool false | _ => True) (fun vs => []) (by kernel_rfl) (fun vs => by rfl) (objs_start w8) ?_ ?_
             ·apply sc
              ·intro a w' vs σ hS hl hs hk
               have f10 : a.tmps[10]?.getD undef = .pointer (some ⟨b10, 0, none⟩) := sof hk
               exact rp (pt b10 0) (by simp [execOp, Act.eval, f10, go_sem]) hl hs hS
              apply sc
              ·intro a w' vs σ hS hl hs hk
               have f183 : a.tmps[183]?.getD undef = .pointer (some ⟨b10, 0, none⟩) := svf hk 0
               have hxx := (hS.base.cell (p := ⟨b10, 0, none⟩) hz).trans (hx 0)
               exact rp (.int .i64 a1.what) (by simp [execOp, Act.eval, f183, go_sem, hxx]) hl hs hS
              apply sc
              ·intro a w' vs σ hS hl hs hk
               have f184 : a.tmps[184]?.getD undef = .int .i64 a1.what := svf hk 1
               exact rp (.bool false) (by simp [execOp, Act.eval, f184, go_sem, hwq]) hl hs hS
              apply sc
              ·intro a w' vs σ hS hl hs hk
               have f185 : a.tmps[185]?.getD undef = .bool false := svf hk 2
               exact rp (.bool false) (by simp [execOp, Act.eval, f185, go_sem]) hl hs hS
              apply sc
              ·intro a w' vs σ hS hl hs hk
               exact rs_skip (wanted_no rfl rfl rfl (svv hk 3) (by decide)) (sp_same (by kernel_rfl) hl hs hS rfl)
              apply sc
              ·intro a w' vs σ hS hl hs hk
               exact rs_skip (wanted_no rfl rfl rfl (svv hk 3) (by decide)) (sp_same (by kernel_rfl) hl hs hS rfl)
              apply sc
              ·intro a w' vs σ hS hl hs hk
               exact rs_skip (wanted_no rfl rfl rfl (svv hk 3) (by decide)) (sp_same (by kernel_rfl) hl hs hS rfl)
              apply sc
              ·intro a w' vs σ hS hl hs hk
               exact rs_skip (wanted_no rfl rfl rfl (svv hk 3) (by decide)) (sp_same (by kernel_rfl) hl hs hS rfl)
              apply sc
              ·intro a w' vs σ hS hl hs hk
               have f186 : a.tmps[186]?.getD undef = .bool false := svf hk 3
               have f190 : a.tmps[190]?.getD undef = (undef : Value) := svf hk 7
               exact rp (.bool false) (by simp [execOp, Act.eval, f186, f190, go_sem]) hl hs hS
              apply sc
              ·intro a w' vs σ hS hl hs hk
               have f191 : a.tmps[191]?.getD undef = .bool false := svf hk 8
               exact rp (.bool false) (by simp [execOp, Act.eval, f191, go_sem]) hl hs hS
              apply sc
              ·intro a w' vs σ hS hl hs hk
               exact rs_skip (wanted_no rfl rfl rfl (svv hk 9) (by decide)) (sp_same (by kernel_rfl) hl hs hS rfl)
              apply sc
              ·intro a w' vs σ hS hl hs hk
               exact rs_skip (wanted_no rfl rfl rfl (svv hk 9) (by decide)) (sp_same (by kernel_rfl) hl hs hS rfl)
              apply sc
              ·intro a w' vs σ hS hl hs hk
               exact rs_skip (wanted_no rfl rfl rfl (svv hk 9) (by decide)) (sp_same (by kernel_rfl) hl hs hS rfl)
              apply sc
              ·intro a w' vs σ hS hl hs hk
               exact rs_skip (wanted_no rfl rfl rfl (svv hk 9) (by decide)) (sp_same (by kernel_rfl) hl hs hS rfl)
              apply sc
              ·intro a w' vs σ hS hl hs hk
               exact rs_skip (wanted_no rfl rfl rfl (svv hk 9) (by decide)) (sp_same (by kernel_rfl) hl hs hS rfl)
              apply sc
              ·intro a w' vs σ hS hl hs hk
               exact rs_skip (wanted_no rfl rfl rfl (svv hk 9) (by decide)) (sp_same (by kernel_rfl) hl hs hS rfl)
              apply sc
              ·intro a w' vs σ hS hl hs hk
               exact rs_skip (wanted_no rfl rfl rfl (svv hk 9) (by decide)) (sp_same (by kernel_rfl) hl hs hS rfl)
              apply sc
              ·intro a w' vs σ hS hl hs hk
               exact rs_skip (wanted_no rfl rfl rfl (svv hk 9) (by decide)) (sp_same (by kernel_rfl) hl hs hS rfl)
              apply sc
              ·intro a w' vs σ hS hl hs hk
               exact rs_skip (wanted_no rfl rfl rfl (svv hk 9) (by decide)) (sp_same (by kernel_rfl) hl hs hS rfl)
              apply sc
              ·intro a w' vs σ hS hl hs hk
               exact rs_skip (wanted_no rfl rfl rfl (svv hk 9) (by decide)) (sp_same (by kernel_rfl) hl hs hS rfl)
              apply sc
              ·intro a w' vs σ hS hl hs hk
               have f192 : a.tmps[192]?.getD undef = .bool false := svf hk 9
               have f202 : a.tmps[202]?.getD undef = (undef : Value) := svf hk 19
               exact rp (.bool false) (by simp [execOp, Act.eval, f192, f202, go_sem]) hl hs hS
              exact SSteps.nil
             ·intro vs w' hS hv
              have q0 : vs 0 = _ := hv 0 (by decide)
              have q1 : vs 1 = _ := hv 1 (by decide)
              have q2 : vs 2 = _ := hv 2 (by decide)
              have q3 : vs 3 = _ := hv 3 (by decide)
              have q4 : vs 4 = _ := hv 4 (by decide)
              have q5 : vs 5 = _ := hv 5 (by decide)
              have q6 : vs 6 = _ := hv 6 (by decide)
              have q7 : vs 7 = _ := hv 7 (by decide)
              have q8 : vs 8 = _ := hv 8 (by decide)
              have q9 : vs 9 = _ := hv 9 (by decide)
              have q10 : vs 10 = _ := hv 10 (by decide)
              have q11 : vs 11 = _ := hv 11 (by decide)
              have q12 : vs 12 = _ := hv 12 (by decide)
              have q13 : vs 13 = _ := hv 13 (by decide)
              have q14 : vs 14 = _ := hv 14 (by decide)
              have q15 : vs 15 = _ := hv 15 (by decide)
              have q16 : vs 16 = _ := hv 16 (by decide)
              have q17 : vs 17 = _ := hv 17 (by decide)
              have q18 : vs 18 = _ := hv 18 (by decide)
              have q19 : vs 19 = _ := hv 19 (by decide)
              have q20 : vs 20 = _ := hv 20 (by decide)
              have S2 := Lib.hid hS
              simp only [putL, Act.put, Nat.zero_add, Nat.reduceAdd, List.setIfInBounds_toArray, List.set_cons_succ, List.set_cons_zero, q0, q1, q2, q3, q4, q5, q6, q7, q8, q9, q10, q11, q12, q13, q14, q15, q16, q17, q18, q19, q20]
              clear hS hv q0 q1 q2 q3 q4 q5 q6 q7 q8 q9 q10 q11 q12 q13 q14 q15 q16 q17 q18 q19 q20
              have S9 := Lib.hid (S8.out.bel S2.out.base)
              clear S2 S8 hx hf hz hr hp hcl hpc hzg0 hc1 hc2 hzg1 hc3 hc4 HB0 HB1
              go_wp2_with fail
              go_roundg (rr - (k + 1))
              case measure => omega
              case rel => exact ⟨k + 1, by omega, rfl, by go_num, S9.out⟩

           case pos =>
            as_aux_lemma =>
             by_cases hki : (k : Int) = a1.row
             case pos =>
              as_aux_lemma =>
               have hwq : a1.what ≤ 4 := hw4
               have hkr : ((k : Int) != a1.row) = false := bne_no hki
               clear hl0 hl1' hw4 hki
               refine wp_region_stage (w0 := w8) (os := []) (by kernel_rfl) (by kernel_rfl) (by kernel_rfl) [] [[], [], [], [], [], [], [], [], [], [], [], [], [], [], [], [], [], [], [], [], []] [] (fun opn u => match opn with | 0 => u = .pointer (some ⟨b10, 0, none⟩) | 1 => u = .int .i64 a1.what | 2 => u = .bool true | 3 => u = .bool true | 4 => u = .int .i64 ↑k | 5 => u = .pointer (some ⟨b10, 1, none⟩) | 6 => u = .int .i64 a1.row | 7 => u = .bool false | 8 => u = .bool false | 9 => u = .bool false | 10 => u = (undef : Value) | 11 => u = (undef : Value) | 12 => u = (undef : Value) | 13 => u = (undef : Value) | 14 => u = (undef : Value) | 15 => u = (undef : Value) | 16 => u = (undef : Value) | 17 => u = (undef : Value) | 18 => u = (undef : Value) | 19 => u = (undef : Value) | 20 => u = .bool false | _ => True) (fun vs => []) (by kernel_rfl) (fun vs => by rfl) (objs_start w8) ?_ ?_
               ·apply sc
                ·intro a w' vs σ hS hl hs hk
                 have f10 : a.tmps[10]?.getD undef = .pointer (some ⟨b10, 0, none⟩) := sof hk
                 exact rp (pt b10 0) (by simp [execOp, Act.eval, f10, go_sem]) hl hs hS
                apply sc
                ·intro a w' vs σ hS hl hs hk
                 have f183 : a.tmps[183]?.getD undef = .pointer (some ⟨b10, 0, none⟩) := svf hk 0
                 have hxx := (hS.base.cell (p := ⟨b10, 0, none⟩) hz).trans (hx 0)
                 exact rp (.int .i64 a1.what) (by simp [execOp, Act.eval, f183, go_sem, hxx]) hl hs hS
                apply sc
                ·intro a w' vs σ hS hl hs hk
                 have f184 : a.tmps[184]?.getD undef = .int .i64 a1.what := svf hk 1
                 exact rp (.bool true) (by simp [execOp, Act.eval, f184, go_sem, hwq]) hl hs hS
                apply sc
                ·intro a w' vs σ hS hl hs hk
                 have f185 : a.tmps[185]?.getD undef = .bool true := svf hk 2
                 exact rp (.bool true) (by simp [execOp, Act.eval, f185, go_sem]) hl hs hS
                apply sc
                ·intro a w' vs σ hS hl hs hk
                 have f15 : a.tmps[15]?.getD undef = .int .i64 ↑k := sof hk
                 exact rq (.int .i64 ↑k) (wanted_yes rfl rfl rfl (svv hk 3)) (by simp [execOp, Act.eval, f15, go_sem]) hl hs hS
                apply sc
                ·intro a w' vs σ hS hl hs hk
                 have f10 : a.tmps[10]?.getD undef = .pointer (some ⟨b10, 0, none⟩) := sof hk
                 exact rq (pt b10 1) (wanted_yes rfl rfl rfl (svv hk 3)) (by simp [execOp, Act.eval, f10, go_sem]) hl hs hS
                apply sc
                ·intro a w' vs σ hS hl hs hk
                 have f188 : a.tmps[188]?.getD undef = .pointer (some ⟨b10, 1, none⟩) := svf hk 5
                 have hxx := (hS.base.cell (p := ⟨b10, 1, none⟩) hz).trans (hx 1)
                 exact rq (.int .i64 a1.row) (wanted_yes rfl rfl rfl (svv hk 3)) (by simp [execOp, Act.eval, f188, go_sem, hxx]) hl hs hS
                apply sc
                ·intro a w' vs σ hS hl hs hk
                 have f187 : a.tmps[187]?.getD undef = .int .i64 ↑k := svf hk 4
                 have f189 : a.tmps[189]?.getD undef = .int .i64 a1.row := svf hk 6
                 exact rq (.bool false) (wanted_yes rfl rfl rfl (svv hk 3)) (by simp [execOp, Act.eval, f187, f189, go_sem, hkr]) hl hs hS
                apply sc
                ·intro a w' vs σ hS hl hs hk
                 have f186 : a.tmps[186]?.getD undef = .bool true := svf hk 3
                 have f190 : a.tmps[190]?.getD undef = .bool false := svf hk 7
                 exact rp (.bool false) (by simp [execOp, Act.eval, f186, f190, go_sem]) hl hs hS
                apply sc
                ·intro a w' vs σ hS hl hs hk
                 have f191 : a.tmps[191]?.getD undef = .bool false := svf hk 8
                 exact rp (.bool false) (by simp [execOp, Act.eval, f191, go_sem]) hl hs hS
                apply sc
                ·intro a w' vs σ hS hl hs hk
                 exact rs_skip (wanted_no rfl rfl rfl (svv hk 9) (by decide)) (sp_same (by kernel_rfl) hl hs hS rfl)
                apply sc
                ·intro a w' vs σ hS hl hs hk
                 exact rs_skip (wanted_no rfl rfl rfl (svv hk 9) (by decide)) (sp_same (by kernel_rfl) hl hs hS rfl)
                apply sc
                ·intro a w' vs σ hS hl hs hk
                 exact rs_skip (wanted_no rfl rfl rfl (svv hk 9) (by decide)) (sp_same (by kernel_rfl) hl hs hS rfl)
                apply sc
                ·intro a w' vs σ hS hl hs hk
                 exact rs_skip (wanted_no rfl rfl rfl (svv hk 9) (by decide)) (sp_same (by kernel_rfl) hl hs hS rfl)
                apply sc
                ·intro a w' vs σ hS hl hs hk
                 exact rs_skip (wanted_no rfl rfl rfl (svv hk 9) (by decide)) (sp_same (by kernel_rfl) hl hs hS rfl)
                apply sc
                ·intro a w' vs σ hS hl hs hk
                 exact rs_skip (wanted_no rfl rfl rfl (svv hk 9) (by decide)) (sp_same (by kernel_rfl) hl hs hS rfl)
                apply sc
                ·intro a w' vs σ hS hl hs hk
                 exact rs_skip (wanted_no rfl rfl rfl (svv hk 9) (by decide)) (sp_same (by kernel_rfl) hl hs hS rfl)
                apply sc
                ·intro a w' vs σ hS hl hs hk
                 exact rs_skip (wanted_no rfl rfl rfl (svv hk 9) (by decide)) (sp_same (by kernel_rfl) hl hs hS rfl)
                apply sc
                ·intro a w' vs σ hS hl hs hk
                 exact rs_skip (wanted_no rfl rfl rfl (svv hk 9) (by decide)) (sp_same (by kernel_rfl) hl hs hS rfl)
                apply sc
                ·intro a w' vs σ hS hl hs hk
                 exact rs_skip (wanted_no rfl rfl rfl (svv hk 9) (by decide)) (sp_same (by kernel_rfl) hl hs hS rfl)
                apply sc
                ·intro a w' vs σ hS hl hs hk
                 have f192 : a.tmps[192]?.getD undef = .bool false := svf hk 9
                 have f202 : a.tmps[202]?.getD undef = (undef : Value) := svf hk 19
                 exact rp (.bool false) (by simp [execOp, Act.eval, f192, f202, go_sem]) hl hs hS
                exact SSteps.nil
               ·intro vs w' hS hv
                have q0 : vs 0 = _ := hv 0 (by decide)
                have q1 : vs 1 = _ := hv 1 (by decide)
                have q2 : vs 2 = _ := hv 2 (by decide)
                have q3 : vs 3 = _ := hv 3 (by decide)
                have q4 : vs 4 = _ := hv 4 (by decide)
                have q5 : vs 5 = _ := hv 5 (by decide)
                have q6 : vs 6 = _ := hv 6 (by decide)
                have q7 : vs 7 = _ := hv 7 (by decide)
                have q8 : vs 8 = _ := hv 8 (by decide)
                have q9 : vs 9 = _ := hv 9 (by decide)
                have q10 : vs 10 = _ := hv 10 (by decide)
                have q11 : vs 11 = _ := hv 11 (by decide)
                have q12 : vs 12 = _ := hv 12 (by decide)
                have q13 : vs 13 = _ := hv 13 (by decide)
                have q14 : vs 14 = _ := hv 14 (by decide)
                have q15 : vs 15 = _ := hv 15 (by decide)
                have q16 : vs 16 = _ := hv 16 (by decide)
                have q17 : vs 17 = _ := hv 17 (by decide)
                have q18 : vs 18 = _ := hv 18 (by decide)
                have q19 : vs 19 = _ := hv 19 (by decide)
                have q20 : vs 20 = _ := hv 20 (by decide)
                have S2 := Lib.hid hS
                simp only [putL, Act.put, Nat.zero_add, Nat.reduceAdd, List.setIfInBounds_toArray, List.set_cons_succ, List.set_cons_zero, q0, q1, q2, q3, q4, q5, q6, q7, q8, q9, q10, q11, q12, q13, q14, q15, q16, q17, q18, q19, q20]
                clear hS hv q0 q1 q2 q3 q4 q5 q6 q7 q8 q9 q10 q11 q12 q13 q14 q15 q16 q17 q18 q19 q20
                have S9 := Lib.hid (S8.out.bel S2.out.base)
                clear S2 S8 hx hf hz hr hp hcl hpc hzg0 hc1 hc2 hzg1 hc3 hc4 HB0 HB1
                go_wp2_with fail
                go_roundg (rr - (k + 1))
                case measure => omega
                case rel => exact ⟨k + 1, by omega, rfl, by go_num, S9.out⟩

             case neg =>
              as_aux_lemma =>
               obtain rfl : l1 = l0 := by
                have := HR.out.1.far hw4 k hki
                rw [hl0, hl1'] at this
                exact Option.some.inj this
               have hwq : a1.what ≤ 4 := hw4
               have hkr : ((k : Int) != a1.row) = true := bne_yes hki
               clear hl0 hl1' hw4 hki
               refine wp_region_stage (w0 := w8) (os := []) (by kernel_rfl) (by kernel_rfl) (by kernel_rfl) [] [[], [], [], [], [], [], [], [], [], [], [], [], [], [], [], [], [], [], [], [], []] [] (fun opn u => match opn with | 0 => u = .pointer (some ⟨b10, 0, none⟩) | 1 => u = .int .i64 a1.what | 2 => u = .bool true | 3 => u = .bool true | 4 => u = .int .i64 ↑k | 5 => u = .pointer (some ⟨b10, 1, none⟩) | 6 => u = .int .i64 a1.row | 7 => u = .bool true | 8 => u = .bool true | 9 => u = .bool true | 10 => u = .slice (some ⟨g0, o0, none⟩) L0.length c11 | 11 => u = .int .i64 ↑k | 12 => u = .pointer (some ⟨g0, o0 + k * 2, none⟩) | 13 => u = .agg #[.slice B0 l1.1.length d0, .bool l1.2] | 14 => u = .slice (some ⟨g1, o1, none⟩) L1.length c14 | 15 => u = .int .i64 ↑k | 16 => u = .pointer (some ⟨g1, o1 + k * 2, none⟩) | 17 => u = .agg #[.slice B1 l1.1.length d1, .bool l1.2] | 18 => u = .bool true | 19 => u = .bool false | 20 => u = .bool false | _ => True) (fun vs => []) (by kernel_rfl) (fun vs => by rfl) (objs_start w8) ?_ ?_
               ·apply sc
                ·intro a w' vs σ hS hl hs hk
                 have f10 : a.tmps[10]?.getD undef = .pointer (some ⟨b10, 0, none⟩) := sof hk
                 exact rp (pt b10 0) (by simp [execOp, Act.eval, f10, go_sem]) hl hs hS
                apply sc
                ·intro a w' vs σ hS hl hs hk
                 have f183 : a.tmps[183]?.getD undef = .pointer (some ⟨b10, 0, none⟩) := svf hk 0
                 have hxx := (hS.base.cell (p := ⟨b10, 0, none⟩) hz).trans (hx 0)
                 exact rp (.int .i64 a1.what) (by simp [execOp, Act.eval, f183, go_sem, hxx]) hl hs hS
                apply sc
                ·intro a w' vs σ hS hl hs hk
                 have f184 : a.tmps[184]?.getD undef = .int .i64 a1.what := svf hk 1
                 exact rp (.bool true) (by simp [execOp, Act.eval, f184, go_sem, hwq]) hl hs hS
                apply sc
                ·intro a w' vs σ hS hl hs hk
                 have f185 : a.tmps[185]?.getD undef = .bool true := svf hk 2
                 exact rp (.bool true) (by simp [execOp, Act.eval, f185, go_sem]) hl hs hS
                apply sc
                ·intro a w' vs σ hS hl hs hk
                 have f15 : a.tmps[15]?.getD undef = .int .i64 ↑k := sof hk
                 exact rq (.int .i64 ↑k) (wanted_yes rfl rfl rfl (svv hk 3)) (by simp [execOp, Act.eval, f15, go_sem]) hl hs hS
                apply sc
                ·intro a w' vs σ hS hl hs hk
                 have f10 : a.tmps[10]?.getD undef = .pointer (some ⟨b10, 0, none⟩) := sof hk
                 exact rq (pt b10 1) (wanted_yes rfl rfl rfl (svv hk 3)) (by simp [execOp, Act.eval, f10, go_sem]) hl hs hS
                apply sc
                ·intro a w' vs σ hS hl hs hk
                 have f188 : a.tmps[188]?.getD undef = .pointer (some ⟨b10, 1, none⟩) := svf hk 5
                 have hxx := (hS.base.cell (p := ⟨b10, 1, none⟩) hz).trans (hx 1)
                 exact rq (.int .i64 a1.row) (wanted_yes rfl rfl rfl (svv hk 3)) (by simp [execOp, Act.eval, f188, go_sem, hxx]) hl hs hS
                apply sc
                ·intro a w' vs σ hS hl hs hk
                 have f187 : a.tmps[187]?.getD undef = .int .i64 ↑k := svf hk 4
                 have f189 : a.tmps[189]?.getD undef = .int .i64 a1.row := svf hk 6
                 exact rq (.bool true) (wanted_yes rfl rfl rfl (svv hk 3)) (by simp [execOp, Act.eval, f187, f189, go_sem, hkr]) hl hs hS
                apply sc
                ·intro a w' vs σ hS hl hs hk
                 have f186 : a.tmps[186]?.getD undef = .bool true := svf hk 3
                 have f190 : a.tmps[190]?.getD undef = .bool true := svf hk 7
                 exact rp (.bool true) (by simp [execOp, Act.eval, f186, f190, go_sem]) hl hs hS
                apply sc
                ·intro a w' vs σ hS hl hs hk
                 have f191 : a.tmps[191]?.getD undef = .bool true := svf hk 8
                 exact rp (.bool true) (by simp [execOp, Act.eval, f191, go_sem]) hl hs hS
                apply sc
                ·intro a w' vs σ hS hl hs hk
                 have f11 : a.tmps[11]?.getD undef = .slice (some ⟨g0, o0, none⟩) L0.length c11 := sof hk
                 exact rq (.slice (some ⟨g0, o0, none⟩) L0.length c11) (wanted_yes rfl rfl rfl (svv hk 9)) (by simp [execOp, Act.eval, f11, go_sem]) hl hs hS
                apply sc
                ·intro a w' vs σ hS hl hs hk
                 have f15 : a.tmps[15]?.getD undef = .int .i64 ↑k := sof hk
                 exact rq (.int .i64 ↑k) (wanted_yes rfl rfl rfl (svv hk 9)) (by simp [execOp, Act.eval, f15, go_sem]) hl hs hS
                apply sc
                ·intro a w' vs σ hS hl hs hk
                 have f193 : a.tmps[193]?.getD undef = .slice (some ⟨g0, o0, none⟩) L0.length c11 := svf hk 10
                 have f194 : a.tmps[194]?.getD undef = .int .i64 ↑k := svf hk 11
                 exact rq (pt g0 (o0 + k * 2)) (wanted_yes rfl rfl rfl (svv hk 9)) (by simp [execOp, Act.eval, f193, f194, go_sem, hk0, hk1]) hl hs hS
                apply sc
                ·intro a w' vs σ hS hl hs hk
                 have f195 : a.tmps[195]?.getD undef = .pointer (some ⟨g0, o0 + k * 2, none⟩) := svf hk 12
                 have hx := (hS.base.cell (p := ⟨g0, o0 + k * 2, none⟩) hzg0).trans hc1
                 have hy := (hS.base.cell (p := ⟨g0, o0 + k * 2 + 1, none⟩) hzg0).trans hc2
                 exact rq (.agg #[.slice B0 l1.1.length d0, .bool l1.2]) (wanted_yes rfl rfl rfl (svv hk 9)) (by simp [execOp, Act.eval, f195, go_sem, hx, hy]) hl hs hS
                apply sc
                ·intro a w' vs σ hS hl hs hk
                 have f14 : a.tmps[14]?.getD undef = .slice (some ⟨g1, o1, none⟩) L1.length c14 := sof hk
                 exact rq (.slice (some ⟨g1, o1, none⟩) L1.length c14) (wanted_yes rfl rfl rfl (svv hk 9)) (by simp [execOp, Act.eval, f14, go_sem]) hl hs hS
                apply sc
                ·intro a w' vs σ hS hl hs hk
                 have f15 : a.tmps[15]?.getD undef = .int .i64 ↑k := sof hk
                 exact rq (.int .i64 ↑k) (wanted_yes rfl rfl rfl (svv hk 9)) (by simp [execOp, Act.eval, f15, go_sem]) hl hs hS
                apply sc
                ·intro a w' vs σ hS hl hs hk
                 have f197 : a.tmps[197]?.getD undef = .slice (some ⟨g1, o1, none⟩) L1.length c14 := svf hk 14
                 have f198 : a.tmps[198]?.getD undef = .int .i64 ↑k := svf hk 15
                 exact rq (pt g1 (o1 + k * 2)) (wanted_yes rfl rfl rfl (svv hk 9)) (by simp [execOp, Act.eval, f197, f198, go_sem, hk0, hk2]) hl hs hS
                apply sc
                ·intro a w' vs σ hS hl hs hk
                 have f199 : a.tmps[199]?.getD undef = .pointer (some ⟨g1, o1 + k * 2, none⟩) := svf hk 16
                 have hx := (hS.base.cell (p := ⟨g1, o1 + k * 2, none⟩) hzg1).trans hc3
                 have hy := (hS.base.cell (p := ⟨g1, o1 + k * 2 + 1, none⟩) hzg1).trans hc4
                 exact rq (.agg #[.slice B1 l1.1.length d1, .bool l1.2]) (wanted_yes rfl rfl rfl (svv hk 9)) (by simp [execOp, Act.eval, f199, go_sem, hx, hy]) hl hs hS
                apply sc
                ·intro a w' vs σ hS hl hs hk
                 have e196 : a.tmps.getD 196 undef = .agg #[.slice B0 l1.1.length d0, .bool l1.2] := svv hk 13
                 have e200 : a.tmps.getD 200 undef = .agg #[.slice B1 l1.1.length d1, .bool l1.2] := svv hk 17
                 have hcon := r14SameLine_any B0 B1 d0 d1 l1.1 l1.1 l1.2 l1.2 w' (HB0.out.bel hS.base) (HB1.out.bel hS.base) hlm1 hlm1
                 rw [show eqL l1.1 l1.2 l1.1 l1.2 = true by rw [eqL_line]; simp] at hcon
                 exact ro_call (f := 41) (wanted_yes rfl rfl rfl (svv hk 9)) rfl (by simp only [List.map_toArray, List.map_cons, List.map_nil, Act.eval, e196, e200] <;> rfl) (fun _ _ => by kernel_rfl) (hcon.mono fun e w2 ⟨h1, h2⟩ => ⟨_, h1, sp_same (by kernel_rfl) hl hs (hS.bel h2) rfl, trivial⟩)
                apply sc
                ·intro a w' vs σ hS hl hs hk
                 have f201 : a.tmps[201]?.getD undef = .bool true := svf hk 18
                 exact rq (.bool false) (wanted_yes rfl rfl rfl (svv hk 9)) (by simp [execOp, Act.eval, f201, go_sem]) hl hs hS
                apply sc
                ·intro a w' vs σ hS hl hs hk
                 have f192 : a.tmps[192]?.getD undef = .bool true := svf hk 9
                 have f202 : a.tmps[202]?.getD undef = .bool false := svf hk 19
                 exact rp (.bool false) (by simp [execOp, Act.eval, f192, f202, go_sem]) hl hs hS
                exact SSteps.nil
               ·intro vs w' hS hv
                have q0 : vs 0 = _ := hv 0 (by decide)
                have q1 : vs 1 = _ := hv 1 (by decide)
                have q2 : vs 2 = _ := hv 2 (by decide)
                have q3 : vs 3 = _ := hv 3 (by decide)
                have q4 : vs 4 = _ := hv 4 (by decide)
                have q5 : vs 5 = _ := hv 5 (by decide)
                have q6 : vs 6 = _ := hv 6 (by decide)
                have q7 : vs 7 = _ := hv 7 (by decide)
                have q8 : vs 8 = _ := hv 8 (by decide)
                have q9 : vs 9 = _ := hv 9 (by decide)
                have q10 : vs 10 = _ := hv 10 (by decide)
                have q11 : vs 11 = _ := hv 11 (by decide)
                have q12 : vs 12 = _ := hv 12 (by decide)
                have q13 : vs 13 = _ := hv 13 (by decide)
                have q14 : vs 14 = _ := hv 14 (by decide)
                have q15 : vs 15 = _ := hv 15 (by decide)
                have q16 : vs 16 = _ := hv 16 (by decide)
                have q17 : vs 17 = _ := hv 17 (by decide)
                have q18 : vs 18 = _ := hv 18 (by decide)
                have q19 : vs 19 = _ := hv 19 (by decide)
                have q20 : vs 20 = _ := hv 20 (by decide)
                have S2 := Lib.hid hS
                simp only [putL, Act.put, Nat.zero_add, Nat.reduceAdd, List.setIfInBounds_toArray, List.set_cons_succ, List.set_cons_zero, q0, q1, q2, q3, q4, q5, q6, q7, q8, q9, q10, q11, q12, q13, q14, q15, q16, q17, q18, q19, q20]
                clear hS hv q0 q1 q2 q3 q4 q5 q6 q7 q8 q9 q10 q11 q12 q13 q14 q15 q16 q17 q18 q19 q20
                have S9 := Lib.hid (S8.out.bel S2.out.base)
                clear S2 S8 hx hf hz hr hp hcl hpc hzg0 hc1 hc2 hzg1 hc3 hc4 HB0 HB1
                go_wp2_with fail
                go_roundg (rr - (k + 1))
                case measure => omega
                case rel => exact ⟨k + 1, by omega, rfl, by go_num, S9.out⟩

         case neg =>
          as_aux_lemma =>
           obtain rfl : k = rr := by omega
           clear hkr hk
           obtain ⟨hx, hf, hz, hr, hp, hcl, hpc⟩ := (S7.out.box (k := 3) rfl).act14
           by_cases h0 : a1.what = 0
           case pos =>
            as_aux_lemma =>
             have hb0 := beq_yes h0
             have hb5 : (a1.what == 5) = false := beq_no (by omega)
             by_cases he : e = 0
             case neg =>
              as_aux_lemma =>
               have hbe := beq_no he
               clear he h0
               go_wp2_with fail
               go_roundg (l.length - (k0 + 1))
               case measure => omega
               case rel => exact ⟨k0 + 1, L1, by omega, rfl, by go_num, HK1, (Objs.pick (σ := [_, _, _, _, _]) (os := []) S7.out [some 4] (by decide) rfl)⟩

             case pos =>
              as_aux_lemma =>
               have hbe := beq_yes he
               obtain ⟨i, j, er, ea, hir, hjs, hxw, hfar⟩ := HR.out.1.put h0 he
               obtain ⟨l0, hl0⟩ := get_of (show i < L0.length by rw [HK0.out.2.1]; exact hir)
               obtain ⟨l1, hl1'⟩ := get_of (show i < L1.length by rw [HLL1.out]; exact hir)
               have HFAR := Lib.hid (hfar l0 l1 hl0 hl1')
               have HXW := Lib.hid hxw
               have HER := Lib.hid er
               have HEA := Lib.hid ea
               have HL0 := Lib.hid hl0
               have HL1 := Lib.hid hl1'
               have HC0 := Lib.hid (HK0.out.1.at_ hl0)
               have HC1 := Lib.hid (HK1.out.1.at_ hl1')
               clear he h0 er ea hxw hfar hl0 hl1'
               go_wp2_with fail
               clear hx hf hz hr hp hcl hpc
               go_loopg [16] s (fun g v wx => ∃ k : Nat, k ≤ s ∧ g = s - k ∧ v = .int .i64 k ∧ Objs w wx [.lines (.slice A14 L1.length c14) L1, .lines (.slice AG nG cG) G, .lines (.slice A11 L0.length c11) L0, .box b10 90 (av14 a1), .grid p 58 ↑s L1])
               case atStart => exact ⟨0, Nat.zero_le _, rfl, rfl, S7.out⟩
               case round =>
                as_aux_lemma =>
                 clear S7
                 obtain ⟨k, hk, rfl, rfl, hS⟩ := hrel
                 have S9 := Lib.hid hS
                 clear hS
                 obtain ⟨hx, hf, hz, hr, hp, hcl, hpc⟩ := (S9.out.box (k := 3) rfl).act14
                 by_cases hks : k < s
                 case neg =>
                  as_aux_lemma =>
                   obtain rfl : k = s := by omega
                   clear hks hk
                   go_wp2_with fail
                   go_roundg (l.length - (k0 + 1))
                   case measure => omega
                   case rel => exact ⟨k0 + 1, L1, by omega, rfl, by go_num, HK1, (Objs.pick (σ := [_, _, _, _, _]) (os := []) S9.out [some 4] (by decide) rfl)⟩

                 case pos =>
                  as_aux_lemma =>
                   obtain ⟨g0, o0, B0, d0, rfl, hzg0, hc1, -, hB0⟩ := (S9.out.linesRd' (k := 2) rfl).2.2.at_ HL0.out
                   obtain ⟨g1, o1, B1, d1, rfl, hzg1, hc3, -, hB1⟩ := (S9.out.linesRd' (k := 0) rfl).2.2.at_ HL1.out
                   obtain ⟨gb0, ob0, rfl, hzb0, hce0⟩ := hB0.cellOfH (k := k) (by rw [HC0.out]; exact hks)
                   obtain ⟨gb1, ob1, rfl, hzb1, hce1⟩ := hB1.cellOfH (k := k) (by rw [HC1.out]; exact hks)
                   obtain ⟨x0, hx0⟩ : ∃ x, cAt l0.1 k = x := ⟨_, rfl⟩
                   rw [hx0] at hce0
                   have HX0 := Lib.hid hx0
                   have hi0 : (0 : Int) ≤ (i : Int) := by omega
                   have hi1 : (i : Int) < (L0.length : Int) := by have := HK0.out.2.1; omega
                   have hi2 : (i : Int) < (L1.length : Int) := by have := HLL1.out; omega
                   have hk0 : (0 : Int) ≤ (k : Int) := by omega
                   have hkl0 : (k : Int) < (l0.1.length : Int) := by rw [HC0.out]; omega
                   have hkl1 : (k : Int) < (l1.1.length : Int) := by rw [HC1.out]; omega
                   have hwj : IntKind.i64.wrap ((j : Int) - 1) = (j : Int) - 1 := IntWalk.i64_in _ (by omega)
                   have hww : IntKind.i64.wrap ((j : Int) + a1.x.width) = (j : Int) + a1.x.width := IntWalk.i64_in _ (by have := HXW.out; omega)
                   clear hB0 hB1 hx0
                   go_upto_region 40 with (fail)
                   by_cases h1 : k + 1 < j
                   case pos =>
                    as_aux_lemma =>
                     have hlt1 : (k : Int) < (j : Int) - 1 := by omega
                     have hce : cAt l1.1 k = x0 := by rw [← HX0.out]; exact (HFAR.out k hks (.inl h1)).symm
                     rw [hce] at hce1
                     clear hce h1
                     refine wp_region_stage (w0 := wr) (os := []) (by kernel_rfl) (by kernel_rfl) (by kernel_rfl) [] [[], [], [], [], [], [], [], [], [], [], [], [], [], [], [], [], [], [], [], [], [], [], [], [], [], [], [], [], [], [], [], [], [], [], [], []] [] (fun opn u => match opn with | 0 => u = .int .i64 ↑k | 1 => u = .pointer (some ⟨b10, 2, none⟩) | 2 => u = .int .i64 ↑j | 3 => u = .int .i64 (↑j - 1) | 4 => u = .bool true | 5 => u = .bool true | 6 => u = (undef : Value) | 7 => u = (undef : Value) | 8 => u = (undef : Value) | 9 => u = (undef : Value) | 10 => u = (undef : Value) | 11 => u = (undef : Value) | 12 => u = (undef : Value) | 13 => u = (undef : Value) | 14 => u = .bool true | 15 => u = .bool true | 16 => u = .slice (some ⟨g0, o0, none⟩) L0.length c11 | 17 => u = .pointer (some ⟨b10, 1, none⟩) | 18 => u = .int .i64 ↑i | 19 => u = .pointer (some ⟨g0, o0 + i * 2, none⟩) | 20 => u = .pointer (some ⟨g0, o0 + i * 2, none⟩) | 21 => u = .slice (some ⟨gb0, ob0, none⟩) l0.1.length d0 | 22 => u = .int .i64 ↑k | 23 => u = .pointer (some ⟨gb0, ob0 + k * 16, none⟩) | 24 => u = .agg (cv x0) | 25 => u = .slice (some ⟨g1, o1, none⟩) L1.length c14 | 26 => u = .pointer (some ⟨b10, 1, none⟩) | 27 => u = .int .i64 ↑i | 28 => u = .pointer (some ⟨g1, o1 + i * 2, none⟩) | 29 => u = .pointer (some ⟨g1, o1 + i * 2, none⟩) | 30 => u = .slice (some ⟨gb1, ob1, none⟩) l1.1.length d1 | 31 => u = .int .i64 ↑k | 32 => u = .pointer (some ⟨gb1, ob1 + k * 16, none⟩) | 33 => u = .agg (cv x0) | 34 => u = .bool false | 35 => u = .bool false | _ => True) (fun vs => []) (by kernel_rfl) (fun vs => by rfl) (objs_start wr) ?_ ?_
                     ·apply sc
                      ·intro a w' vs σ hS hl hs hk
                       have f16 : a.tmps[16]?.getD undef = .int .i64 ↑k := sof hk
                       exact rp (.int .i64 ↑k) (by simp [execOp, Act.eval, f16, go_sem]) hl hs hS
                      apply sc
                      ·intro a w' vs σ hS hl hs hk
                       have f10 : a.tmps[10]?.getD undef = .pointer (some ⟨b10, 0, none⟩) := sof hk
                       exact rp (pt b10 2) (by simp [execOp, Act.eval, f10, go_sem]) hl hs hS
                      apply sc
                      ·intro a w' vs σ hS hl hs hk
                       have f217 : a.tmps[217]?.getD undef = .pointer (some ⟨b10, 2, none⟩) := svf hk 1
                       have hxx := (hS.base.cell (p := ⟨b10, 2, none⟩) hz).trans ((hx 2).trans (show (av14 a1)[2]? = some (.int .i64 ↑j : Value) by rw [← HEA.out]; rfl))
                       exact rp (.int .i64 ↑j) (by simp [execOp, Act.eval, f217, go_sem, hxx]) hl hs hS
                      apply sc
                      ·intro a w' vs σ hS hl hs hk
                       have f218 : a.tmps[218]?.getD undef = .int .i64 ↑j := svf hk 2
                       exact rp (.int .i64 (↑j - 1)) (by simp [execOp, Act.eval, f218, go_sem, hwj]) hl hs hS
                      apply sc
                      ·intro a w' vs σ hS hl hs hk
                       have f216 : a.tmps[216]?.getD undef = .int .i64 ↑k := svf hk 0
                       have f219 : a.tmps[219]?.getD undef = .int .i64 (↑j - 1) := svf hk 3
                       exact rp (.bool true) (by simp [execOp, Act.eval, f216, f219, go_sem, hlt1]) hl hs hS
                      apply sc
                      ·intro a w' vs σ hS hl hs hk
                       have f220 : a.tmps[220]?.getD undef = .bool true := svf hk 4
                       exact rp (.bool true) (by simp [execOp, Act.eval, f220, go_sem]) hl hs hS
                      apply sc
                      ·intro a w' vs σ hS hl hs hk
                       exact rs_skip (wanted_no rfl rfl rfl (svv hk 5) (by decide)) (sp_same (by kernel_rfl) hl hs hS rfl)
                      apply sc
                      ·intro a w' vs σ hS hl hs hk
                       exact rs_skip (wanted_no rfl rfl rfl (svv hk 5) (by decide)) (sp_same (by kernel_rfl) hl hs hS rfl)
                      apply sc
                      ·intro a w' vs σ hS hl hs hk
                       exact rs_skip (wanted_no rfl rfl rfl (svv hk 5) (by decide)) (sp_same (by kernel_rfl) hl hs hS rfl)
                      apply sc
                      ·intro a w' vs σ hS hl hs hk
                       exact rs_skip (wanted_no rfl rfl rfl (svv hk 5) (by decide)) (sp_same (by kernel_rfl) hl hs hS rfl)
                      apply sc
                      ·intro a w' vs σ hS hl hs hk
                       exact rs_skip (wanted_no rfl rfl rfl (svv hk 5) (by decide)) (sp_same (by kernel_rfl) hl hs hS rfl)
                      apply sc
                      ·intro a w' vs σ hS hl hs hk
                       exact rs_skip (wanted_no rfl rfl rfl (svv hk 5) (by decide)) (sp_same (by kernel_rfl) hl hs hS rfl)
                      apply sc
                      ·intro a w' vs σ hS hl hs hk
                       exact rs_skip (wanted_no rfl rfl rfl (svv hk 5) (by decide)) (sp_same (by kernel_rfl) hl hs hS rfl)
                      apply sc
                      ·intro a w' vs σ hS hl hs hk
                       exact rs_skip (wanted_no rfl rfl rfl (svv hk 5) (by decide)) (sp_same (by kernel_rfl) hl hs hS rfl)
                      apply sc
                      ·intro a w' vs σ hS hl hs hk
                       have f221 : a.tmps[221]?.getD undef = .bool true := svf hk 5
                       have f229 : a.tmps[229]?.getD undef = (undef : Value) := svf hk 13
                       exact rp (.bool true) (by simp [execOp, Act.eval, f221, f229, go_sem]) hl hs hS
                      apply sc
                      ·intro a w' vs σ hS hl hs hk
                       have f230 : a.tmps[230]?.getD undef = .bool true := svf hk 14
                       exact rp (.bool true) (by simp [execOp, Act.eval, f230, go_sem]) hl hs hS
                      apply sc
                      ·intro a w' vs σ hS hl hs hk
                       have f11 : a.tmps[11]?.getD undef = .slice (some ⟨g0, o0, none⟩) L0.length c11 := sof hk
                       exact rq (.slice (some ⟨g0, o0, none⟩) L0.length c11) (wanted_yes rfl rfl rfl (svv hk 15)) (by simp [execOp, Act.eval, f11, go_sem]) hl hs hS
                      apply sc
                      ·intro a w' vs σ hS hl hs hk
                       have f10 : a.tmps[10]?.getD undef = .pointer (some ⟨b10, 0, none⟩) := sof hk
                       exact rq (pt b10 1) (wanted_yes rfl rfl rfl (svv hk 15)) (by simp [execOp, Act.eval, f10, go_sem]) hl hs hS
                      apply sc
                      ·intro a w' vs σ hS hl hs hk
                       have f233 : a.tmps[233]?.getD undef = .pointer (some ⟨b10, 1, none⟩) := svf hk 17
                       have hxx := (hS.base.cell (p := ⟨b10, 1, none⟩) hz).trans ((hx 1).trans (show (av14 a1)[1]? = some (.int .i64 ↑i : Value) by rw [← HER.out]; rfl))
                       exact rq (.int .i64 ↑i) (wanted_yes rfl rfl rfl (svv hk 15)) (by simp [execOp, Act.eval, f233, go_sem, hxx]) hl hs hS
                      apply sc
                      ·intro a w' vs σ hS hl hs hk
                       have f232 : a.tmps[232]?.getD undef = .slice (some ⟨g0, o0, none⟩) L0.length c11 := svf hk 16
                       have f234 : a.tmps[234]?.getD undef = .int .i64 ↑i := svf hk 18
                       exact rq (pt g0 (o0 + i * 2)) (wanted_yes rfl rfl rfl (svv hk 15)) (by simp [execOp, Act.eval, f232, f234, go_sem, hi0, hi1]) hl hs hS
                      apply sc
                      ·intro a w' vs σ hS hl hs hk
                       have f235 : a.tmps[235]?.getD undef = .pointer (some ⟨g0, o0 + i * 2, none⟩) := svf hk 19
                       exact rq (pt g0 (o0 + i * 2)) (wanted_yes rfl rfl rfl (svv hk 15)) (by simp [execOp, Act.eval, f235, go_sem]) hl hs hS
                      apply sc
                      ·intro a w' vs σ hS hl hs hk
                       have f236 : a.tmps[236]?.getD undef = .pointer (some ⟨g0, o0 + i * 2, none⟩) := svf hk 20
                       have hxx := (hS.base.cell (p := ⟨g0, o0 + i * 2, none⟩) hzg0).trans hc1
                       exact rq (.slice (some ⟨gb0, ob0, none⟩) l0.1.length d0) (wanted_yes rfl rfl rfl (svv hk 15)) (by simp [execOp, Act.eval, f236, go_sem, hxx]) hl hs hS
                      apply sc
                      ·intro a w' vs σ hS hl hs hk
                       have f16 : a.tmps[16]?.getD undef = .int .i64 ↑k := sof hk
                       exact rq (.int .i64 ↑k) (wanted_yes rfl rfl rfl (svv hk 15)) (by simp [execOp, Act.eval, f16, go_sem]) hl hs hS
                      apply sc
                      ·intro a w' vs σ hS hl hs hk
                       have f237 : a.tmps[237]?.getD undef = .slice (some ⟨gb0, ob0, none⟩) l0.1.length d0 := svf hk 21
                       have f238 : a.tmps[238]?.getD undef = .int .i64 ↑k := svf hk 22
                       exact rq (pt gb0 (ob0 + k * 16)) (wanted_yes rfl rfl rfl (svv hk 15)) (by simp [execOp, Act.eval, f237, f238, go_sem, hk0, hkl0]) hl hs hS
                      apply sc
                      ·intro a w' vs σ hS hl hs hk
                       have f239 : a.tmps[239]?.getD undef = .pointer (some ⟨gb0, ob0 + k * 16, none⟩) := svf hk 23
                       have hxx := (cellAt_below hS.base hzb0 (ob0 + k * 16)).trans hce0
                       exact rq (.agg (cv x0)) (wanted_yes rfl rfl rfl (svv hk 15)) (by simp [execOp, Act.eval, f239, go_sem, hxx]) hl hs hS
                      apply sc
                      ·intro a w' vs σ hS hl hs hk
                       have f14 : a.tmps[14]?.getD undef = .slice (some ⟨g1, o1, none⟩) L1.length c14 := sof hk
                       exact rq (.slice (some ⟨g1, o1, none⟩) L1.length c14) (wanted_yes rfl rfl rfl (svv hk 15)) (by simp [execOp, Act.eval, f14, go_sem]) hl hs hS
                      apply sc
                      ·intro a w' vs σ hS hl hs hk
                       have f10 : a.tmps[10]?.getD undef = .pointer (some ⟨b10, 0, none⟩) := sof hk
                       exact rq (pt b10 1) (wanted_yes rfl rfl rfl (svv hk 15)) (by simp [execOp, Act.eval, f10, go_sem]) hl hs hS
                      apply sc
                      ·intro a w' vs σ hS hl hs hk
                       have f242 : a.tmps[242]?.getD undef = .pointer (some ⟨b10, 1, none⟩) := svf hk 26
                       have hxx := (hS.base.cell (p := ⟨b10, 1, none⟩) hz).trans ((hx 1).trans (show (av14 a1)[1]? = some (.int .i64 ↑i : Value) by rw [← HER.out]; rfl))
                       exact rq (.int .i64 ↑i) (wanted_yes rfl rfl rfl (svv hk 15)) (by simp [execOp, Act.eval, f242, go_sem, hxx]) hl hs hS
                      apply sc
                      ·intro a w' vs σ hS hl hs hk
                       have f241 : a.tmps[241]?.getD undef = .slice (some ⟨g1, o1, none⟩) L1.length c14 := svf hk 25
                       have f243 : a.tmps[243]?.getD undef = .int .i64 ↑i := svf hk 27
                       exact rq (pt g1 (o1 + i * 2)) (wanted_yes rfl rfl rfl (svv hk 15)) (by simp [execOp, Act.eval, f241, f243, go_sem, hi0, hi2]) hl hs hS
                      apply sc
                      ·intro a w' vs σ hS hl hs hk
                       have f244 : a.tmps[244]?.getD undef = .pointer (some ⟨g1, o1 + i * 2, none⟩) := svf hk 28
                       exact rq (pt g1 (o1 + i * 2)) (wanted_yes rfl rfl rfl (svv hk 15)) (by simp [execOp, Act.eval, f244, go_sem]) hl hs hS
                      apply sc
                      ·intro a w' vs σ hS hl hs hk
                       have f245 : a.tmps[245]?.getD undef = .pointer (some ⟨g1, o1 + i * 2, none⟩) := svf hk 29
                       have hxx := (hS.base.cell (p := ⟨g1, o1 + i * 2, none⟩) hzg1).trans hc3
                       exact rq (.slice (some ⟨gb1, ob1, none⟩) l1.1.length d1) (wanted_yes rfl rfl rfl (svv hk 15)) (by simp [execOp, Act.eval, f245, go_sem, hxx]) hl hs hS
                      apply sc
                      ·intro a w' vs σ hS hl hs hk
                       have f16 : a.tmps[16]?.getD undef = .int .i64 ↑k := sof hk
                       exact rq (.int .i64 ↑k) (wanted_yes rfl rfl rfl (svv hk 15)) (by simp [execOp, Act.eval, f16, go_sem]) hl hs hS
                      apply sc
                      ·intro a w' vs σ hS hl hs hk
                       have f246 : a.tmps[246]?.getD undef = .slice (some ⟨gb1, ob1, none⟩) l1.1.length d1 := svf hk 30
                       have f247 : a.tmps[247]?.getD undef = .int .i64 ↑k := svf hk 31
                       exact rq (pt gb1 (ob1 + k * 16)) (wanted_yes rfl rfl rfl (svv hk 15)) (by simp [execOp, Act.eval, f246, f247, go_sem, hk0, hkl1]) hl hs hS
                      apply sc
                      ·intro a w' vs σ hS hl hs hk
                       have f248 : a.tmps[248]?.getD undef = .pointer (some ⟨gb1, ob1 + k * 16, none⟩) := svf hk 32
                       have hxx := (cellAt_below hS.base hzb1 (ob1 + k * 16)).trans hce1
                       exact rq (.agg (cv x0)) (wanted_yes rfl rfl rfl (svv hk 15)) (by simp [execOp, Act.eval, f248, go_sem, hxx]) hl hs hS
                      apply sc
                      ·intro a w' vs σ hS hl hs hk
                       have f240 : a.tmps[240]?.getD undef = .agg (cv x0) := svf hk 24
                       have f249 : a.tmps[249]?.getD undef = .agg (cv x0) := svf hk 33
                       exact rq (.bool false) (wanted_yes rfl rfl rfl (svv hk 15)) (by simp [execOp, Act.eval, f240, f249, go_sem]) hl hs hS
                      apply sc
                      ·intro a w' vs σ hS hl hs hk
                       have f231 : a.tmps[231]?.getD undef = .bool true := svf hk 15
                       have f250 : a.tmps[250]?.getD undef = .bool false := svf hk 34
                       exact rp (.bool false) (by simp [execOp, Act.eval, f231, f250, go_sem]) hl hs hS
                      exact SSteps.nil
                     ·intro vs w' hS hv
                      have q0 : vs 0 = _ := hv 0 (by decide)
                      have q1 : vs 1 = _ := hv 1 (by decide)
                      have q2 : vs 2 = _ := hv 2 (by decide)
                      have q3 : vs 3 = _ := hv 3 (by decide)
                      have q4 : vs 4 = _ := hv 4 (by decide)
                      have q5 : vs 5 = _ := hv 5 (by decide)
                      have q6 : vs 6 = _ := hv 6 (by decide)
                      have q7 : vs 7 = _ := hv 7 (by decide)
                      have q8 : vs 8 = _ := hv 8 (by decide)
                      have q9 : vs 9 = _ := hv 9 (by decide)
                      have q10 : vs 10 = _ := hv 10 (by decide)
                      have q11 : vs 11 = _ := hv 11 (by decide)
                      have q12 : vs 12 = _ := hv 12 (by decide)
                      have q13 : vs 13 = _ := hv 13 (by decide)
                      have q14 : vs 14 = _ := hv 14 (by decide)
                      have q15 : vs 15 = _ := hv 15 (by decide)
                      have q16 : vs 16 = _ := hv 16 (by decide)
                      have q17 : vs 17 = _ := hv 17 (by decide)
                      have q18 : vs 18 = _ := hv 18 (by decide)
                      have q19 : vs 19 = _ := hv 19 (by decide)
                      have q20 : vs 20 = _ := hv 20 (by decide)
                      have q21 : vs 21 = _ := hv 21 (by decide)
                      have q22 : vs 22 = _ := hv 22 (by decide)
                      have q23 : vs 23 = _ := hv 23 (by decide)
                      have q24 : vs 24 = _ := hv 24 (by decide)
                      have q25 : vs 25 = _ := hv 25 (by decide)
                      have q26 : vs 26 = _ := hv 26 (by decide)
                      have q27 : vs 27 = _ := hv 27 (by decide)
                      have q28 : vs 28 = _ := hv 28 (by decide)
                      have q29 : vs 29 = _ := hv 29 (by decide)
                      have q30 : vs 30 = _ := hv 30 (by decide)
                      have q31 : vs 31 = _ := hv 31 (by decide)
                      have q32 : vs 32 = _ := hv 32 (by decide)
                      have q33 : vs 33 = _ := hv 33 (by decide)
                      have q34 : vs 34 = _ := hv 34 (by decide)
                      have q35 : vs 35 = _ := hv 35 (by decide)
                      have S2 := Lib.hid hS
                      simp only [putL, Act.put, Nat.zero_add, Nat.reduceAdd, List.setIfInBounds_toArray, List.set_cons_succ, List.set_cons_zero, q0, q1, q2, q3, q4, q5, q6, q7, q8, q9, q10, q11, q12, q13, q14, q15, q16, q17, q18, q19, q20, q21, q22, q23, q24, q25, q26, q27, q28, q29, q30, q31, q32, q33, q34, q35]
                      clear hS hv q0 q1 q2 q3 q4 q5 q6 q7 q8 q9 q10 q11 q12 q13 q14 q15 q16 q17 q18 q19 q20 q21 q22 q23 q24 q25 q26 q27 q28 q29 q30 q31 q32 q33 q34 q35
                      have S10 := Lib.hid (S9.out.bel S2.out.base)
                      clear S2 S9
                      go_wp2_with fail
                      go_roundg (s - (k + 1))
                      case measure => omega
                      case rel => exact ⟨k + 1, by omega, rfl, by go_num, S10.out⟩

                   case neg =>
                    as_aux_lemma =>
                     have hlt1 : ¬ (k : Int) < (j : Int) - 1 := by omega
                     by_cases h2 : j + a1.x.width.toNat < k
                     case pos =>
                      as_aux_lemma =>
                       have hgt1 : (j : Int) + a1.x.width < (k : Int) := by have := HXW.out; omega
                       have hce : cAt l1.1 k = x0 := by rw [← HX0.out]; exact (HFAR.out k hks (.inr h2)).symm
                       rw [hce] at hce1
                       clear hce h1 h2
                       refine wp_region_stage (w0 := wr) (os := []) (by kernel_rfl) (by kernel_rfl) (by kernel_rfl) [] [[], [], [], [], [], [], [], [], [], [], [], [], [], [], [], [], [], [], [], [], [], [], [], [], [], [], [], [], [], [], [], [], [], [], [], []] [] (fun opn u => match opn with | 0 => u = .int .i64 ↑k | 1 => u = .pointer (some ⟨b10, 2, none⟩) | 2 => u = .int .i64 ↑j | 3 => u = .int .i64 (↑j - 1) | 4 => u = .bool false | 5 => u = .bool false | 6 => u = .int .i64 ↑k | 7 => u = .pointer (some ⟨b10, 2, none⟩) | 8 => u = .int .i64 ↑j | 9 => u = .pointer (some ⟨b10, 5, none⟩) | 10 => u = .pointer (some ⟨b10, 9, none⟩) | 11 => u = .int .i64 a1.x.width | 12 => u = .int .i64 (↑j + a1.x.width) | 13 => u = .bool true | 14 => u = .bool true | 15 => u = .bool true | 16 => u = .slice (some ⟨g0, o0, none⟩) L0.length c11 | 17 => u = .pointer (some ⟨b10, 1, none⟩) | 18 => u = .int .i64 ↑i | 19 => u = .pointer (some ⟨g0, o0 + i * 2, none⟩) | 20 => u = .pointer (some ⟨g0, o0 + i * 2, none⟩) | 21 => u = .slice (some ⟨gb0, ob0, none⟩) l0.1.length d0 | 22 => u = .int .i64 ↑k | 23 => u = .pointer (some ⟨gb0, ob0 + k * 16, none⟩) | 24 => u = .agg (cv x0) | 25 => u = .slice (some ⟨g1, o1, none⟩) L1.length c14 | 26 => u = .pointer (some ⟨b10, 1, none⟩) | 27 => u = .int .i64 ↑i | 28 => u = .pointer (some ⟨g1, o1 + i * 2, none⟩) | 29 => u = .pointer (some ⟨g1, o1 + i * 2, none⟩) | 30 => u = .slice (some ⟨gb1, ob1, none⟩) l1.1.length d1 | 31 => u = .int .i64 ↑k | 32 => u = .pointer (some ⟨gb1, ob1 + k * 16, none⟩) | 33 => u = .agg (cv x0) | 34 => u = .bool false | 35 => u = .bool false | _ => True) (fun vs => []) (by kernel_rfl) (fun vs => by rfl) (objs_start wr) ?_ ?_
                       ·apply sc
                        ·intro a w' vs σ hS hl hs hk
                         have f16 : a.tmps[16]?.getD undef = .int .i64 ↑k := sof hk
                         exact rp (.int .i64 ↑k) (by simp [execOp, Act.eval, f16, go_sem]) hl hs hS
                        apply sc
                        ·intro a w' vs σ hS hl hs hk
                         have f10 : a.tmps[10]?.getD undef = .pointer (some ⟨b10, 0, none⟩) := sof hk
                         exact rp (pt b10 2) (by simp [execOp, Act.eval, f10, go_sem]) hl hs hS
                        apply sc
                        ·intro a w' vs σ hS hl hs hk
                         have f217 : a.tmps[217]?.getD undef = .pointer (some ⟨b10, 2, none⟩) := svf hk 1
                         have hxx := (hS.base.cell (p := ⟨b10, 2, none⟩) hz).trans ((hx 2).trans (show (av14 a1)[2]? = some (.int .i64 ↑j : Value) by rw [← HEA.out]; rfl))
                         exact rp (.int .i64 ↑j) (by simp [execOp, Act.eval, f217, go_sem, hxx]) hl hs hS
                        apply sc
                        ·intro a w' vs σ hS hl hs hk
                         have f218 : a.tmps[218]?.getD undef = .int .i64 ↑j := svf hk 2
                         exact rp (.int .i64 (↑j - 1)) (by simp [execOp, Act.eval, f218, go_sem, hwj]) hl hs hS
                        apply sc
                        ·intro a w' vs σ hS hl hs hk
                         have f216 : a.tmps[216]?.getD undef = .int .i64 ↑k := svf hk 0
                         have f219 : a.tmps[219]?.getD undef = .int .i64 (↑j - 1) := svf hk 3
                         exact rp (.bool false) (by simp [execOp, Act.eval, f216, f219, go_sem, hlt1]) hl hs hS
                        apply sc
                        ·intro a w' vs σ hS hl hs hk
                         have f220 : a.tmps[220]?.getD undef = .bool false := svf hk 4
                         exact rp (.bool false) (by simp [execOp, Act.eval, f220, go_sem]) hl hs hS
                        apply sc
                        ·intro a w' vs σ hS hl hs hk
                         have f16 : a.tmps[16]?.getD undef = .int .i64 ↑k := sof hk
                         exact rq (.int .i64 ↑k) (wanted_yes rfl rfl rfl (svv hk 5)) (by simp [execOp, Act.eval, f16, go_sem]) hl hs hS
                        apply sc
                        ·intro a w' vs σ hS hl hs hk
                         have f10 : a.tmps[10]?.getD undef = .pointer (some ⟨b10, 0, none⟩) := sof hk
                         exact rq (pt b10 2) (wanted_yes rfl rfl rfl (svv hk 5)) (by simp [execOp, Act.eval, f10, go_sem]) hl hs hS
                        apply sc
                        ·intro a w' vs σ hS hl hs hk
                         have f223 : a.tmps[223]?.getD undef = .pointer (some ⟨b10, 2, none⟩) := svf hk 7
                         have hxx := (hS.base.cell (p := ⟨b10, 2, none⟩) hz).trans ((hx 2).trans (show (av14 a1)[2]? = some (.int .i64 ↑j : Value) by rw [← HEA.out]; rfl))
                         exact rq (.int .i64 ↑j) (wanted_yes rfl rfl rfl (svv hk 5)) (by simp [execOp, Act.eval, f223, go_sem, hxx]) hl hs hS
                        apply sc
                        ·intro a w' vs σ hS hl hs hk
                         have f10 : a.tmps[10]?.getD undef = .pointer (some ⟨b10, 0, none⟩) := sof hk
                         exact rq (pt b10 5) (wanted_yes rfl rfl rfl (svv hk 5)) (by simp [execOp, Act.eval, f10, go_sem]) hl hs hS
                        apply sc
                        ·intro a w' vs σ hS hl hs hk
                         have f225 : a.tmps[225]?.getD undef = .pointer (some ⟨b10, 5, none⟩) := svf hk 9
                         exact rq (pt b10 9) (wanted_yes rfl rfl rfl (svv hk 5)) (by simp [execOp, Act.eval, f225, go_sem]) hl hs hS
                        apply sc
                        ·intro a w' vs σ hS hl hs hk
                         have f226 : a.tmps[226]?.getD undef = .pointer (some ⟨b10, 9, none⟩) := svf hk 10
                         have hxx := (hS.base.cell (p := ⟨b10, 9, none⟩) hz).trans (hx 9)
                         exact rq (.int .i64 a1.x.width) (wanted_yes rfl rfl rfl (svv hk 5)) (by simp [execOp, Act.eval, f226, go_sem, hxx]) hl hs hS
                        apply sc
                        ·intro a w' vs σ hS hl hs hk
                         have f224 : a.tmps[224]?.getD undef = .int .i64 ↑j := svf hk 8
                         have f227 : a.tmps[227]?.getD undef = .int .i64 a1.x.width := svf hk 11
                         exact rq (.int .i64 (↑j + a1.x.width)) (wanted_yes rfl rfl rfl (svv hk 5)) (by simp [execOp, Act.eval, f224, f227, go_sem, hww]) hl hs hS
                        apply sc
                        ·intro a w' vs σ hS hl hs hk
                         have f222 : a.tmps[222]?.getD undef = .int .i64 ↑k := svf hk 6
                         have f228 : a.tmps[228]?.getD undef = .int .i64 (↑j + a1.x.width) := svf hk 12
                         exact rq (.bool true) (wanted_yes rfl rfl rfl (svv hk 5)) (by simp [execOp, Act.eval, f222, f228, go_sem, hgt1]) hl hs hS
                        apply sc
                        ·intro a w' vs σ hS hl hs hk
                         have f221 : a.tmps[221]?.getD undef = .bool false := svf hk 5
                         have f229 : a.tmps[229]?.getD undef = .bool true := svf hk 13
                         exact rp (.bool true) (by simp [execOp, Act.eval, f221, f229, go_sem]) hl hs hS
                        apply sc
                        ·intro a w' vs σ hS hl hs hk
                         have f230 : a.tmps[230]?.getD undef = .bool true := svf hk 14
                         exact rp (.bool true) (by simp [execOp, Act.eval, f230, go_sem]) hl hs hS
                        apply sc
                        ·intro a w' vs σ hS hl hs hk
                         have f11 : a.tmps[11]?.getD undef = .slice (some ⟨g0, o0, none⟩) L0.length c11 := sof hk
                         exact rq (.slice (some ⟨g0, o0, none⟩) L0.length c11) (wanted_yes rfl rfl rfl (svv hk 15)) (by simp [execOp, Act.eval, f11, go_sem]) hl hs hS
                        apply sc
                        ·intro a w' vs σ hS hl hs hk
                         have f10 : a.tmps[10]?.getD undef = .pointer (some ⟨b10, 0, none⟩) := sof hk
                         exact rq (pt b10 1) (wanted_yes rfl rfl rfl (svv hk 15)) (by simp [execOp, Act.eval, f10, go_sem]) hl hs hS
                        apply sc
                        ·intro a w' vs σ hS hl hs hk
                         have f233 : a.tmps[233]?.getD undef = .pointer (some ⟨b10, 1, none⟩) := svf hk 17
                         have hxx := (hS.base.cell (p := ⟨b10, 1, none⟩) hz).trans ((hx 1).trans (show (av14 a1)[1]? = some (.int .i64 ↑i : Value) by rw [← HER.out]; rfl))
                         exact rq (.int .i64 ↑i) (wanted_yes rfl rfl rfl (svv hk 15)) (by simp [execOp, Act.eval, f233, go_sem, hxx]) hl hs hS
                        apply sc
                        ·intro a w' vs σ hS hl hs hk
                         have f232 : a.tmps[232]?.getD undef = .slice (some ⟨g0, o0, none⟩) L0.length c11 := svf hk 16
                         have f234 : a.tmps[234]?.getD undef = .int .i64 ↑i := svf hk 18
                         exact rq (pt g0 (o0 + i * 2)) (wanted_yes rfl rfl rfl (svv hk 15)) (by simp [execOp, Act.eval, f232, f234, go_sem, hi0, hi1]) hl hs hS
                        apply sc
                        ·intro a w' vs σ hS hl hs hk
                         have f235 : a.tmps[235]?.getD undef = .pointer (some ⟨g0, o0 + i * 2, none⟩) := svf hk 19
                         exact rq (pt g0 (o0 + i * 2)) (wanted_yes rfl rfl rfl (svv hk 15)) (by simp [execOp, Act.eval, f235, go_sem]) hl hs hS
                        apply sc
                        ·intro a w' vs σ hS hl hs hk
                         have f236 : a.tmps[236]?.getD undef = .pointer (some ⟨g0, o0 + i * 2, none⟩) := svf hk 20
                         have hxx := (hS.base.cell (p := ⟨g0, o0 + i * 2, none⟩) hzg0).trans hc1
                         exact rq (.slice (some ⟨gb0, ob0, none⟩) l0.1.length d0) (wanted_yes rfl rfl rfl (svv hk 15)) (by simp [execOp, Act.eval, f236, go_sem, hxx]) hl hs hS
                        apply sc
                        ·intro a w' vs σ hS hl hs hk
                         have f16 : a.tmps[16]?.getD undef = .int .i64 ↑k := sof hk
                         exact rq (.int .i64 ↑k) (wanted_yes rfl rfl rfl (svv hk 15)) (by simp [execOp, Act.eval, f16, go_sem]) hl hs hS
                        apply sc
                        ·intro a w' vs σ hS hl hs hk
                         have f237 : a.tmps[237]?.getD undef = .slice (some ⟨gb0, ob0, none⟩) l0.1.length d0 := svf hk 21
                         have f238 : a.tmps[238]?.getD undef = .int .i64 ↑k := svf hk 22
                         exact rq (pt gb0 (ob0 + k * 16)) (wanted_yes rfl rfl rfl (svv hk 15)) (by simp [execOp, Act.eval, f237, f238, go_sem, hk0, hkl0]) hl hs hS
                        apply sc
                        ·intro a w' vs σ hS hl hs hk
                         have f239 : a.tmps[239]?.getD undef = .pointer (some ⟨gb0, ob0 + k * 16, none⟩) := svf hk 23
                         have hxx := (cellAt_below hS.base hzb0 (ob0 + k * 16)).trans hce0
                         exact rq (.agg (cv x0)) (wanted_yes rfl rfl rfl (svv hk 15)) (by simp [execOp, Act.eval, f239, go_sem, hxx]) hl hs hS
                        apply sc
                        ·intro a w' vs σ hS hl hs hk
                         have f14 : a.tmps[14]?.getD undef = .slice (some ⟨g1, o1, none⟩) L1.length c14 := sof hk
                         exact rq (.slice (some ⟨g1, o1, none⟩) L1.length c14) (wanted_yes rfl rfl rfl (svv hk 15)) (by simp [execOp, Act.eval, f14, go_sem]) hl hs hS
                        apply sc
                        ·intro a w' vs σ hS hl hs hk
                         have f10 : a.tmps[10]?.getD undef = .pointer (some ⟨b10, 0, none⟩) := sof hk
                         exact rq (pt b10 1) (wanted_yes rfl rfl rfl (svv hk 15)) (by simp [execOp, Act.eval, f10, go_sem]) hl hs hS
                        apply sc
                        ·intro a w' vs σ hS hl hs hk
                         have f242 : a.tmps[242]?.getD undef = .pointer (some ⟨b10, 1, none⟩) := svf hk 26
                         have hxx := (hS.base.cell (p := ⟨b10, 1, none⟩) hz).trans ((hx 1).trans (show (av14 a1)[1]? = some (.int .i64 ↑i : Value) by rw [← HER.out]; rfl))
                         exact rq (.int .i64 ↑i) (wanted_yes rfl rfl rfl (svv hk 15)) (by simp [execOp, Act.eval, f242, go_sem, hxx]) hl hs hS
                        apply sc
                        ·intro a w' vs σ hS hl hs hk
                         have f241 : a.tmps[241]?.getD undef = .slice (some ⟨g1, o1, none⟩) L1.length c14 := svf hk 25
                         have f243 : a.tmps[243]?.getD undef = .int .i64 ↑i := svf hk 27
                         exact rq (pt g1 (o1 + i * 2)) (wanted_yes rfl rfl rfl (svv hk 15)) (by simp [execOp, Act.eval, f241, f243, go_sem, hi0, hi2]) hl hs hS
                        apply sc
                        ·intro a w' vs σ hS hl hs hk
                         have f244 : a.tmps[244]?.getD undef = .pointer (some ⟨g1, o1 + i * 2, none⟩) := svf hk 28
                         exact rq (pt g1 (o1 + i * 2)) (wanted_yes rfl rfl rfl (svv hk 15)) (by simp [execOp, Act.eval, f244, go_sem]) hl hs hS
                        apply sc
                        ·intro a w' vs σ hS hl hs hk
                         have f245 : a.tmps[245]?.getD undef = .pointer (some ⟨g1, o1 + i * 2, none⟩) := svf hk 29
                         have hxx := (hS.base.cell (p := ⟨g1, o1 + i * 2, none⟩) hzg1).trans hc3
                         exact rq (.slice (some ⟨gb1, ob1, none⟩) l1.1.length d1) (wanted_yes rfl rfl rfl (svv hk 15)) (by simp [execOp, Act.eval, f245, go_sem, hxx]) hl hs hS
                        apply sc
                        ·intro a w' vs σ hS hl hs hk
                         have f16 : a.tmps[16]?.getD undef = .int .i64 ↑k := sof hk
                         exact rq (.int .i64 ↑k) (wanted_yes rfl rfl rfl (svv hk 15)) (by simp [execOp, Act.eval, f16, go_sem]) hl hs hS
                        apply sc
                        ·intro a w' vs σ hS hl hs hk
                         have f246 : a.tmps[246]?.getD undef = .slice (some ⟨gb1, ob1, none⟩) l1.1.length d1 := svf hk 30
                         have f247 : a.tmps[247]?.getD undef = .int .i64 ↑k := svf hk 31
                         exact rq (pt gb1 (ob1 + k * 16)) (wanted_yes rfl rfl rfl (svv hk 15)) (by simp [execOp, Act.eval, f246, f247, go_sem, hk0, hkl1]) hl hs hS
                        apply sc
                        ·intro a w' vs σ hS hl hs hk
                         have f248 : a.tmps[248]?.getD undef = .pointer (some ⟨gb1, ob1 + k * 16, none⟩) := svf hk 32
                         have hxx := (cellAt_below hS.base hzb1 (ob1 + k * 16)).trans hce1
                         exact rq (.agg (cv x0)) (wanted_yes rfl rfl rfl (svv hk 15)) (by simp [execOp, Act.eval, f248, go_sem, hxx]) hl hs hS
                        apply sc
                        ·intro a w' vs σ hS hl hs hk
                         have f240 : a.tmps[240]?.getD undef = .agg (cv x0) := svf hk 24
                         have f249 : a.tmps[249]?.getD undef = .agg (cv x0) := svf hk 33
                         exact rq (.bool false) (wanted_yes rfl rfl rfl (svv hk 15)) (by simp [execOp, Act.eval, f240, f249, go_sem]) hl hs hS
                        apply sc
                        ·intro a w' vs σ hS hl hs hk
                         have f231 : a.tmps[231]?.getD undef = .bool true := svf hk 15
                         have f250 : a.tmps[250]?.getD undef = .bool false := svf hk 34
                         exact rp (.bool false) (by simp [execOp, Act.eval, f231, f250, go_sem]) hl hs hS
                        exact SSteps.nil
                       ·intro vs w' hS hv
                        have q0 : vs 0 = _ := hv 0 (by decide)
                        have q1 : vs 1 = _ := hv 1 (by decide)
                        have q2 : vs 2 = _ := hv 2 (by decide)
                        have q3 : vs 3 = _ := hv 3 (by decide)
                        have q4 : vs 4 = _ := hv 4 (by decide)
                        have q5 : vs 5 = _ := hv 5 (by decide)
                        have q6 : vs 6 = _ := hv 6 (by decide)
                        have q7 : vs 7 = _ := hv 7 (by decide)
                        have q8 : vs 8 = _ := hv 8 (by decide)
                        have q9 : vs 9 = _ := hv 9 (by decide)
                        have q10 : vs 10 = _ := hv 10 (by decide)
                        have q11 : vs 11 = _ := hv 11 (by decide)
                        have q12 : vs 12 = _ := hv 12 (by decide)
                        have q13 : vs 13 = _ := hv 13 (by decide)
                        have q14 : vs 14 = _ := hv 14 (by decide)
                        have q15 : vs 15 = _ := hv 15 (by decide)
                        have q16 : vs 16 = _ := hv 16 (by decide)
                        have q17 : vs 17 = _ := hv 17 (by decide)
                        have q18 : vs 18 = _ := hv 18 (by decide)
                        have q19 : vs 19 = _ := hv 19 (by decide)
                        have q20 : vs 20 = _ := hv 20 (by decide)
                        have q21 : vs 21 = _ := hv 21 (by decide)
                        have q22 : vs 22 = _ := hv 22 (by decide)
                        have q23 : vs 23 = _ := hv 23 (by decide)
                        have q24 : vs 24 = _ := hv 24 (by decide)
                        have q25 : vs 25 = _ := hv 25 (by decide)
                        have q26 : vs 26 = _ := hv 26 (by decide)
                        have q27 : vs 27 = _ := hv 27 (by decide)
                        have q28 : vs 28 = _ := hv 28 (by decide)
                        have q29 : vs 29 = _ := hv 29 (by decide)
                        have q30 : vs 30 = _ := hv 30 (by decide)
                        have q31 : vs 31 = _ := hv 31 (by decide)
                        have q32 : vs 32 = _ := hv 32 (by decide)
                        have q33 : vs 33 = _ := hv 33 (by decide)
                        have q34 : vs 34 = _ := hv 34 (by decide)
                        have q35 : vs 35 = _ := hv 35 (by decide)
                        have S2 := Lib.hid hS
                        simp only [putL, Act.put, Nat.zero_add, Nat.reduceAdd, List.setIfInBounds_toArray, List.set_cons_succ, List.set_cons_zero, q0, q1, q2, q3, q4, q5, q6, q7, q8, q9, q10, q11, q12, q13, q14, q15, q16, q17, q18, q19, q20, q21, q22, q23, q24, q25, q26, q27, q28, q29, q30, q31, q32, q33, q34, q35]
                        clear hS hv q0 q1 q2 q3 q4 q5 q6 q7 q8 q9 q10 q11 q12 q13 q14 q15 q16 q17 q18 q19 q20 q21 q22 q23 q24 q25 q26 q27 q28 q29 q30 q31 q32 q33 q34 q35
                        have S10 := Lib.hid (S9.out.bel S2.out.base)
                        clear S2 S9
                        go_wp2_with fail
                        go_roundg (s - (k + 1))
                        case measure => omega
                        case rel => exact ⟨k + 1, by omega, rfl, by go_num, S10.out⟩

                     case neg =>
                      as_aux_lemma =>
                       have hgt1 : ¬ (j : Int) + a1.x.width < (k : Int) := by have := HXW.out; omega
                       clear h1 h2
                       refine wp_region_stage (w0 := wr) (os := []) (by kernel_rfl) (by kernel_rfl) (by kernel_rfl) [] [[], [], [], [], [], [], [], [], [], [], [], [], [], [], [], [], [], [], [], [], [], [], [], [], [], [], [], [], [], [], [], [], [], [], [], []] [] (fun opn u => match opn with | 0 => u = .int .i64 ↑k | 1 => u = .pointer (some ⟨b10, 2, none⟩) | 2 => u = .int .i64 ↑j | 3 => u = .int .i64 (↑j - 1) | 4 => u = .bool false | 5 => u = .bool false | 6 => u = .int .i64 ↑k | 7 => u = .pointer (some ⟨b10, 2, none⟩) | 8 => u = .int .i64 ↑j | 9 => u = .pointer (some ⟨b10, 5, none⟩) | 10 => u = .pointer (some ⟨b10, 9, none⟩) | 11 => u = .int .i64 a1.x.width | 12 => u = .int .i64 (↑j + a1.x.width) | 13 => u = .bool false | 14 => u = .bool false | 15 => u = .bool false | 16 => u = (undef : Value) | 17 => u = (undef : Value) | 18 => u = (undef : Value) | 19 => u = (undef : Value) | 20 => u = (undef : Value) | 21 => u = (undef : Value) | 22 => u = (undef : Value) | 23 => u = (undef : Value) | 24 => u = (undef : Value) | 25 => u = (undef : Value) | 26 => u = (undef : Value) | 27 => u = (undef : Value) | 28 => u = (undef : Value) | 29 => u = (undef : Value) | 30 => u = (undef : Value) | 31 => u = (undef : Value) | 32 => u = (undef : Value) | 33 => u = (undef : Value) | 34 => u = (undef : Value) | 35 => u = .bool false | _ => True) (fun vs => []) (by kernel_rfl) (fun vs => by rfl) (objs_start wr) ?_ ?_
                       ·apply sc
                        ·intro a w' vs σ hS hl hs hk
                         have f16 : a.tmps[16]?.getD undef = .int .i64 ↑k := sof hk
                         exact rp (.int .i64 ↑k) (by simp [execOp, Act.eval, f16, go_sem]) hl hs hS
                        apply sc
                        ·intro a w' vs σ hS hl hs hk
                         have f10 : a.tmps[10]?.getD undef = .pointer (some ⟨b10, 0, none⟩) := sof hk
                         exact rp (pt b10 2) (by simp [execOp, Act.eval, f10, go_sem]) hl hs hS
                        apply sc
                        ·intro a w' vs σ hS hl hs hk
                         have f217 : a.tmps[217]?.getD undef = .pointer (some ⟨b10, 2, none⟩) := svf hk 1
                         have hxx := (hS.base.cell (p := ⟨b10, 2, none⟩) hz).trans ((hx 2).trans (show (av14 a1)[2]? = some (.int .i64 ↑j : Value) by rw [← HEA.out]; rfl))
                         exact rp (.int .i64 ↑j) (by simp [execOp, Act.eval, f217, go_sem, hxx]) hl hs hS
                        apply sc
                        ·intro a w' vs σ hS hl hs hk
                         have f218 : a.tmps[218]?.getD undef = .int .i64 ↑j := svf hk 2
                         exact rp (.int .i64 (↑j - 1)) (by simp [execOp, Act.eval, f218, go_sem, hwj]) hl hs hS
                        apply sc
                        ·intro a w' vs σ hS hl hs hk
                         have f216 : a.tmps[216]?.getD undef = .int .i64 ↑k := svf hk 0
                         have f219 : a.tmps[219]?.getD undef = .int .i64 (↑j - 1) := svf hk 3
                         exact rp (.bool false) (by simp [execOp, Act.eval, f216, f219, go_sem, hlt1]) hl hs hS
                        apply sc
                        ·intro a w' vs σ hS hl hs hk
                         have f220 : a.tmps[220]?.getD undef = .bool false := svf hk 4
                         exact rp (.bool false) (by simp [execOp, Act.eval, f220, go_sem]) hl hs hS
                        apply sc
                        ·intro a w' vs σ hS hl hs hk
                         have f16 : a.tmps[16]?.getD undef = .int .i64 ↑k := sof hk
                         exact rq (.int .i64 ↑k) (wanted_yes rfl rfl rfl (svv hk 5)) (by simp [execOp, Act.eval, f16, go_sem]) hl hs hS
                        apply sc
                        ·intro a w' vs σ hS hl hs hk
                         have f10 : a.tmps[10]?.getD undef = .pointer (some ⟨b10, 0, none⟩) := sof hk
                         exact rq (pt b10 2) (wanted_yes rfl rfl rfl (svv hk 5)) (by simp [execOp, Act.eval, f10, go_sem]) hl hs hS
                        apply sc
                        ·intro a w' vs σ hS hl hs hk
                         have f223 : a.tmps[223]?.getD undef = .pointer (some ⟨b10, 2, none⟩) := svf hk 7
                         have hxx := (hS.base.cell (p := ⟨b10, 2, none⟩) hz).trans ((hx 2).trans (show (av14 a1)[2]? = some (.int .i64 ↑j : Value) by rw [← HEA.out]; rfl))
                         exact rq (.int .i64 ↑j) (wanted_yes rfl rfl rfl (svv hk 5)) (by simp [execOp, Act.eval, f223, go_sem, hxx]) hl hs hS
                        apply sc
                        ·intro a w' vs σ hS hl hs hk
                         have f10 : a.tmps[10]?.getD undef = .pointer (some ⟨b10, 0, none⟩) := sof hk
                         exact rq (pt b10 5) (wanted_yes rfl rfl rfl (svv hk 5)) (by simp [execOp, Act.eval, f10, go_sem]) hl hs hS
                        apply sc
                        ·intro a w' vs σ hS hl hs hk
                         have f225 : a.tmps[225]?.getD undef = .pointer (some ⟨b10, 5, none⟩) := svf hk 9
                         exact rq (pt b10 9) (wanted_yes rfl rfl rfl (svv hk 5)) (by simp [execOp, Act.eval, f225, go_sem]) hl hs hS
                        apply sc
                        ·intro a w' vs σ hS hl hs hk
                         have f226 : a.tmps[226]?.getD undef = .pointer (some ⟨b10, 9, none⟩) := svf hk 10
                         have hxx := (hS.base.cell (p := ⟨b10, 9, none⟩) hz).trans (hx 9)
                         exact rq (.int .i64 a1.x.width) (wanted_yes rfl rfl rfl (svv hk 5)) (by simp [execOp, Act.eval, f226, go_sem, hxx]) hl hs hS
                        apply sc
                        ·intro a w' vs σ hS hl hs hk
                         have f224 : a.tmps[224]?.getD undef = .int .i64 ↑j := svf hk 8
                         have f227 : a.tmps[227]?.getD undef = .int .i64 a1.x.width := svf hk 11
                         exact rq (.int .i64 (↑j + a1.x.width)) (wanted_yes rfl rfl rfl (svv hk 5)) (by simp [execOp, Act.eval, f224, f227, go_sem, hww]) hl hs hS
                        apply sc
                        ·intro a w' vs σ hS hl hs hk
                         have f222 : a.tmps[222]?.getD undef = .int .i64 ↑k := svf hk 6
                         have f228 : a.tmps[228]?.getD undef = .int .i64 (↑j + a1.x.width) := svf hk 12
                         exact rq (.bool false) (wanted_yes rfl rfl rfl (svv hk 5)) (by simp [execOp, Act.eval, f222, f228, go_sem, hgt1]) hl hs hS
                        apply sc
                        ·intro a w' vs σ hS hl hs hk
                         have f221 : a.tmps[221]?.getD undef = .bool false := svf hk 5
                         have f229 : a.tmps[229]?.getD undef = .bool false := svf hk 13
                         exact rp (.bool false) (by simp [execOp, Act.eval, f221, f229, go_sem]) hl hs hS
                        apply sc
                        ·intro a w' vs σ hS hl hs hk
                         have f230 : a.tmps[230]?.getD undef = .bool false := svf hk 14
                         exact rp (.bool false) (by simp [execOp, Act.eval, f230, go_sem]) hl hs hS
                        apply sc
                        ·intro a w' vs σ hS hl hs hk
                         exact rs_skip (wanted_no rfl rfl rfl (svv hk 15) (by decide)) (sp_same (by kernel_rfl) hl hs hS rfl)
                        apply sc
                        ·intro a w' vs σ hS hl hs hk
                         exact rs_skip (wanted_no rfl rfl rfl (svv hk 15) (by decide)) (sp_same (by kernel_rfl) hl hs hS rfl)
                        apply sc
                        ·intro a w' vs σ hS hl hs hk
                         exact rs_skip (wanted_no rfl rfl rfl (svv hk 15) (by decide)) (sp_same (by kernel_rfl) hl hs hS rfl)
                        apply sc
                        ·intro a w' vs σ hS hl hs hk
                         exact rs_skip (wanted_no rfl rfl rfl (svv hk 15) (by decide)) (sp_same (by kernel_rfl) hl hs hS rfl)
                        apply sc
                        ·intro a w' vs σ hS hl hs hk
                         exact rs_skip (wanted_no rfl rfl rfl (svv hk 15) (by decide)) (sp_same (by kernel_rfl) hl hs hS rfl)
                        apply sc
                        ·intro a w' vs σ hS hl hs hk
                         exact rs_skip (wanted_no rfl rfl rfl (svv hk 15) (by decide)) (sp_same (by kernel_rfl) hl hs hS rfl)
                        apply sc
                        ·intro a w' vs σ hS hl hs hk
                         exact rs_skip (wanted_no rfl rfl rfl (svv hk 15) (by decide)) (sp_same (by kernel_rfl) hl hs hS rfl)
                        apply sc
                        ·intro a w' vs σ hS hl hs hk
                         exact rs_skip (wanted_no rfl rfl rfl (svv hk 15) (by decide)) (sp_same (by kernel_rfl) hl hs hS rfl)
                        apply sc
                        ·intro a w' vs σ hS hl hs hk
                         exact rs_skip (wanted_no rfl rfl rfl (svv hk 15) (by decide)) (sp_same (by kernel_rfl) hl hs hS rfl)
                        apply sc
                        ·intro a w' vs σ hS hl hs hk
                         exact rs_skip (wanted_no rfl rfl rfl (svv hk 15) (by decide)) (sp_same (by kernel_rfl) hl hs hS rfl)
                        apply sc
                        ·intro a w' vs σ hS hl hs hk
                         exact rs_skip (wanted_no rfl rfl rfl (svv hk 15) (by decide)) (sp_same (by kernel_rfl) hl hs hS rfl)
                        apply sc
                        ·intro a w' vs σ hS hl hs hk
                         exact rs_skip (wanted_no rfl rfl rfl (svv hk 15) (by decide)) (sp_same (by kernel_rfl) hl hs hS rfl)
                        apply sc
                        ·intro a w' vs σ hS hl hs hk
                         exact rs_skip (wanted_no rfl rfl rfl (svv hk 15) (by decide)) (sp_same (by kernel_rfl) hl hs hS rfl)
                        apply sc
                        ·intro a w' vs σ hS hl hs hk
                         exact rs_skip (wanted_no rfl rfl rfl (svv hk 15) (by decide)) (sp_same (by kernel_rfl) hl hs hS rfl)
                        apply sc
                        ·intro a w' vs σ hS hl hs hk
                         exact rs_skip (wanted_no rfl rfl rfl (svv hk 15) (by decide)) (sp_same (by kernel_rfl) hl hs hS rfl)
                        apply sc
                        ·intro a w' vs σ hS hl hs hk
                         exact rs_skip (wanted_no rfl rfl rfl (svv hk 15) (by decide)) (sp_same (by kernel_rfl) hl hs hS rfl)
                        apply sc
                        ·intro a w' vs σ hS hl hs hk
                         exact rs_skip (wanted_no rfl rfl rfl (svv hk 15) (by decide)) (sp_same (by kernel_rfl) hl hs hS rfl)
                        apply sc
                        ·intro a w' vs σ hS hl hs hk
                         exact rs_skip (wanted_no rfl rfl rfl (svv hk 15) (by decide)) (sp_same (by kernel_rfl) hl hs hS rfl)
                        apply sc
                        ·intro a w' vs σ hS hl hs hk
                         exact rs_skip (wanted_no rfl rfl rfl (svv hk 15) (by decide)) (sp_same (by kernel_rfl) hl hs hS rfl)
                        apply sc
                        ·intro a w' vs σ hS hl hs hk
                         have f231 : a.tmps[231]?.getD undef = .bool false := svf hk 15
                         have f250 : a.tmps[250]?.getD undef = (undef : Value) := svf hk 34
                         exact rp (.bool false) (by simp [execOp, Act.eval, f231, f250, go_sem]) hl hs hS
                        exact SSteps.nil
                       ·intro vs w' hS hv
                        have q0 : vs 0 = _ := hv 0 (by decide)
                        have q1 : vs 1 = _ := hv 1 (by decide)
                        have q2 : vs 2 = _ := hv 2 (by decide)
                        have q3 : vs 3 = _ := hv 3 (by decide)
                        have q4 : vs 4 = _ := hv 4 (by decide)
                        have q5 : vs 5 = _ := hv 5 (by decide)
                        have q6 : vs 6 = _ := hv 6 (by decide)
                        have q7 : vs 7 = _ := hv 7 (by decide)
                        have q8 : vs 8 = _ := hv 8 (by decide)
                        have q9 : vs 9 = _ := hv 9 (by decide)
                        have q10 : vs 10 = _ := hv 10 (by decide)
                        have q11 : vs 11 = _ := hv 11 (by decide)
                        have q12 : vs 12 = _ := hv 12 (by decide)
                        have q13 : vs 13 = _ := hv 13 (by decide)
                        have q14 : vs 14 = _ := hv 14 (by decide)
                        have q15 : vs 15 = _ := hv 15 (by decide)
                        have q16 : vs 16 = _ := hv 16 (by decide)
                        have q17 : vs 17 = _ := hv 17 (by decide)
                        have q18 : vs 18 = _ := hv 18 (by decide)
                        have q19 : vs 19 = _ := hv 19 (by decide)
                        have q20 : vs 20 = _ := hv 20 (by decide)
                        have q21 : vs 21 = _ := hv 21 (by decide)
                        have q22 : vs 22 = _ := hv 22 (by decide)
                        have q23 : vs 23 = _ := hv 23 (by decide)
                        have q24 : vs 24 = _ := hv 24 (by decide)
                        have q25 : vs 25 = _ := hv 25 (by decide)
                        have q26 : vs 26 = _ := hv 26 (by decide)
                        have q27 : vs 27 = _ := hv 27 (by decide)
                        have q28 : vs 28 = _ := hv 28 (by decide)
                        have q29 : vs 29 = _ := hv 29 (by decide)
                        have q30 : vs 30 = _ := hv 30 (by decide)
                        have q31 : vs 31 = _ := hv 31 (by decide)
                        have q32 : vs 32 = _ := hv 32 (by decide)
                        have q33 : vs 33 = _ := hv 33 (by decide)
                        have q34 : vs 34 = _ := hv 34 (by decide)
                        have q35 : vs 35 = _ := hv 35 (by decide)
                        have S2 := Lib.hid hS
                        simp only [putL, Act.put, Nat.zero_add, Nat.reduceAdd, List.setIfInBounds_toArray, List.set_cons_succ, List.set_cons_zero, q0, q1, q2, q3, q4, q5, q6, q7, q8, q9, q10, q11, q12, q13, q14, q15, q16, q17, q18, q19, q20, q21, q22, q23, q24, q25, q26, q27, q28, q29, q30, q31, q32, q33, q34, q35]
                        clear hS hv q0 q1 q2 q3 q4 q5 q6 q7 q8 q9 q10 q11 q12 q13 q14 q15 q16 q17 q18 q19 q20 q21 q22 q23 q24 q25 q26 q27 q28 q29 q30 q31 q32 q33 q34 q35
                        have S10 := Lib.hid (S9.out.bel S2.out.base)
                        clear S2 S9
                        go_wp2_with fail
                        go_roundg (s - (k + 1))
                        case measure => omega
                        case rel => exact ⟨k + 1, by omega, rfl, by go_num, S10.out⟩

           case neg =>
            as_aux_lemma =>
             have hb0 := beq_no h0
             by_cases h5 : a1.what = 5
             case neg =>
              as_aux_lemma =>
               have hb5 := beq_no h5
               clear h0 h5
               go_wp2_with fail
               go_roundg (l.length - (k0 + 1))
               case measure => omega
               case rel => exact ⟨k0 + 1, L1, by omega, rfl, by go_num, HK1, (Objs.pick (σ := [_, _, _, _, _]) (os := []) S7.out [some 4] (by decide) rfl)⟩

             case pos =>
              as_aux_lemma =>
               have hb5 := beq_yes h5
               by_cases he : e = 0
               case neg =>
                as_aux_lemma =>
                 have hbe := beq_no he
                 clear he h0 h5
                 go_wp2_with fail
                 go_roundg (l.length - (k0 + 1))
                 case measure => omega
                 case rel => exact ⟨k0 + 1, L1, by omega, rfl, by go_num, HK1, (Objs.pick (σ := [_, _, _, _, _]) (os := []) S7.out [some 4] (by decide) rfl)⟩

               case pos =>
                as_aux_lemma =>
                 have hbe := beq_yes he
                 by_cases hg : 0 < nG
                 case neg =>
                  as_aux_lemma =>
                   have hgz : ¬ (0 : Int) < (nG : Int) := by omega
                   clear he h0 h5 hg
                   go_wp2_with fail
                   go_roundg (l.length - (k0 + 1))
                   case measure => omega
                   case rel => exact ⟨k0 + 1, L1, by omega, rfl, by go_num, HK1, (Objs.pick (σ := [_, _, _, _, _]) (os := []) S7.out [some 4] (by decide) rfl)⟩

                 case pos =>
                  as_aux_lemma =>
                   have hgz : (0 : Int) < (nG : Int) := by omega
                   obtain ⟨top, bot, ea, eb, htb, hbr, hgl, hdn, hup⟩ := HR.out.1.roll h5 he (by rw [← HNG.out]; exact hg)
                   rw [← HNG.out] at hgl
                   have hx2 := (hx 2).trans (show (av14 a1)[2]? = some (.int .i64 (top : Int)) by rw [← ea]; rfl)
                   have hx3 := (hx 3).trans (show (av14 a1)[3]? = some (.int .i64 (bot : Int)) by rw [← eb]; rfl)
                   have hx4 := (hx 4).trans (show (av14 a1)[4]? = some (.int .i64 a1.n) from rfl)
                   have hx0 := (hx 0).trans (show (av14 a1)[0]? = some (.int .i64 a1.what) from rfl)
                   have HDN := Lib.hid hdn
                   have HUP := Lib.hid hup
                   clear he h0 h5 ea eb hdn hup hx hf hr hp hcl hpc
                   obtain ⟨l1z, hl1z⟩ := get_of (show 0 < L1.length by rw [HLL1.out]; omega)
                   obtain ⟨l0z, hl0z⟩ := get_of (show 0 < L0.length by rw [HK0.out.2.1]; omega)
                   obtain ⟨g1, o1x, -, -, rfl, -, -, -, -⟩ := (S7.out.linesRd' (k := 0) rfl).2.2.at_ hl1z
                   obtain ⟨g0, o0, -, -, rfl, -, -, -, -⟩ := (S7.out.linesRd' (k := 2) rfl).2.2.at_ hl0z
                   have hc14 := (S7.out.linesRd' (k := 0) rfl).2.2.1
                   have hc11 := (S7.out.linesRd' (k := 2) rfl).2.2.1
                   rw [HLL1.out] at hc14
                   rw [HK0.out.2.1] at hc11
                   clear hl1z hl0z l1z l0z
                   obtain ⟨b1, hb1⟩ : ∃ b1 : Nat, b1 = bot + 1 := ⟨_, rfl⟩
                   obtain ⟨m1, hm1⟩ : ∃ m1 : Nat, m1 = bot + 1 - nG := ⟨_, rfl⟩
                   obtain ⟨t1, ht1⟩ : ∃ t1 : Nat, t1 = top + nG := ⟨_, rfl⟩
                   have w1 : IntKind.i64.wrap ((bot : Int) + 1) = (b1 : Int) := by rw [IntWalk.i64_in _ (by omega)]; omega
                   have w2 : IntKind.i64.wrap ((b1 : Int) - (nG : Int)) = (m1 : Int) := by rw [IntWalk.i64_in _ (by omega)]; omega
                   have w3 : IntKind.i64.wrap ((top : Int) + (nG : Int)) = (t1 : Int) := by rw [IntWalk.i64_in _ (by omega)]; omega
                   have o1 : top ≤ m1 := by omega
                   have o2 : m1 ≤ c14 := by omega
                   have o3 : t1 ≤ b1 := by omega
                   have o4 : b1 ≤ c11 := by omega
                   have o5 : top ≤ t1 := by omega
                   have o6 : t1 ≤ c11 := by omega
                   have o7 : m1 ≤ b1 := by omega
                   have o8 : b1 ≤ c14 := by omega
                   have o10 : m1 ≤ c11 := by omega
                   have HQ := Lib.hid (show b1 = bot + 1 ∧ m1 = bot + 1 - nG ∧ t1 = top + nG from ⟨hb1, hm1, ht1⟩)
                   clear hb1 hm1 ht1 hg
                   go_upto_if 295 with (fail)
                   go_cut [17, 18, 19] (fun s17 s18 s19 wx => ∃ (mS n18 n19 c17 c18 c19 : Nat) (A17 A18 A19 : Option Addr) (LS LW LL : List Ln), s17 = .slice A17 mS c17 ∧ s18 = .slice A18 n18 c18 ∧ s19 = .slice A19 n19 c19 ∧ Hid (Pcs wx G LS LW LL mS A17 c17 A18 n18 c18 A19 n19 c19) ∧ Objs w wx [.lines (.slice (some ⟨g1, o1x, none⟩) L1.length c14) L1, .lines (.slice AG nG cG) G, .lines (.slice (some ⟨g0, o0, none⟩) L0.length c11) L0, .box b10 90 (av14 a1), .grid p 58 ↑s L1])
                   case first =>
                    as_aux_lemma =>
                     by_cases hneg : a1.n < 0
                     case neg =>
                      as_aux_lemma =>
                       have HPU := Lib.hid (pcs_up (S7.out.linesRd' (k := 0) rfl).2.2 (S7.out.linesRd' (k := 2) rfl).2.2 HLL1.out HK0.out.2.1 HQ.out htb hbr hgl (HK1.out.1.mill hcm0) (HK0.out.1.mill hcm0) (by omega) (HUP.out (by omega)) HNG.out hrm)
                       go_wp2_with fail
                       go_meet
                       case rel => exact ⟨_, _, _, _, _, _, _, _, _, _, _, _, rfl, rfl, rfl, HPU, S7.out⟩
                     case pos =>
                      as_aux_lemma =>
                       have HPD := Lib.hid (pcs_down (S7.out.linesRd' (k := 0) rfl).2.2 (S7.out.linesRd' (k := 2) rfl).2.2 HLL1.out HK0.out.2.1 HQ.out htb hbr hgl (HK1.out.1.mill hcm0) (HK0.out.1.mill hcm0) (by omega) (HDN.out hneg) HNG.out hrm)
                       go_upto_region 47 with (fail)
                       refine wp_region_stage (w0 := wr) (os := []) (by kernel_rfl) (by kernel_rfl) (by kernel_rfl) [] [[], [], [], [], [], [], [], [], [], [], [], [], [], [], [], [], [], [], [], [], [], [], [], [], [], [], [], [], [], [], [], [], [], []] [] (fun opn u => match opn with | 0 => u = .slice (some ⟨g1, o1x, none⟩) L1.length c14 | 1 => u = .pointer (some ⟨b10, 2, none⟩) | 2 => u = .int .i64 ↑top | 3 => u = .slice AG nG cG | 4 => u = .int .i64 ↑nG | 5 => u = .int .i64 ↑t1 | 6 => u = .pointer (some ⟨b10, 3, none⟩) | 7 => u = .int .i64 ↑bot | 8 => u = .int .i64 ↑b1 | 9 => u = .slice (midA ⟨g1, o1x, none⟩ c14 t1) (b1 - t1) (c14 - t1) | 10 => u = .slice (some ⟨g0, o0, none⟩) L0.length c11 | 11 => u = .pointer (some ⟨b10, 2, none⟩) | 12 => u = .int .i64 ↑top | 13 => u = .pointer (some ⟨b10, 3, none⟩) | 14 => u = .int .i64 ↑bot | 15 => u = .int .i64 ↑b1 | 16 => u = .slice AG nG cG | 17 => u = .int .i64 ↑nG | 18 => u = .int .i64 ↑m1 | 19 => u = .slice (midA ⟨g0, o0, none⟩ c11 top) (m1 - top) (c11 - top) | 20 => u = .slice (some ⟨g0, o0, none⟩) L0.length c11 | 21 => u = .pointer (some ⟨b10, 3, none⟩) | 22 => u = .int .i64 ↑bot | 23 => u = .int .i64 ↑b1 | 24 => u = .slice AG nG cG | 25 => u = .int .i64 ↑nG | 26 => u = .int .i64 ↑m1 | 27 => u = .pointer (some ⟨b10, 3, none⟩) | 28 => u = .int .i64 ↑bot | 29 => u = .int .i64 ↑b1 | 30 => u = .slice (midA ⟨g0, o0, none⟩ c11 m1) (b1 - m1) (c11 - m1) | 31 => u = .slice (midA ⟨g1, o1x, none⟩ c14 t1) (b1 - t1) (c14 - t1) | 32 => u = .slice (midA ⟨g0, o0, none⟩ c11 top) (m1 - top) (c11 - top) | 33 => u = .slice (midA ⟨g0, o0, none⟩ c11 m1) (b1 - m1) (c11 - m1) | _ => True) (fun vs => []) (by kernel_rfl) (fun vs => by rfl) (objs_start wr) ?_ ?_
                       ·apply sc
                        ·intro a w' vs σ hS hl hs hk
                         have f14 : a.tmps[14]?.getD undef = .slice (some ⟨g1, o1x, none⟩) L1.length c14 := sof hk
                         exact rp (.slice (some ⟨g1, o1x, none⟩) L1.length c14) (by simp [execOp, Act.eval, f14, go_sem]) hl hs hS
                        apply sc
                        ·intro a w' vs σ hS hl hs hk
                         have f10 : a.tmps[10]?.getD undef = .pointer (some ⟨b10, 0, none⟩) := sof hk
                         exact rp (pt b10 2) (by simp [execOp, Act.eval, f10, go_sem]) hl hs hS
                        apply sc
                        ·intro a w' vs σ hS hl hs hk
                         have f297 : a.tmps[297]?.getD undef = .pointer (some ⟨b10, 2, none⟩) := svf hk 1
                         have hxx := (hS.base.cell (p := ⟨b10, 2, none⟩) hz).trans hx2
                         exact rp (.int .i64 ↑top) (by simp [execOp, Act.eval, f297, go_sem, hxx]) hl hs hS
                        apply sc
                        ·intro a w' vs σ hS hl hs hk
                         have f13 : a.tmps[13]?.getD undef = .slice AG nG cG := sof hk
                         exact rp (.slice AG nG cG) (by simp [execOp, Act.eval, f13, go_sem]) hl hs hS
                        apply sc
                        ·intro a w' vs σ hS hl hs hk
                         have f299 : a.tmps[299]?.getD undef = .slice AG nG cG := svf hk 3
                         exact rp (.int .i64 ↑nG) (by simp [execOp, Act.eval, f299, go_sem]) hl hs hS
                        apply sc
                        ·intro a w' vs σ hS hl hs hk
                         have f298 : a.tmps[298]?.getD undef = .int .i64 ↑top := svf hk 2
                         have f300 : a.tmps[300]?.getD undef = .int .i64 ↑nG := svf hk 4
                         exact rp (.int .i64 ↑t1) (by simp [execOp, Act.eval, f298, f300, go_sem, w3]) hl hs hS
                        apply sc
                        ·intro a w' vs σ hS hl hs hk
                         have f10 : a.tmps[10]?.getD undef = .pointer (some ⟨b10, 0, none⟩) := sof hk
                         exact rp (pt b10 3) (by simp [execOp, Act.eval, f10, go_sem]) hl hs hS
                        apply sc
                        ·intro a w' vs σ hS hl hs hk
                         have f302 : a.tmps[302]?.getD undef = .pointer (some ⟨b10, 3, none⟩) := svf hk 6
                         have hxx := (hS.base.cell (p := ⟨b10, 3, none⟩) hz).trans hx3
                         exact rp (.int .i64 ↑bot) (by simp [execOp, Act.eval, f302, go_sem, hxx]) hl hs hS
                        apply sc
                        ·intro a w' vs σ hS hl hs hk
                         have f303 : a.tmps[303]?.getD undef = .int .i64 ↑bot := svf hk 7
                         exact rp (.int .i64 ↑b1) (by simp [execOp, Act.eval, f303, go_sem, w1]) hl hs hS
                        apply sc
                        ·intro a w' vs σ hS hl hs hk
                         have f296 : a.tmps[296]?.getD undef = .slice (some ⟨g1, o1x, none⟩) L1.length c14 := svf hk 0
                         have f301 : a.tmps[301]?.getD undef = .int .i64 ↑t1 := svf hk 5
                         have f304 : a.tmps[304]?.getD undef = .int .i64 ↑b1 := svf hk 8
                         exact rp (.slice (midA ⟨g1, o1x, none⟩ c14 t1) (b1 - t1) (c14 - t1)) (by simp [execOp, Act.eval, f296, f301, f304, go_sem, o3, o8, run_midL _ _ _ _ _ _ o3 o8]) hl hs hS
                        apply sc
                        ·intro a w' vs σ hS hl hs hk
                         have f11 : a.tmps[11]?.getD undef = .slice (some ⟨g0, o0, none⟩) L0.length c11 := sof hk
                         exact rp (.slice (some ⟨g0, o0, none⟩) L0.length c11) (by simp [execOp, Act.eval, f11, go_sem]) hl hs hS
                        apply sc
                        ·intro a w' vs σ hS hl hs hk
                         have f10 : a.tmps[10]?.getD undef = .pointer (some ⟨b10, 0, none⟩) := sof hk
                         exact rp (pt b10 2) (by simp [execOp, Act.eval, f10, go_sem]) hl hs hS
                        apply sc
                        ·intro a w' vs σ hS hl hs hk
                         have f307 : a.tmps[307]?.getD undef = .pointer (some ⟨b10, 2, none⟩) := svf hk 11
                         have hxx := (hS.base.cell (p := ⟨b10, 2, none⟩) hz).trans hx2
                         exact rp (.int .i64 ↑top) (by simp [execOp, Act.eval, f307, go_sem, hxx]) hl hs hS
                        apply sc
                        ·intro a w' vs σ hS hl hs hk
                         have f10 : a.tmps[10]?.getD undef = .pointer (some ⟨b10, 0, none⟩) := sof hk
                         exact rp (pt b10 3) (by simp [execOp, Act.eval, f10, go_sem]) hl hs hS
                        apply sc
                        ·intro a w' vs σ hS hl hs hk
                         have f309 : a.tmps[309]?.getD undef = .pointer (some ⟨b10, 3, none⟩) := svf hk 13
                         have hxx := (hS.base.cell (p := ⟨b10, 3, none⟩) hz).trans hx3
                         exact rp (.int .i64 ↑bot) (by simp [execOp, Act.eval, f309, go_sem, hxx]) hl hs hS
                        apply sc
                        ·intro a w' vs σ hS hl hs hk
                         have f310 : a.tmps[310]?.getD undef = .int .i64 ↑bot := svf hk 14
                         exact rp (.int .i64 ↑b1) (by simp [execOp, Act.eval, f310, go_sem, w1]) hl hs hS
                        apply sc
                        ·intro a w' vs σ hS hl hs hk
                         have f13 : a.tmps[13]?.getD undef = .slice AG nG cG := sof hk
                         exact rp (.slice AG nG cG) (by simp [execOp, Act.eval, f13, go_sem]) hl hs hS
                        apply sc
                        ·intro a w' vs σ hS hl hs hk
                         have f312 : a.tmps[312]?.getD undef = .slice AG nG cG := svf hk 16
                         exact rp (.int .i64 ↑nG) (by simp [execOp, Act.eval, f312, go_sem]) hl hs hS
                        apply sc
                        ·intro a w' vs σ hS hl hs hk
                         have f311 : a.tmps[311]?.getD undef = .int .i64 ↑b1 := svf hk 15
                         have f313 : a.tmps[313]?.getD undef = .int .i64 ↑nG := svf hk 17
                         exact rp (.int .i64 ↑m1) (by simp [execOp, Act.eval, f311, f313, go_sem, w2]) hl hs hS
                        apply sc
                        ·intro a w' vs σ hS hl hs hk
                         have f306 : a.tmps[306]?.getD undef = .slice (some ⟨g0, o0, none⟩) L0.length c11 := svf hk 10
                         have f308 : a.tmps[308]?.getD undef = .int .i64 ↑top := svf hk 12
                         have f314 : a.tmps[314]?.getD undef = .int .i64 ↑m1 := svf hk 18
                         exact rp (.slice (midA ⟨g0, o0, none⟩ c11 top) (m1 - top) (c11 - top)) (by simp [execOp, Act.eval, f306, f308, f314, go_sem, o1, o10, run_midL _ _ _ _ _ _ o1 o10]) hl hs hS
                        apply sc
                        ·intro a w' vs σ hS hl hs hk
                         have f11 : a.tmps[11]?.getD undef = .slice (some ⟨g0, o0, none⟩) L0.length c11 := sof hk
                         exact rp (.slice (some ⟨g0, o0, none⟩) L0.length c11) (by simp [execOp, Act.eval, f11, go_sem]) hl hs hS
                        apply sc
                        ·intro a w' vs σ hS hl hs hk
                         have f10 : a.tmps[10]?.getD undef = .pointer (some ⟨b10, 0, none⟩) := sof hk
                         exact rp (pt b10 3) (by simp [execOp, Act.eval, f10, go_sem]) hl hs hS
                        apply sc
                        ·intro a w' vs σ hS hl hs hk
                         have f317 : a.tmps[317]?.getD undef = .pointer (some ⟨b10, 3, none⟩) := svf hk 21
                         have hxx := (hS.base.cell (p := ⟨b10, 3, none⟩) hz).trans hx3
                         exact rp (.int .i64 ↑bot) (by simp [execOp, Act.eval, f317, go_sem, hxx]) hl hs hS
                        apply sc
                        ·intro a w' vs σ hS hl hs hk
                         have f318 : a.tmps[318]?.getD undef = .int .i64 ↑bot := svf hk 22
                         exact rp (.int .i64 ↑b1) (by simp [execOp, Act.eval, f318, go_sem, w1]) hl hs hS
                        apply sc
                        ·intro a w' vs σ hS hl hs hk
                         have f13 : a.tmps[13]?.getD undef = .slice AG nG cG := sof hk
                         exact rp (.slice AG nG cG) (by simp [execOp, Act.eval, f13, go_sem]) hl hs hS
                        apply sc
                        ·intro a w' vs σ hS hl hs hk
                         have f320 : a.tmps[320]?.getD undef = .slice AG nG cG := svf hk 24
                         exact rp (.int .i64 ↑nG) (by simp [execOp, Act.eval, f320, go_sem]) hl hs hS
                        apply sc
                        ·intro a w' vs σ hS hl hs hk
                         have f319 : a.tmps[319]?.getD undef = .int .i64 ↑b1 := svf hk 23
                         have f321 : a.tmps[321]?.getD undef = .int .i64 ↑nG := svf hk 25
                         exact rp (.int .i64 ↑m1) (by simp [execOp, Act.eval, f319, f321, go_sem, w2]) hl hs hS
                        apply sc
                        ·intro a w' vs σ hS hl hs hk
                         have f10 : a.tmps[10]?.getD undef = .pointer (some ⟨b10, 0, none⟩) := sof hk
                         exact rp (pt b10 3) (by simp [execOp, Act.eval, f10, go_sem]) hl hs hS
                        apply sc
                        ·intro a w' vs σ hS hl hs hk
                         have f323 : a.tmps[323]?.getD undef = .pointer (some ⟨b10, 3, none⟩) := svf hk 27
                         have hxx := (hS.base.cell (p := ⟨b10, 3, none⟩) hz).trans hx3
                         exact rp (.int .i64 ↑bot) (by simp [execOp, Act.eval, f323, go_sem, hxx]) hl hs hS
                        apply sc
                        ·intro a w' vs σ hS hl hs hk
                         have f324 : a.tmps[324]?.getD undef = .int .i64 ↑bot := svf hk 28
                         exact rp (.int .i64 ↑b1) (by simp [execOp, Act.eval, f324, go_sem, w1]) hl hs hS
                        apply sc
                        ·intro a w' vs σ hS hl hs hk
                         have f316 : a.tmps[316]?.getD undef = .slice (some ⟨g0, o0, none⟩) L0.length c11 := svf hk 20
                         have f322 : a.tmps[322]?.getD undef = .int .i64 ↑m1 := svf hk 26
                         have f325 : a.tmps[325]?.getD undef = .int .i64 ↑b1 := svf hk 29
                         exact rp (.slice (midA ⟨g0, o0, none⟩ c11 m1) (b1 - m1) (c11 - m1)) (by simp [execOp, Act.eval, f316, f322, f325, go_sem, o7, o4, run_midL _ _ _ _ _ _ o7 o4]) hl hs hS
                        apply sc
                        ·intro a w' vs σ hS hl hs hk
                         have f305 : a.tmps[305]?.getD undef = .slice (midA ⟨g1, o1x, none⟩ c14 t1) (b1 - t1) (c14 - t1) := svf hk 9
                         exact rp (.slice (midA ⟨g1, o1x, none⟩ c14 t1) (b1 - t1) (c14 - t1)) (by simp [execOp, Act.eval, f305, go_sem]) hl hs hS
                        apply sc
                        ·intro a w' vs σ hS hl hs hk
                         have f315 : a.tmps[315]?.getD undef = .slice (midA ⟨g0, o0, none⟩ c11 top) (m1 - top) (c11 - top) := svf hk 19
                         exact rp (.slice (midA ⟨g0, o0, none⟩ c11 top) (m1 - top) (c11 - top)) (by simp [execOp, Act.eval, f315, go_sem]) hl hs hS
                        apply sc
                        ·intro a w' vs σ hS hl hs hk
                         have f326 : a.tmps[326]?.getD undef = .slice (midA ⟨g0, o0, none⟩ c11 m1) (b1 - m1) (c11 - m1) := svf hk 30
                         exact rp (.slice (midA ⟨g0, o0, none⟩ c11 m1) (b1 - m1) (c11 - m1)) (by simp [execOp, Act.eval, f326, go_sem]) hl hs hS
                        exact SSteps.nil
                       ·intro vs w' hS hv
                        have q0 : vs 0 = _ := hv 0 (by decide)
                        have q1 : vs 1 = _ := hv 1 (by decide)
                        have q2 : vs 2 = _ := hv 2 (by decide)
                        have q3 : vs 3 = _ := hv 3 (by decide)
                        have q4 : vs 4 = _ := hv 4 (by decide)
                        have q5 : vs 5 = _ := hv 5 (by decide)
                        have q6 : vs 6 = _ := hv 6 (by decide)
                        have q7 : vs 7 = _ := hv 7 (by decide)
                        have q8 : vs 8 = _ := hv 8 (by decide)
                        have q9 : vs 9 = _ := hv 9 (by decide)
                        have q10 : vs 10 = _ := hv 10 (by decide)
                        have q11 : vs 11 = _ := hv 11 (by decide)
                        have q12 : vs 12 = _ := hv 12 (by decide)
                        have q13 : vs 13 = _ := hv 13 (by decide)
                        have q14 : vs 14 = _ := hv 14 (by decide)
                        have q15 : vs 15 = _ := hv 15 (by decide)
                        have q16 : vs 16 = _ := hv 16 (by decide)
                        have q17 : vs 17 = _ := hv 17 (by decide)
                        have q18 : vs 18 = _ := hv 18 (by decide)
                        have q19 : vs 19 = _ := hv 19 (by decide)
                        have q20 : vs 20 = _ := hv 20 (by decide)
                        have q21 : vs 21 = _ := hv 21 (by decide)
                        have q22 : vs 22 = _ := hv 22 (by decide)
                        have q23 : vs 23 = _ := hv 23 (by decide)
                        have q24 : vs 24 = _ := hv 24 (by decide)
                        have q25 : vs 25 = _ := hv 25 (by decide)
                        have q26 : vs 26 = _ := hv 26 (by decide)
                        have q27 : vs 27 = _ := hv 27 (by decide)
                        have q28 : vs 28 = _ := hv 28 (by decide)
                        have q29 : vs 29 = _ := hv 29 (by decide)
                        have q30 : vs 30 = _ := hv 30 (by decide)
                        have q31 : vs 31 = _ := hv 31 (by decide)
                        have q32 : vs 32 = _ := hv 32 (by decide)
                        have q33 : vs 33 = _ := hv 33 (by decide)
                        have S2 := Lib.hid hS
                        simp only [putL, Act.put, Nat.zero_add, Nat.reduceAdd, List.setIfInBounds_toArray, List.set_cons_succ, List.set_cons_zero, q0, q1, q2, q3, q4, q5, q6, q7, q8, q9, q10, q11, q12, q13, q14, q15, q16, q17, q18, q19, q20, q21, q22, q23, q24, q25, q26, q27, q28, q29, q30, q31, q32, q33]
                        clear hS hv q0 q1 q2 q3 q4 q5 q6 q7 q8 q9 q10 q11 q12 q13 q14 q15 q16 q17 q18 q19 q20 q21 q22 q23 q24 q25 q26 q27 q28 q29 q30 q31 q32 q33
                        have S11 := Lib.hid (S7.out.bel S2.out.base)
                        have HPE := Lib.hid (HPD.out.bel S2.out.base)
                        clear S2 S7 HPD
                        go_wp2_with fail
                        go_meet
                        case rel => exact ⟨_, _, _, _, _, _, _, _, _, _, _, _, rfl, rfl, rfl, HPE, S11.out⟩

                   case rest =>
                    as_aux_lemma =>
                     obtain ⟨mS, n18, n19, c17, c18, c19, A17, A18, A19, LS, LW, LL, rfl, rfl, rfl, HPC, hS⟩ := hcut
                     have S12 := Lib.hid hS
                     clear hS S7 hx0 hx2 hx3 hx4 hz w1 w2 w3 o1 o2 o3 o4 o5 o6 o7 o8 o10
                     have hcon := r14SameLines_any AG A19 cG c19 G LL _ (S12.out.linesRd' (k := 1) rfl).2.2 HPC.out.rL (by have := HR.out.1.goneR.2; omega) (by rw [HPC.out.same]; have := HR.out.1.goneR.2; omega) (HR.out.1.goneR.1.mill hcm0) (by rw [HPC.out.same]; exact HR.out.1.goneR.1.mill hcm0)
                     rw [show decide (G = LL) = true by simp [HPC.out.same], ← HNG.out, ← HPC.out.nL] at hcon
                     have HCON := Lib.hid hcon
                     clear hcon
                     go_wp2_with fail
                     refine HCON.out.mono ?_
                     rintro x w12 ⟨rfl, hb⟩
                     have S13 := Lib.hid (S12.out.bel hb)
                     have HPC1 := Lib.hid (HPC.out.bel hb)
                     clear hb S12 HPC HCON
                     go_wp2_with fail
                     go_loopg [20] mS (fun g v wx => ∃ k : Nat, k ≤ mS ∧ g = mS - k ∧ v = .int .i64 k ∧ Hid (Pcs wx G LS LW LL mS A17 c17 A18 n18 c18 A19 n19 c19) ∧ Objs w wx [.lines (.slice (some ⟨g1, o1x, none⟩) L1.length c14) L1, .lines (.slice AG nG cG) G, .lines (.slice (some ⟨g0, o0, none⟩) L0.length c11) L0, .box b10 90 (av14 a1), .grid p 58 ↑s L1])
                     case atStart => exact ⟨0, Nat.zero_le _, rfl, rfl, HPC1, S13.out⟩
                     case round =>
                      as_aux_lemma =>
                       clear S13 HPC1
                       obtain ⟨k, hk, rfl, rfl, HPC, hS⟩ := hrel
                       have S14 := Lib.hid hS
                       clear hS
                       by_cases hks : k < mS
                       case neg =>
                        as_aux_lemma =>
                         obtain rfl : k = mS := by omega
                         clear hks hk
                         go_wp2_with fail
                         go_roundg (l.length - (k0 + 1))
                         case measure => omega
                         case rel => exact ⟨k0 + 1, L1, by omega, rfl, by go_num, HK1, (Objs.pick (σ := [_, _, _, _, _]) (os := []) S14.out [some 4] (by decide) rfl)⟩

                       case pos =>
                        as_aux_lemma =>
                         have hmb := HPC.out.big
                         have hkw : k < n18 := by have := HPC.out.nS; have := HPC.out.nW; have := HPC.out.len; omega
                         obtain ⟨l0, hl0⟩ := get_of (show k < LS.length by rw [← HPC.out.nS]; exact hks)
                         obtain ⟨l1, hl1'⟩ := get_of (show k < LW.length by rw [← HPC.out.nW]; exact hkw)
                         obtain ⟨g17, o17, B0, d0, e17, hzg0, hc1, -, hB0⟩ := HPC.out.rS.at_ hl0
                         obtain ⟨g18, o18, B1, d1, e18, hzg1, hc3, -, hB1⟩ := HPC.out.rW.at_ hl1'
                         have HB0 := Lib.hid hB0
                         have HB1 := Lib.hid hB1
                         have HEQ := Lib.hid (sameC_eqL (by have := HPC.out.cells k; rw [hl0, hl1'] at this; exact this))
                         have hlm0 := HPC.out.mS1 l0 (List.mem_of_getElem? hl0)
                         have hlm1 := HPC.out.mW1 l1 (List.mem_of_getElem? hl1')
                         have hk0 : (0 : Int) ≤ (k : Int) := by omega
                         have hk1 : (k : Int) < (mS : Int) := by omega
                         have hk2 : (k : Int) < (n18 : Int) := by omega
                         clear hB0 hB1 hl0 hl1'
                         subst e17 e18
                         go_upto_region 53 with (fail)
                         refine wp_region_stage (w0 := wr) (os := []) (by kernel_rfl) (by kernel_rfl) (by kernel_rfl) [] [[], [], [], [], [], [], [], [], [], [], [], [], [], []] [] (fun opn u => match opn with | 0 => u = .slice (some ⟨g17, o17, none⟩) mS c17 | 1 => u = .int .i64 ↑k | 2 => u = .pointer (some ⟨g17, o17 + k * 2, none⟩) | 3 => u = .pointer (some ⟨g17, o17 + k * 2, none⟩) | 4 => u = .slice B0 l0.1.length d0 | 5 => u = .agg #[.slice B0 l0.1.length d0, .bool false] | 6 => u = .slice (some ⟨g18, o18, none⟩) n18 c18 | 7 => u = .int .i64 ↑k | 8 => u = .pointer (some ⟨g18, o18 + k * 2, none⟩) | 9 => u = .pointer (some ⟨g18, o18 + k * 2, none⟩) | 10 => u = .slice B1 l1.1.length d1 | 11 => u = .agg #[.slice B1 l1.1.length d1, .bool false] | 12 => u = .bool true | 13 => u = .bool false | _ => True) (fun vs => []) (by kernel_rfl) (fun vs => by rfl) (objs_start wr) ?_ ?_
                         ·apply sc
                          ·intro a w' vs σ hS hl hs hk
                           have f17 : a.tmps[17]?.getD undef = .slice (some ⟨g17, o17, none⟩) mS c17 := sof hk
                           exact rp (.slice (some ⟨g17, o17, none⟩) mS c17) (by simp [execOp, Act.eval, f17, go_sem]) hl hs hS
                          apply sc
                          ·intro a w' vs σ hS hl hs hk
                           have f20 : a.tmps[20]?.getD undef = .int .i64 ↑k := sof hk
                           exact rp (.int .i64 ↑k) (by simp [execOp, Act.eval, f20, go_sem]) hl hs hS
                          apply sc
                          ·intro a w' vs σ hS hl hs hk
                           have f337 : a.tmps[337]?.getD undef = .slice (some ⟨g17, o17, none⟩) mS c17 := svf hk 0
                           have f338 : a.tmps[338]?.getD undef = .int .i64 ↑k := svf hk 1
                           exact rp (pt g17 (o17 + k * 2)) (by simp [execOp, Act.eval, f337, f338, go_sem, hk0, hk1]) hl hs hS
                          apply sc
                          ·intro a w' vs σ hS hl hs hk
                           have f339 : a.tmps[339]?.getD undef = .pointer (some ⟨g17, o17 + k * 2, none⟩) := svf hk 2
                           exact rp (pt g17 (o17 + k * 2)) (by simp [execOp, Act.eval, f339, go_sem]) hl hs hS
                          apply sc
                          ·intro a w' vs σ hS hl hs hk
                           have f340 : a.tmps[340]?.getD undef = .pointer (some ⟨g17, o17 + k * 2, none⟩) := svf hk 3
                           have hxx := (hS.base.cell (p := ⟨g17, o17 + k * 2, none⟩) hzg0).trans hc1
                           exact rp (.slice B0 l0.1.length d0) (by simp [execOp, Act.eval, f340, go_sem, hxx]) hl hs hS
                          apply sc
                          ·intro a w' vs σ hS hl hs hk
                           have f341 : a.tmps[341]?.getD undef = .slice B0 l0.1.length d0 := svf hk 4
                           exact rp (.agg #[.slice B0 l0.1.length d0, .bool false]) (by simp [execOp, Act.eval, f341, go_sem]) hl hs hS
                          apply sc
                          ·intro a w' vs σ hS hl hs hk
                           have f18 : a.tmps[18]?.getD undef = .slice (some ⟨g18, o18, none⟩) n18 c18 := sof hk
                           exact rp (.slice (some ⟨g18, o18, none⟩) n18 c18) (by simp [execOp, Act.eval, f18, go_sem]) hl hs hS
                          apply sc
                          ·intro a w' vs σ hS hl hs hk
                           have f20 : a.tmps[20]?.getD undef = .int .i64 ↑k := sof hk
                           exact rp (.int .i64 ↑k) (by simp [execOp, Act.eval, f20, go_sem]) hl hs hS
                          apply sc
                          ·intro a w' vs σ hS hl hs hk
                           have f343 : a.tmps[343]?.getD undef = .slice (some ⟨g18, o18, none⟩) n18 c18 := svf hk 6
                           have f344 : a.tmps[344]?.getD undef = .int .i64 ↑k := svf hk 7
                           exact rp (pt g18 (o18 + k * 2)) (by simp [execOp, Act.eval, f343, f344, go_sem, hk0, hk2]) hl hs hS
                          apply sc
                          ·intro a w' vs σ hS hl hs hk
                           have f345 : a.tmps[345]?.getD undef = .pointer (some ⟨g18, o18 + k * 2, none⟩) := svf hk 8
                           exact rp (pt g18 (o18 + k * 2)) (by simp [execOp, Act.eval, f345, go_sem]) hl hs hS
                          apply sc
                          ·intro a w' vs σ hS hl hs hk
                           have f346 : a.tmps[346]?.getD undef = .pointer (some ⟨g18, o18 + k * 2, none⟩) := svf hk 9
                           have hxx := (hS.base.cell (p := ⟨g18, o18 + k * 2, none⟩) hzg1).trans hc3
                           exact rp (.slice B1 l1.1.length d1) (by simp [execOp, Act.eval, f346, go_sem, hxx]) hl hs hS
                          apply sc
                          ·intro a w' vs σ hS hl hs hk
                           have f347 : a.tmps[347]?.getD undef = .slice B1 l1.1.length d1 := svf hk 10
                           exact rp (.agg #[.slice B1 l1.1.length d1, .bool false]) (by simp [execOp, Act.eval, f347, go_sem]) hl hs hS
                          apply sc
                          ·intro a w' vs σ hS hl hs hk
                           have e342 : a.tmps.getD 342 undef = .agg #[.slice B0 l0.1.length d0, .bool false] := svv hk 5
                           have e348 : a.tmps.getD 348 undef = .agg #[.slice B1 l1.1.length d1, .bool false] := svv hk 11
                           have hcon := r14SameLine_any B0 B1 d0 d1 l0.1 l1.1 false false w' (HB0.out.bel hS.base) (HB1.out.bel hS.base) hlm0 hlm1
                           rw [HEQ.out] at hcon
                           exact ro_call (f := 41) (wanted_none rfl) rfl (by simp only [List.map_toArray, List.map_cons, List.map_nil, Act.eval, e342, e348] <;> rfl) (fun _ _ => by kernel_rfl) (hcon.mono fun e w2 ⟨h1, h2⟩ => ⟨_, h1, sp_same (by kernel_rfl) hl hs (hS.bel h2) rfl, trivial⟩)
                          apply sc
                          ·intro a w' vs σ hS hl hs hk
                           have f349 : a.tmps[349]?.getD undef = .bool true := svf hk 12
                           exact rp (.bool false) (by simp [execOp, Act.eval, f349, go_sem]) hl hs hS
                          exact SSteps.nil
                         ·intro vs w' hS hv
                          have q0 : vs 0 = _ := hv 0 (by decide)
                          have q1 : vs 1 = _ := hv 1 (by decide)
                          have q2 : vs 2 = _ := hv 2 (by decide)
                          have q3 : vs 3 = _ := hv 3 (by decide)
                          have q4 : vs 4 = _ := hv 4 (by decide)
                          have q5 : vs 5 = _ := hv 5 (by decide)
                          have q6 : vs 6 = _ := hv 6 (by decide)
                          have q7 : vs 7 = _ := hv 7 (by decide)
                          have q8 : vs 8 = _ := hv 8 (by decide)
                          have q9 : vs 9 = _ := hv 9 (by decide)
                          have q10 : vs 10 = _ := hv 10 (by decide)
                          have q11 : vs 11 = _ := hv 11 (by decide)
                          have q12 : vs 12 = _ := hv 12 (by decide)
                          have q13 : vs 13 = _ := hv 13 (by decide)
                          have S2 := Lib.hid hS
                          simp only [putL, Act.put, Nat.zero_add, Nat.reduceAdd, List.setIfInBounds_toArray, List.set_cons_succ, List.set_cons_zero, q0, q1, q2, q3, q4, q5, q6, q7, q8, q9, q10, q11, q12, q13]
                          clear hS hv q0 q1 q2 q3 q4 q5 q6 q7 q8 q9 q10 q11 q12 q13
                          have S15 := Lib.hid (S14.out.bel S2.out.base)
                          have HPC2 := Lib.hid (HPC.out.bel S2.out.base)
                          clear S2 S14 HPC
                          go_wp2_with fail
                          go_roundg (mS - (k + 1))
                          case measure => omega
                          case rel => exact ⟨k + 1, by omega, rfl, by go_num, HPC2, S15.out⟩

end Go.Proofs.YtppijfjigcoifaaDoor
