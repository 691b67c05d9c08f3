/-
  GridSame: the law returns true.
-/
import Derived.Test.YtppijfjigcoifaaDoorQ6
import Derived.Test.YtppijfjigcoifaaDoorQ7
set_option linter.unusedSimpArgs false
set_option linter.unusedVariables false
namespace Go.Proofs.YtppijfjigcoifaaDoor
open Go.RowKit

def gridB : Value → Nat
 | .tuple a => blkOf (a.getD 0 undef)
 | v => blkOf v
theorem small14s_true {most : Nat} {l : List Act14} (h : small14b most l = true) : ∀ a ∈ l, a.cs.length ≤ 40 := by
 unfold small14b at h
 rw [Bool.and_eq_true, decide_eq_true_eq] at h
 intro a ha
 have := List.all_eq_true.1 h.1 a (by rw [List.take_of_length_le h.2]; exact ha)
 simpa using this
def Ac14s (w : World) (a : Act14) : Prop := N64 a.a ∧ N64 a.b ∧ N64 a.n ∧ RdC w a.A a.c a.cs ∧ a.c ≤ maxLen
def Kept14s (s rr : Nat) (L : List Ln) : Prop := Rect s L ∧ L.length = rr ∧ AllV L
theorem kept14s_act {s rr : Nat} {L : List Ln} (h : Kept14s s rr L) (a : Act14) : Kept14s s rr (act14N a s L) :=
 ⟨(act14N_rect h.1).1, (act14N_rect h.1).2.trans h.2.1, act14N_all h.1 h.2.2⟩
theorem kept14s_new (s rr : Nat) : Kept14s s rr (List.replicate rr (List.replicate s (blank pen0), false)) := ⟨fun l hl => by rw [(List.mem_replicate.1 hl).2]; simp, by simp, allV_new rr s (by decide +kernel)⟩
theorem front2_14 {P : Program} {f : FuncId} {args : Array Value} {a b a' b' : Ob} {r : Value} {w0 w : World} {os : List Ob} (hS : Objs w0 w os) (h0 : os[0]? = some a) (h1 : os[1]? = some b)
  (hc : ∀ r', Objs w0 w (a :: b :: r') → Calls P f args w fun e w' => e = .returned r ∧ Objs w0 w' (a' :: b' :: r')) : Calls P f args w fun e w' => e = .returned r ∧ Objs w0 w' ((os.set 0 a').set 1 b') := by
 match os, h0, h1, hS with
 | x :: y :: r', h0, h1, hS =>
  simp at h0 h1
  subst h0 h1
  exact hc r' hS
set_option maxRecDepth 100000 in
set_option maxHeartbeats 16000000 in
theorem l14GridSame_any (ra rb ca cb : Int) (Aa : Option Addr) (na : Nat) (la : List Act14) (Ab : Option Addr) (nb : Nat) (lb : List Act14) (w : World) (hT : Tabs w) (haa : RdRec w Aa na 34 (la.map av14)) (hma : na ≤ maxLen) (hoa : ∀ a ∈ la, Ac14s w a) (hab : RdRec w Ab nb 34 (lb.map av14)) (hmb : nb ≤ maxLen) (hob : ∀ a ∈ lb, Ac14s w a) :
  Calls Tryd.prog 11 #[.agg #[.int .i64 ra, .int .i64 rb], .agg #[.int .i64 ca, .int .i64 cb], .slice Aa la.length na, .slice Ab lb.length nb] w fun e w' => e = .returned (.bool true) ∧ Below w.heap.size w w' := by
 have HT := Lib.hid hT
 have HAA := Lib.hid haa
 have HAB := Lib.hid hab
 have HOA := Lib.hid hoa
 have HOB := Lib.hid hob
 have HMA := Lib.hid hma
 have HMB := Lib.hid hmb
 have hlma : la.length ≤ 9223372036854775807 := by have := haa.1; unfold maxLen at hma; simp at this; omega
 have hlmb : lb.length ≤ 9223372036854775807 := by have := hab.1; unfold maxLen at hmb; simp at this; omega
 clear hT haa hab hoa hob hma hmb
 have S0 := Lib.hid ((objs_start w).alloc2 (c1 := #[.int .i64 ra, .int .i64 rb]) (t1 := 95) (c2 := #[.int .i64 ca, .int .i64 cb]) (t2 := 95))
 cases hsa : small14b 6 la with
 | false =>
  have HSM := Lib.hid hsa
  clear hsa
  go_enter Tryd.func11, Tryd.ntmps11
  go_wp2_with fail
  refine (small14_any Aa na la 6 (by decide) _ ((HAA.out.bel (objs_start w).alloc2.base)) HMA.out).mono ?_
  rw [HSM.out]
  rintro e w1 ⟨rfl, rfl⟩
  go_wp2_with fail
  refine (l14known_any _ (S0.out.tabs HT.out)).mono ?_
  rintro e w9 ⟨rfl, hb⟩
  have HB := Lib.hid (S0.out.bel hb).base
  clear hb
  go_wp2_with fail
  go_ret
  exact ⟨rfl, HB.out⟩
 | true =>
 cases hsb : small14b 6 lb with
 | false =>
  have HSM := Lib.hid hsa
  have HSM2 := Lib.hid hsb
  clear hsa hsb
  go_enter Tryd.func11, Tryd.ntmps11
  go_wp2_with fail
  refine (small14_any Aa na la 6 (by decide) _ ((HAA.out.bel (objs_start w).alloc2.base)) HMA.out).mono ?_
  rw [HSM.out]
  rintro e w1 ⟨rfl, rfl⟩
  go_wp2_with fail
  refine (small14_any Ab nb lb 6 (by decide) _ ((HAB.out.bel (objs_start w).alloc2.base)) HMB.out).mono ?_
  rw [HSM2.out]
  rintro e w1 ⟨rfl, rfl⟩
  go_wp2_with fail
  refine (l14known_any _ (S0.out.tabs HT.out)).mono ?_
  rintro e w9 ⟨rfl, hb⟩
  have HB := Lib.hid (S0.out.bel hb).base
  clear hb
  go_wp2_with fail
  go_ret
  exact ⟨rfl, HB.out⟩
 | true =>
 have HSM := Lib.hid hsa
 have HSM2 := Lib.hid hsb
 have H4A := Lib.hid (small14s_true hsa)
 have H4B := Lib.hid (small14s_true hsb)
 clear hsa hsb
 go_enter Tryd.func11, Tryd.ntmps11
 go_wp2_with fail
 refine (small14_any Aa na la 6 (by decide) _ ((HAA.out.bel (objs_start w).alloc2.base)) HMA.out).mono ?_
 rw [HSM.out]
 rintro e w1 ⟨rfl, rfl⟩
 go_wp2_with fail
 refine (small14_any Ab nb lb 6 (by decide) _ ((HAB.out.bel (objs_start w).alloc2.base)) HMB.out).mono ?_
 rw [HSM2.out]
 rintro e w1 ⟨rfl, rfl⟩
 go_wp2_with fail
 have S1 := Lib.hid ((objs_start w).alloc4 (c1 := #[.int .i64 ra, .int .i64 rb]) (t1 := 95) (c2 := #[.int .i64 ca, .int .i64 cb]) (t2 := 95) (c3 := #[.pointer none, .pointer none]) (t3 := 96) (c4 := #[.pointer none, .pointer none]) (t4 := 97))
 generalize w.heap.size + 1 + 1 + 1 = b10 at S1 ⊢
 generalize w.heap.size + 1 + 1 = b9 at S1 ⊢
 generalize w.heap.size + 1 = b5 at S1 ⊢
 generalize w.heap.size = b4 at S1 ⊢
 go_loopw [11, 12, 13, 14, 15] (fun vk _ _ _ _ wr => (vk = .int .i64 0 ∧ Objs w wr (.box b4 95 #[.int .i64 ra, .int .i64 rb] :: .box b5 95 #[.int .i64 ca, .int .i64 cb] :: .box b9 96 #[.pointer none, .pointer none] :: .box b10 97 #[.pointer none, .pointer none] :: [])) ∨ (vk = .int .i64 1 ∧ (∃ (p0 x0 : Nat) (L0 : List Ln), Hid ((1 ≤ ra ∧ ra ≤ 4 ∧ 1 ≤ ca ∧ ca ≤ 6) ∧ Kept14s ca.toNat ra.toNat L0) ∧ Objs w wr (.box b4 95 #[.int .i64 ra, .int .i64 rb] :: .box b5 95 #[.int .i64 ca, .int .i64 cb] :: .box b9 96 #[.pointer (some ⟨p0, 0, none⟩), .pointer none] :: .box b10 97 #[.pointer (some ⟨x0, 0, none⟩), .pointer none] :: [.grid p0 58 ca L0, .grid x0 33 ca L0]))) ∨ (vk = .int .i64 2 ∧ (∃ (p0 x0 : Nat) (L0 : List Ln) (p1 x1 : Nat) (L1 : List Ln), Hid ((1 ≤ ra ∧ ra ≤ 4 ∧ 1 ≤ ca ∧ ca ≤ 6) ∧ Kept14s ca.toNat ra.toNat L0) ∧ Hid ((1 ≤ rb ∧ rb ≤ 4 ∧ 1 ≤ cb ∧ cb ≤ 6) ∧ Kept14s cb.toNat rb.toNat L1) ∧ Objs w wr (.box b4 95 #[.int .i64 ra, .int .i64 rb] :: .box b5 95 #[.int .i64 ca, .int .i64 cb] :: .box b9 96 #[.pointer (some ⟨p0, 0, none⟩), .pointer (some ⟨p1, 0, none⟩)] :: .box b10 97 #[.pointer (some ⟨x0, 0, none⟩), .pointer (some ⟨x1, 0, none⟩)] :: .grid p1 58 cb L1 :: .grid x1 33 cb L1 :: .grid p0 58 ca L0 :: .grid x0 33 ca L0 :: [])))) (fun vk _ _ _ _ _ => 2 - (intOf vk).toNat)
 case atStart => exact .inl ⟨rfl, (Objs.pick (σ := [_, _, _, _]) (os := []) S1.out [some 3, some 2, some 1, some 0] (by decide) rfl)⟩
 case round =>
  clear S1 S0
  rcases hrel with ⟨rfl, hS⟩ | ⟨rfl, p0, x0, L0, HK0, hS⟩ | ⟨rfl, p0, x0, L0, p1, x1, L1, HK0, HK1, hS⟩
  ·have S4 := Lib.hid (show Objs w _ (.box b4 95 #[.int .i64 ra, .int .i64 rb] :: .box b5 95 #[.int .i64 ca, .int .i64 cb] :: .box b9 96 #[.pointer none, .pointer none] :: .box b10 97 #[.pointer none, .pointer none] :: []) from hS)
   obtain ⟨hx4, hf4, hz4⟩ := (hS.box (k := 0) rfl).facts
   obtain ⟨hx5, hf5, hz5⟩ := (hS.box (k := 1) rfl).facts
   clear hS
   have hcs : (ra < 1 ∨ (1 ≤ ra ∧ 4 < ra) ∨ ((1 ≤ ra ∧ ra ≤ 4) ∧ ca < 1) ∨ ((1 ≤ ra ∧ ra ≤ 4) ∧ 1 ≤ ca ∧ 6 < ca)) ∨ ((1 ≤ ra ∧ ra ≤ 4) ∧ 1 ≤ ca ∧ ca ≤ 6) := by omega
   rcases hcs with hno | ⟨⟨h1, h2⟩, h3, h4⟩
   ·rcases hno with h | ⟨h, h2⟩ | ⟨⟨h, h2⟩, h3⟩ | ⟨⟨h, h2⟩, h3, h4⟩
    all_goals
     go_wp2_with fail
     refine (l14known_any _ (S4.out.tabs HT.out)).mono ?_
     rintro e w9 ⟨rfl, hb⟩
     have HB := Lib.hid (S4.out.bel hb).base
     clear hb
     go_wp2_with fail
     go_ret
     exact ⟨rfl, HB.out⟩
   obtain ⟨rr, rfl⟩ : ∃ rr : Nat, ra = rr := ⟨ra.toNat, by omega⟩
   obtain ⟨s, rfl⟩ : ∃ s : Nat, ca = s := ⟨ca.toNat, by omega⟩
   have g1 : 1 ≤ rr := by omega
   have g2 : rr ≤ 4 := by omega
   have g3 : 1 ≤ s := by omega
   have g4 : s ≤ 6 := by omega
   go_upto_region 10 with (fail)
   clear hx4 hf4 hz4 hx5 hf5 hz5
   have S5 := S4
   clear S4
   refine wp_region_stage (w0 := w) (os := (.box b9 96 #[.pointer none, .pointer none] :: .box b10 97 #[.pointer none, .pointer none] :: [])) (by kernel_rfl) (by kernel_rfl) (by kernel_rfl) [(0, 6, [6], fun vs => .grid (gridB (vs 6)) 58 ↑s (List.replicate rr (List.replicate s (blank pen0), false))), (0, 7, [7], fun vs => .grid (gridB (vs 7)) 58 ↑s (List.replicate rr (List.replicate s (blank pen0), false))), (0, 8, [8], fun vs => .grid (gridB (vs 8)) 58 ↑s (List.replicate rr (List.replicate s (blank pen0), false))), (0, 10, [10], fun vs => .grid (gridB (vs 10)) 58 ↑s (List.replicate rr (List.replicate s (blank pen0), false)))] [[], [], [1], [], [], [2], [0], [0], [0], [], [0], []] [.none, .box b4 95 #[.int .i64 ↑rr, .int .i64 rb], .box b5 95 #[.int .i64 ↑s, .int .i64 cb]] (fun opn u => match opn with | 0 => u = .int .i64 0 | 1 => u = pt b4 0 | 2 => u = .int .i64 ↑rr | 3 => u = .int .i64 0 | 4 => u = pt b5 0 | 5 => u = .int .i64 ↑s | 6 => ∃ p9, u = .tuple #[pt p9 0, .int .i64 0] | 7 => ∃ p9, u = .tuple #[pt p9 0, .int .i64 0] | 8 => ∃ p9, u = pt p9 0 | 9 => u = .int .i64 0 | 10 => ∃ p9, u = pt p9 0 | 11 => u = .int .i64 0 | _ => True) (fun vs => [.grid (gridB (vs 10)) 58 ↑s (List.replicate rr (List.replicate s (blank pen0), false)), .box b4 95 #[.int .i64 ↑rr, .int .i64 rb], .box b5 95 #[.int .i64 ↑s, .int .i64 cb]]) (by kernel_rfl) (fun vs => by rfl) S5.out.pad ?_ ?_
   ·apply sc
    ·intro a w' vs σ hS hl hs hk
     have f11 : a.tmps[11]?.getD undef = .int .i64 0 := sof hk
     exact rp (.int .i64 0) (by simp [execOp, Act.eval, f11, go_sem]) hl hs hS
    apply sc
    ·intro a w' vs σ hS hl hs hk
     have f4 : a.tmps[4]?.getD undef = .pointer (some ⟨b4, 0, none⟩) := sof hk
     have f54 : a.tmps[54]?.getD undef = .int .i64 0 := sf hk 0
     exact rp (pt b4 0) (by simp [execOp, Act.eval, f4, f54, go_sem]) hl hs hS
    apply sc
    ·intro a w' vs σ hS hl hs hk
     have f55 : a.tmps[55]?.getD undef = .pointer (some ⟨b4, 0, none⟩) := sf hk 1
     have hx := (hS.box (sg (hs 1 (by decide)))).cell
     exact rp (.int .i64 ↑rr) (by simp [execOp, Act.eval, f55, go_sem, hx]) hl hs hS
    apply sc
    ·intro a w' vs σ hS hl hs hk
     have f11 : a.tmps[11]?.getD undef = .int .i64 0 := sof hk
     exact rp (.int .i64 0) (by simp [execOp, Act.eval, f11, go_sem]) hl hs hS
    apply sc
    ·intro a w' vs σ hS hl hs hk
     have f5 : a.tmps[5]?.getD undef = .pointer (some ⟨b5, 0, none⟩) := sof hk
     have f57 : a.tmps[57]?.getD undef = .int .i64 0 := sf hk 3
     exact rp (pt b5 0) (by simp [execOp, Act.eval, f5, f57, go_sem]) hl hs hS
    apply sc
    ·intro a w' vs σ hS hl hs hk
     have f58 : a.tmps[58]?.getD undef = .pointer (some ⟨b5, 0, none⟩) := sf hk 4
     have hx := (hS.box (sg (hs 2 (by decide)))).cell
     exact rp (.int .i64 ↑s) (by simp [execOp, Act.eval, f58, go_sem, hx]) hl hs hS
    apply sc
    ·intro a w' vs σ hS hl hs hk
     have e56 : a.tmps.getD 56 undef = .int .i64 ↑rr := sv hk 2
     have e59 : a.tmps.getD 59 undef = .int .i64 ↑s := sv hk 5
     have h0 : σ[0]? = some .none := hs 0 (by decide)
     exact ro_call (f := 14) (wanted_none rfl) rfl (by simp only [List.map_toArray, List.map_cons, List.map_nil, Act.eval, e56, e59] <;> rfl) (fun _ _ => by kernel_rfl) ((gridNew_yes rr s g1 (by omega) g3 (by omega) w w' _ hS).mono fun e w2 ⟨p9, h1, h2⟩ => ⟨_, h1, sp_set 0 (.grid p9 58 ↑s (List.replicate rr (List.replicate s (blank pen0), false))) (by kernel_rfl) (by simp) (by decide) hl hs (by rfl) (h2.place (sg h0)) ⟨p9, rfl⟩, trivial⟩)
    apply sc
    ·intro a w' vs σ hS hl hs hk
     have e60 : a.tmps.getD 60 undef = vs 6 := sk_val hk 6 (by kernel_rfl) rfl rfl
     have p60 : (fun u : Value => ∃ p9, u = .tuple #[.pointer (some ⟨p9, 0, none⟩), .int .i64 0]) (vs 6) := (hk.1 6 (by kernel_rfl)).1
     obtain ⟨p9, q9⟩ := p60
     have e9 := e60.trans q9
     have f9 := gd e9
     have h0 : σ[0]? = some (.grid (gridB (vs 6)) 58 ↑s (List.replicate rr (List.replicate s (blank pen0), false))) := hs 0 (by decide)
     rw [q9, show gridB (.tuple #[.pointer (some ⟨p9, 0, none⟩), .int .i64 0]) = p9 from rfl] at h0
     have hSS := hS
     rw [← set_self (sg (os := (.box b9 96 #[.pointer none, .pointer none] :: .box b10 97 #[.pointer none, .pointer none] :: [])) h0)] at hSS
     exact rs_run (v' := .tuple #[.pointer (some ⟨p9, 0, none⟩), .int .i64 0]) (w' := w') (wanted_none rfl) (by simp [execOp, Act.eval, e9, f9, go_sem]) (sp_set 0 (.grid p9 58 ↑s (List.replicate rr (List.replicate s (blank pen0), false))) (by kernel_rfl) (by simp) (by decide) hl hs (by rfl) hSS ⟨p9, rfl⟩)
    apply sc
    ·intro a w' vs σ hS hl hs hk
     have e53 : a.tmps.getD 53 undef = vs 7 := sk_val hk 7 (by kernel_rfl) rfl rfl
     have p53 : (fun u : Value => ∃ p9, u = .tuple #[.pointer (some ⟨p9, 0, none⟩), .int .i64 0]) (vs 7) := (hk.1 7 (by kernel_rfl)).1
     obtain ⟨p9, q9⟩ := p53
     have e9 := e53.trans q9
     have f9 := gd e9
     have h0 : σ[0]? = some (.grid (gridB (vs 7)) 58 ↑s (List.replicate rr (List.replicate s (blank pen0), false))) := hs 0 (by decide)
     rw [q9, show gridB (.tuple #[.pointer (some ⟨p9, 0, none⟩), .int .i64 0]) = p9 from rfl] at h0
     have hSS := hS
     rw [← set_self (sg (os := (.box b9 96 #[.pointer none, .pointer none] :: .box b10 97 #[.pointer none, .pointer none] :: [])) h0)] at hSS
     exact rs_run (v' := .pointer (some ⟨p9, 0, none⟩)) (w' := w') (wanted_none rfl) (by simp [execOp, Act.eval, e9, f9, go_sem]) (sp_set 0 (.grid p9 58 ↑s (List.replicate rr (List.replicate s (blank pen0), false))) (by kernel_rfl) (by simp) (by decide) hl hs (by rfl) hSS ⟨p9, rfl⟩)
    apply sc
    ·intro a w' vs σ hS hl hs hk
     have e53 : a.tmps.getD 53 undef = vs 7 := sk_val hk 7 (by kernel_rfl) rfl rfl
     have p53 : (fun u : Value => ∃ p9, u = .tuple #[.pointer (some ⟨p9, 0, none⟩), .int .i64 0]) (vs 7) := (hk.1 7 (by kernel_rfl)).1
     obtain ⟨p9, q9⟩ := p53
     have e9 := e53.trans q9
     have f9 := gd e9
     exact ro_pure (v := .int .i64 0) (wanted_none rfl) (by simp [execOp, Act.eval, e9, f9, go_sem]) (sp_same (by kernel_rfl) hl hs hS rfl) trivial
    apply sc
    ·intro a w' vs σ hS hl hs hk
     have e61 : a.tmps.getD 61 undef = vs 8 := sk_val hk 8 (by kernel_rfl) rfl rfl
     have p61 : (fun u : Value => ∃ p9, u = .pointer (some ⟨p9, 0, none⟩)) (vs 8) := (hk.1 8 (by kernel_rfl)).1
     obtain ⟨p9, q9⟩ := p61
     have e9 := e61.trans q9
     have f9 := gd e9
     have h0 : σ[0]? = some (.grid (gridB (vs 8)) 58 ↑s (List.replicate rr (List.replicate s (blank pen0), false))) := hs 0 (by decide)
     rw [q9, show gridB (.pointer (some ⟨p9, 0, none⟩)) = p9 from rfl] at h0
     have hSS := hS
     rw [← set_self (sg (os := (.box b9 96 #[.pointer none, .pointer none] :: .box b10 97 #[.pointer none, .pointer none] :: [])) h0)] at hSS
     exact rs_run (v' := .pointer (some ⟨p9, 0, none⟩)) (w' := w') (wanted_none rfl) (by simp [execOp, Act.eval, e9, f9, go_sem]) (sp_set 0 (.grid p9 58 ↑s (List.replicate rr (List.replicate s (blank pen0), false))) (by kernel_rfl) (by simp) (by decide) hl hs (by rfl) hSS ⟨p9, rfl⟩)
    apply sc
    ·intro a w' vs σ hS hl hs hk
     have f62 : a.tmps[62]?.getD undef = .int .i64 0 := sf hk 9
     exact rp (.int .i64 0) (by simp [execOp, Act.eval, f62, go_sem]) hl hs hS
    exact SSteps.nil
   ·intro vs w' hS hv
    have q0 : vs 0 = _ := hv 0 (by decide)
    have q1 : vs 1 = _ := hv 1 (by decide)
    have q2 : vs 2 = _ := hv 2 (by decide)
    have q3 : vs 3 = _ := hv 3 (by decide)
    have q4 : vs 4 = _ := hv 4 (by decide)
    have q5 : vs 5 = _ := hv 5 (by decide)
    have q9 : vs 9 = _ := hv 9 (by decide)
    have q11 : vs 11 = _ := hv 11 (by decide)
    obtain ⟨p, q10⟩ := (show ∃ p9, vs 10 = .pointer (some ⟨p9, 0, none⟩) from hv 10 (by decide))
    obtain ⟨p8, q8⟩ := (show ∃ p9, vs 8 = .pointer (some ⟨p9, 0, none⟩) from hv 8 (by decide))
    obtain ⟨p7, q7⟩ := (show ∃ p9, vs 7 = .tuple #[.pointer (some ⟨p9, 0, none⟩), .int .i64 0] from hv 7 (by decide))
    obtain ⟨p6, q6⟩ := (show ∃ p9, vs 6 = .tuple #[.pointer (some ⟨p9, 0, none⟩), .int .i64 0] from hv 6 (by decide))
    rw [q10, show gridB (.pointer (some ⟨p, 0, none⟩)) = p from rfl] at hS
    have S2 := Lib.hid hS
    simp only [putL, Act.put, Nat.zero_add, Nat.reduceAdd, List.setIfInBounds_toArray, List.set_cons_succ, List.set_cons_zero, q0, q1, q2, q3, q4, q5, q9, q11]
    clear hS hv q0 q1 q2 q3 q4 q5 q9 q11
    simp only [q10, q8, q7, q6]
    have S6 := S2
    clear S2 q10 q8 q7 q6 S5
    go_upto_region 13 with (fail)
    have S7 := Lib.hid (show Objs w _ (.none :: .box b4 95 #[.int .i64 ↑rr, .int .i64 rb] :: .box b5 95 #[.int .i64 ↑s, .int .i64 cb] :: .box b9 96 #[.pointer none, .pointer none] :: .box b10 97 #[.pointer none, .pointer none] :: .grid p 58 ↑s (List.replicate rr (List.replicate s (blank pen0), false)) :: []) from (Objs.pick (σ := [_, _, _, _, _]) (os := []) S6.out [none, some 1, some 2, some 3, some 4, some 0] (by decide) rfl))
    clear S6
    refine wp_region_stage (w0 := w) (os := (.grid p 58 ↑s (List.replicate rr (List.replicate s (blank pen0), false)) :: [])) (by kernel_rfl) (by kernel_rfl) (by kernel_rfl) [(0, 9, [9], fun vs => .grid (blkOf (vs 9)) 33 ↑s (List.replicate rr (List.replicate s (blank pen0), false))), (3, 11, [], fun vs => .box b9 96 #[pt p 0, .pointer none]), (4, 13, [9], fun vs => .box b10 97 #[vs 9, .pointer none])] [[], [], [], [], [], [1], [], [], [2], [0], [], [3], [], [4]] [.none, .box b4 95 #[.int .i64 ↑rr, .int .i64 rb], .box b5 95 #[.int .i64 ↑s, .int .i64 cb], .box b9 96 #[.pointer none, .pointer none], .box b10 97 #[.pointer none, .pointer none]] (fun opn u => match opn with | 0 => u = .int .i64 0 | 1 => u = .int .i64 0 | 2 => u = pt p 0 | 3 => u = .int .i64 0 | 4 => u = pt b4 0 | 5 => u = .int .i64 ↑rr | 6 => u = .int .i64 0 | 7 => u = pt b5 0 | 8 => u = .int .i64 ↑s | 9 => ∃ p9, u = pt p9 0 | 10 => u = pt b9 0 | 11 => True | 12 => u = pt b10 0 | 13 => True | _ => True) (fun vs => [.grid (blkOf (vs 9)) 33 ↑s (List.replicate rr (List.replicate s (blank pen0), false)), .box b4 95 #[.int .i64 ↑rr, .int .i64 rb], .box b5 95 #[.int .i64 ↑s, .int .i64 cb], .box b9 96 #[pt p 0, .pointer none], .box b10 97 #[vs 9, .pointer none]]) (by kernel_rfl) (fun vs => by rfl) S7.out ?_ ?_
    ·apply sc
     ·intro a w' vs σ hS hl hs hk
      have f11 : a.tmps[11]?.getD undef = .int .i64 0 := sof hk
      exact rp (.int .i64 0) (by simp [execOp, Act.eval, f11, go_sem]) hl hs hS
     apply sc
     ·intro a w' vs σ hS hl hs hk
      have f11 : a.tmps[11]?.getD undef = .int .i64 0 := sof hk
      exact rp (.int .i64 0) (by simp [execOp, Act.eval, f11, go_sem]) hl hs hS
     apply sc
     ·intro a w' vs σ hS hl hs hk
      have f12 : a.tmps[12]?.getD undef = .pointer (some ⟨p, 0, none⟩) := sof hk
      exact rp (pt p 0) (by simp [execOp, Act.eval, f12, go_sem]) hl hs hS
     apply sc
     ·intro a w' vs σ hS hl hs hk
      have f11 : a.tmps[11]?.getD undef = .int .i64 0 := sof hk
      exact rp (.int .i64 0) (by simp [execOp, Act.eval, f11, go_sem]) hl hs hS
     apply sc
     ·intro a w' vs σ hS hl hs hk
      have f4 : a.tmps[4]?.getD undef = .pointer (some ⟨b4, 0, none⟩) := sof hk
      have f72 : a.tmps[72]?.getD undef = .int .i64 0 := sf hk 3
      exact rp (pt b4 0) (by simp [execOp, Act.eval, f4, f72, go_sem]) hl hs hS
     apply sc
     ·intro a w' vs σ hS hl hs hk
      have f73 : a.tmps[73]?.getD undef = .pointer (some ⟨b4, 0, none⟩) := sf hk 4
      have hx := (hS.box (sg (hs 1 (by decide)))).cell
      exact rp (.int .i64 ↑rr) (by simp [execOp, Act.eval, f73, go_sem, hx]) hl hs hS
     apply sc
     ·intro a w' vs σ hS hl hs hk
      have f11 : a.tmps[11]?.getD undef = .int .i64 0 := sof hk
      exact rp (.int .i64 0) (by simp [execOp, Act.eval, f11, go_sem]) hl hs hS
     apply sc
     ·intro a w' vs σ hS hl hs hk
      have f5 : a.tmps[5]?.getD undef = .pointer (some ⟨b5, 0, none⟩) := sof hk
      have f75 : a.tmps[75]?.getD undef = .int .i64 0 := sf hk 6
      exact rp (pt b5 0) (by simp [execOp, Act.eval, f5, f75, go_sem]) hl hs hS
     apply sc
     ·intro a w' vs σ hS hl hs hk
      have f76 : a.tmps[76]?.getD undef = .pointer (some ⟨b5, 0, none⟩) := sf hk 7
      have hx := (hS.box (sg (hs 2 (by decide)))).cell
      exact rp (.int .i64 ↑s) (by simp [execOp, Act.eval, f76, go_sem, hx]) hl hs hS
     apply sc
     ·intro a w' vs σ hS hl hs hk
      have e74 : a.tmps.getD 74 undef = .int .i64 ↑rr := sv hk 5
      have e77 : a.tmps.getD 77 undef = .int .i64 ↑s := sv hk 8
      have h0 : σ[0]? = some .none := hs 0 (by decide)
      exact ro_call (f := 21) (wanted_none rfl) rfl (by simp only [List.map_toArray, List.map_cons, List.map_nil, Act.eval, e74, e77] <;> rfl) (fun _ _ => by kernel_rfl) ((r14New_any rr s (by omega) (by omega) w w' _ hS).mono fun e w2 ⟨p9, h1, h2⟩ => ⟨_, h1, sp_set 0 (.grid p9 33 ↑s (List.replicate rr (List.replicate s (blank pen0), false))) (by kernel_rfl) (by simp) (by decide) hl hs (by rfl) (h2.place (sg h0)) ⟨p9, rfl⟩, trivial⟩)
     apply sc
     ·intro a w' vs σ hS hl hs hk
      have f9 : a.tmps[9]?.getD undef = .pointer (some ⟨b9, 0, none⟩) := sof hk
      have f69 : a.tmps[69]?.getD undef = .int .i64 0 := sf hk 0
      exact rp (pt b9 0) (by simp [execOp, Act.eval, f9, f69, go_sem]) hl hs hS
     apply sc
     ·intro a w' vs σ hS hl hs hk
      have f79 : a.tmps[79]?.getD undef = .pointer (some ⟨b9, 0, none⟩) := sf hk 10
      have f71 : a.tmps[71]?.getD undef = pt p 0 := sf hk 2
      have h3 : σ[3]? = some (.box b9 96 #[.pointer none, .pointer none]) := hs 3 (by decide)
      obtain ⟨hx, hf, hz⟩ := (hS.box (sg h3)).facts
      exact rstep_store (w2 := w'.setCell ⟨b9, 0, none⟩ (.pointer (some ⟨p, 0, none⟩))) (wanted_none rfl) rfl (by simp [execOp, Act.eval, f79, f71, hx, hf, hz, go_sem]) (sp_set 3 (.box b9 96 #[.pointer (some ⟨p, 0, none⟩), .pointer none]) (by kernel_rfl) (by simp) (by decide) hl hs (by rfl) (hS.setBox 3 (i := 0) (u := .pointer (some ⟨p, 0, none⟩)) (sg h3)) trivial) trivial
     apply sc
     ·intro a w' vs σ hS hl hs hk
      have f10 : a.tmps[10]?.getD undef = .pointer (some ⟨b10, 0, none⟩) := sof hk
      have f70 : a.tmps[70]?.getD undef = .int .i64 0 := sf hk 1
      exact rp (pt b10 0) (by simp [execOp, Act.eval, f10, f70, go_sem]) hl hs hS
     apply sc
     ·intro a w' vs σ hS hl hs hk
      have f80 : a.tmps[80]?.getD undef = .pointer (some ⟨b10, 0, none⟩) := sf hk 12
      have e78 : a.tmps.getD 78 undef = vs 9 := sk_val hk 9 (by kernel_rfl) rfl rfl
      have p78 : (fun u : Value => ∃ p9, u = .pointer (some ⟨p9, 0, none⟩)) (vs 9) := (hk.1 9 (by kernel_rfl)).1
      have f78 := gd e78
      have h3 : σ[4]? = some (.box b10 97 #[.pointer none, .pointer none]) := hs 4 (by decide)
      obtain ⟨hx, hf, hz⟩ := (hS.box (sg h3)).facts
      obtain ⟨x9, q9⟩ := p78
      exact rstep_store (w2 := w'.setCell ⟨b10, 0, none⟩ (.pointer (some ⟨x9, 0, none⟩))) (wanted_none rfl) rfl (by simp [execOp, Act.eval, f80, e78, f78, q9, hx, hf, hz, go_sem]) (sp_set 4 (.box b10 97 #[vs 9, .pointer none]) (by kernel_rfl) (by simp) (by decide) hl hs (by rfl) (by rw [q9]; exact hS.setBox 4 (i := 0) (u := .pointer (some ⟨x9, 0, none⟩)) (sg h3)) trivial) trivial
     exact SSteps.nil
    ·intro vs w' hS hv
     have q0 : vs 0 = _ := hv 0 (by decide)
     have q1 : vs 1 = _ := hv 1 (by decide)
     have q2 : vs 2 = _ := hv 2 (by decide)
     have q3 : vs 3 = _ := hv 3 (by decide)
     have q4 : vs 4 = _ := hv 4 (by decide)
     have q5 : vs 5 = _ := hv 5 (by decide)
     have q6 : vs 6 = _ := hv 6 (by decide)
     have q7 : vs 7 = _ := hv 7 (by decide)
     have q8 : vs 8 = _ := hv 8 (by decide)
     have q10 : vs 10 = _ := hv 10 (by decide)
     have q12 : vs 12 = _ := hv 12 (by decide)
     obtain ⟨x, q9⟩ := (show ∃ p9, vs 9 = .pointer (some ⟨p9, 0, none⟩) from hv 9 (by decide))
     rw [q9, show blkOf (.pointer (some ⟨x, 0, none⟩)) = x from rfl] at hS
     have S2 := Lib.hid hS
     simp only [putL, Act.put, Nat.zero_add, Nat.reduceAdd, List.setIfInBounds_toArray, List.set_cons_succ, List.set_cons_zero, q0, q1, q2, q3, q4, q5, q6, q7, q8, q10, q12]
     clear hS hv q0 q1 q2 q3 q4 q5 q6 q7 q8 q10 q12
     simp only [q9]
     have S8 := Lib.hid (show Objs w _ (.grid p 58 ↑s (List.replicate rr (List.replicate s (blank pen0), false)) :: .grid x 33 ↑s (List.replicate rr (List.replicate s (blank pen0), false)) :: .box b10 97 #[.pointer (some ⟨x, 0, none⟩), .pointer none] :: .box b4 95 #[.int .i64 ↑rr, .int .i64 rb] :: .box b5 95 #[.int .i64 ↑s, .int .i64 cb] :: .box b9 96 #[.pointer (some ⟨p, 0, none⟩), .pointer none] :: []) from (Objs.pick (σ := [_, _, _, _, _, _]) (os := []) S2.out [some 5, some 0, some 4, some 1, some 2, some 3] (by decide) rfl))
     clear S2 q9 S7
     go_wp2_with fail
     go_loopw [15] (fun vi wr => ∃ (i : Nat) (LL : List Ln), i ≤ la.length ∧ vi = .int .i64 i ∧ Hid (Kept14s s rr LL) ∧ Objs w wr (.grid p 58 ↑s LL :: .grid x 33 ↑s LL :: .box b10 97 #[.pointer (some ⟨x, 0, none⟩), .pointer none] :: .box b4 95 #[.int .i64 ↑rr, .int .i64 rb] :: .box b5 95 #[.int .i64 ↑s, .int .i64 cb] :: .box b9 96 #[.pointer (some ⟨p, 0, none⟩), .pointer none] :: [])) (fun vi _ => la.length - (intOf vi).toNat)
     case atStart => exact ⟨0, _, Nat.zero_le _, rfl, Lib.hid (kept14s_new s rr), S8.out⟩
     case round =>
     clear S8
     obtain ⟨i, LL, hi, rfl, HKL, hS⟩ := hrel
     have S9 := Lib.hid hS
     clear hS
     by_cases hlt : i < la.length
     case neg =>
      go_wp2_with fail
      go_roundw
      case rel => exact .inr (.inl ⟨by first | rfl | go_num, p, x, LL, Lib.hid ⟨⟨by omega, by omega, by omega, by omega⟩, by simpa using HKL.out⟩, (Objs.pick (σ := [_, _, _, _, _, _]) (os := []) S9.out [some 3, some 4, some 5, some 2, some 0, some 1] (by decide) rfl)⟩)
      case measure => simp [intOf]
     obtain ⟨a1, ha1⟩ : ∃ a1, a1 = la[i] := ⟨_, rfl⟩
     have HA1 := Lib.hid (show Ac14s w a1 by rw [ha1]; exact HOA.out _ (List.getElem_mem _))
     have h40 : a1.cs.length ≤ 100000 := by have := H4A.out la[i] (List.getElem_mem _); rw [ha1]; omega
     obtain ⟨ba, oa, rfl, hba, hre⟩ := HAA.out.at_ (i := i) (r := av14 a1) (by simp [hlt, ha1])
     have hlz : (0 : Int) ≤ (i : Int) := by omega
     have hlz2 : (i : Int) < (la.length : Int) := by omega
     have hLp : 0 < LL.length := by rw [HKL.out.2.1]; omega
     have hLm : LL.length ≤ 1000 := by rw [HKL.out.2.1]; omega
     obtain ⟨LN, hLN⟩ : ∃ LN, LN = act14N a1 s LL := ⟨_, rfl⟩
     have HKN := Lib.hid (show Kept14s s rr LN by rw [hLN]; exact kept14s_act HKL.out a1)
     have HD := Lib.hid (show ∀ r W, Objs w W (.grid p 58 ↑s LL :: .grid x 33 ↑s LL :: r) → Calls Tryd.prog 43 #[.pointer (some ⟨p, 0, none⟩), .pointer (some ⟨x, 0, none⟩), .agg (av14 a1)] W fun e w' => e = .returned (.bool true) ∧ Objs w w' (.grid p 58 ↑s LN :: .grid x 33 ↑s LN :: r) from fun r W h => by rw [hLN]; exact l14does_any a1 HT.out h (by omega) (by omega) HKL.out.1 hLp hLm HA1.out.2.2.2.1 h40 HA1.out.1 HA1.out.2.1 HA1.out.2.2.1)
     clear ha1 hLN
     go_upto_region 20 with (fail)
     refine wp_region_stage (w0 := w) (os := (.box b4 95 #[.int .i64 ↑rr, .int .i64 rb] :: .box b5 95 #[.int .i64 ↑s, .int .i64 cb] :: .box b9 96 #[pt p 0, .pointer none] :: [])) (by kernel_rfl) (by kernel_rfl) (by kernel_rfl) [(0, 8, [], fun vs => .grid p 58 ↑s LN), (1, 8, [], fun vs => .grid x 33 ↑s LN)] [[], [], [], [2], [], [], [], [], [0, 1], []] [.grid p 58 ↑s LL, .grid x 33 ↑s LL, .box b10 97 #[pt x 0, .pointer none]] (fun opn u => match opn with | 0 => u = pt p 0 | 1 => u = .int .i64 0 | 2 => u = pt b10 0 | 3 => u = pt x 0 | 4 => u = .slice (some ⟨ba, oa, none⟩) la.length na | 5 => u = .int .i64 ↑i | 6 => u = pt ba (oa + i * 34) | 7 => u = .agg (av14 a1) | 8 => u = .bool true | 9 => u = .bool false | _ => True) (fun vs => [.grid p 58 ↑s LN, .grid x 33 ↑s LN, .box b10 97 #[pt x 0, .pointer none]]) (by kernel_rfl) (fun vs => by rfl) S9.out ?_ ?_
     ·apply sc
      ·intro a w' vs σ hS hl hs hk
       have f12 : a.tmps[12]?.getD undef = .pointer (some ⟨p, 0, none⟩) := sof hk
       exact rp (pt p 0) (by simp [execOp, Act.eval, f12, go_sem]) hl hs hS
      apply sc
      ·intro a w' vs σ hS hl hs hk
       have f11 : a.tmps[11]?.getD undef = .int .i64 0 := sof hk
       exact rp (.int .i64 0) (by simp [execOp, Act.eval, f11, go_sem]) hl hs hS
      apply sc
      ·intro a w' vs σ hS hl hs hk
       have f10 : a.tmps[10]?.getD undef = .pointer (some ⟨b10, 0, none⟩) := sof hk
       have f92 : a.tmps[92]?.getD undef = .int .i64 0 := sf hk 1
       exact rp (pt b10 0) (by simp [execOp, Act.eval, f10, f92, go_sem]) hl hs hS
      apply sc
      ·intro a w' vs σ hS hl hs hk
       have f93 : a.tmps[93]?.getD undef = .pointer (some ⟨b10, 0, none⟩) := sf hk 2
       have hx := (hS.box (sg (hs 2 (by decide)))).cell
       exact rp (pt x 0) (by simp [execOp, Act.eval, f93, go_sem, hx]) hl hs hS
      apply sc
      ·intro a w' vs σ hS hl hs hk
       have f14 : a.tmps[14]?.getD undef = .slice (some ⟨ba, oa, none⟩) la.length na := sof hk
       exact rp (.slice (some ⟨ba, oa, none⟩) la.length na) (by simp [execOp, Act.eval, f14, go_sem]) hl hs hS
      apply sc
      ·intro a w' vs σ hS hl hs hk
       have f15 : a.tmps[15]?.getD undef = .int .i64 ↑i := sof hk
       exact rp (.int .i64 ↑i) (by simp [execOp, Act.eval, f15, go_sem]) hl hs hS
      apply sc
      ·intro a w' vs σ hS hl hs hk
       have f95 : a.tmps[95]?.getD undef = .slice (some ⟨ba, oa, none⟩) la.length na := sf hk 4
       have f96 : a.tmps[96]?.getD undef = .int .i64 ↑i := sf hk 5
       exact rp (pt ba (oa + i * 34)) (by simp [execOp, Act.eval, f95, f96, go_sem, hlz, hlz2]) hl hs hS
      apply sc
      ·intro a w' vs σ hS hl hs hk
       have f97 : a.tmps[97]?.getD undef = .pointer (some ⟨ba, oa + i * 34, none⟩) := sf hk 6
       have hx := (recAt_below hS.base hba (oa + i * 34) 34).trans hre
       exact rp (.agg (av14 a1)) (by simp [execOp, Act.eval, f97, go_sem, hx]) hl hs hS
      apply sc
      ·intro a w' vs σ hS hl hs hk
       have e91 : a.tmps.getD 91 undef = .pointer (some ⟨p, 0, none⟩) := sv hk 0
       have e94 : a.tmps.getD 94 undef = pt x 0 := sv hk 3
       have e98 : a.tmps.getD 98 undef = .agg (av14 a1) := sv hk 7
       have h0 : σ[0]? = some (.grid p 58 ↑s LL) := hs 0 (by decide)
       have h1 : σ[1]? = some (.grid x 33 ↑s LL) := hs 1 (by decide)
       exact ro_call (f := 43) (wanted_none rfl) rfl (by simp only [List.map_toArray, List.map_cons, List.map_nil, Act.eval, e91, e94, e98] <;> rfl) (fun _ _ => by kernel_rfl) ((front2_14 hS (sg h0) (sg h1) (fun r h => HD.out r _ h)).mono fun e w2 ⟨h1, h2⟩ => ⟨_, h1, sp_set2 0 1 (.grid p 58 ↑s LN) (.grid x 33 ↑s LN) (by decide) (by kernel_rfl) (by simp) (by simp) (by decide) (by decide) hl hs (by rfl) (by rfl) h2 rfl, trivial⟩)
      apply sc
      ·intro a w' vs σ hS hl hs hk
       have f99 : a.tmps[99]?.getD undef = .bool true := sf hk 8
       exact rp (.bool false) (by simp [execOp, Act.eval, f99, go_sem]) hl hs hS
      exact SSteps.nil
     ·intro vs w' hS hv
      have q0 : vs 0 = _ := hv 0 (by decide)
      have q1 : vs 1 = _ := hv 1 (by decide)
      have q2 : vs 2 = _ := hv 2 (by decide)
      have q3 : vs 3 = _ := hv 3 (by decide)
      have q4 : vs 4 = _ := hv 4 (by decide)
      have q5 : vs 5 = _ := hv 5 (by decide)
      have q6 : vs 6 = _ := hv 6 (by decide)
      have q7 : vs 7 = _ := hv 7 (by decide)
      have q8 : vs 8 = _ := hv 8 (by decide)
      have q9 : vs 9 = _ := hv 9 (by decide)
      have S2 := Lib.hid hS
      simp only [putL, Act.put, Nat.zero_add, Nat.reduceAdd, List.setIfInBounds_toArray, List.set_cons_succ, List.set_cons_zero, q0, q1, q2, q3, q4, q5, q6, q7, q8, q9]
      clear hS hv q0 q1 q2 q3 q4 q5 q6 q7 q8 q9
      go_wp2_with fail
      go_roundw
      case rel => exact ⟨i + 1, LN, by omega, by go_num, HKN, S2.out⟩
      case measure => simp [intOf]; omega
  ·have S4 := Lib.hid (show Objs w _ (.box b4 95 #[.int .i64 ra, .int .i64 rb] :: .box b5 95 #[.int .i64 ca, .int .i64 cb] :: .box b9 96 #[.pointer (some ⟨p0, 0, none⟩), .pointer none] :: .box b10 97 #[.pointer (some ⟨x0, 0, none⟩), .pointer none] :: [.grid p0 58 ca L0, .grid x0 33 ca L0]) from hS)
   obtain ⟨hx4, hf4, hz4⟩ := (hS.box (k := 0) rfl).facts
   obtain ⟨hx5, hf5, hz5⟩ := (hS.box (k := 1) rfl).facts
   clear hS
   have hcs : (rb < 1 ∨ (1 ≤ rb ∧ 4 < rb) ∨ ((1 ≤ rb ∧ rb ≤ 4) ∧ cb < 1) ∨ ((1 ≤ rb ∧ rb ≤ 4) ∧ 1 ≤ cb ∧ 6 < cb)) ∨ ((1 ≤ rb ∧ rb ≤ 4) ∧ 1 ≤ cb ∧ cb ≤ 6) := by omega
   rcases hcs with hno | ⟨⟨h1, h2⟩, h3, h4⟩
   ·rcases hno with h | ⟨h, h2⟩ | ⟨⟨h, h2⟩, h3⟩ | ⟨⟨h, h2⟩, h3, h4⟩
    all_goals
     go_wp2_with fail
     refine (l14known_any _ (S4.out.tabs HT.out)).mono ?_
     rintro e w9 ⟨rfl, hb⟩
     have HB := Lib.hid (S4.out.bel hb).base
     clear hb
     go_wp2_with fail
     go_ret
     exact ⟨rfl, HB.out⟩
   obtain ⟨rr, rfl⟩ : ∃ rr : Nat, rb = rr := ⟨rb.toNat, by omega⟩
   obtain ⟨s, rfl⟩ : ∃ s : Nat, cb = s := ⟨cb.toNat, by omega⟩
   have g1 : 1 ≤ rr := by omega
   have g2 : rr ≤ 4 := by omega
   have g3 : 1 ≤ s := by omega
   have g4 : s ≤ 6 := by omega
   go_upto_region 10 with (fail)
   clear hx4 hf4 hz4 hx5 hf5 hz5
   have S5 := S4
   clear S4
   refine wp_region_stage (w0 := w) (os := (.box b9 96 #[pt p0 0, .pointer none] :: .box b10 97 #[pt x0 0, .pointer none] :: [.grid p0 58 ca L0, .grid x0 33 ca L0])) (by kernel_rfl) (by kernel_rfl) (by kernel_rfl) [(0, 6, [6], fun vs => .grid (gridB (vs 6)) 58 ↑s (List.replicate rr (List.replicate s (blank pen0), false))), (0, 7, [7], fun vs => .grid (gridB (vs 7)) 58 ↑s (List.replicate rr (List.replicate s (blank pen0), false))), (0, 8, [8], fun vs => .grid (gridB (vs 8)) 58 ↑s (List.replicate rr (List.replicate s (blank pen0), false))), (0, 10, [10], fun vs => .grid (gridB (vs 10)) 58 ↑s (List.replicate rr (List.replicate s (blank pen0), false)))] [[], [], [1], [], [], [2], [0], [0], [0], [], [0], []] [.none, .box b4 95 #[.int .i64 ra, .int .i64 ↑rr], .box b5 95 #[.int .i64 ca, .int .i64 ↑s]] (fun opn u => match opn with | 0 => u = .int .i64 1 | 1 => u = pt b4 1 | 2 => u = .int .i64 ↑rr | 3 => u = .int .i64 1 | 4 => u = pt b5 1 | 5 => u = .int .i64 ↑s | 6 => ∃ p9, u = .tuple #[pt p9 0, .int .i64 0] | 7 => ∃ p9, u = .tuple #[pt p9 0, .int .i64 0] | 8 => ∃ p9, u = pt p9 0 | 9 => u = .int .i64 0 | 10 => ∃ p9, u = pt p9 0 | 11 => u = .int .i64 0 | _ => True) (fun vs => [.grid (gridB (vs 10)) 58 ↑s (List.replicate rr (List.replicate s (blank pen0), false)), .box b4 95 #[.int .i64 ra, .int .i64 ↑rr], .box b5 95 #[.int .i64 ca, .int .i64 ↑s]]) (by kernel_rfl) (fun vs => by rfl) S5.out.pad ?_ ?_
   ·apply sc
    ·intro a w' vs σ hS hl hs hk
     have f11 : a.tmps[11]?.getD undef = .int .i64 1 := sof hk
     exact rp (.int .i64 1) (by simp [execOp, Act.eval, f11, go_sem]) hl hs hS
    apply sc
    ·intro a w' vs σ hS hl hs hk
     have f4 : a.tmps[4]?.getD undef = .pointer (some ⟨b4, 0, none⟩) := sof hk
     have f54 : a.tmps[54]?.getD undef = .int .i64 1 := sf hk 0
     exact rp (pt b4 1) (by simp [execOp, Act.eval, f4, f54, go_sem]) hl hs hS
    apply sc
    ·intro a w' vs σ hS hl hs hk
     have f55 : a.tmps[55]?.getD undef = .pointer (some ⟨b4, 1, none⟩) := sf hk 1
     have hx := (hS.box (sg (hs 1 (by decide)))).cell
     exact rp (.int .i64 ↑rr) (by simp [execOp, Act.eval, f55, go_sem, hx]) hl hs hS
    apply sc
    ·intro a w' vs σ hS hl hs hk
     have f11 : a.tmps[11]?.getD undef = .int .i64 1 := sof hk
     exact rp (.int .i64 1) (by simp [execOp, Act.eval, f11, go_sem]) hl hs hS
    apply sc
    ·intro a w' vs σ hS hl hs hk
     have f5 : a.tmps[5]?.getD undef = .pointer (some ⟨b5, 0, none⟩) := sof hk
     have f57 : a.tmps[57]?.getD undef = .int .i64 1 := sf hk 3
     exact rp (pt b5 1) (by simp [execOp, Act.eval, f5, f57, go_sem]) hl hs hS
    apply sc
    ·intro a w' vs σ hS hl hs hk
     have f58 : a.tmps[58]?.getD undef = .pointer (some ⟨b5, 1, none⟩) := sf hk 4
     have hx := (hS.box (sg (hs 2 (by decide)))).cell
     exact rp (.int .i64 ↑s) (by simp [execOp, Act.eval, f58, go_sem, hx]) hl hs hS
    apply sc
    ·intro a w' vs σ hS hl hs hk
     have e56 : a.tmps.getD 56 undef = .int .i64 ↑rr := sv hk 2
     have e59 : a.tmps.getD 59 undef = .int .i64 ↑s := sv hk 5
     have h0 : σ[0]? = some .none := hs 0 (by decide)
     exact ro_call (f := 14) (wanted_none rfl) rfl (by simp only [List.map_toArray, List.map_cons, List.map_nil, Act.eval, e56, e59] <;> rfl) (fun _ _ => by kernel_rfl) ((gridNew_yes rr s g1 (by omega) g3 (by omega) w w' _ hS).mono fun e w2 ⟨p9, h1, h2⟩ => ⟨_, h1, sp_set 0 (.grid p9 58 ↑s (List.replicate rr (List.replicate s (blank pen0), false))) (by kernel_rfl) (by simp) (by decide) hl hs (by rfl) (h2.place (sg h0)) ⟨p9, rfl⟩, trivial⟩)
    apply sc
    ·intro a w' vs σ hS hl hs hk
     have e60 : a.tmps.getD 60 undef = vs 6 := sk_val hk 6 (by kernel_rfl) rfl rfl
     have p60 : (fun u : Value => ∃ p9, u = .tuple #[.pointer (some ⟨p9, 0, none⟩), .int .i64 0]) (vs 6) := (hk.1 6 (by kernel_rfl)).1
     obtain ⟨p9, q9⟩ := p60
     have e9 := e60.trans q9
     have f9 := gd e9
     have h0 : σ[0]? = some (.grid (gridB (vs 6)) 58 ↑s (List.replicate rr (List.replicate s (blank pen0), false))) := hs 0 (by decide)
     rw [q9, show gridB (.tuple #[.pointer (some ⟨p9, 0, none⟩), .int .i64 0]) = p9 from rfl] at h0
     have hSS := hS
     rw [← set_self (sg (os := (.box b9 96 #[.pointer (some ⟨p0, 0, none⟩), .pointer none] :: .box b10 97 #[.pointer (some ⟨x0, 0, none⟩), .pointer none] :: [.grid p0 58 ca L0, .grid x0 33 ca L0])) h0)] at hSS
     exact rs_run (v' := .tuple #[.pointer (some ⟨p9, 0, none⟩), .int .i64 0]) (w' := w') (wanted_none rfl) (by simp [execOp, Act.eval, e9, f9, go_sem]) (sp_set 0 (.grid p9 58 ↑s (List.replicate rr (List.replicate s (blank pen0), false))) (by kernel_rfl) (by simp) (by decide) hl hs (by rfl) hSS ⟨p9, rfl⟩)
    apply sc
    ·intro a w' vs σ hS hl hs hk
     have e53 : a.tmps.getD 53 undef = vs 7 := sk_val hk 7 (by kernel_rfl) rfl rfl
     have p53 : (fun u : Value => ∃ p9, u = .tuple #[.pointer (some ⟨p9, 0, none⟩), .int .i64 0]) (vs 7) := (hk.1 7 (by kernel_rfl)).1
     obtain ⟨p9, q9⟩ := p53
     have e9 := e53.trans q9
     have f9 := gd e9
     have h0 : σ[0]? = some (.grid (gridB (vs 7)) 58 ↑s (List.replicate rr (List.replicate s (blank pen0), false))) := hs 0 (by decide)
     rw [q9, show gridB (.tuple #[.pointer (some ⟨p9, 0, none⟩), .int .i64 0]) = p9 from rfl] at h0
     have hSS := hS
     rw [← set_self (sg (os := (.box b9 96 #[.pointer (some ⟨p0, 0, none⟩), .pointer none] :: .box b10 97 #[.pointer (some ⟨x0, 0, none⟩), .pointer none] :: [.grid p0 58 ca L0, .grid x0 33 ca L0])) h0)] at hSS
     exact rs_run (v' := .pointer (some ⟨p9, 0, none⟩)) (w' := w') (wanted_none rfl) (by simp [execOp, Act.eval, e9, f9, go_sem]) (sp_set 0 (.grid p9 58 ↑s (List.replicate rr (List.replicate s (blank pen0), false))) (by kernel_rfl) (by simp) (by decide) hl hs (by rfl) hSS ⟨p9, rfl⟩)
    apply sc
    ·intro a w' vs σ hS hl hs hk
     have e53 : a.tmps.getD 53 undef = vs 7 := sk_val hk 7 (by kernel_rfl) rfl rfl
     have p53 : (fun u : Value => ∃ p9, u = .tuple #[.pointer (some ⟨p9, 0, none⟩), .int .i64 0]) (vs 7) := (hk.1 7 (by kernel_rfl)).1
     obtain ⟨p9, q9⟩ := p53
     have e9 := e53.trans q9
     have f9 := gd e9
     exact ro_pure (v := .int .i64 0) (wanted_none rfl) (by simp [execOp, Act.eval, e9, f9, go_sem]) (sp_same (by kernel_rfl) hl hs hS rfl) trivial
    apply sc
    ·intro a w' vs σ hS hl hs hk
     have e61 : a.tmps.getD 61 undef = vs 8 := sk_val hk 8 (by kernel_rfl) rfl rfl
     have p61 : (fun u : Value => ∃ p9, u = .pointer (some ⟨p9, 0, none⟩)) (vs 8) := (hk.1 8 (by kernel_rfl)).1
     obtain ⟨p9, q9⟩ := p61
     have e9 := e61.trans q9
     have f9 := gd e9
     have h0 : σ[0]? = some (.grid (gridB (vs 8)) 58 ↑s (List.replicate rr (List.replicate s (blank pen0), false))) := hs 0 (by decide)
     rw [q9, show gridB (.pointer (some ⟨p9, 0, none⟩)) = p9 from rfl] at h0
     have hSS := hS
     rw [← set_self (sg (os := (.box b9 96 #[.pointer (some ⟨p0, 0, none⟩), .pointer none] :: .box b10 97 #[.pointer (some ⟨x0, 0, none⟩), .pointer none] :: [.grid p0 58 ca L0, .grid x0 33 ca L0])) h0)] at hSS
     exact rs_run (v' := .pointer (some ⟨p9, 0, none⟩)) (w' := w') (wanted_none rfl) (by simp [execOp, Act.eval, e9, f9, go_sem]) (sp_set 0 (.grid p9 58 ↑s (List.replicate rr (List.replicate s (blank pen0), false))) (by kernel_rfl) (by simp) (by decide) hl hs (by rfl) hSS ⟨p9, rfl⟩)
    apply sc
    ·intro a w' vs σ hS hl hs hk
     have f62 : a.tmps[62]?.getD undef = .int .i64 0 := sf hk 9
     exact rp (.int .i64 0) (by simp [execOp, Act.eval, f62, go_sem]) hl hs hS
    exact SSteps.nil
   ·intro vs w' hS hv
    have q0 : vs 0 = _ := hv 0 (by decide)
    have q1 : vs 1 = _ := hv 1 (by decide)
    have q2 : vs 2 = _ := hv 2 (by decide)
    have q3 : vs 3 = _ := hv 3 (by decide)
    have q4 : vs 4 = _ := hv 4 (by decide)
    have q5 : vs 5 = _ := hv 5 (by decide)
    have q9 : vs 9 = _ := hv 9 (by decide)
    have q11 : vs 11 = _ := hv 11 (by decide)
    obtain ⟨p, q10⟩ := (show ∃ p9, vs 10 = .pointer (some ⟨p9, 0, none⟩) from hv 10 (by decide))
    obtain ⟨p8, q8⟩ := (show ∃ p9, vs 8 = .pointer (some ⟨p9, 0, none⟩) from hv 8 (by decide))
    obtain ⟨p7, q7⟩ := (show ∃ p9, vs 7 = .tuple #[.pointer (some ⟨p9, 0, none⟩), .int .i64 0] from hv 7 (by decide))
    obtain ⟨p6, q6⟩ := (show ∃ p9, vs 6 = .tuple #[.pointer (some ⟨p9, 0, none⟩), .int .i64 0] from hv 6 (by decide))
    rw [q10, show gridB (.pointer (some ⟨p, 0, none⟩)) = p from rfl] at hS
    have S2 := Lib.hid hS
    simp only [putL, Act.put, Nat.zero_add, Nat.reduceAdd, List.setIfInBounds_toArray, List.set_cons_succ, List.set_cons_zero, q0, q1, q2, q3, q4, q5, q9, q11]
    clear hS hv q0 q1 q2 q3 q4 q5 q9 q11
    simp only [q10, q8, q7, q6]
    have S6 := S2
    clear S2 q10 q8 q7 q6 S5
    go_upto_region 13 with (fail)
    have S7 := Lib.hid (show Objs w _ (.none :: .box b4 95 #[.int .i64 ra, .int .i64 ↑rr] :: .box b5 95 #[.int .i64 ca, .int .i64 ↑s] :: .box b9 96 #[.pointer (some ⟨p0, 0, none⟩), .pointer none] :: .box b10 97 #[.pointer (some ⟨x0, 0, none⟩), .pointer none] :: .grid p 58 ↑s (List.replicate rr (List.replicate s (blank pen0), false)) :: [.grid p0 58 ca L0, .grid x0 33 ca L0]) from (Objs.pick (σ := [_, _, _, _, _]) (os := [.grid p0 58 ca L0, .grid x0 33 ca L0]) S6.out [none, some 1, some 2, some 3, some 4, some 0] (by decide) rfl))
    clear S6
    refine wp_region_stage (w0 := w) (os := (.grid p 58 ↑s (List.replicate rr (List.replicate s (blank pen0), false)) :: [.grid p0 58 ca L0, .grid x0 33 ca L0])) (by kernel_rfl) (by kernel_rfl) (by kernel_rfl) [(0, 9, [9], fun vs => .grid (blkOf (vs 9)) 33 ↑s (List.replicate rr (List.replicate s (blank pen0), false))), (3, 11, [], fun vs => .box b9 96 #[pt p0 0, pt p 0]), (4, 13, [9], fun vs => .box b10 97 #[pt x0 0, vs 9])] [[], [], [], [], [], [1], [], [], [2], [0], [], [3], [], [4]] [.none, .box b4 95 #[.int .i64 ra, .int .i64 ↑rr], .box b5 95 #[.int .i64 ca, .int .i64 ↑s], .box b9 96 #[pt p0 0, .pointer none], .box b10 97 #[pt x0 0, .pointer none]] (fun opn u => match opn with | 0 => u = .int .i64 1 | 1 => u = .int .i64 1 | 2 => u = pt p 0 | 3 => u = .int .i64 1 | 4 => u = pt b4 1 | 5 => u = .int .i64 ↑rr | 6 => u = .int .i64 1 | 7 => u = pt b5 1 | 8 => u = .int .i64 ↑s | 9 => ∃ p9, u = pt p9 0 | 10 => u = pt b9 1 | 11 => True | 12 => u = pt b10 1 | 13 => True | _ => True) (fun vs => [.grid (blkOf (vs 9)) 33 ↑s (List.replicate rr (List.replicate s (blank pen0), false)), .box b4 95 #[.int .i64 ra, .int .i64 ↑rr], .box b5 95 #[.int .i64 ca, .int .i64 ↑s], .box b9 96 #[pt p0 0, pt p 0], .box b10 97 #[pt x0 0, vs 9]]) (by kernel_rfl) (fun vs => by rfl) S7.out ?_ ?_
    ·apply sc
     ·intro a w' vs σ hS hl hs hk
      have f11 : a.tmps[11]?.getD undef = .int .i64 1 := sof hk
      exact rp (.int .i64 1) (by simp [execOp, Act.eval, f11, go_sem]) hl hs hS
     apply sc
     ·intro a w' vs σ hS hl hs hk
      have f11 : a.tmps[11]?.getD undef = .int .i64 1 := sof hk
      exact rp (.int .i64 1) (by simp [execOp, Act.eval, f11, go_sem]) hl hs hS
     apply sc
     ·intro a w' vs σ hS hl hs hk
      have f12 : a.tmps[12]?.getD undef = .pointer (some ⟨p, 0, none⟩) := sof hk
      exact rp (pt p 0) (by simp [execOp, Act.eval, f12, go_sem]) hl hs hS
     apply sc
     ·intro a w' vs σ hS hl hs hk
      have f11 : a.tmps[11]?.getD undef = .int .i64 1 := sof hk
      exact rp (.int .i64 1) (by simp [execOp, Act.eval, f11, go_sem]) hl hs hS
     apply sc
     ·intro a w' vs σ hS hl hs hk
      have f4 : a.tmps[4]?.getD undef = .pointer (some ⟨b4, 0, none⟩) := sof hk
      have f72 : a.tmps[72]?.getD undef = .int .i64 1 := sf hk 3
      exact rp (pt b4 1) (by simp [execOp, Act.eval, f4, f72, go_sem]) hl hs hS
     apply sc
     ·intro a w' vs σ hS hl hs hk
      have f73 : a.tmps[73]?.getD undef = .pointer (some ⟨b4, 1, none⟩) := sf hk 4
      have hx := (hS.box (sg (hs 1 (by decide)))).cell
      exact rp (.int .i64 ↑rr) (by simp [execOp, Act.eval, f73, go_sem, hx]) hl hs hS
     apply sc
     ·intro a w' vs σ hS hl hs hk
      have f11 : a.tmps[11]?.getD undef = .int .i64 1 := sof hk
      exact rp (.int .i64 1) (by simp [execOp, Act.eval, f11, go_sem]) hl hs hS
     apply sc
     ·intro a w' vs σ hS hl hs hk
      have f5 : a.tmps[5]?.getD undef = .pointer (some ⟨b5, 0, none⟩) := sof hk
      have f75 : a.tmps[75]?.getD undef = .int .i64 1 := sf hk 6
      exact rp (pt b5 1) (by simp [execOp, Act.eval, f5, f75, go_sem]) hl hs hS
     apply sc
     ·intro a w' vs σ hS hl hs hk
      have f76 : a.tmps[76]?.getD undef = .pointer (some ⟨b5, 1, none⟩) := sf hk 7
      have hx := (hS.box (sg (hs 2 (by decide)))).cell
      exact rp (.int .i64 ↑s) (by simp [execOp, Act.eval, f76, go_sem, hx]) hl hs hS
     apply sc
     ·intro a w' vs σ hS hl hs hk
      have e74 : a.tmps.getD 74 undef = .int .i64 ↑rr := sv hk 5
      have e77 : a.tmps.getD 77 undef = .int .i64 ↑s := sv hk 8
      have h0 : σ[0]? = some .none := hs 0 (by decide)
      exact ro_call (f := 21) (wanted_none rfl) rfl (by simp only [List.map_toArray, List.map_cons, List.map_nil, Act.eval, e74, e77] <;> rfl) (fun _ _ => by kernel_rfl) ((r14New_any rr s (by omega) (by omega) w w' _ hS).mono fun e w2 ⟨p9, h1, h2⟩ => ⟨_, h1, sp_set 0 (.grid p9 33 ↑s (List.replicate rr (List.replicate s (blank pen0), false))) (by kernel_rfl) (by simp) (by decide) hl hs (by rfl) (h2.place (sg h0)) ⟨p9, rfl⟩, trivial⟩)
     apply sc
     ·intro a w' vs σ hS hl hs hk
      have f9 : a.tmps[9]?.getD undef = .pointer (some ⟨b9, 0, none⟩) := sof hk
      have f69 : a.tmps[69]?.getD undef = .int .i64 1 := sf hk 0
      exact rp (pt b9 1) (by simp [execOp, Act.eval, f9, f69, go_sem]) hl hs hS
     apply sc
     ·intro a w' vs σ hS hl hs hk
      have f79 : a.tmps[79]?.getD undef = .pointer (some ⟨b9, 1, none⟩) := sf hk 10
      have f71 : a.tmps[71]?.getD undef = pt p 0 := sf hk 2
      have h3 : σ[3]? = some (.box b9 96 #[.pointer (some ⟨p0, 0, none⟩), .pointer none]) := hs 3 (by decide)
      obtain ⟨hx, hf, hz⟩ := (hS.box (sg h3)).facts
      exact rstep_store (w2 := w'.setCell ⟨b9, 1, none⟩ (.pointer (some ⟨p, 0, none⟩))) (wanted_none rfl) rfl (by simp [execOp, Act.eval, f79, f71, hx, hf, hz, go_sem]) (sp_set 3 (.box b9 96 #[.pointer (some ⟨p0, 0, none⟩), .pointer (some ⟨p, 0, none⟩)]) (by kernel_rfl) (by simp) (by decide) hl hs (by rfl) (hS.setBox 3 (i := 1) (u := .pointer (some ⟨p, 0, none⟩)) (sg h3)) trivial) trivial
     apply sc
     ·intro a w' vs σ hS hl hs hk
      have f10 : a.tmps[10]?.getD undef = .pointer (some ⟨b10, 0, none⟩) := sof hk
      have f70 : a.tmps[70]?.getD undef = .int .i64 1 := sf hk 1
      exact rp (pt b10 1) (by simp [execOp, Act.eval, f10, f70, go_sem]) hl hs hS
     apply sc
     ·intro a w' vs σ hS hl hs hk
      have f80 : a.tmps[80]?.getD undef = .pointer (some ⟨b10, 1, none⟩) := sf hk 12
      have e78 : a.tmps.getD 78 undef = vs 9 := sk_val hk 9 (by kernel_rfl) rfl rfl
      have p78 : (fun u : Value => ∃ p9, u = .pointer (some ⟨p9, 0, none⟩)) (vs 9) := (hk.1 9 (by kernel_rfl)).1
      have f78 := gd e78
      have h3 : σ[4]? = some (.box b10 97 #[.pointer (some ⟨x0, 0, none⟩), .pointer none]) := hs 4 (by decide)
      obtain ⟨hx, hf, hz⟩ := (hS.box (sg h3)).facts
      obtain ⟨x9, q9⟩ := p78
      exact rstep_store (w2 := w'.setCell ⟨b10, 1, none⟩ (.pointer (some ⟨x9, 0, none⟩))) (wanted_none rfl) rfl (by simp [execOp, Act.eval, f80, e78, f78, q9, hx, hf, hz, go_sem]) (sp_set 4 (.box b10 97 #[.pointer (some ⟨x0, 0, none⟩), vs 9]) (by kernel_rfl) (by simp) (by decide) hl hs (by rfl) (by rw [q9]; exact hS.setBox 4 (i := 1) (u := .pointer (some ⟨x9, 0, none⟩)) (sg h3)) trivial) trivial
     exact SSteps.nil
    ·intro vs w' hS hv
     have q0 : vs 0 = _ := hv 0 (by decide)
     have q1 : vs 1 = _ := hv 1 (by decide)
     have q2 : vs 2 = _ := hv 2 (by decide)
     have q3 : vs 3 = _ := hv 3 (by decide)
     have q4 : vs 4 = _ := hv 4 (by decide)
     have q5 : vs 5 = _ := hv 5 (by decide)
     have q6 : vs 6 = _ := hv 6 (by decide)
     have q7 : vs 7 = _ := hv 7 (by decide)
     have q8 : vs 8 = _ := hv 8 (by decide)
     have q10 : vs 10 = _ := hv 10 (by decide)
     have q12 : vs 12 = _ := hv 12 (by decide)
     obtain ⟨x, q9⟩ := (show ∃ p9, vs 9 = .pointer (some ⟨p9, 0, none⟩) from hv 9 (by decide))
     rw [q9, show blkOf (.pointer (some ⟨x, 0, none⟩)) = x from rfl] at hS
     have S2 := Lib.hid hS
     simp only [putL, Act.put, Nat.zero_add, Nat.reduceAdd, List.setIfInBounds_toArray, List.set_cons_succ, List.set_cons_zero, q0, q1, q2, q3, q4, q5, q6, q7, q8, q10, q12]
     clear hS hv q0 q1 q2 q3 q4 q5 q6 q7 q8 q10 q12
     simp only [q9]
     have S8 := Lib.hid (show Objs w _ (.grid p 58 ↑s (List.replicate rr (List.replicate s (blank pen0), false)) :: .grid x 33 ↑s (List.replicate rr (List.replicate s (blank pen0), false)) :: .box b10 97 #[.pointer (some ⟨x0, 0, none⟩), .pointer (some ⟨x, 0, none⟩)] :: .box b4 95 #[.int .i64 ra, .int .i64 ↑rr] :: .box b5 95 #[.int .i64 ca, .int .i64 ↑s] :: .box b9 96 #[.pointer (some ⟨p0, 0, none⟩), .pointer (some ⟨p, 0, none⟩)] :: [.grid p0 58 ca L0, .grid x0 33 ca L0]) from (Objs.pick (σ := [_, _, _, _, _, _]) (os := [.grid p0 58 ca L0, .grid x0 33 ca L0]) S2.out [some 5, some 0, some 4, some 1, some 2, some 3] (by decide) rfl))
     clear S2 q9 S7
     go_wp2_with fail
     go_loopw [15] (fun vi wr => ∃ (i : Nat) (LL : List Ln), i ≤ lb.length ∧ vi = .int .i64 i ∧ Hid (Kept14s s rr LL) ∧ Objs w wr (.grid p 58 ↑s LL :: .grid x 33 ↑s LL :: .box b10 97 #[.pointer (some ⟨x0, 0, none⟩), .pointer (some ⟨x, 0, none⟩)] :: .box b4 95 #[.int .i64 ra, .int .i64 ↑rr] :: .box b5 95 #[.int .i64 ca, .int .i64 ↑s] :: .box b9 96 #[.pointer (some ⟨p0, 0, none⟩), .pointer (some ⟨p, 0, none⟩)] :: [.grid p0 58 ca L0, .grid x0 33 ca L0])) (fun vi _ => lb.length - (intOf vi).toNat)
     case atStart => exact ⟨0, _, Nat.zero_le _, rfl, Lib.hid (kept14s_new s rr), S8.out⟩
     case round =>
     clear S8
     obtain ⟨i, LL, hi, rfl, HKL, hS⟩ := hrel
     have S9 := Lib.hid hS
     clear hS
     by_cases hlt : i < lb.length
     case neg =>
      go_wp2_with fail
      go_roundw
      case rel => exact .inr (.inr ⟨by first | rfl | go_num, p0, x0, L0, p, x, LL, HK0, Lib.hid ⟨⟨by omega, by omega, by omega, by omega⟩, by simpa using HKL.out⟩, (Objs.pick (σ := [_, _, _, _, _, _, _, _]) (os := []) S9.out [some 3, some 4, some 5, some 2, some 0, some 1, some 6, some 7] (by decide) rfl)⟩)
      case measure => simp [intOf]
     obtain ⟨a1, ha1⟩ : ∃ a1, a1 = lb[i] := ⟨_, rfl⟩
     have HA1 := Lib.hid (show Ac14s w a1 by rw [ha1]; exact HOB.out _ (List.getElem_mem _))
     have h40 : a1.cs.length ≤ 100000 := by have := H4B.out lb[i] (List.getElem_mem _); rw [ha1]; omega
     obtain ⟨ba, oa, rfl, hba, hre⟩ := HAB.out.at_ (i := i) (r := av14 a1) (by simp [hlt, ha1])
     have hlz : (0 : Int) ≤ (i : Int) := by omega
     have hlz2 : (i : Int) < (lb.length : Int) := by omega
     have hLp : 0 < LL.length := by rw [HKL.out.2.1]; omega
     have hLm : LL.length ≤ 1000 := by rw [HKL.out.2.1]; omega
     obtain ⟨LN, hLN⟩ : ∃ LN, LN = act14N a1 s LL := ⟨_, rfl⟩
     have HKN := Lib.hid (show Kept14s s rr LN by rw [hLN]; exact kept14s_act HKL.out a1)
     have HD := Lib.hid (show ∀ r W, Objs w W (.grid p 58 ↑s LL :: .grid x 33 ↑s LL :: r) → Calls Tryd.prog 43 #[.pointer (some ⟨p, 0, none⟩), .pointer (some ⟨x, 0, none⟩), .agg (av14 a1)] W fun e w' => e = .returned (.bool true) ∧ Objs w w' (.grid p 58 ↑s LN :: .grid x 33 ↑s LN :: r) from fun r W h => by rw [hLN]; exact l14does_any a1 HT.out h (by omega) (by omega) HKL.out.1 hLp hLm HA1.out.2.2.2.1 h40 HA1.out.1 HA1.out.2.1 HA1.out.2.2.1)
     clear ha1 hLN
     go_upto_region 20 with (fail)
     refine wp_region_stage (w0 := w) (os := (.box b4 95 #[.int .i64 ra, .int .i64 ↑rr] :: .box b5 95 #[.int .i64 ca, .int .i64 ↑s] :: .box b9 96 #[pt p0 0, pt p 0] :: [.grid p0 58 ca L0, .grid x0 33 ca L0])) (by kernel_rfl) (by kernel_rfl) (by kernel_rfl) [(0, 8, [], fun vs => .grid p 58 ↑s LN), (1, 8, [], fun vs => .grid x 33 ↑s LN)] [[], [], [], [2], [], [], [], [], [0, 1], []] [.grid p 58 ↑s LL, .grid x 33 ↑s LL, .box b10 97 #[pt x0 0, pt x 0]] (fun opn u => match opn with | 0 => u = pt p 0 | 1 => u = .int .i64 1 | 2 => u = pt b10 1 | 3 => u = pt x 0 | 4 => u = .slice (some ⟨ba, oa, none⟩) lb.length nb | 5 => u = .int .i64 ↑i | 6 => u = pt ba (oa + i * 34) | 7 => u = .agg (av14 a1) | 8 => u = .bool true | 9 => u = .bool false | _ => True) (fun vs => [.grid p 58 ↑s LN, .grid x 33 ↑s LN, .box b10 97 #[pt x0 0, pt x 0]]) (by kernel_rfl) (fun vs => by rfl) S9.out ?_ ?_
     ·apply sc
      ·intro a w' vs σ hS hl hs hk
       have f12 : a.tmps[12]?.getD undef = .pointer (some ⟨p, 0, none⟩) := sof hk
       exact rp (pt p 0) (by simp [execOp, Act.eval, f12, go_sem]) hl hs hS
      apply sc
      ·intro a w' vs σ hS hl hs hk
       have f11 : a.tmps[11]?.getD undef = .int .i64 1 := sof hk
       exact rp (.int .i64 1) (by simp [execOp, Act.eval, f11, go_sem]) hl hs hS
      apply sc
      ·intro a w' vs σ hS hl hs hk
       have f10 : a.tmps[10]?.getD undef = .pointer (some ⟨b10, 0, none⟩) := sof hk
       have f92 : a.tmps[92]?.getD undef = .int .i64 1 := sf hk 1
       exact rp (pt b10 1) (by simp [execOp, Act.eval, f10, f92, go_sem]) hl hs hS
      apply sc
      ·intro a w' vs σ hS hl hs hk
       have f93 : a.tmps[93]?.getD undef = .pointer (some ⟨b10, 1, none⟩) := sf hk 2
       have hx := (hS.box (sg (hs 2 (by decide)))).cell
       exact rp (pt x 0) (by simp [execOp, Act.eval, f93, go_sem, hx]) hl hs hS
      apply sc
      ·intro a w' vs σ hS hl hs hk
       have f14 : a.tmps[14]?.getD undef = .slice (some ⟨ba, oa, none⟩) lb.length nb := sof hk
       exact rp (.slice (some ⟨ba, oa, none⟩) lb.length nb) (by simp [execOp, Act.eval, f14, go_sem]) hl hs hS
      apply sc
      ·intro a w' vs σ hS hl hs hk
       have f15 : a.tmps[15]?.getD undef = .int .i64 ↑i := sof hk
       exact rp (.int .i64 ↑i) (by simp [execOp, Act.eval, f15, go_sem]) hl hs hS
      apply sc
      ·intro a w' vs σ hS hl hs hk
       have f95 : a.tmps[95]?.getD undef = .slice (some ⟨ba, oa, none⟩) lb.length nb := sf hk 4
       have f96 : a.tmps[96]?.getD undef = .int .i64 ↑i := sf hk 5
       exact rp (pt ba (oa + i * 34)) (by simp [execOp, Act.eval, f95, f96, go_sem, hlz, hlz2]) hl hs hS
      apply sc
      ·intro a w' vs σ hS hl hs hk
       have f97 : a.tmps[97]?.getD undef = .pointer (some ⟨ba, oa + i * 34, none⟩) := sf hk 6
       have hx := (recAt_below hS.base hba (oa + i * 34) 34).trans hre
       exact rp (.agg (av14 a1)) (by simp [execOp, Act.eval, f97, go_sem, hx]) hl hs hS
      apply sc
      ·intro a w' vs σ hS hl hs hk
       have e91 : a.tmps.getD 91 undef = .pointer (some ⟨p, 0, none⟩) := sv hk 0
       have e94 : a.tmps.getD 94 undef = pt x 0 := sv hk 3
       have e98 : a.tmps.getD 98 undef = .agg (av14 a1) := sv hk 7
       have h0 : σ[0]? = some (.grid p 58 ↑s LL) := hs 0 (by decide)
       have h1 : σ[1]? = some (.grid x 33 ↑s LL) := hs 1 (by decide)
       exact ro_call (f := 43) (wanted_none rfl) rfl (by simp only [List.map_toArray, List.map_cons, List.map_nil, Act.eval, e91, e94, e98] <;> rfl) (fun _ _ => by kernel_rfl) ((front2_14 hS (sg h0) (sg h1) (fun r h => HD.out r _ h)).mono fun e w2 ⟨h1, h2⟩ => ⟨_, h1, sp_set2 0 1 (.grid p 58 ↑s LN) (.grid x 33 ↑s LN) (by decide) (by kernel_rfl) (by simp) (by simp) (by decide) (by decide) hl hs (by rfl) (by rfl) h2 rfl, trivial⟩)
      apply sc
      ·intro a w' vs σ hS hl hs hk
       have f99 : a.tmps[99]?.getD undef = .bool true := sf hk 8
       exact rp (.bool false) (by simp [execOp, Act.eval, f99, go_sem]) hl hs hS
      exact SSteps.nil
     ·intro vs w' hS hv
      have q0 : vs 0 = _ := hv 0 (by decide)
      have q1 : vs 1 = _ := hv 1 (by decide)
      have q2 : vs 2 = _ := hv 2 (by decide)
      have q3 : vs 3 = _ := hv 3 (by decide)
      have q4 : vs 4 = _ := hv 4 (by decide)
      have q5 : vs 5 = _ := hv 5 (by decide)
      have q6 : vs 6 = _ := hv 6 (by decide)
      have q7 : vs 7 = _ := hv 7 (by decide)
      have q8 : vs 8 = _ := hv 8 (by decide)
      have q9 : vs 9 = _ := hv 9 (by decide)
      have S2 := Lib.hid hS
      simp only [putL, Act.put, Nat.zero_add, Nat.reduceAdd, List.setIfInBounds_toArray, List.set_cons_succ, List.set_cons_zero, q0, q1, q2, q3, q4, q5, q6, q7, q8, q9]
      clear hS hv q0 q1 q2 q3 q4 q5 q6 q7 q8 q9
      go_wp2_with fail
      go_roundw
      case rel => exact ⟨i + 1, LN, by omega, by go_num, HKN, S2.out⟩
      case measure => simp [intOf]; omega
  ·have hv0 := HK0.out.1
   have hv1 := HK1.out.1
   obtain ⟨s, rfl⟩ : ∃ s : Nat, ca = s := ⟨ca.toNat, by omega⟩
   obtain ⟨s1, rfl⟩ : ∃ s1 : Nat, cb = s1 := ⟨cb.toNat, by omega⟩
   have HR0 := Lib.hid (show Rect s L0 by simpa using HK0.out.2.1)
   have HR1 := Lib.hid (show Rect s1 L1 by simpa using HK1.out.2.1)
   have HM0 := Lib.hid (HR0.out.mill (by omega))
   have HM1 := Lib.hid (HR1.out.mill (by omega))
   have hL0m : L0.length ≤ 1000000 := by rw [HK0.out.2.2.1]; omega
   have hL1m : L1.length ≤ 1000000 := by rw [HK1.out.2.2.1]; omega
   have hs1 : 1 ≤ s := by omega
   have hs2 : s ≤ 6 := by omega
   have hs3 : 1 ≤ s1 := by omega
   have hs4 : s1 ≤ 6 := by omega
   clear hv0 hv1 HK0 HK1
   go_upto_region 22 with (fail)
   obtain ⟨v0, hO⟩ := hS.openGrid (k := 7) rfl
   obtain ⟨v1, hO2⟩ := hO.openGrid (k := 6) rfl
   obtain ⟨Ax, cx, rfl, -, -⟩ := hO2.linesRd (k := 1) rfl
   obtain ⟨Ay, cy, rfl, -, -⟩ := hO2.linesRd (k := 0) rfl
   have hO3 := (show Objs w _ (.lines (.slice Ax L0.length cx) L0 :: .lines (.slice Ay L1.length cy) L1 :: .box x0 33 #[.int .i64 ↑s, .slice Ax L0.length cx] :: .box x1 33 #[.int .i64 ↑s1, .slice Ay L1.length cy] :: .box b10 97 #[.pointer (some ⟨x0, 0, none⟩), .pointer (some ⟨x1, 0, none⟩)] :: .box b9 96 #[.pointer (some ⟨p0, 0, none⟩), .pointer (some ⟨p1, 0, none⟩)] :: .grid p0 58 ↑s L0 :: .grid p1 58 ↑s1 L1 :: []) from (Objs.pick (σ := [_, _, _, _, _, _, _, _, _, _]) (os := []) hO2 [some 1, some 0, some 9, some 7, some 5, some 4, some 8, some 6] (by decide) rfl))
   clear hS hO hO2
   by_cases hse : s = s1
   ·subst hse
    have SO := Lib.hid hO3
    clear hO3
    refine wp_region_stage (w0 := w) (os := (.box b9 96 #[pt p0 0, pt p1 0] :: .grid p0 58 ↑s L0 :: .grid p1 58 ↑s L1 :: [])) (by kernel_rfl) (by kernel_rfl) (by kernel_rfl) [] [[], [4], [], [], [2], [], [4], [], [], [3], [], [], [], [4], [], [], [2], [], [4], [], [], [3], [0, 1], [], []] [.lines (.slice Ax L0.length cx) L0, .lines (.slice Ay L1.length cy) L1, .box x0 33 #[.int .i64 ↑s, .slice Ax L0.length cx], .box x1 33 #[.int .i64 ↑s, .slice Ay L1.length cy], .box b10 97 #[pt x0 0, pt x1 0]] (fun opn u => match opn with | 0 => u = pt b10 0 | 1 => u = pt x0 0 | 2 => u = pt x0 0 | 3 => u = pt x0 0 | 4 => u = .int .i64 ↑s | 5 => u = pt b10 1 | 6 => u = pt x1 0 | 7 => u = pt x1 0 | 8 => u = pt x1 0 | 9 => u = .int .i64 ↑s | 10 => u = .bool true | 11 => u = .bool true | 12 => u = pt b10 0 | 13 => u = pt x0 0 | 14 => u = pt x0 0 | 15 => u = pt x0 1 | 16 => u = .slice Ax L0.length cx | 17 => u = pt b10 1 | 18 => u = pt x1 0 | 19 => u = pt x1 0 | 20 => u = pt x1 1 | 21 => u = .slice Ay L1.length cy | 22 => u = .bool (decide (L0 = L1)) | 23 => u = .bool (decide (L0 = L1)) | 24 => u = .bool (decide (L0 = L1)) | _ => True) (fun vs => [.lines (.slice Ax L0.length cx) L0, .lines (.slice Ay L1.length cy) L1, .box x0 33 #[.int .i64 ↑s, .slice Ax L0.length cx], .box x1 33 #[.int .i64 ↑s, .slice Ay L1.length cy], .box b10 97 #[pt x0 0, pt x1 0]]) (by kernel_rfl) (fun vs => by rfl) SO.out ?_ ?_
    ·apply sc
     ·intro a w' vs σ hS hl hs hk
      have f10 : a.tmps[10]?.getD undef = .pointer (some ⟨b10, 0, none⟩) := sof hk
      exact rp (pt b10 0) (by simp [execOp, Act.eval, f10, go_sem]) hl hs hS
     apply sc
     ·intro a w' vs σ hS hl hs hk
      have f101 : a.tmps[101]?.getD undef = .pointer (some ⟨b10, 0, none⟩) := sf hk 0
      have hx := (hS.box (sg (hs 4 (by decide)))).cell
      exact rp (pt x0 0) (by simp [execOp, Act.eval, f101, go_sem, hx]) hl hs hS
     apply sc
     ·intro a w' vs σ hS hl hs hk
      have f102 : a.tmps[102]?.getD undef = .pointer (some ⟨x0, 0, none⟩) := sf hk 1
      exact rp (pt x0 0) (by simp [execOp, Act.eval, f102, go_sem]) hl hs hS
     apply sc
     ·intro a w' vs σ hS hl hs hk
      have f103 : a.tmps[103]?.getD undef = .pointer (some ⟨x0, 0, none⟩) := sf hk 2
      exact rp (pt x0 0) (by simp [execOp, Act.eval, f103, go_sem]) hl hs hS
     apply sc
     ·intro a w' vs σ hS hl hs hk
      have f104 : a.tmps[104]?.getD undef = .pointer (some ⟨x0, 0, none⟩) := sf hk 3
      have hx := (hS.box (sg (hs 2 (by decide)))).cell
      exact rp (.int .i64 ↑s) (by simp [execOp, Act.eval, f104, go_sem, hx]) hl hs hS
     apply sc
     ·intro a w' vs σ hS hl hs hk
      have f10 : a.tmps[10]?.getD undef = .pointer (some ⟨b10, 0, none⟩) := sof hk
      exact rp (pt b10 1) (by simp [execOp, Act.eval, f10, go_sem]) hl hs hS
     apply sc
     ·intro a w' vs σ hS hl hs hk
      have f106 : a.tmps[106]?.getD undef = .pointer (some ⟨b10, 1, none⟩) := sf hk 5
      have hx := (hS.box (sg (hs 4 (by decide)))).cell
      exact rp (pt x1 0) (by simp [execOp, Act.eval, f106, go_sem, hx]) hl hs hS
     apply sc
     ·intro a w' vs σ hS hl hs hk
      have f107 : a.tmps[107]?.getD undef = .pointer (some ⟨x1, 0, none⟩) := sf hk 6
      exact rp (pt x1 0) (by simp [execOp, Act.eval, f107, go_sem]) hl hs hS
     apply sc
     ·intro a w' vs σ hS hl hs hk
      have f108 : a.tmps[108]?.getD undef = .pointer (some ⟨x1, 0, none⟩) := sf hk 7
      exact rp (pt x1 0) (by simp [execOp, Act.eval, f108, go_sem]) hl hs hS
     apply sc
     ·intro a w' vs σ hS hl hs hk
      have f109 : a.tmps[109]?.getD undef = .pointer (some ⟨x1, 0, none⟩) := sf hk 8
      have hx := (hS.box (sg (hs 3 (by decide)))).cell
      exact rp (.int .i64 ↑s) (by simp [execOp, Act.eval, f109, go_sem, hx]) hl hs hS
     apply sc
     ·intro a w' vs σ hS hl hs hk
      have f105 : a.tmps[105]?.getD undef = .int .i64 ↑s := sf hk 4
      have f110 : a.tmps[110]?.getD undef = .int .i64 ↑s := sf hk 9
      exact rp (.bool true) (by simp [execOp, Act.eval, f105, f110, go_sem]) hl hs hS
     apply sc
     ·intro a w' vs σ hS hl hs hk
      have f111 : a.tmps[111]?.getD undef = .bool true := sf hk 10
      exact rp (.bool true) (by simp [execOp, Act.eval, f111, go_sem]) hl hs hS
     apply sc
     ·intro a w' vs σ hS hl hs hk
      have f10 : a.tmps[10]?.getD undef = .pointer (some ⟨b10, 0, none⟩) := sof hk
      exact rq (pt b10 0) (wanted_yes rfl rfl rfl (sv hk 11)) (by simp [execOp, Act.eval, f10, go_sem]) hl hs hS
     apply sc
     ·intro a w' vs σ hS hl hs hk
      have f113 : a.tmps[113]?.getD undef = .pointer (some ⟨b10, 0, none⟩) := sf hk 12
      have hx := (hS.box (sg (hs 4 (by decide)))).cell
      exact rq (pt x0 0) (wanted_yes rfl rfl rfl (sv hk 11)) (by simp [execOp, Act.eval, f113, go_sem, hx]) hl hs hS
     apply sc
     ·intro a w' vs σ hS hl hs hk
      have f114 : a.tmps[114]?.getD undef = .pointer (some ⟨x0, 0, none⟩) := sf hk 13
      exact rq (pt x0 0) (wanted_yes rfl rfl rfl (sv hk 11)) (by simp [execOp, Act.eval, f114, go_sem]) hl hs hS
     apply sc
     ·intro a w' vs σ hS hl hs hk
      have f115 : a.tmps[115]?.getD undef = .pointer (some ⟨x0, 0, none⟩) := sf hk 14
      exact rq (pt x0 1) (wanted_yes rfl rfl rfl (sv hk 11)) (by simp [execOp, Act.eval, f115, go_sem]) hl hs hS
     apply sc
     ·intro a w' vs σ hS hl hs hk
      have f116 : a.tmps[116]?.getD undef = .pointer (some ⟨x0, 1, none⟩) := sf hk 15
      have hx := (hS.box (sg (hs 2 (by decide)))).cell
      exact rq (.slice Ax L0.length cx) (wanted_yes rfl rfl rfl (sv hk 11)) (by simp [execOp, Act.eval, f116, go_sem, hx]) hl hs hS
     apply sc
     ·intro a w' vs σ hS hl hs hk
      have f10 : a.tmps[10]?.getD undef = .pointer (some ⟨b10, 0, none⟩) := sof hk
      exact rq (pt b10 1) (wanted_yes rfl rfl rfl (sv hk 11)) (by simp [execOp, Act.eval, f10, go_sem]) hl hs hS
     apply sc
     ·intro a w' vs σ hS hl hs hk
      have f118 : a.tmps[118]?.getD undef = .pointer (some ⟨b10, 1, none⟩) := sf hk 17
      have hx := (hS.box (sg (hs 4 (by decide)))).cell
      exact rq (pt x1 0) (wanted_yes rfl rfl rfl (sv hk 11)) (by simp [execOp, Act.eval, f118, go_sem, hx]) hl hs hS
     apply sc
     ·intro a w' vs σ hS hl hs hk
      have f119 : a.tmps[119]?.getD undef = .pointer (some ⟨x1, 0, none⟩) := sf hk 18
      exact rq (pt x1 0) (wanted_yes rfl rfl rfl (sv hk 11)) (by simp [execOp, Act.eval, f119, go_sem]) hl hs hS
     apply sc
     ·intro a w' vs σ hS hl hs hk
      have f120 : a.tmps[120]?.getD undef = .pointer (some ⟨x1, 0, none⟩) := sf hk 19
      exact rq (pt x1 1) (wanted_yes rfl rfl rfl (sv hk 11)) (by simp [execOp, Act.eval, f120, go_sem]) hl hs hS
     apply sc
     ·intro a w' vs σ hS hl hs hk
      have f121 : a.tmps[121]?.getD undef = .pointer (some ⟨x1, 1, none⟩) := sf hk 20
      have hx := (hS.box (sg (hs 3 (by decide)))).cell
      exact rq (.slice Ay L1.length cy) (wanted_yes rfl rfl rfl (sv hk 11)) (by simp [execOp, Act.eval, f121, go_sem, hx]) hl hs hS
     apply sc
     ·intro a w' vs σ hS hl hs hk
      have e117 : a.tmps.getD 117 undef = .slice Ax L0.length cx := sv hk 16
      have e122 : a.tmps.getD 122 undef = .slice Ay L1.length cy := sv hk 21
      exact ro_call (f := 19) (wanted_yes rfl rfl rfl (sv hk 11)) rfl (by simp only [List.map_toArray, List.map_cons, List.map_nil, Act.eval, e117, e122] <;> rfl) (fun _ _ => by kernel_rfl) ((r14SameLines_any Ax Ay cx cy L0 L1 w' (hS.linesRd' (sg (hs 0 (by decide)))).2.2 (hS.linesRd' (sg (hs 1 (by decide)))).2.2 hL0m hL1m HM0.out HM1.out).mono fun e w2 ⟨h1, h2⟩ => ⟨_, h1, sp_same (by kernel_rfl) hl hs (hS.bel h2) rfl, trivial⟩)
     apply sc
     ·intro a w' vs σ hS hl hs hk
      have f112 : a.tmps[112]?.getD undef = .bool true := sf hk 11
      have f123 : a.tmps[123]?.getD undef = .bool (decide (L0 = L1)) := sf hk 22
      exact rp (.bool (decide (L0 = L1))) (by simp [execOp, Act.eval, f112, f123, go_sem]) hl hs hS
     apply sc
     ·intro a w' vs σ hS hl hs hk
      have f124 : a.tmps[124]?.getD undef = .bool (decide (L0 = L1)) := sf hk 23
      exact rp (.bool (decide (L0 = L1))) (by simp [execOp, Act.eval, f124, go_sem]) hl hs hS
     exact SSteps.nil
    ·intro vs w' hS hv
     have q0 : vs 0 = _ := hv 0 (by decide)
     have q1 : vs 1 = _ := hv 1 (by decide)
     have q2 : vs 2 = _ := hv 2 (by decide)
     have q3 : vs 3 = _ := hv 3 (by decide)
     have q4 : vs 4 = _ := hv 4 (by decide)
     have q5 : vs 5 = _ := hv 5 (by decide)
     have q6 : vs 6 = _ := hv 6 (by decide)
     have q7 : vs 7 = _ := hv 7 (by decide)
     have q8 : vs 8 = _ := hv 8 (by decide)
     have q9 : vs 9 = _ := hv 9 (by decide)
     have q10 : vs 10 = _ := hv 10 (by decide)
     have q11 : vs 11 = _ := hv 11 (by decide)
     have q12 : vs 12 = _ := hv 12 (by decide)
     have q13 : vs 13 = _ := hv 13 (by decide)
     have q14 : vs 14 = _ := hv 14 (by decide)
     have q15 : vs 15 = _ := hv 15 (by decide)
     have q16 : vs 16 = _ := hv 16 (by decide)
     have q17 : vs 17 = _ := hv 17 (by decide)
     have q18 : vs 18 = _ := hv 18 (by decide)
     have q19 : vs 19 = _ := hv 19 (by decide)
     have q20 : vs 20 = _ := hv 20 (by decide)
     have q21 : vs 21 = _ := hv 21 (by decide)
     have q22 : vs 22 = _ := hv 22 (by decide)
     have q23 : vs 23 = _ := hv 23 (by decide)
     have q24 : vs 24 = _ := hv 24 (by decide)
     have S2 := Lib.hid hS
     simp only [putL, Act.put, Nat.zero_add, Nat.reduceAdd, List.setIfInBounds_toArray, List.set_cons_succ, List.set_cons_zero, q0, q1, q2, q3, q4, q5, q6, q7, q8, q9, q10, q11, q12, q13, q14, q15, q16, q17, q18, q19, q20, q21, q22, q23, q24]
     clear hS hv q0 q1 q2 q3 q4 q5 q6 q7 q8 q9 q10 q11 q12 q13 q14 q15 q16 q17 q18 q19 q20 q21 q22 q23 q24
     have S31 := Lib.hid (show Objs w _ (.none :: .grid p0 58 ↑s L0 :: .grid p1 58 ↑s L1 :: .box b9 96 #[.pointer (some ⟨p0, 0, none⟩), .pointer (some ⟨p1, 0, none⟩)] :: []) from (Objs.pick (σ := [_, _, _, _, _, _, _, _]) (os := []) S2.out [none, some 6, some 7, some 5] (by decide) rfl))
     clear S2 SO
     go_upto_region 23 with (fail)
     refine wp_region_stage (w0 := w) (os := []) (by kernel_rfl) (by kernel_rfl) (by kernel_rfl) [(0, 21, [21], fun vs => .grid (blkOf (vs 21)) 58 ↑s L0)] [[], [3], [], [3], [1, 2], [], [], [], [], [3], [], [3], [1, 2], [], [], [], [], [], [3], [], [3], [0, 1], [0, 1], [], [], [], [], []] [.none, .grid p0 58 ↑s L0, .grid p1 58 ↑s L1, .box b9 96 #[pt p0 0, pt p1 0]] (fun opn u => match opn with | 0 => u = pt b9 0 | 1 => u = pt p0 0 | 2 => u = pt b9 1 | 3 => u = pt p1 0 | 4 => u = .bool (decide (L0 = L1)) | 5 => u = .bool (decide (L0 = L1)) | 6 => u = .bool true | 7 => u = .bool true | 8 => u = pt b9 1 | 9 => u = pt p1 0 | 10 => u = pt b9 0 | 11 => u = pt p0 0 | 12 => u = .bool (decide (L0 = L1)) | 13 => u = .bool (decide (L0 = L1)) | 14 => u = .bool true | 15 => u = .bool true | 16 => u = .bool true | 17 => u = pt b9 0 | 18 => u = pt p0 0 | 19 => u = pt b9 0 | 20 => u = pt p0 0 | 21 => ∃ p9, u = pt p9 0 | 22 => u = .bool true | 23 => u = .bool true | 24 => u = .bool true | 25 => u = .bool true | 26 => u = .bool true | 27 => u = .bool true | _ => True) (fun vs => [.grid (blkOf (vs 21)) 58 ↑s L0, .grid p0 58 ↑s L0, .grid p1 58 ↑s L1, .box b9 96 #[pt p0 0, pt p1 0]]) (by kernel_rfl) (fun vs => by rfl) S31.out ?_ ?_
     ·apply sc
      ·intro a w' vs σ hS hl hs hk
       have f9 : a.tmps[9]?.getD undef = .pointer (some ⟨b9, 0, none⟩) := sof hk
       exact rp (pt b9 0) (by simp [execOp, Act.eval, f9, go_sem]) hl hs hS
      apply sc
      ·intro a w' vs σ hS hl hs hk
       have f125 : a.tmps[125]?.getD undef = .pointer (some ⟨b9, 0, none⟩) := sf hk 0
       have hx := (hS.box (sg (hs 3 (by decide)))).cell
       exact rp (pt p0 0) (by simp [execOp, Act.eval, f125, go_sem, hx]) hl hs hS
      apply sc
      ·intro a w' vs σ hS hl hs hk
       have f9 : a.tmps[9]?.getD undef = .pointer (some ⟨b9, 0, none⟩) := sof hk
       exact rp (pt b9 1) (by simp [execOp, Act.eval, f9, go_sem]) hl hs hS
      apply sc
      ·intro a w' vs σ hS hl hs hk
       have f127 : a.tmps[127]?.getD undef = .pointer (some ⟨b9, 1, none⟩) := sf hk 2
       have hx := (hS.box (sg (hs 3 (by decide)))).cell
       exact rp (pt p1 0) (by simp [execOp, Act.eval, f127, go_sem, hx]) hl hs hS
      apply sc
      ·intro a w' vs σ hS hl hs hk
       have e126 : a.tmps.getD 126 undef = .pointer (some ⟨p0, 0, none⟩) := sv hk 1
       have e128 : a.tmps.getD 128 undef = pt p1 0 := sv hk 3
       have hcon := Same_any hS (k1 := 1) (k2 := 2) (sg (hs 1 (by decide))) (sg (hs 2 (by decide))) (by omega) (by omega) hL0m hL1m HM0.out HM1.out
       rw [show (decide (s = s) && decide (L0 = L1)) = (decide (L0 = L1)) by simp] at hcon
       exact ro_call (f := 47) (wanted_none rfl) rfl (by simp only [List.map_toArray, List.map_cons, List.map_nil, Act.eval, e126, e128] <;> rfl) (fun _ _ => by kernel_rfl) (hcon.mono fun e w2 ⟨h1, h2⟩ => ⟨_, h1, sp_same (by kernel_rfl) hl hs h2 rfl, trivial⟩)
      apply sc
      ·intro a w' vs σ hS hl hs hk
       have f16 : a.tmps[16]?.getD undef = .bool (decide (L0 = L1)) := sof hk
       exact rp (.bool (decide (L0 = L1))) (by simp [execOp, Act.eval, f16, go_sem]) hl hs hS
      apply sc
      ·intro a w' vs σ hS hl hs hk
       have f129 : a.tmps[129]?.getD undef = .bool (decide (L0 = L1)) := sf hk 4
       have f130 : a.tmps[130]?.getD undef = .bool (decide (L0 = L1)) := sf hk 5
       exact rp (.bool true) (by simp [execOp, Act.eval, f129, f130, go_sem]) hl hs hS
      apply sc
      ·intro a w' vs σ hS hl hs hk
       have f131 : a.tmps[131]?.getD undef = .bool true := sf hk 6
       exact rp (.bool true) (by simp [execOp, Act.eval, f131, go_sem]) hl hs hS
      apply sc
      ·intro a w' vs σ hS hl hs hk
       have f9 : a.tmps[9]?.getD undef = .pointer (some ⟨b9, 0, none⟩) := sof hk
       exact rq (pt b9 1) (wanted_yes rfl rfl rfl (sv hk 7)) (by simp [execOp, Act.eval, f9, go_sem]) hl hs hS
      apply sc
      ·intro a w' vs σ hS hl hs hk
       have f133 : a.tmps[133]?.getD undef = .pointer (some ⟨b9, 1, none⟩) := sf hk 8
       have hx := (hS.box (sg (hs 3 (by decide)))).cell
       exact rq (pt p1 0) (wanted_yes rfl rfl rfl (sv hk 7)) (by simp [execOp, Act.eval, f133, go_sem, hx]) hl hs hS
      apply sc
      ·intro a w' vs σ hS hl hs hk
       have f9 : a.tmps[9]?.getD undef = .pointer (some ⟨b9, 0, none⟩) := sof hk
       exact rq (pt b9 0) (wanted_yes rfl rfl rfl (sv hk 7)) (by simp [execOp, Act.eval, f9, go_sem]) hl hs hS
      apply sc
      ·intro a w' vs σ hS hl hs hk
       have f135 : a.tmps[135]?.getD undef = .pointer (some ⟨b9, 0, none⟩) := sf hk 10
       have hx := (hS.box (sg (hs 3 (by decide)))).cell
       exact rq (pt p0 0) (wanted_yes rfl rfl rfl (sv hk 7)) (by simp [execOp, Act.eval, f135, go_sem, hx]) hl hs hS
      apply sc
      ·intro a w' vs σ hS hl hs hk
       have e134 : a.tmps.getD 134 undef = .pointer (some ⟨p1, 0, none⟩) := sv hk 9
       have e136 : a.tmps.getD 136 undef = pt p0 0 := sv hk 11
       have hcon := Same_any hS (k1 := 2) (k2 := 1) (sg (hs 2 (by decide))) (sg (hs 1 (by decide))) (by omega) (by omega) hL1m hL0m HM1.out HM0.out
       rw [show (decide (s = s) && decide (L1 = L0)) = (decide (L0 = L1)) by simp only [decide_true, Bool.true_and]; exact decide_eq_decide.2 ⟨Eq.symm, Eq.symm⟩] at hcon
       exact ro_call (f := 47) (wanted_yes rfl rfl rfl (sv hk 7)) rfl (by simp only [List.map_toArray, List.map_cons, List.map_nil, Act.eval, e134, e136] <;> rfl) (fun _ _ => by kernel_rfl) (hcon.mono fun e w2 ⟨h1, h2⟩ => ⟨_, h1, sp_same (by kernel_rfl) hl hs h2 rfl, trivial⟩)
      apply sc
      ·intro a w' vs σ hS hl hs hk
       have f16 : a.tmps[16]?.getD undef = .bool (decide (L0 = L1)) := sof hk
       exact rq (.bool (decide (L0 = L1))) (wanted_yes rfl rfl rfl (sv hk 7)) (by simp [execOp, Act.eval, f16, go_sem]) hl hs hS
      apply sc
      ·intro a w' vs σ hS hl hs hk
       have f137 : a.tmps[137]?.getD undef = .bool (decide (L0 = L1)) := sf hk 12
       have f138 : a.tmps[138]?.getD undef = .bool (decide (L0 = L1)) := sf hk 13
       exact rq (.bool true) (wanted_yes rfl rfl rfl (sv hk 7)) (by simp [execOp, Act.eval, f137, f138, go_sem]) hl hs hS
      apply sc
      ·intro a w' vs σ hS hl hs hk
       have f132 : a.tmps[132]?.getD undef = .bool true := sf hk 7
       have f139 : a.tmps[139]?.getD undef = .bool true := sf hk 14
       exact rp (.bool true) (by simp [execOp, Act.eval, f132, f139, go_sem]) hl hs hS
      apply sc
      ·intro a w' vs σ hS hl hs hk
       have f140 : a.tmps[140]?.getD undef = .bool true := sf hk 15
       exact rp (.bool true) (by simp [execOp, Act.eval, f140, go_sem]) hl hs hS
      apply sc
      ·intro a w' vs σ hS hl hs hk
       have f9 : a.tmps[9]?.getD undef = .pointer (some ⟨b9, 0, none⟩) := sof hk
       exact rq (pt b9 0) (wanted_yes rfl rfl rfl (sv hk 16)) (by simp [execOp, Act.eval, f9, go_sem]) hl hs hS
      apply sc
      ·intro a w' vs σ hS hl hs hk
       have f142 : a.tmps[142]?.getD undef = .pointer (some ⟨b9, 0, none⟩) := sf hk 17
       have hx := (hS.box (sg (hs 3 (by decide)))).cell
       exact rq (pt p0 0) (wanted_yes rfl rfl rfl (sv hk 16)) (by simp [execOp, Act.eval, f142, go_sem, hx]) hl hs hS
      apply sc
      ·intro a w' vs σ hS hl hs hk
       have f9 : a.tmps[9]?.getD undef = .pointer (some ⟨b9, 0, none⟩) := sof hk
       exact rq (pt b9 0) (wanted_yes rfl rfl rfl (sv hk 16)) (by simp [execOp, Act.eval, f9, go_sem]) hl hs hS
      apply sc
      ·intro a w' vs σ hS hl hs hk
       have f144 : a.tmps[144]?.getD undef = .pointer (some ⟨b9, 0, none⟩) := sf hk 19
       have hx := (hS.box (sg (hs 3 (by decide)))).cell
       exact rq (pt p0 0) (wanted_yes rfl rfl rfl (sv hk 16)) (by simp [execOp, Act.eval, f144, go_sem, hx]) hl hs hS
      apply sc
      ·intro a w' vs σ hS hl hs hk
       have e145 : a.tmps.getD 145 undef = .pointer (some ⟨p0, 0, none⟩) := sv hk 20
       have h0 : σ[0]? = some .none := hs 0 (by decide)
       exact ro_call (f := 44) (wanted_yes rfl rfl rfl (sv hk 16)) rfl (by simp only [List.map_toArray, List.map_cons, List.map_nil, Act.eval, e145] <;> rfl) (fun _ _ => by kernel_rfl) ((CopyG hS (k := 1) (sg (hs 1 (by decide))) (by omega) (by omega) HR0.out hL0m).mono fun e w2 ⟨p9, h1, h2⟩ => ⟨_, h1, sp_set 0 (.grid p9 58 ↑s L0) (by kernel_rfl) (by simp) (by decide) hl hs (by rfl) (h2.place (sg h0)) ⟨p9, rfl⟩, trivial⟩)
      apply sc
      ·intro a w' vs σ hS hl hs hk
       have e143 : a.tmps.getD 143 undef = .pointer (some ⟨p0, 0, none⟩) := sv hk 18
       have e146 : a.tmps.getD 146 undef = vs 21 := sk_val hk 21 (by kernel_rfl) rfl rfl
       have p146 : (fun u : Value => ∃ p9, u = .pointer (some ⟨p9, 0, none⟩)) (vs 21) := (hk.1 21 (by kernel_rfl)).1
       obtain ⟨p9, q9⟩ := p146
       have h0 : σ[0]? = some (.grid (blkOf (vs 21)) 58 ↑s L0) := hs 0 (by decide)
       rw [q9, show blkOf (.pointer (some ⟨p9, 0, none⟩)) = p9 from rfl] at h0
       have hcon := Same_any hS (k1 := 1) (k2 := 0) (sg (hs 1 (by decide))) (sg h0) (by omega) (by omega) hL0m hL0m HM0.out HM0.out
       rw [show (decide (s = s) && decide (L0 = L0)) = true by simp] at hcon
       exact ro_call (f := 47) (wanted_yes rfl rfl rfl (sv hk 16)) rfl (by simp only [List.map_toArray, List.map_cons, List.map_nil, Act.eval, e143, e146, q9] <;> rfl) (fun _ _ => by kernel_rfl) (hcon.mono fun e w2 ⟨h1, h2⟩ => ⟨_, h1, sp_same (by kernel_rfl) hl hs h2 rfl, trivial⟩)
      apply sc
      ·intro a w' vs σ hS hl hs hk
       have f141 : a.tmps[141]?.getD undef = .bool true := sf hk 16
       have f147 : a.tmps[147]?.getD undef = .bool true := sf hk 22
       exact rp (.bool true) (by simp [execOp, Act.eval, f141, f147, go_sem]) hl hs hS
      apply sc
      ·intro a w' vs σ hS hl hs hk
       have f148 : a.tmps[148]?.getD undef = .bool true := sf hk 23
       exact rp (.bool true) (by simp [execOp, Act.eval, f148, go_sem]) hl hs hS
      apply sc
      ·intro a w' vs σ hS hl hs hk
       exact ro_call (f := 16) (wanted_yes rfl rfl rfl (sv hk 24)) rfl (by simp only [List.map_toArray, List.map_cons, List.map_nil, Act.eval] <;> rfl) (fun _ _ => by kernel_rfl) ((l14known_any w' (hS.tabs HT.out)).mono fun e w2 ⟨h1, h2⟩ => ⟨_, h1, sp_same (by kernel_rfl) hl hs (hS.bel h2) rfl, trivial⟩)
      apply sc
      ·intro a w' vs σ hS hl hs hk
       have f149 : a.tmps[149]?.getD undef = .bool true := sf hk 24
       have f150 : a.tmps[150]?.getD undef = .bool true := sf hk 25
       exact rp (.bool true) (by simp [execOp, Act.eval, f149, f150, go_sem]) hl hs hS
      apply sc
      ·intro a w' vs σ hS hl hs hk
       have f151 : a.tmps[151]?.getD undef = .bool true := sf hk 26
       exact rp (.bool true) (by simp [execOp, Act.eval, f151, go_sem]) hl hs hS
      exact SSteps.nil
     ·intro vs w' hS hv
      have q0 : vs 0 = _ := hv 0 (by decide)
      have q1 : vs 1 = _ := hv 1 (by decide)
      have q2 : vs 2 = _ := hv 2 (by decide)
      have q3 : vs 3 = _ := hv 3 (by decide)
      have q4 : vs 4 = _ := hv 4 (by decide)
      have q5 : vs 5 = _ := hv 5 (by decide)
      have q6 : vs 6 = _ := hv 6 (by decide)
      have q7 : vs 7 = _ := hv 7 (by decide)
      have q8 : vs 8 = _ := hv 8 (by decide)
      have q9 : vs 9 = _ := hv 9 (by decide)
      have q10 : vs 10 = _ := hv 10 (by decide)
      have q11 : vs 11 = _ := hv 11 (by decide)
      have q12 : vs 12 = _ := hv 12 (by decide)
      have q13 : vs 13 = _ := hv 13 (by decide)
      have q14 : vs 14 = _ := hv 14 (by decide)
      have q15 : vs 15 = _ := hv 15 (by decide)
      have q16 : vs 16 = _ := hv 16 (by decide)
      have q17 : vs 17 = _ := hv 17 (by decide)
      have q18 : vs 18 = _ := hv 18 (by decide)
      have q19 : vs 19 = _ := hv 19 (by decide)
      have q20 : vs 20 = _ := hv 20 (by decide)
      have q22 : vs 22 = _ := hv 22 (by decide)
      have q23 : vs 23 = _ := hv 23 (by decide)
      have q24 : vs 24 = _ := hv 24 (by decide)
      have q25 : vs 25 = _ := hv 25 (by decide)
      have q26 : vs 26 = _ := hv 26 (by decide)
      have q27 : vs 27 = _ := hv 27 (by decide)
      obtain ⟨p9, q21⟩ := (show ∃ p9, vs 21 = .pointer (some ⟨p9, 0, none⟩) from hv 21 (by decide))
      have S2 := Lib.hid hS
      simp only [putL, Act.put, Nat.zero_add, Nat.reduceAdd, List.setIfInBounds_toArray, List.set_cons_succ, List.set_cons_zero, q0, q1, q2, q3, q4, q5, q6, q7, q8, q9, q10, q11, q12, q13, q14, q15, q16, q17, q18, q19, q20, q22, q23, q24, q25, q26, q27]
      clear hS hv q0 q1 q2 q3 q4 q5 q6 q7 q8 q9 q10 q11 q12 q13 q14 q15 q16 q17 q18 q19 q20 q22 q23 q24 q25 q26 q27
      have S32 := Lib.hid S2.out.base
      clear S2 S31
      go_wp2_with fail
      go_ret
      exact ⟨rfl, S32.out⟩
   ·have HNE := Lib.hid (show ¬ (s : Int) = s1 by omega)
    have HNN := Lib.hid hse
    have HNE2 := Lib.hid (show ¬ s1 = s from fun h => hse h.symm)
    have SO := Lib.hid hO3
    clear hO3 hse
    refine wp_region_stage (w0 := w) (os := (.box b9 96 #[pt p0 0, pt p1 0] :: .grid p0 58 ↑s L0 :: .grid p1 58 ↑s1 L1 :: [])) (by kernel_rfl) (by kernel_rfl) (by kernel_rfl) [] [[], [4], [], [], [2], [], [4], [], [], [3], [], [], [], [], [], [], [], [], [], [], [], [], [], [], []] [.lines (.slice Ax L0.length cx) L0, .lines (.slice Ay L1.length cy) L1, .box x0 33 #[.int .i64 ↑s, .slice Ax L0.length cx], .box x1 33 #[.int .i64 ↑s1, .slice Ay L1.length cy], .box b10 97 #[pt x0 0, pt x1 0]] (fun opn u => match opn with | 0 => u = pt b10 0 | 1 => u = pt x0 0 | 2 => u = pt x0 0 | 3 => u = pt x0 0 | 4 => u = .int .i64 ↑s | 5 => u = pt b10 1 | 6 => u = pt x1 0 | 7 => u = pt x1 0 | 8 => u = pt x1 0 | 9 => u = .int .i64 ↑s1 | 10 => u = .bool false | 11 => u = .bool false | 12 => u = (undef : Value) | 13 => u = (undef : Value) | 14 => u = (undef : Value) | 15 => u = (undef : Value) | 16 => u = (undef : Value) | 17 => u = (undef : Value) | 18 => u = (undef : Value) | 19 => u = (undef : Value) | 20 => u = (undef : Value) | 21 => u = (undef : Value) | 22 => u = (undef : Value) | 23 => u = .bool false | 24 => u = .bool false | _ => True) (fun vs => [.lines (.slice Ax L0.length cx) L0, .lines (.slice Ay L1.length cy) L1, .box x0 33 #[.int .i64 ↑s, .slice Ax L0.length cx], .box x1 33 #[.int .i64 ↑s1, .slice Ay L1.length cy], .box b10 97 #[pt x0 0, pt x1 0]]) (by kernel_rfl) (fun vs => by rfl) SO.out ?_ ?_
    ·apply sc
     ·intro a w' vs σ hS hl hs hk
      have f10 : a.tmps[10]?.getD undef = .pointer (some ⟨b10, 0, none⟩) := sof hk
      exact rp (pt b10 0) (by simp [execOp, Act.eval, f10, go_sem]) hl hs hS
     apply sc
     ·intro a w' vs σ hS hl hs hk
      have f101 : a.tmps[101]?.getD undef = .pointer (some ⟨b10, 0, none⟩) := sf hk 0
      have hx := (hS.box (sg (hs 4 (by decide)))).cell
      exact rp (pt x0 0) (by simp [execOp, Act.eval, f101, go_sem, hx]) hl hs hS
     apply sc
     ·intro a w' vs σ hS hl hs hk
      have f102 : a.tmps[102]?.getD undef = .pointer (some ⟨x0, 0, none⟩) := sf hk 1
      exact rp (pt x0 0) (by simp [execOp, Act.eval, f102, go_sem]) hl hs hS
     apply sc
     ·intro a w' vs σ hS hl hs hk
      have f103 : a.tmps[103]?.getD undef = .pointer (some ⟨x0, 0, none⟩) := sf hk 2
      exact rp (pt x0 0) (by simp [execOp, Act.eval, f103, go_sem]) hl hs hS
     apply sc
     ·intro a w' vs σ hS hl hs hk
      have f104 : a.tmps[104]?.getD undef = .pointer (some ⟨x0, 0, none⟩) := sf hk 3
      have hx := (hS.box (sg (hs 2 (by decide)))).cell
      exact rp (.int .i64 ↑s) (by simp [execOp, Act.eval, f104, go_sem, hx]) hl hs hS
     apply sc
     ·intro a w' vs σ hS hl hs hk
      have f10 : a.tmps[10]?.getD undef = .pointer (some ⟨b10, 0, none⟩) := sof hk
      exact rp (pt b10 1) (by simp [execOp, Act.eval, f10, go_sem]) hl hs hS
     apply sc
     ·intro a w' vs σ hS hl hs hk
      have f106 : a.tmps[106]?.getD undef = .pointer (some ⟨b10, 1, none⟩) := sf hk 5
      have hx := (hS.box (sg (hs 4 (by decide)))).cell
      exact rp (pt x1 0) (by simp [execOp, Act.eval, f106, go_sem, hx]) hl hs hS
     apply sc
     ·intro a w' vs σ hS hl hs hk
      have f107 : a.tmps[107]?.getD undef = .pointer (some ⟨x1, 0, none⟩) := sf hk 6
      exact rp (pt x1 0) (by simp [execOp, Act.eval, f107, go_sem]) hl hs hS
     apply sc
     ·intro a w' vs σ hS hl hs hk
      have f108 : a.tmps[108]?.getD undef = .pointer (some ⟨x1, 0, none⟩) := sf hk 7
      exact rp (pt x1 0) (by simp [execOp, Act.eval, f108, go_sem]) hl hs hS
     apply sc
     ·intro a w' vs σ hS hl hs hk
      have f109 : a.tmps[109]?.getD undef = .pointer (some ⟨x1, 0, none⟩) := sf hk 8
      have hx := (hS.box (sg (hs 3 (by decide)))).cell
      exact rp (.int .i64 ↑s1) (by simp [execOp, Act.eval, f109, go_sem, hx]) hl hs hS
     apply sc
     ·intro a w' vs σ hS hl hs hk
      have f105 : a.tmps[105]?.getD undef = .int .i64 ↑s := sf hk 4
      have f110 : a.tmps[110]?.getD undef = .int .i64 ↑s1 := sf hk 9
      exact rp (.bool false) (by simp [execOp, Act.eval, f105, f110, go_sem, HNE.out]) hl hs hS
     apply sc
     ·intro a w' vs σ hS hl hs hk
      have f111 : a.tmps[111]?.getD undef = .bool false := sf hk 10
      exact rp (.bool false) (by simp [execOp, Act.eval, f111, go_sem]) hl hs hS
     apply sc
     ·intro a w' vs σ hS hl hs hk
      exact rs_skip (wanted_no rfl rfl rfl (sv hk 11) (by decide)) (sp_same (by kernel_rfl) hl hs hS rfl)
     apply sc
     ·intro a w' vs σ hS hl hs hk
      exact rs_skip (wanted_no rfl rfl rfl (sv hk 11) (by decide)) (sp_same (by kernel_rfl) hl hs hS rfl)
     apply sc
     ·intro a w' vs σ hS hl hs hk
      exact rs_skip (wanted_no rfl rfl rfl (sv hk 11) (by decide)) (sp_same (by kernel_rfl) hl hs hS rfl)
     apply sc
     ·intro a w' vs σ hS hl hs hk
      exact rs_skip (wanted_no rfl rfl rfl (sv hk 11) (by decide)) (sp_same (by kernel_rfl) hl hs hS rfl)
     apply sc
     ·intro a w' vs σ hS hl hs hk
      exact rs_skip (wanted_no rfl rfl rfl (sv hk 11) (by decide)) (sp_same (by kernel_rfl) hl hs hS rfl)
     apply sc
     ·intro a w' vs σ hS hl hs hk
      exact rs_skip (wanted_no rfl rfl rfl (sv hk 11) (by decide)) (sp_same (by kernel_rfl) hl hs hS rfl)
     apply sc
     ·intro a w' vs σ hS hl hs hk
      exact rs_skip (wanted_no rfl rfl rfl (sv hk 11) (by decide)) (sp_same (by kernel_rfl) hl hs hS rfl)
     apply sc
     ·intro a w' vs σ hS hl hs hk
      exact rs_skip (wanted_no rfl rfl rfl (sv hk 11) (by decide)) (sp_same (by kernel_rfl) hl hs hS rfl)
     apply sc
     ·intro a w' vs σ hS hl hs hk
      exact rs_skip (wanted_no rfl rfl rfl (sv hk 11) (by decide)) (sp_same (by kernel_rfl) hl hs hS rfl)
     apply sc
     ·intro a w' vs σ hS hl hs hk
      exact rs_skip (wanted_no rfl rfl rfl (sv hk 11) (by decide)) (sp_same (by kernel_rfl) hl hs hS rfl)
     apply sc
     ·intro a w' vs σ hS hl hs hk
      exact rs_skip (wanted_no rfl rfl rfl (sv hk 11) (by decide)) (sp_same (by kernel_rfl) hl hs hS rfl)
     apply sc
     ·intro a w' vs σ hS hl hs hk
      have f112 : a.tmps[112]?.getD undef = .bool false := sf hk 11
      have f123 : a.tmps[123]?.getD undef = (undef : Value) := sf hk 22
      exact rp (.bool false) (by simp [execOp, Act.eval, f112, f123, go_sem]) hl hs hS
     apply sc
     ·intro a w' vs σ hS hl hs hk
      have f124 : a.tmps[124]?.getD undef = .bool false := sf hk 23
      exact rp (.bool false) (by simp [execOp, Act.eval, f124, go_sem]) hl hs hS
     exact SSteps.nil
    ·intro vs w' hS hv
     have q0 : vs 0 = _ := hv 0 (by decide)
     have q1 : vs 1 = _ := hv 1 (by decide)
     have q2 : vs 2 = _ := hv 2 (by decide)
     have q3 : vs 3 = _ := hv 3 (by decide)
     have q4 : vs 4 = _ := hv 4 (by decide)
     have q5 : vs 5 = _ := hv 5 (by decide)
     have q6 : vs 6 = _ := hv 6 (by decide)
     have q7 : vs 7 = _ := hv 7 (by decide)
     have q8 : vs 8 = _ := hv 8 (by decide)
     have q9 : vs 9 = _ := hv 9 (by decide)
     have q10 : vs 10 = _ := hv 10 (by decide)
     have q11 : vs 11 = _ := hv 11 (by decide)
     have q12 : vs 12 = _ := hv 12 (by decide)
     have q13 : vs 13 = _ := hv 13 (by decide)
     have q14 : vs 14 = _ := hv 14 (by decide)
     have q15 : vs 15 = _ := hv 15 (by decide)
     have q16 : vs 16 = _ := hv 16 (by decide)
     have q17 : vs 17 = _ := hv 17 (by decide)
     have q18 : vs 18 = _ := hv 18 (by decide)
     have q19 : vs 19 = _ := hv 19 (by decide)
     have q20 : vs 20 = _ := hv 20 (by decide)
     have q21 : vs 21 = _ := hv 21 (by decide)
     have q22 : vs 22 = _ := hv 22 (by decide)
     have q23 : vs 23 = _ := hv 23 (by decide)
     have q24 : vs 24 = _ := hv 24 (by decide)
     have S2 := Lib.hid hS
     simp only [putL, Act.put, Nat.zero_add, Nat.reduceAdd, List.setIfInBounds_toArray, List.set_cons_succ, List.set_cons_zero, q0, q1, q2, q3, q4, q5, q6, q7, q8, q9, q10, q11, q12, q13, q14, q15, q16, q17, q18, q19, q20, q21, q22, q23, q24]
     clear hS hv q0 q1 q2 q3 q4 q5 q6 q7 q8 q9 q10 q11 q12 q13 q14 q15 q16 q17 q18 q19 q20 q21 q22 q23 q24
     have S31 := Lib.hid (show Objs w _ (.none :: .grid p0 58 ↑s L0 :: .grid p1 58 ↑s1 L1 :: .box b9 96 #[.pointer (some ⟨p0, 0, none⟩), .pointer (some ⟨p1, 0, none⟩)] :: []) from (Objs.pick (σ := [_, _, _, _, _, _, _, _]) (os := []) S2.out [none, some 6, some 7, some 5] (by decide) rfl))
     clear S2 SO
     go_upto_region 23 with (fail)
     refine wp_region_stage (w0 := w) (os := []) (by kernel_rfl) (by kernel_rfl) (by kernel_rfl) [(0, 21, [21], fun vs => .grid (blkOf (vs 21)) 58 ↑s L0)] [[], [3], [], [3], [1, 2], [], [], [], [], [3], [], [3], [1, 2], [], [], [], [], [], [3], [], [3], [0, 1], [0, 1], [], [], [], [], []] [.none, .grid p0 58 ↑s L0, .grid p1 58 ↑s1 L1, .box b9 96 #[pt p0 0, pt p1 0]] (fun opn u => match opn with | 0 => u = pt b9 0 | 1 => u = pt p0 0 | 2 => u = pt b9 1 | 3 => u = pt p1 0 | 4 => u = .bool false | 5 => u = .bool false | 6 => u = .bool true | 7 => u = .bool true | 8 => u = pt b9 1 | 9 => u = pt p1 0 | 10 => u = pt b9 0 | 11 => u = pt p0 0 | 12 => u = .bool false | 13 => u = .bool false | 14 => u = .bool true | 15 => u = .bool true | 16 => u = .bool true | 17 => u = pt b9 0 | 18 => u = pt p0 0 | 19 => u = pt b9 0 | 20 => u = pt p0 0 | 21 => ∃ p9, u = pt p9 0 | 22 => u = .bool true | 23 => u = .bool true | 24 => u = .bool true | 25 => u = .bool true | 26 => u = .bool true | 27 => u = .bool true | _ => True) (fun vs => [.grid (blkOf (vs 21)) 58 ↑s L0, .grid p0 58 ↑s L0, .grid p1 58 ↑s1 L1, .box b9 96 #[pt p0 0, pt p1 0]]) (by kernel_rfl) (fun vs => by rfl) S31.out ?_ ?_
     ·apply sc
      ·intro a w' vs σ hS hl hs hk
       have f9 : a.tmps[9]?.getD undef = .pointer (some ⟨b9, 0, none⟩) := sof hk
       exact rp (pt b9 0) (by simp [execOp, Act.eval, f9, go_sem]) hl hs hS
      apply sc
      ·intro a w' vs σ hS hl hs hk
       have f125 : a.tmps[125]?.getD undef = .pointer (some ⟨b9, 0, none⟩) := sf hk 0
       have hx := (hS.box (sg (hs 3 (by decide)))).cell
       exact rp (pt p0 0) (by simp [execOp, Act.eval, f125, go_sem, hx]) hl hs hS
      apply sc
      ·intro a w' vs σ hS hl hs hk
       have f9 : a.tmps[9]?.getD undef = .pointer (some ⟨b9, 0, none⟩) := sof hk
       exact rp (pt b9 1) (by simp [execOp, Act.eval, f9, go_sem]) hl hs hS
      apply sc
      ·intro a w' vs σ hS hl hs hk
       have f127 : a.tmps[127]?.getD undef = .pointer (some ⟨b9, 1, none⟩) := sf hk 2
       have hx := (hS.box (sg (hs 3 (by decide)))).cell
       exact rp (pt p1 0) (by simp [execOp, Act.eval, f127, go_sem, hx]) hl hs hS
      apply sc
      ·intro a w' vs σ hS hl hs hk
       have e126 : a.tmps.getD 126 undef = .pointer (some ⟨p0, 0, none⟩) := sv hk 1
       have e128 : a.tmps.getD 128 undef = pt p1 0 := sv hk 3
       have hcon := Same_any hS (k1 := 1) (k2 := 2) (sg (hs 1 (by decide))) (sg (hs 2 (by decide))) (by omega) (by omega) hL0m hL1m HM0.out HM1.out
       rw [show (decide (s = s1) && decide (L0 = L1)) = false by simp [HNN.out]] at hcon
       exact ro_call (f := 47) (wanted_none rfl) rfl (by simp only [List.map_toArray, List.map_cons, List.map_nil, Act.eval, e126, e128] <;> rfl) (fun _ _ => by kernel_rfl) (hcon.mono fun e w2 ⟨h1, h2⟩ => ⟨_, h1, sp_same (by kernel_rfl) hl hs h2 rfl, trivial⟩)
      apply sc
      ·intro a w' vs σ hS hl hs hk
       have f16 : a.tmps[16]?.getD undef = .bool false := sof hk
       exact rp (.bool false) (by simp [execOp, Act.eval, f16, go_sem]) hl hs hS
      apply sc
      ·intro a w' vs σ hS hl hs hk
       have f129 : a.tmps[129]?.getD undef = .bool false := sf hk 4
       have f130 : a.tmps[130]?.getD undef = .bool false := sf hk 5
       exact rp (.bool true) (by simp [execOp, Act.eval, f129, f130, go_sem]) hl hs hS
      apply sc
      ·intro a w' vs σ hS hl hs hk
       have f131 : a.tmps[131]?.getD undef = .bool true := sf hk 6
       exact rp (.bool true) (by simp [execOp, Act.eval, f131, go_sem]) hl hs hS
      apply sc
      ·intro a w' vs σ hS hl hs hk
       have f9 : a.tmps[9]?.getD undef = .pointer (some ⟨b9, 0, none⟩) := sof hk
       exact rq (pt b9 1) (wanted_yes rfl rfl rfl (sv hk 7)) (by simp [execOp, Act.eval, f9, go_sem]) hl hs hS
      apply sc
      ·intro a w' vs σ hS hl hs hk
       have f133 : a.tmps[133]?.getD undef = .pointer (some ⟨b9, 1, none⟩) := sf hk 8
       have hx := (hS.box (sg (hs 3 (by decide)))).cell
       exact rq (pt p1 0) (wanted_yes rfl rfl rfl (sv hk 7)) (by simp [execOp, Act.eval, f133, go_sem, hx]) hl hs hS
      apply sc
      ·intro a w' vs σ hS hl hs hk
       have f9 : a.tmps[9]?.getD undef = .pointer (some ⟨b9, 0, none⟩) := sof hk
       exact rq (pt b9 0) (wanted_yes rfl rfl rfl (sv hk 7)) (by simp [execOp, Act.eval, f9, go_sem]) hl hs hS
      apply sc
      ·intro a w' vs σ hS hl hs hk
       have f135 : a.tmps[135]?.getD undef = .pointer (some ⟨b9, 0, none⟩) := sf hk 10
       have hx := (hS.box (sg (hs 3 (by decide)))).cell
       exact rq (pt p0 0) (wanted_yes rfl rfl rfl (sv hk 7)) (by simp [execOp, Act.eval, f135, go_sem, hx]) hl hs hS
      apply sc
      ·intro a w' vs σ hS hl hs hk
       have e134 : a.tmps.getD 134 undef = .pointer (some ⟨p1, 0, none⟩) := sv hk 9
       have e136 : a.tmps.getD 136 undef = pt p0 0 := sv hk 11
       have hcon := Same_any hS (k1 := 2) (k2 := 1) (sg (hs 2 (by decide))) (sg (hs 1 (by decide))) (by omega) (by omega) hL1m hL0m HM1.out HM0.out
       rw [show (decide (s1 = s) && decide (L1 = L0)) = false by simp [HNE2.out]] at hcon
       exact ro_call (f := 47) (wanted_yes rfl rfl rfl (sv hk 7)) rfl (by simp only [List.map_toArray, List.map_cons, List.map_nil, Act.eval, e134, e136] <;> rfl) (fun _ _ => by kernel_rfl) (hcon.mono fun e w2 ⟨h1, h2⟩ => ⟨_, h1, sp_same (by kernel_rfl) hl hs h2 rfl, trivial⟩)
      apply sc
      ·intro a w' vs σ hS hl hs hk
       have f16 : a.tmps[16]?.getD undef = .bool false := sof hk
       exact rq (.bool false) (wanted_yes rfl rfl rfl (sv hk 7)) (by simp [execOp, Act.eval, f16, go_sem]) hl hs hS
      apply sc
      ·intro a w' vs σ hS hl hs hk
       have f137 : a.tmps[137]?.getD undef = .bool false := sf hk 12
       have f138 : a.tmps[138]?.getD undef = .bool false := sf hk 13
       exact rq (.bool true) (wanted_yes rfl rfl rfl (sv hk 7)) (by simp [execOp, Act.eval, f137, f138, go_sem]) hl hs hS
      apply sc
      ·intro a w' vs σ hS hl hs hk
       have f132 : a.tmps[132]?.getD undef = .bool true := sf hk 7
       have f139 : a.tmps[139]?.getD undef = .bool true := sf hk 14
       exact rp (.bool true) (by simp [execOp, Act.eval, f132, f139, go_sem]) hl hs hS
      apply sc
      ·intro a w' vs σ hS hl hs hk
       have f140 : a.tmps[140]?.getD undef = .bool true := sf hk 15
       exact rp (.bool true) (by simp [execOp, Act.eval, f140, go_sem]) hl hs hS
      apply sc
      ·intro a w' vs σ hS hl hs hk
       have f9 : a.tmps[9]?.getD undef = .pointer (some ⟨b9, 0, none⟩) := sof hk
       exact rq (pt b9 0) (wanted_yes rfl rfl rfl (sv hk 16)) (by simp [execOp, Act.eval, f9, go_sem]) hl hs hS
      apply sc
      ·intro a w' vs σ hS hl hs hk
       have f142 : a.tmps[142]?.getD undef = .pointer (some ⟨b9, 0, none⟩) := sf hk 17
       have hx := (hS.box (sg (hs 3 (by decide)))).cell
       exact rq (pt p0 0) (wanted_yes rfl rfl rfl (sv hk 16)) (by simp [execOp, Act.eval, f142, go_sem, hx]) hl hs hS
      apply sc
      ·intro a w' vs σ hS hl hs hk
       have f9 : a.tmps[9]?.getD undef = .pointer (some ⟨b9, 0, none⟩) := sof hk
       exact rq (pt b9 0) (wanted_yes rfl rfl rfl (sv hk 16)) (by simp [execOp, Act.eval, f9, go_sem]) hl hs hS
      apply sc
      ·intro a w' vs σ hS hl hs hk
       have f144 : a.tmps[144]?.getD undef = .pointer (some ⟨b9, 0, none⟩) := sf hk 19
       have hx := (hS.box (sg (hs 3 (by decide)))).cell
       exact rq (pt p0 0) (wanted_yes rfl rfl rfl (sv hk 16)) (by simp [execOp, Act.eval, f144, go_sem, hx]) hl hs hS
      apply sc
      ·intro a w' vs σ hS hl hs hk
       have e145 : a.tmps.getD 145 undef = .pointer (some ⟨p0, 0, none⟩) := sv hk 20
       have h0 : σ[0]? = some .none := hs 0 (by decide)
       exact ro_call (f := 44) (wanted_yes rfl rfl rfl (sv hk 16)) rfl (by simp only [List.map_toArray, List.map_cons, List.map_nil, Act.eval, e145] <;> rfl) (fun _ _ => by kernel_rfl) ((CopyG hS (k := 1) (sg (hs 1 (by decide))) (by omega) (by omega) HR0.out hL0m).mono fun e w2 ⟨p9, h1, h2⟩ => ⟨_, h1, sp_set 0 (.grid p9 58 ↑s L0) (by kernel_rfl) (by simp) (by decide) hl hs (by rfl) (h2.place (sg h0)) ⟨p9, rfl⟩, trivial⟩)
      apply sc
      ·intro a w' vs σ hS hl hs hk
       have e143 : a.tmps.getD 143 undef = .pointer (some ⟨p0, 0, none⟩) := sv hk 18
       have e146 : a.tmps.getD 146 undef = vs 21 := sk_val hk 21 (by kernel_rfl) rfl rfl
       have p146 : (fun u : Value => ∃ p9, u = .pointer (some ⟨p9, 0, none⟩)) (vs 21) := (hk.1 21 (by kernel_rfl)).1
       obtain ⟨p9, q9⟩ := p146
       have h0 : σ[0]? = some (.grid (blkOf (vs 21)) 58 ↑s L0) := hs 0 (by decide)
       rw [q9, show blkOf (.pointer (some ⟨p9, 0, none⟩)) = p9 from rfl] at h0
       have hcon := Same_any hS (k1 := 1) (k2 := 0) (sg (hs 1 (by decide))) (sg h0) (by omega) (by omega) hL0m hL0m HM0.out HM0.out
       rw [show (decide (s = s) && decide (L0 = L0)) = true by simp] at hcon
       exact ro_call (f := 47) (wanted_yes rfl rfl rfl (sv hk 16)) rfl (by simp only [List.map_toArray, List.map_cons, List.map_nil, Act.eval, e143, e146, q9] <;> rfl) (fun _ _ => by kernel_rfl) (hcon.mono fun e w2 ⟨h1, h2⟩ => ⟨_, h1, sp_same (by kernel_rfl) hl hs h2 rfl, trivial⟩)
      apply sc
      ·intro a w' vs σ hS hl hs hk
       have f141 : a.tmps[141]?.getD undef = .bool true := sf hk 16
       have f147 : a.tmps[147]?.getD undef = .bool true := sf hk 22
       exact rp (.bool true) (by simp [execOp, Act.eval, f141, f147, go_sem]) hl hs hS
      apply sc
      ·intro a w' vs σ hS hl hs hk
       have f148 : a.tmps[148]?.getD undef = .bool true := sf hk 23
       exact rp (.bool true) (by simp [execOp, Act.eval, f148, go_sem]) hl hs hS
      apply sc
      ·intro a w' vs σ hS hl hs hk
       exact ro_call (f := 16) (wanted_yes rfl rfl rfl (sv hk 24)) rfl (by simp only [List.map_toArray, List.map_cons, List.map_nil, Act.eval] <;> rfl) (fun _ _ => by kernel_rfl) ((l14known_any w' (hS.tabs HT.out)).mono fun e w2 ⟨h1, h2⟩ => ⟨_, h1, sp_same (by kernel_rfl) hl hs (hS.bel h2) rfl, trivial⟩)
      apply sc
      ·intro a w' vs σ hS hl hs hk
       have f149 : a.tmps[149]?.getD undef = .bool true := sf hk 24
       have f150 : a.tmps[150]?.getD undef = .bool true := sf hk 25
       exact rp (.bool true) (by simp [execOp, Act.eval, f149, f150, go_sem]) hl hs hS
      apply sc
      ·intro a w' vs σ hS hl hs hk
       have f151 : a.tmps[151]?.getD undef = .bool true := sf hk 26
       exact rp (.bool true) (by simp [execOp, Act.eval, f151, go_sem]) hl hs hS
      exact SSteps.nil
     ·intro vs w' hS hv
      have q0 : vs 0 = _ := hv 0 (by decide)
      have q1 : vs 1 = _ := hv 1 (by decide)
      have q2 : vs 2 = _ := hv 2 (by decide)
      have q3 : vs 3 = _ := hv 3 (by decide)
      have q4 : vs 4 = _ := hv 4 (by decide)
      have q5 : vs 5 = _ := hv 5 (by decide)
      have q6 : vs 6 = _ := hv 6 (by decide)
      have q7 : vs 7 = _ := hv 7 (by decide)
      have q8 : vs 8 = _ := hv 8 (by decide)
      have q9 : vs 9 = _ := hv 9 (by decide)
      have q10 : vs 10 = _ := hv 10 (by decide)
      have q11 : vs 11 = _ := hv 11 (by decide)
      have q12 : vs 12 = _ := hv 12 (by decide)
      have q13 : vs 13 = _ := hv 13 (by decide)
      have q14 : vs 14 = _ := hv 14 (by decide)
      have q15 : vs 15 = _ := hv 15 (by decide)
      have q16 : vs 16 = _ := hv 16 (by decide)
      have q17 : vs 17 = _ := hv 17 (by decide)
      have q18 : vs 18 = _ := hv 18 (by decide)
      have q19 : vs 19 = _ := hv 19 (by decide)
      have q20 : vs 20 = _ := hv 20 (by decide)
      have q22 : vs 22 = _ := hv 22 (by decide)
      have q23 : vs 23 = _ := hv 23 (by decide)
      have q24 : vs 24 = _ := hv 24 (by decide)
      have q25 : vs 25 = _ := hv 25 (by decide)
      have q26 : vs 26 = _ := hv 26 (by decide)
      have q27 : vs 27 = _ := hv 27 (by decide)
      obtain ⟨p9, q21⟩ := (show ∃ p9, vs 21 = .pointer (some ⟨p9, 0, none⟩) from hv 21 (by decide))
      have S2 := Lib.hid hS
      simp only [putL, Act.put, Nat.zero_add, Nat.reduceAdd, List.setIfInBounds_toArray, List.set_cons_succ, List.set_cons_zero, q0, q1, q2, q3, q4, q5, q6, q7, q8, q9, q10, q11, q12, q13, q14, q15, q16, q17, q18, q19, q20, q22, q23, q24, q25, q26, q27]
      clear hS hv q0 q1 q2 q3 q4 q5 q6 q7 q8 q9 q10 q11 q12 q13 q14 q15 q16 q17 q18 q19 q20 q22 q23 q24 q25 q26 q27
      have S32 := Lib.hid S2.out.base
      clear S2 S31
      go_wp2_with fail
      go_ret
      exact ⟨rfl, S32.out⟩
end Go.Proofs.YtppijfjigcoifaaDoor
