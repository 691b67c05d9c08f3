/-
  Part 5 of the texts on which the proofs of this seat stand: each part says ahead of it what it shows.
-/
import Derived.Test.YtppijfjigcoifaaDoorG4
import Derived.ProofKit
import Derived.OpenShut
import Derived.Deep.Slices
import Derived.Lib.LaidTab
import Derived.ChangeSame
import Derived.Carry
import Derived.Test.YtppijfjigcoifaaDoorCards
import Derived.Test.YtppijfjigcoifaaDoorTie
import Derived.WalkKit
import Derived.Deep.DeepHandedRow
set_option linter.unusedSimpArgs false
set_option linter.unusedVariables false
namespace Go.Proofs.YtppijfjigcoifaaDoor
open Go.RowKit

def act14E (a : Act14) (s R : Nat) : Int :=
 if a.what = 0 then putE a.row a.a a.x s R else if a.what = 1 then clrE a.row a.a a.b a.q s R else if a.what = 2 then shfE a.row a.a a.q s R
 else if a.what = 3 then setE a.row a.cs R else if a.what = 4 then (if here14 a.row R = true then 0 else 3) else if a.what = 5 then rolE a.a a.b a.q R else 0
def act14G (a : Act14) (L : List Ln) : List Ln := if a.what = 5 ∧ rolE a.a a.b a.q L.length = 0 then rollGone a.a.toNat a.b.toNat a.n L else []
def sameC (o o' : Option Ln) : Prop := ∀ l l' : Ln, o = some l → o' = some l' → l.1 = l'.1
structure HoG (s rr : Nat) (a : Act14) (L0 L1 : List Ln) (e : Int) (G : List Ln) : Prop where
 kept : Kept14 s rr L1
 bad : ¬ e = 0 → L1 = L0 ∧ G = []
 far : a.what ≤ 4 → ∀ k : Nat, ¬ (k : Int) = a.row → L1[k]? = L0[k]?
 put : a.what = 0 → e = 0 → ∃ i j : Nat, a.row = i ∧ a.a = j ∧ i < rr ∧ j < s ∧ (a.x.width = 1 ∨ a.x.width = 2) ∧ ∀ l0 l1 : Ln, L0[i]? = some l0 → L1[i]? = some l1 → ∀ k, k < s → (k + 1 < j ∨ j + a.x.width.toNat < k) → cAt l0.1 k = cAt l1.1 k
 goneR : Rect s G ∧ G.length ≤ 1000
 roll : a.what = 5 → e = 0 → 0 < G.length → ∃ top bot : Nat, a.a = top ∧ a.b = bot ∧ top ≤ bot ∧ bot < rr ∧ G.length ≤ bot + 1 - top ∧
  (a.n < 0 → G = (L0.drop (bot + 1 - G.length)).take G.length ∧ ∀ r, top + G.length ≤ r → r ≤ bot → sameC L1[r]? L0[r - G.length]?) ∧
  (0 ≤ a.n → G = (L0.drop top).take G.length ∧ ∀ r, top ≤ r → r + G.length ≤ bot → sameC L1[r]? L0[r + G.length]?)
section
variable {s rr : Nat} {a : Act14} {L0 : List Ln}
theorem rowMod_farI {i : Nat} {row : Int} {f : List Cell → List Cell} {k : Nat} {L : List Ln} (hi : row.toNat = i) (h0 : 0 ≤ row) (h : ¬ (k : Int) = row) : (rowMod i f L)[k]? = L[k]? := by
 rw [rowMod_is, lnMod_get]
 simp [show ¬ k = i by omega]
theorem rowMod_nearI {i : Nat} {f : List Cell → List Cell} {L : List Ln} {l0 l1 : Ln} (h0 : L[i]? = some l0) (h1 : (rowMod i f L)[i]? = some l1) : l1.1 = f l0.1 := by
 rw [rowMod_is, lnMod_get, h0] at h1
 simp at h1
 rw [← h1]
theorem here14_pos {row : Int} {R : Nat} (h : here14 row R = true) : 0 ≤ row := (of_decide_eq_true h).1
theorem act14N_far (h : a.what ≤ 4) (k : Nat) (hk : ¬ (k : Int) = a.row) : (act14N a s L0)[k]? = L0[k]? := by
 unfold act14N
 split
 ·split
  ·rename_i h1
   obtain ⟨i, j, e1, -⟩ := putE_yes h1
   exact rowMod_farI rfl (by omega) hk
  ·rfl
 split
 ·split
  ·rename_i h1
   obtain ⟨i, j, t, e1, -⟩ := clrE_yes h1
   exact rowMod_farI rfl (by omega) hk
  ·rfl
 split
 ·split
  ·rename_i h1
   obtain ⟨i, j, e1, -⟩ := shfE_yes h1
   exact rowMod_farI rfl (by omega) hk
  ·rfl
 split
 ·split
  ·rename_i h1
   have h2 : 0 ≤ a.row := by
    unfold setE at h1
    split at h1
    ·cases h1
    ·rename_i h3
     exact here14_pos (Classical.not_not.1 h3)
   rw [List.getElem?_set_ne (by omega)]
  ·rfl
 split
 ·split
  ·rename_i h1
   have h2 := here14_pos h1
   rw [softMod_is, lnMod_get]
   simp [show ¬ k = a.row.toNat by omega]
  ·rfl
 split
 ·omega
 ·rfl
theorem act14N_bad (h : ¬ act14E a s L0.length = 0) : act14N a s L0 = L0 := by
 unfold act14E at h
 unfold act14N
 split at h
 ·next h1 => rw [if_pos h1, if_neg h]
 next h0 =>
 split at h
 ·next h1 => rw [if_neg h0, if_pos h1, if_neg h]
 next h0b =>
 split at h
 ·next h1 => rw [if_neg h0, if_neg h0b, if_pos h1, if_neg h]
 next h0c =>
 split at h
 ·next h1 => rw [if_neg h0, if_neg h0b, if_neg h0c, if_pos h1, if_neg h]
 next h0d =>
 split at h
 ·next h1 =>
  rw [if_neg h0, if_neg h0b, if_neg h0c, if_neg h0d, if_pos h1]
  split at h
  ·exact absurd rfl h
  ·next h2 => rw [if_neg h2]
 next h0e =>
 split at h
 ·next h1 => rw [if_neg h0, if_neg h0b, if_neg h0c, if_neg h0d, if_neg h0e, if_pos h1, if_neg h]
 ·exact absurd rfl h
theorem ok_width12 {c : Cell} (h : c.ok = true) (h0 : ¬ c.width = 0) : c.width = 1 ∨ c.width = 2 := by
 rcases ok_width h with h1 | h1 | h1 <;> omega
theorem rollGone_lenK {top bot : Nat} {n : Int} {L : List Ln} (hn : ¬ n = 0) (htb : top ≤ bot) (hbl : bot < L.length) : (rollGone top bot n L).length = rollK n (bot + 1 - top) := by
 have hK := rollK_le n (bot + 1 - top)
 by_cases h : 0 < n
 ·rw [gone_up h hK]; simp; omega
 ·rw [gone_down (by omega) htb hK]; simp; omega
theorem hoG_any (hK : Kept14 s rr L0) (hrm : rr ≤ 1000) : HoG s rr a L0 (act14N a s L0) (act14E a s rr) (act14G a L0) := by
 have hlen := hK.2.1
 refine ⟨hK.act a, fun h => ⟨act14N_bad (by rw [hlen]; exact h), ?_⟩, fun h k hk => act14N_far h k hk, fun h0 he => ?_, ?_, fun h5 he hg => ?_⟩
 ·unfold act14G
  rw [if_neg]
  rintro ⟨h5, h6⟩
  apply h
  unfold act14E
  rw [if_neg (by omega), if_neg (by omega), if_neg (by omega), if_neg (by omega), if_neg (by omega), if_pos h5, ← hlen]
  exact h6
 ·unfold act14E at he
  rw [if_pos h0] at he
  obtain ⟨i, j, e1, e2, hi, hj, hok, hw, hfit⟩ := putE_yes he
  have hw12 := ok_width12 hok hw
  refine ⟨i, j, e1, e2, hi, hj, hw12, fun l0 l1 g0 g1 k hk hfar => ?_⟩
  unfold act14N at g1
  rw [if_pos h0, hlen, if_pos he, e1, e2] at g1
  simp only [Int.toNat_natCast] at g1
  rw [rowMod_nearI g0 g1]
  exact (putC_far (by omega) hfar).symm
 ·unfold act14G
  split
  ·rename_i h
   obtain ⟨t, b, e1, e2, htb, hbl, -⟩ := rolE_yes h.2
   refine ⟨hK.1.rollGone _ _ _, ?_⟩
   by_cases hn : a.n = 0
   ·unfold rollGone; rw [if_pos hn]; simp
   ·rw [e1, e2]
    simp only [Int.toNat_natCast]
    rw [rollGone_lenK hn htb hbl]
    have := rollK_le a.n (b + 1 - t)
    omega
  ·exact ⟨fun l hl => by simp at hl, by simp⟩
 ·have h6 : rolE a.a a.b a.q L0.length = 0 := by
   unfold act14E at he
   rw [if_neg (by omega), if_neg (by omega), if_neg (by omega), if_neg (by omega), if_neg (by omega), if_pos h5, ← hlen] at he
   exact he
  obtain ⟨t, b, e1, e2, htb, hbl, hq⟩ := rolE_yes h6
  have eG : act14G a L0 = rollGone t b a.n L0 := by unfold act14G; rw [if_pos ⟨h5, h6⟩, e1, e2]; simp
  have eN : act14N a s L0 = rollL t b a.n a.q s L0 := by
   unfold act14N
   rw [if_neg (by omega), if_neg (by omega), if_neg (by omega), if_neg (by omega), if_neg (by omega), if_pos h5, if_pos h6, e1, e2]
   simp
  have hn : ¬ a.n = 0 := fun h => by rw [eG] at hg; unfold rollGone at hg; rw [if_pos h] at hg; simp at hg
  have hl := rollGone_lenK (n := a.n) hn htb hbl
  have hKl := rollK_le a.n (b + 1 - t)
  refine ⟨t, b, e1, e2, htb, by omega, by rw [eG, hl]; exact hKl, fun hneg => ?_, fun hpos => ?_⟩
  ·rw [eG, eN, hl]
   refine ⟨gone_down hneg htb hKl, fun r h1 h2 l l' g g' => ?_⟩
   obtain ⟨l1, f1, f2⟩ := stay_down (q := a.q) (cols := s) hneg htb hbl h1 h2 g'
   rw [f1] at g; cases g; exact f2
  ·rw [eG, eN, hl]
   refine ⟨gone_up (by omega) hKl, fun r h1 h2 l l' g g' => ?_⟩
   obtain ⟨l1, f1, f2⟩ := stay_up (q := a.q) (cols := s) (by omega) htb hbl h1 h2 g'
   rw [f1] at g; cases g; exact f2
end
section
variable {w0 w : World} {os : List Ob} {k p s : Nat} {a : Act14} {L : List Ln}
theorem hgPut (h0 : a.what = 0) (hT : Tabs w0) (hS : Objs w0 w os) (hk : os[k]? = some (.grid p 58 s L)) (hc : 0 < s) (hcm : s ≤ 1000) (hR : Rect s L) :
  Calls Tryd.prog 33 #[.pointer (some ⟨p, 0, none⟩), .int .i64 a.row, .int .i64 a.a, .agg (cv a.x)] w fun e w' => e = .returned (.int .i64 (act14E a s L.length)) ∧ Objs w0 w' (os.set k (.grid p 58 s (act14N a s L))) := by
 unfold act14E act14N
 simp only [if_pos h0]
 by_cases h : putE a.row a.a a.x s L.length = 0
 ·obtain ⟨i, j, e1, e2, hi, hj, hok, hw, hfit⟩ := putE_yes h
  rw [if_pos h, h, e1, e2]
  exact PutG a.x hT hS hk hcm hR hi hok hw hfit
 ·rw [if_neg h, set_self hk]
  exact PutN a.x hT hS hk hc hcm h
theorem hgClear (h0 : a.what = 1) (hT : Tabs w0) (hS : Objs w0 w os) (hk : os[k]? = some (.grid p 58 s L)) (hc : 0 < s) (hcm : s ≤ 1000) (hR : Rect s L) :
  Calls Tryd.prog 51 #[.pointer (some ⟨p, 0, none⟩), .int .i64 a.row, .int .i64 a.a, .int .i64 a.b, .agg (pv a.q)] w fun e w' => e = .returned (.int .i64 (act14E a s L.length)) ∧ Objs w0 w' (os.set k (.grid p 58 s (act14N a s L))) := by
 unfold act14E act14N
 simp only [if_pos h0, if_neg (show ¬ a.what = 0 by omega)]
 by_cases h : clrE a.row a.a a.b a.q s L.length = 0
 ·obtain ⟨i, j, t, e1, e2, e3, hi, hft, hts, hq⟩ := clrE_yes h
  rw [if_pos h, h, e1, e2, e3]
  exact ClearG a.q hT hS hk hc hcm hR hi hq hft hts
 ·rw [if_neg h, set_self hk]
  exact ClearN a.q hT hS hk hc hcm h
theorem hgShift (h0 : a.what = 2) (hT : Tabs w0) (hS : Objs w0 w os) (hk : os[k]? = some (.grid p 58 s L)) (hc : 0 < s) (hcm : s ≤ 1000) (hR : Rect s L) (hb : N64 a.b) :
  Calls Tryd.prog 52 #[.pointer (some ⟨p, 0, none⟩), .int .i64 a.row, .int .i64 a.a, .int .i64 a.b, .agg (pv a.q)] w fun e w' => e = .returned (.int .i64 (act14E a s L.length)) ∧ Objs w0 w' (os.set k (.grid p 58 s (act14N a s L))) := by
 unfold act14E act14N
 simp only [if_pos h0, if_neg (show ¬ a.what = 0 by omega), if_neg (show ¬ a.what = 1 by omega)]
 by_cases h : shfE a.row a.a a.q s L.length = 0
 ·obtain ⟨i, j, e1, e2, hi, hj, hq⟩ := shfE_yes h
  rw [if_pos h, h, e1, e2]
  exact ShiftG a.b a.q hT hS hk hcm hR hi hq hj hb
 ·rw [if_neg h, set_self hk]
  exact ShiftN a.q hT hS hk hc hcm h
theorem hgSetLine (h0 : a.what = 3) (hT : Tabs w0) (hS : Objs w0 w os) (hk : os[k]? = some (.grid p 58 s L)) (hc : 0 < s) (hcm : s ≤ 1000) (hA : RdC w0 a.A a.c a.cs) (hlc : a.cs.length ≤ 100000) :
  Calls Tryd.prog 53 #[.pointer (some ⟨p, 0, none⟩), .int .i64 a.row, .agg #[.slice a.A a.cs.length a.c, .bool a.soft]] w fun e w' => e = .returned (.int .i64 (act14E a s L.length)) ∧ Objs w0 w' (os.set k (.grid p 58 s (act14N a s L))) := by
 have S1 : Objs w0 w (.grid p 58 s L :: .none :: os.set k .none) := hS.pad.lift (k := k + 1) hk
 have back : ∀ {w' : World} {o : Ob}, Objs w0 w' (o :: .none :: os.set k .none) → Objs w0 w' (os.set k o) := fun {w' o} h =>
  (Objs.lower (k := k + 1) (os := .none :: os) (o := .grid p 58 s L) hk h).tail
 unfold act14E act14N
 simp only [if_pos h0, if_neg (show ¬ a.what = 0 by omega), if_neg (show ¬ a.what = 1 by omega), if_neg (show ¬ a.what = 2 by omega)]
 by_cases hh : here14 a.row L.length = true
 ·obtain ⟨i, e1, hi⟩ := here14_nat hh
  obtain ⟨l, hl⟩ := get_of hi
  cases hv : lineOk a.cs with
  | true =>
   have he : setE a.row a.cs L.length = 0 := by unfold setE; rw [if_neg (fun h => h hh), if_neg (fun h => h hv)]
   rw [if_pos he, he, e1]
   exact (SetLine_yes (o := .none) hT S1 hc hcm hl rfl (fun w' _ hb => hA.bel hb) hlc hv).mono fun e w' ⟨h1, h2⟩ => ⟨h1, back h2⟩
  | false =>
   have he : setE a.row a.cs L.length = 2 := by unfold setE; rw [if_neg (fun h => h hh), if_pos (by simp [hv])]
   rw [if_neg (by omega), he, e1]
   exact (SetLine_bad (o := .none) hT S1 hc hi rfl (fun w' _ hb => hA.bel hb) hlc hv).mono fun e w' ⟨h1, h2⟩ => ⟨h1, back h2⟩
 ·have he : setE a.row a.cs L.length = 3 := by unfold setE; rw [if_pos hh]
  rw [if_neg (by omega), he]
  exact (SetLine_out S1 hc (fun h => hh (decide_eq_true h))).mono fun e w' ⟨h1, h2⟩ => ⟨h1, back h2⟩
theorem hgSetSoft (h0 : a.what = 4) (hS : Objs w0 w os) (hk : os[k]? = some (.grid p 58 s L)) (hc : 0 < s) (hL : L.length ≤ 1000) :
  Calls Tryd.prog 46 #[.pointer (some ⟨p, 0, none⟩), .int .i64 a.row, .bool (decide (0 < a.a))] w fun e w' => e = .returned (.int .i64 (act14E a s L.length)) ∧ Objs w0 w' (os.set k (.grid p 58 s (act14N a s L))) := by
 unfold act14E act14N
 simp only [if_pos h0, if_neg (show ¬ a.what = 0 by omega), if_neg (show ¬ a.what = 1 by omega), if_neg (show ¬ a.what = 2 by omega), if_neg (show ¬ a.what = 3 by omega)]
 cases hh : here14 a.row L.length with
 | true =>
  obtain ⟨i, e1, hi⟩ := here14_nat hh
  rw [if_pos rfl, if_pos rfl, e1]
  exact SetSoftG _ hS hk hc hi (by omega)
 | false =>
  rw [if_neg (by decide), if_neg (by decide), set_self hk]
  exact SetSoftN _ hS hk hc hh
theorem hgRoll (h0 : a.what = 5) (hT : Tabs w0) (hS : Objs w0 w os) (hk : os[k]? = some (.grid p 58 s L)) (hc : 0 < s) (hcm : s ≤ 1000) (hL : L.length ≤ 1000) (hn : N64 a.n) :
  Calls Tryd.prog 50 #[.pointer (some ⟨p, 0, none⟩), .agg #[.int .i64 a.a, .int .i64 a.b], .int .i64 a.n, .agg (pv a.q)] w fun e w' => ∃ A c, e = .returned (.tuple #[.slice A (act14G a L).length c, .int .i64 (act14E a s L.length)]) ∧ Objs w0 w' (.lines (.slice A (act14G a L).length c) (act14G a L) :: os.set k (.grid p 58 s (act14N a s L))) := by
 unfold act14E act14N act14G
 simp only [if_pos h0, if_neg (show ¬ a.what = 0 by omega), if_neg (show ¬ a.what = 1 by omega), if_neg (show ¬ a.what = 2 by omega), if_neg (show ¬ a.what = 3 by omega), if_neg (show ¬ a.what = 4 by omega)]
 by_cases h : rolE a.a a.b a.q L.length = 0
 ·obtain ⟨t, b, e1, e2, htb, hbl, hq⟩ := rolE_yes h
  rw [if_pos h, if_pos ⟨h0, h⟩, h, e1, e2]
  refine (RollG a.n a.q hT hS hk hc hcm (by omega) htb hbl hq hn).mono fun e w' ⟨A, m, c, h1, h2⟩ => ?_
  obtain ⟨rfl, -, -⟩ := h2.linesRd' (k := 0) rfl
  exact ⟨A, c, h1, h2⟩
 ·rw [if_neg h, if_neg (fun hh => h hh.2), set_self hk]
  exact (RollN a.q hT hS hk hc h).mono fun e w' ⟨h1, h2⟩ => ⟨none, 0, h1, h2.nilLines⟩
end
end Go.Proofs.YtppijfjigcoifaaDoor

namespace Go.Proofs.YtppijfjigcoifaaDoor
open Go.RowKit

end Go.Proofs.YtppijfjigcoifaaDoor

set_option linter.constructorNameAsVariable false
set_option maxRecDepth 100000
namespace Go.Proofs.YtppijfjigcoifaaDoor
open Go.ChangeShapes Go.WideShapes Go.ChangeAt Go.RowKit Go.Deep Go.WideElems

section
variable {H : Type} {enc : TypeId × Value → H}

theorem trodAll_below {P : Program} (hl : laidOutB P = true) {W W' : World} (hb : Below W.heap.size W W') {sp : Nat → Bool} : ∀ (ts : List TypeId) (vs : List Value) (ds : List (DataW H)) (ps : List MemPlace), (∀ t ∈ ts, P.readableRec t = true ∧ t < P.types.size) →
  DataW.TrodAll enc P W 0 (fun _ => true) true ts vs ds ps → (∀ x ∈ ps, x.block < W.heap.size) → (∀ x ∈ ps, sp x.block = true) → DataW.TrodAll enc P W' 0 sp true ts vs ds ps
 | [], [], [], ps, _, h, _, _ => h
 | t :: ts, v :: vs, d :: ds, ps, ht, h, hlt, hs => by
  obtain ⟨p, q, h1, h2, rfl⟩ := h
  exact ⟨p, q, Trod_stays hl (ht t (by simp)).1 (ht t (by simp)).2 h1 (fun x hx => hb.same (hlt x (by simp [hx]))) (fun x hx => hs x (by simp [hx])),
   trodAll_below hl hb ts vs ds q (fun u hu => ht u (by simp [hu])) h2 (fun x hx => hlt x (by simp [hx])) (fun x hx => hs x (by simp [hx])), rfl⟩
 | [], _ :: _, _, _, _, h, _, _ => by cases h
 | [], [], _ :: _, _, _, h, _, _ => by cases h
 | _ :: _, [], _, _, _, h, _, _ => by cases h
 | _ :: _, _ :: _, [], _, _, h, _, _ => by cases h

theorem law_post {P : Program} {f : Func} {s : ChangeSpec} {W W' : World} {args : Array Value} {ds gs : List (DataW H)} {before : List MemPlace} {tb : TypeId} (hv : s.vars = []) (hl : laidOutB P = true)
  (hW : DataW.Whole enc P f.params.toList s.vars false W args.toList ds gs before) (hpar : ∀ t ∈ f.params.toList, P.readableRec t = true ∧ t < P.types.size)
  (hfn : gs = [] → (s.fn H (ds ++ gs)).results = [.lit (.bool true)] ∧ (s.fn H (ds ++ gs)).args = ds ∧ (s.fn H (ds ++ gs)).vars = []) (hr : f.resultTypes = #[tb]) (htb : P.underlying tb = some .bool) (hb : Below W.heap.size W W') :
  s.post enc P f false true false false W args (.bool true) W' := by
 have hlt : ∀ p ∈ before, p.block < W.heap.size := fun p hp => hW.lt p hp
 have hW' := hW
 obtain ⟨p, q, hA, hV, rfl, hfz, hnd⟩ := hW
 rw [hv] at hV
 obtain ⟨rfl, rfl⟩ := trodVars_none hV
 obtain ⟨f1, f2, f3⟩ := hfn rfl
 have hargs : ∀ sp : Nat → Bool, (∀ x ∈ p, sp x.block = true) → DataW.TrodAll enc P W' 0 sp true f.params.toList args.toList (s.fn H (ds ++ [])).args p := fun sp hs => by
  rw [f2]; exact trodAll_below hl hb _ _ _ _ hpar hA (fun x hx => hlt x (by simp [hx])) hs
 have hres : ∀ (b : Nat) (sp : Nat → Bool) (hd : Bool), DataW.TrodAll enc P W' b sp hd f.resultTypes.toList ((Value.bool true).resultList f.resultTypes.size) (s.fn H (ds ++ [])).results [] := fun b sp hd => by
  rw [f1, hr]; exact trodAll_cons_mk (shut_bool htb _) trodAll_mk0
 have hvars : ∀ sp : Nat → Bool, DataW.TrodVars enc P W' sp s.vars (s.fn H (ds ++ [])).vars [] := fun sp => by rw [hv, f3]; rfl
 have hold : ∀ x ∈ p, (fun b => decide (b < W.heap.size)) x.block = true := fun x hx => by simpa using hlt x (by simp [hx])
 refine ⟨ds, [], p ++ [], [], p, [], hW', hres _ _ _, hargs _ hold, hvars _, World.keptBut_mono (fun x hx => ⟨hx, ?_⟩) (hb.frame (· ∈ p ++ [])), fun h => by cases h⟩
 exact Or.inr (by simpa using hx)

section
variable {w : World} {base : Nat} {sp : Nat → Bool} {hd : Bool} {fuel : Nat} {cs : List Value} {x : DataW H × List MemPlace}
theorem cells_color : Tryd.prog.cellsOf 51 = 5 := by kernel_rfl
theorem cells_pen : Tryd.prog.cellsOf 54 = 11 := by kernel_rfl
theorem cells_cell : Tryd.prog.cellsOf 71 = 16 := by kernel_rfl
theorem cells_arr3 : Tryd.prog.cellsOf 69 = 3 := by kernel_rfl
theorem cells_i32 : Tryd.prog.cellsOf 21 = 1 := by kernel_rfl
theorem cells_int : Tryd.prog.cellsOf 3 = 1 := by kernel_rfl
theorem cells_u8 : Tryd.prog.cellsOf 5 = 1 := by kernel_rfl
theorem cells_kind : Tryd.prog.cellsOf 49 = 1 := by kernel_rfl
theorem cells_flags : Tryd.prog.cellsOf 52 = 1 := by kernel_rfl
theorem num_field {P : Program} {t : TypeId} {k : IntKind} {c : Value} {y : Option (DataW H × List MemPlace)} (ht : P.underlying t = some (.int k)) (hy : y.isSome = true) (h : DataW.trod enc P w base sp hd fuel t [c] = y) : ∃ n, c = .int k n := by
 obtain ⟨z, hz⟩ := Option.isSome_iff_exists.1 hy
 obtain ⟨n, hn, _⟩ := DataW.trod_int ht (h.trans hz)
 exact ⟨n, by simpa using hn⟩
theorem trod_color (h : DataW.trod enc Tryd.prog w base sp hd fuel 51 cs = some x) : ∃ k i r g b, cs = [.int .i64 k, .int .u8 i, .int .u8 r, .int .u8 g, .int .u8 b] := by
 obtain ⟨xs, n, _, _, hlen, hxl, hf⟩ := DataW.trod_struct Tryd.underlying51 h
 rw [cells_color] at hlen
 match cs, hlen, hf with
 | [c0, c1, c2, c3, c4], _, hf =>
  have h0 : DataW.trod enc Tryd.prog w base sp hd n 49 (([c0, c1, c2, c3, c4].drop 0).take (Tryd.prog.cellsOf 49)) = xs[0]? := hf 0 _ rfl
  have h1 : DataW.trod enc Tryd.prog w base sp hd n 5 (([c0, c1, c2, c3, c4].drop 1).take (Tryd.prog.cellsOf 5)) = xs[1]? := hf 1 _ rfl
  have h2 : DataW.trod enc Tryd.prog w base sp hd n 5 (([c0, c1, c2, c3, c4].drop 2).take (Tryd.prog.cellsOf 5)) = xs[2]? := hf 2 _ rfl
  have h3 : DataW.trod enc Tryd.prog w base sp hd n 5 (([c0, c1, c2, c3, c4].drop 3).take (Tryd.prog.cellsOf 5)) = xs[3]? := hf 3 _ rfl
  have h4 : DataW.trod enc Tryd.prog w base sp hd n 5 (([c0, c1, c2, c3, c4].drop 4).take (Tryd.prog.cellsOf 5)) = xs[4]? := hf 4 _ rfl
  simp only [cells_kind, cells_u8, List.drop_zero, List.drop_succ_cons, List.take_succ_cons, List.take_zero] at h0 h1 h2 h3 h4
  obtain ⟨k, rfl⟩ := num_field Tryd.underlying49 (by simp [hxl]) h0
  obtain ⟨i, rfl⟩ := num_field Tryd.underlying5 (by simp [hxl]) h1
  obtain ⟨r, rfl⟩ := num_field Tryd.underlying5 (by simp [hxl]) h2
  obtain ⟨g, rfl⟩ := num_field Tryd.underlying5 (by simp [hxl]) h3
  obtain ⟨b, rfl⟩ := num_field Tryd.underlying5 (by simp [hxl]) h4
  exact ⟨k, i, r, g, b, rfl⟩
theorem some_of {α : Type} {y : Option α} (h : y.isSome = true) : ∃ z, y = some z := Option.isSome_iff_exists.1 h
theorem trod_pen (h : DataW.trod enc Tryd.prog w base sp hd fuel 54 cs = some x) : ∃ q : Pen, cs = (pv q).toList := by
 obtain ⟨xs, n, _, _, hlen, hxl, hf⟩ := DataW.trod_struct Tryd.underlying54 h
 rw [cells_pen] at hlen
 have h0 : DataW.trod enc Tryd.prog w base sp hd n 51 ((cs.drop 0).take (Tryd.prog.cellsOf 51)) = xs[0]? := hf 0 _ rfl
 have h1 : DataW.trod enc Tryd.prog w base sp hd n 51 ((cs.drop 5).take (Tryd.prog.cellsOf 51)) = xs[1]? := hf 1 _ rfl
 have h2 : DataW.trod enc Tryd.prog w base sp hd n 52 ((cs.drop 10).take (Tryd.prog.cellsOf 52)) = xs[2]? := hf 2 _ rfl
 obtain ⟨z0, e0⟩ := some_of (show (xs[0]?).isSome = true by simp [hxl])
 obtain ⟨z1, e1⟩ := some_of (show (xs[1]?).isSome = true by simp [hxl])
 simp only [cells_color, cells_flags] at h0 h1 h2
 obtain ⟨k, i, r, g, b, hc0⟩ := trod_color (h0.trans e0)
 obtain ⟨k', i', r', g', b', hc1⟩ := trod_color (h1.trans e1)
 match cs, hlen with
 | [c0, c1, c2, c3, c4, c5, c6, c7, c8, c9, c10], _ =>
  simp only [List.drop_zero, List.drop_succ_cons, List.take_succ_cons, List.take_zero] at h2 hc0 hc1
  obtain ⟨fl, rfl⟩ := num_field Tryd.underlying52 (by simp [hxl]) h2
  simp only [List.cons.injEq, and_true] at hc0 hc1
  obtain ⟨rfl, rfl, rfl, rfl, rfl⟩ := hc0
  obtain ⟨rfl, rfl, rfl, rfl, rfl⟩ := hc1
  exact ⟨⟨k, i, r, g, b, k', i', r', g', b', fl⟩, rfl⟩
theorem trod_arr3 (h : DataW.trod enc Tryd.prog w base sp hd fuel 69 cs = some x) : ∃ a b c, cs = [.int .i32 a, .int .i32 b, .int .i32 c] := by
 obtain ⟨xs, n, _, _, hlen, hxl, hf⟩ := DataW.trod_array Tryd.underlying69 h
 rw [cells_arr3] at hlen
 match cs, hlen with
 | [c0, c1, c2], _ =>
  have h0 := hf 0 (by omega)
  have h1 := hf 1 (by omega)
  have h2 := hf 2 (by omega)
  simp only [cells_i32, Nat.zero_mul, Nat.one_mul, Nat.mul_one, List.drop_zero, List.drop_succ_cons, List.take_succ_cons, List.take_zero] at h0 h1 h2
  obtain ⟨a, rfl⟩ := num_field Tryd.underlying21 (by simp [hxl]) h0
  obtain ⟨b, rfl⟩ := num_field Tryd.underlying21 (by simp [hxl]) h1
  obtain ⟨c, rfl⟩ := num_field Tryd.underlying21 (by simp [hxl]) h2
  exact ⟨a, b, c, rfl⟩
theorem trod_cell (h : DataW.trod enc Tryd.prog w base sp hd fuel 71 cs = some x) : ∃ q : Cell, cs = (cv q).toList := by
 obtain ⟨xs, n, _, _, hlen, hxl, hf⟩ := DataW.trod_struct Tryd.underlying71 h
 rw [cells_cell] at hlen
 have h0 : DataW.trod enc Tryd.prog w base sp hd n 21 ((cs.drop 0).take (Tryd.prog.cellsOf 21)) = xs[0]? := hf 0 _ rfl
 have h1 : DataW.trod enc Tryd.prog w base sp hd n 69 ((cs.drop 1).take (Tryd.prog.cellsOf 69)) = xs[1]? := hf 1 _ rfl
 have h2 : DataW.trod enc Tryd.prog w base sp hd n 3 ((cs.drop 4).take (Tryd.prog.cellsOf 3)) = xs[2]? := hf 2 _ rfl
 have h3 : DataW.trod enc Tryd.prog w base sp hd n 54 ((cs.drop 5).take (Tryd.prog.cellsOf 54)) = xs[3]? := hf 3 _ rfl
 obtain ⟨z1, e1⟩ := some_of (show (xs[1]?).isSome = true by simp [hxl])
 obtain ⟨z3, e3⟩ := some_of (show (xs[3]?).isSome = true by simp [hxl])
 simp only [cells_i32, cells_arr3, cells_int, cells_pen] at h0 h1 h2 h3
 obtain ⟨m0, m1, m2, hm⟩ := trod_arr3 (h1.trans e1)
 obtain ⟨q, hq⟩ := trod_pen (h3.trans e3)
 match cs, hlen with
 | [c0, c1, c2, c3, c4, c5, c6, c7, c8, c9, c10, c11, c12, c13, c14, c15], _ =>
  simp only [List.drop_zero, List.drop_succ_cons, List.take_succ_cons, List.take_zero] at h0 h2 hm hq
  obtain ⟨r, rfl⟩ := num_field Tryd.underlying21 (by simp [hxl]) h0
  obtain ⟨wd, rfl⟩ := num_field Tryd.underlying3 (by simp [hxl]) h2
  simp only [List.cons.injEq, and_true] at hm
  obtain ⟨rfl, rfl, rfl⟩ := hm
  simp only [pv, List.cons.injEq, and_true] at hq
  obtain ⟨rfl, rfl, rfl, rfl, rfl, rfl, rfl, rfl, rfl, rfl, rfl⟩ := hq
  exact ⟨⟨r, m0, m1, m2, wd, q⟩, rfl⟩
end
theorem trod_cells {w : World} {fuel : Nat} {cs : List Value} {x : DataW H × List MemPlace} {hd : Bool} (h : DataW.trod enc Tryd.prog w 0 (fun _ => true) hd fuel 37 cs = some x) : ∃ A c l, cs = [.slice A l.length c] ∧ RdC w A c l ∧ c ≤ maxLen := by
 rcases open_slice Tryd.underlying37 h with ⟨rfl, _⟩ | ⟨a, len, cap, m, n, D, Pl, rfl, _, hl, hm, hmm, _, hi⟩
 ·exact ⟨none, 0, [], rfl, RdC.nil _, by simp [maxLen]⟩
 ·simp only [if_true] at hmm
  subst hmm
  rw [cells_cell] at hi
  have hall : ∀ i, i < len → ∃ c : Cell, ∀ j, j < 16 → w.cell? ((a.add (i * 16)).add j) = (cv c)[j]? := by
   intro i hlt
   obtain ⟨cs', hc, ht⟩ := hi i (by omega)
   obtain ⟨_, hcl, hat⟩ := World.cells?_some hc
   obtain ⟨c, rfl⟩ := trod_cell ht
   exact ⟨c, fun j hj => by rw [hat j hj]; simp⟩
  have hl2 : ∃ l : List Cell, l.length = len ∧ ∀ i (h : i < l.length), ∀ j, j < 16 → w.cell? ((a.add (i * 16)).add j) = (cv l[i])[j]? := by
   refine ⟨(List.range len).map fun i => if h : i < len then (hall i h).choose else cell0, by simp, fun i h j hj => ?_⟩
   have hlt : i < len := by simpa using h
   simp only [List.getElem_map, List.getElem_range, hlt, dif_pos]
   exact (hall i hlt).choose_spec j hj
  obtain ⟨l, rfl, hcell⟩ := hl2
  refine ⟨some a, m, l, rfl, ⟨hl, (fun h => by cases h), fun hn => ?_⟩, hm⟩
  have h00 := hcell 0 hn 0 (by omega)
  simp only [Nat.zero_mul, Addr.add_zero', cv_get0] at h00
  obtain ⟨b, off, spot⟩ := a
  have hspot : spot = none := by
   cases spot with
   | none => rfl
   | some q => simp [World.cell?] at h00; split at h00 <;> simp at h00
  subst hspot
  refine ⟨b, off, rfl, block_lt_of_cell h00, fun j v hv => ?_⟩
  have hj : j < (flat l).length := (List.getElem?_eq_some_iff.1 hv).1
  rw [flat_length] at hj
  have hk : j / 16 < l.length := by omega
  have := hcell (j / 16) hk (j % 16) (by omega)
  rw [add_at, add_at] at this
  rw [show off + j = off + j / 16 * 16 + j % 16 by omega, this, ← hv, ← flat_at l (j / 16) (j % 16) l[j / 16] (by simp [hk]) (by omega)]
  congr 1; omega
end
end Go.Proofs.YtppijfjigcoifaaDoor

set_option linter.constructorNameAsVariable false
set_option maxRecDepth 100000
namespace Go.Proofs.YtppijfjigcoifaaDoor
open Go.ChangeShapes Go.WideShapes Go.ChangeAt Go.RowKit Go.Deep Go.WideElems

section
variable {H : Type} {enc : TypeId × Value → H}
theorem cells_line : Tryd.prog.cellsOf 39 = 2 := by kernel_rfl
theorem cells_slice : Tryd.prog.cellsOf 37 = 1 := by kernel_rfl
theorem cells_bool : Tryd.prog.cellsOf 4 = 1 := by kernel_rfl
theorem trod_line {w : World} {fuel : Nat} {cs : List Value} {x : DataW H × List MemPlace} {hd : Bool} (h : DataW.trod enc Tryd.prog w 0 (fun _ => true) hd fuel 39 cs = some x) : ∃ A c l s, cs = [.slice A l.length c, .bool s] ∧ RdC w A c l ∧ c ≤ maxLen := by
 obtain ⟨xs, n, _, _, hlen, hxl, hf⟩ := DataW.trod_struct Tryd.underlying39 h
 rw [cells_line] at hlen
 match cs, hlen, hf with
 | [c0, c1], _, hf =>
  have h0 : DataW.trod enc Tryd.prog w 0 (fun _ => true) hd n 37 (([c0, c1].drop 0).take (Tryd.prog.cellsOf 37)) = xs[0]? := hf 0 _ rfl
  have h1 : DataW.trod enc Tryd.prog w 0 (fun _ => true) hd n 4 (([c0, c1].drop 1).take (Tryd.prog.cellsOf 4)) = xs[1]? := hf 1 _ rfl
  obtain ⟨z0, e0⟩ := some_of (show (xs[0]?).isSome = true by simp [hxl])
  obtain ⟨z1, e1⟩ := some_of (show (xs[1]?).isSome = true by simp [hxl])
  simp only [cells_slice, cells_bool, List.drop_zero, List.drop_succ_cons, List.take_succ_cons, List.take_zero] at h0 h1
  obtain ⟨A, c, l, he, hr, hm⟩ := trod_cells (h0.trans e0)
  obtain ⟨b, hb, _⟩ := DataW.trod_bool Tryd.underlying4 (h1.trans e1)
  simp only [List.cons.injEq, and_true] at he hb
  subst he
  subst hb
  exact ⟨A, c, l, b, rfl, hr, hm⟩
end
end Go.Proofs.YtppijfjigcoifaaDoor

set_option linter.constructorNameAsVariable false
set_option maxRecDepth 100000
namespace Go.Proofs.YtppijfjigcoifaaDoor
open Go.ChangeShapes Go.WideShapes Go.ChangeAt Go.RowKit Go.Deep Go.WideElems

section
variable {H : Type} {enc : TypeId × Value → H}
theorem trod_recs {V : Type} [Inhabited V] {Pr : V → Prop} {w : World} {fuel : Nat} {cs : List Value} {x : DataW H × List MemPlace} {hd : Bool} {tS tE : TypeId} {k : Nat} (av : V → Array Value) (hu : Tryd.prog.underlying tS = some (.slice tE)) (hk : Tryd.prog.cellsOf tE = k) (hk0 : 0 < k) (hav : ∀ a, (av a).size = k)
  (helem : ∀ (fuel : Nat) (cs' : List Value) (x' : DataW H × List MemPlace), DataW.trod enc Tryd.prog w 0 (fun _ => true) hd fuel tE cs' = some x' → ∃ a, cs' = (av a).toList ∧ Pr a)
  (h : DataW.trod enc Tryd.prog w 0 (fun _ => true) hd fuel tS cs = some x) : ∃ (A : Option Addr) (c : Nat) (l : List V), cs = [.slice A l.length c] ∧ RdRec w A c k (l.map av) ∧ c ≤ maxLen ∧ ∀ a ∈ l, Pr a := by
 rcases open_slice hu h with ⟨rfl, _⟩ | ⟨a, len, cap, m, n, D, Pl, rfl, _, hl, hm, hmm, _, hi⟩
 ·exact ⟨none, 0, [], rfl, ⟨by simp, fun _ => rfl, fun h => by simp at h⟩, by simp [maxLen], fun a ha => by simp at ha⟩
 ·simp only [if_true] at hmm
  subst hmm
  rw [hk] at hi
  have hall : ∀ i, i < len → ∃ c : V, Pr c ∧ ∀ j, j < k → w.cell? ((a.add (i * k)).add j) = (av c)[j]? := by
   intro i hlt
   obtain ⟨cs', hc, ht⟩ := hi i (by omega)
   obtain ⟨_, hcl, hat⟩ := World.cells?_some hc
   obtain ⟨c, rfl, hp⟩ := helem _ _ _ ht
   exact ⟨c, hp, fun j hj => by rw [hat j hj]; simp⟩
  have hl2 : ∃ l : List V, l.length = len ∧ (∀ i (h : i < l.length), ∀ j, j < k → w.cell? ((a.add (i * k)).add j) = (av l[i])[j]?) ∧ ∀ c ∈ l, Pr c := by
   refine ⟨(List.range len).map fun i => if h : i < len then (hall i h).choose else default, by simp, fun i h j hj => ?_, fun c hc => ?_⟩
   ·have hlt : i < len := by simpa using h
    simp only [List.getElem_map, List.getElem_range, hlt, dif_pos]
    exact (hall i hlt).choose_spec.2 j hj
   ·obtain ⟨i, hi2, rfl⟩ := List.mem_map.1 hc
    have hlt : i < len := by simpa using hi2
    rw [dif_pos hlt]
    exact (hall i hlt).choose_spec.1
  obtain ⟨l, rfl, hcell, hpr⟩ := hl2
  refine ⟨some a, m, l, rfl, ⟨by simpa using hl, (fun h => by cases h), fun hn => ?_⟩, hm, hpr⟩
  have hn' : 0 < l.length := by simpa using hn
  have h00 := hcell 0 hn' 0 hk0
  have hsz : 0 < (av l[0]).size := by rw [hav]; exact hk0
  rw [Nat.zero_mul, Addr.add_zero', Addr.add_zero', Array.getElem?_eq_getElem hsz] at h00
  obtain ⟨b, off, spot⟩ := a
  have hspot : spot = none := by
   cases spot with
   | none => rfl
   | some q => simp [World.cell?] at h00; split at h00 <;> simp at h00
  subst hspot
  refine ⟨b, off, rfl, block_lt_of_cell h00, fun i r hr => ?_⟩
  rw [List.getElem?_map] at hr
  cases hli : l[i]? with
  | none => rw [hli] at hr; cases hr
  | some y =>
   rw [hli] at hr
   simp only [Option.map_some, Option.some.injEq] at hr
   subst hr
   obtain ⟨hil, hy⟩ := List.getElem?_eq_some_iff.1 hli
   refine recAt_of (hav y) (fun j v hv => ?_)
   have hj : j < k := by have := (List.getElem?_eq_some_iff.1 hv).1; simp [hav] at this; exact this
   have := hcell i hil j hj
   rw [add_at, add_at] at this
   rw [this, hy]
   simpa using hv
theorem open_recs {V : Type} [Inhabited V] {Pr : V → Prop} {v : Value} {w : World} {r : Reach} {b0 : Nat} {hd : Bool} {d : DataW H} {p : List MemPlace} {tS tE : TypeId} {k : Nat} (av : V → Array Value) (hu : Tryd.prog.underlying tS = some (.slice tE)) (hk : Tryd.prog.cellsOf tE = k) (hk0 : 0 < k) (hav : ∀ a, (av a).size = k)
  (helem : ∀ (fuel : Nat) (cs' : List Value) (x' : DataW H × List MemPlace), DataW.trod enc Tryd.prog w 0 (fun _ => true) hd fuel tE cs' = some x' → ∃ a, cs' = (av a).toList ∧ Pr a)
  (hv : Value.okWide Tryd.prog w r b0 tS v) (h : DataW.Trod enc Tryd.prog w 0 (fun _ => true) hd tS v d p) : ∃ (A : Option Addr) (c : Nat) (l : List V), v = .slice A l.length c ∧ RdRec w A c k (l.map av) ∧ c ≤ maxLen ∧ ∀ a ∈ l, Pr a := by
 obtain ⟨a0, n, c, rfl⟩ := okWide_slice hu hv
 obtain ⟨fuel, hf⟩ := h
 obtain ⟨A, c', l, he, hr⟩ := trod_recs av hu hk hk0 hav helem hf
 exact ⟨A, c', l, by simpa [Value.cells] using he, hr⟩
end
end Go.Proofs.YtppijfjigcoifaaDoor

set_option linter.constructorNameAsVariable false
set_option maxRecDepth 100000
namespace Go.Proofs.YtppijfjigcoifaaDoor
open Go.ChangeShapes Go.WideShapes Go.ChangeAt Go.RowKit Go.Deep Go.WideElems

section
variable {H : Type} {enc : TypeId × Value → H}
def In64 (n : Int) : Prop := -9223372036854775808 ≤ n ∧ n ≤ 9223372036854775807
theorem wf_in64 {n : Int} (h : (Lit.int .i64 n).wf = true) : In64 n := by
 unfold In64
 simpa [Lit.wf, IntKind.min, IntKind.max, IntKind.bits, IntKind.signed] using h
theorem num_fieldW {P : Program} {w : World} {base : Nat} {sp : Nat → Bool} {hd : Bool} {fuel : Nat} {t : TypeId} {k : IntKind} {c : Value} {y : Option (DataW H × List MemPlace)} (ht : P.underlying t = some (.int k)) (hy : y.isSome = true) (h : DataW.trod enc P w base sp hd fuel t [c] = y) : ∃ n, c = .int k n ∧ (Lit.int k n).wf = true := by
 obtain ⟨z, hz⟩ := Option.isSome_iff_exists.1 hy
 obtain ⟨n, hn, _, hw⟩ := DataW.trod_int ht (h.trans hz)
 exact ⟨n, by simpa using hn, hw⟩
end
end Go.Proofs.YtppijfjigcoifaaDoor

set_option linter.constructorNameAsVariable false
set_option maxRecDepth 100000
namespace Go.Proofs.YtppijfjigcoifaaDoor
open Go.ChangeShapes Go.WideShapes Go.ChangeAt Go.RowKit Go.Deep Go.WideElems

theorem list1 {α : Type} {n : Nat} {l : List α} (h : l.length = n + 1) : ∃ a r, l = a :: r ∧ r.length = n := by cases l with | nil => simp at h | cons a r => exact ⟨a, r, rfl, by simpa using h⟩
theorem list34 {α : Type} {l : List α} (h : l.length = 34) : ∃ c0 c1 c2 c3 c4 c5 c6 c7 c8 c9 c10 c11 c12 c13 c14 c15 c16 c17 c18 c19 c20 c21 c22 c23 c24 c25 c26 c27 c28 c29 c30 c31 c32 c33 : α, l = [c0, c1, c2, c3, c4, c5, c6, c7, c8, c9, c10, c11, c12, c13, c14, c15, c16, c17, c18, c19, c20, c21, c22, c23, c24, c25, c26, c27, c28, c29, c30, c31, c32, c33] := by
 obtain ⟨c0, r0, rfl, h0⟩ := list1 h
 obtain ⟨c1, r1, rfl, h1⟩ := list1 h0
 obtain ⟨c2, r2, rfl, h2⟩ := list1 h1
 obtain ⟨c3, r3, rfl, h3⟩ := list1 h2
 obtain ⟨c4, r4, rfl, h4⟩ := list1 h3
 obtain ⟨c5, r5, rfl, h5⟩ := list1 h4
 obtain ⟨c6, r6, rfl, h6⟩ := list1 h5
 obtain ⟨c7, r7, rfl, h7⟩ := list1 h6
 obtain ⟨c8, r8, rfl, h8⟩ := list1 h7
 obtain ⟨c9, r9, rfl, h9⟩ := list1 h8
 obtain ⟨c10, r10, rfl, h10⟩ := list1 h9
 obtain ⟨c11, r11, rfl, h11⟩ := list1 h10
 obtain ⟨c12, r12, rfl, h12⟩ := list1 h11
 obtain ⟨c13, r13, rfl, h13⟩ := list1 h12
 obtain ⟨c14, r14, rfl, h14⟩ := list1 h13
 obtain ⟨c15, r15, rfl, h15⟩ := list1 h14
 obtain ⟨c16, r16, rfl, h16⟩ := list1 h15
 obtain ⟨c17, r17, rfl, h17⟩ := list1 h16
 obtain ⟨c18, r18, rfl, h18⟩ := list1 h17
 obtain ⟨c19, r19, rfl, h19⟩ := list1 h18
 obtain ⟨c20, r20, rfl, h20⟩ := list1 h19
 obtain ⟨c21, r21, rfl, h21⟩ := list1 h20
 obtain ⟨c22, r22, rfl, h22⟩ := list1 h21
 obtain ⟨c23, r23, rfl, h23⟩ := list1 h22
 obtain ⟨c24, r24, rfl, h24⟩ := list1 h23
 obtain ⟨c25, r25, rfl, h25⟩ := list1 h24
 obtain ⟨c26, r26, rfl, h26⟩ := list1 h25
 obtain ⟨c27, r27, rfl, h27⟩ := list1 h26
 obtain ⟨c28, r28, rfl, h28⟩ := list1 h27
 obtain ⟨c29, r29, rfl, h29⟩ := list1 h28
 obtain ⟨c30, r30, rfl, h30⟩ := list1 h29
 obtain ⟨c31, r31, rfl, h31⟩ := list1 h30
 obtain ⟨c32, r32, rfl, h32⟩ := list1 h31
 obtain ⟨c33, r33, rfl, h33⟩ := list1 h32
 obtain rfl := List.length_eq_zero_iff.1 h33
 exact ⟨c0, c1, c2, c3, c4, c5, c6, c7, c8, c9, c10, c11, c12, c13, c14, c15, c16, c17, c18, c19, c20, c21, c22, c23, c24, c25, c26, c27, c28, c29, c30, c31, c32, c33, rfl⟩
instance : Inhabited Act14 := ⟨⟨0, 0, 0, 0, 0, cell0, none, 0, [], false, pen0⟩⟩
def Ok14 (w : World) (a : Act14) : Prop := In64 a.a ∧ In64 a.b ∧ In64 a.n ∧ RdC w a.A a.c a.cs ∧ a.c ≤ maxLen
section
variable {H : Type} {enc : TypeId × Value → H}
theorem cells_act14 : Tryd.prog.cellsOf 90 = 34 := by kernel_rfl
theorem cells_cell14 : Tryd.prog.cellsOf 71 = 16 := by kernel_rfl
theorem trod_act14 {w : World} {fuel : Nat} {cs : List Value} {x : DataW H × List MemPlace} {hd : Bool} (h : DataW.trod enc Tryd.prog w 0 (fun _ => true) hd fuel 90 cs = some x) : ∃ a : Act14, cs = (av14 a).toList ∧ Ok14 w a := by
 obtain ⟨xs, n, _, _, hlen, hxl, hf⟩ := DataW.trod_struct Tryd.underlying90 h
 rw [cells_act14] at hlen
 have h0 : DataW.trod enc Tryd.prog w 0 (fun _ => true) hd n 3 ((cs.drop 0).take (Tryd.prog.cellsOf 3)) = xs[0]? := hf 0 _ rfl
 have h1 : DataW.trod enc Tryd.prog w 0 (fun _ => true) hd n 3 ((cs.drop 1).take (Tryd.prog.cellsOf 3)) = xs[1]? := hf 1 _ rfl
 have h2 : DataW.trod enc Tryd.prog w 0 (fun _ => true) hd n 3 ((cs.drop 2).take (Tryd.prog.cellsOf 3)) = xs[2]? := hf 2 _ rfl
 have h3 : DataW.trod enc Tryd.prog w 0 (fun _ => true) hd n 3 ((cs.drop 3).take (Tryd.prog.cellsOf 3)) = xs[3]? := hf 3 _ rfl
 have h4 : DataW.trod enc Tryd.prog w 0 (fun _ => true) hd n 3 ((cs.drop 4).take (Tryd.prog.cellsOf 3)) = xs[4]? := hf 4 _ rfl
 have h5 : DataW.trod enc Tryd.prog w 0 (fun _ => true) hd n 71 ((cs.drop 5).take (Tryd.prog.cellsOf 71)) = xs[5]? := hf 5 _ rfl
 have h6 : DataW.trod enc Tryd.prog w 0 (fun _ => true) hd n 39 ((cs.drop 21).take (Tryd.prog.cellsOf 39)) = xs[6]? := hf 6 _ rfl
 have h7 : DataW.trod enc Tryd.prog w 0 (fun _ => true) hd n 54 ((cs.drop 23).take (Tryd.prog.cellsOf 54)) = xs[7]? := hf 7 _ rfl
 obtain ⟨z5, e5⟩ := some_of (show (xs[5]?).isSome = true by simp [hxl])
 obtain ⟨z6, e6⟩ := some_of (show (xs[6]?).isSome = true by simp [hxl])
 obtain ⟨z7, e7⟩ := some_of (show (xs[7]?).isSome = true by simp [hxl])
 simp only [cells_int, cells_cell14, cells_line, cells_pen] at h0 h1 h2 h3 h4 h5 h6 h7
 obtain ⟨x, hx⟩ := trod_cell (h5.trans e5)
 obtain ⟨A, c, l, s, hl, hr, hm⟩ := trod_line (h6.trans e6)
 obtain ⟨q, hq⟩ := trod_pen (h7.trans e7)
 obtain ⟨c0, c1, c2, c3, c4, c5, c6, c7, c8, c9, c10, c11, c12, c13, c14, c15, c16, c17, c18, c19, c20, c21, c22, c23, c24, c25, c26, c27, c28, c29, c30, c31, c32, c33, rfl⟩ := list34 hlen
 simp only [List.drop_zero, List.drop_succ_cons, List.take_succ_cons, List.take_zero] at h0 h1 h2 h3 h4 hx hl hq
 obtain ⟨n0, rfl⟩ := num_field Tryd.underlying3 (by simp [hxl]) h0
 obtain ⟨n1, rfl⟩ := num_field Tryd.underlying3 (by simp [hxl]) h1
 obtain ⟨n2, rfl, g2⟩ := num_fieldW Tryd.underlying3 (by simp [hxl]) h2
 obtain ⟨n3, rfl, g3⟩ := num_fieldW Tryd.underlying3 (by simp [hxl]) h3
 obtain ⟨n4, rfl, g4⟩ := num_fieldW Tryd.underlying3 (by simp [hxl]) h4
 simp only [cv, List.cons.injEq, and_true] at hx
 obtain ⟨rfl, rfl, rfl, rfl, rfl, rfl, rfl, rfl, rfl, rfl, rfl, rfl, rfl, rfl, rfl, rfl⟩ := hx
 simp only [List.cons.injEq, and_true] at hl
 obtain ⟨rfl, rfl⟩ := hl
 simp only [pv, List.cons.injEq, and_true] at hq
 obtain ⟨rfl, rfl, rfl, rfl, rfl, rfl, rfl, rfl, rfl, rfl, rfl⟩ := hq
 exact ⟨⟨n0, n1, n2, n3, n4, x, A, c, l, s, q⟩, rfl, wf_in64 g2, wf_in64 g3, wf_in64 g4, hr, hm⟩
theorem open_acts14 {v : Value} {w : World} {r : Reach} {b0 : Nat} {hd : Bool} {d : DataW H} {p : List MemPlace} (hv : Value.okWide Tryd.prog w r b0 86 v) (h : DataW.Trod enc Tryd.prog w 0 (fun _ => true) hd 86 v d p) : ∃ (A : Option Addr) (c : Nat) (l : List Act14), v = .slice A l.length c ∧ RdRec w A c 34 (l.map av14) ∧ c ≤ maxLen ∧ ∀ a ∈ l, Ok14 w a :=
 open_recs (Pr := fun a => Ok14 w a) av14 Tryd.underlying86 cells_act14 (by decide) av14_size (fun fuel cs' x' h => trod_act14 h) hv h
end
structure ALine where
 A : Option Addr
 c : Nat
 cs : List Cell
 s : Bool
instance : Inhabited ALine := ⟨⟨none, 0, [], false⟩⟩
section
variable {H : Type} {enc : TypeId × Value → H}
end
end Go.Proofs.YtppijfjigcoifaaDoor

set_option linter.constructorNameAsVariable false
set_option maxRecDepth 100000
namespace Go.Proofs.YtppijfjigcoifaaDoor
open Go.ChangeShapes Go.WideShapes Go.ChangeAt Go.RowKit Go.Deep Go.WideElems

theorem own_knob : ownKnob Tryd.prog.godebug = none := by kernel_rfl
theorem laid_out : laidOutB Tryd.prog = true := by kernel_rfl
def pairData {H : Type} (x : Int × Int) : DataW H := .agg [.lit (.int .i32 x.1), .lit (.int .i32 x.2)]
theorem cells_pair : Tryd.prog.cellsOf 126 = 2 := by kernel_rfl
section
variable {H : Type} {enc : TypeId × Value → H} {w : World} {base : Nat} {sp : Nat → Bool} {hd : Bool} {fuel : Nat} {cs : List Value}
theorem num_lit {t : TypeId} {c : Value} {n : Int} {p : List MemPlace} (ht : Tryd.prog.underlying t = some (.int .i32)) (h : DataW.trod enc Tryd.prog w base sp hd fuel t [c] = some (.lit (.int .i32 n), p)) : c = .int .i32 n := by
 obtain ⟨m, hm, hx, _⟩ := DataW.trod_int ht h
 simp only [Prod.mk.injEq, DataW.lit.injEq, Lit.int.injEq, true_and] at hx
 simp only [List.cons.injEq, and_true] at hm
 rw [hm, hx.1]
theorem trod_pair {x : Int × Int} {p : List MemPlace} (h : DataW.trod enc Tryd.prog w base sp hd fuel 126 cs = some (pairData x, p)) : cs = [.int .i32 x.1, .int .i32 x.2] := by
 obtain ⟨xs, n, _, hx, hlen, hxl, hf⟩ := DataW.trod_array Tryd.underlying126 h
 rw [cells_pair] at hlen
 match cs, hlen, xs, hxl, hf, hx with
 | [c0, c1], _, [y0, y1], _, hf, hx =>
  have h0 := hf 0 (by omega)
  have h1 := hf 1 (by omega)
  simp only [cells_i32, Nat.zero_mul, Nat.one_mul, List.drop_zero, List.drop_succ_cons, List.take_succ_cons, List.take_zero, List.getElem?_cons_zero, List.getElem?_cons_succ] at h0 h1
  simp only [pairData, List.map_cons, List.map_nil, Prod.mk.injEq, DataW.agg.injEq, List.cons.injEq, and_true] at hx
  obtain ⟨y0a, y0b⟩ := y0
  obtain ⟨y1a, y1b⟩ := y1
  obtain ⟨⟨e0, e1⟩, _⟩ := hx
  simp only at e0 e1
  subst e0 e1
  rw [num_lit Tryd.underlying21 h0, num_lit Tryd.underlying21 h1]
theorem trod_table {t : TypeId} {tab : List (Int × Int)} {p : List MemPlace} (ht : Tryd.prog.underlying t = some (.array tab.length 126)) (h : DataW.trod enc Tryd.prog w base sp hd fuel t cs = some (.agg (tab.map pairData), p)) :
  ∀ k, k < tab.length → cs[k * 2]? = some (.int .i32 (loOf tab k)) ∧ cs[k * 2 + 1]? = some (.int .i32 (hiOf tab k)) := by
 obtain ⟨xs, n, _, hx, hlen, hxl, hf⟩ := DataW.trod_array ht h
 intro k hk
 have hkf := hf k hk
 rw [cells_pair] at hkf
 have hk2 : k < xs.length := by omega
 rw [List.getElem?_eq_getElem hk2] at hkf
 simp only [Prod.mk.injEq, DataW.agg.injEq] at hx
 have he : xs[k].1 = pairData tab[k] := by
  have := congrArg (fun l => l[k]?) hx.1
  simp only [List.getElem?_map, List.getElem?_eq_getElem hk, List.getElem?_eq_getElem hk2, Option.map_some, Option.some.injEq] at this
  exact this.symm
 have hp := trod_pair (x := tab[k]) (p := xs[k].2) (by rw [hkf, ← he])
 have g0 := congrArg (fun l => l[0]?) hp
 have g1 := congrArg (fun l => l[1]?) hp
 simp only [List.getElem?_take, List.getElem?_drop, List.getElem?_cons_zero, List.getElem?_cons_succ, Nat.add_zero] at g0 g1
 simp only [loOf, hiOf, List.getD_eq_getElem?_getD, List.getElem?_eq_getElem hk, Option.getD_some]
 exact ⟨by simpa using g0, by simpa using g1⟩
end
theorem pairs_of {W : World} {name : String} {g : Nat} {t : TypeId} {tab : List (Int × Int)} {cs : Array Value} {fuel : Nat} {p : List MemPlace} {base : Nat} {sp : Nat → Bool} {hd : Bool} {H : Type} {enc : TypeId × Value → H} (hg : Tryd.prog.globalNamed name = some g) (ht : Tryd.prog.underlying t = some (.array tab.length 126))
  (hv : W.var? Tryd.prog name = some cs) (h : DataW.trod enc Tryd.prog W base sp hd fuel t cs.toList = some (.agg (tab.map pairData), p)) (hn : 0 < tab.length) : Pairs W g tab.length (loOf tab) (hiOf tab) := by
 have hc := World.var?_cell hg hv
 have htb := trod_table ht h
 refine ⟨?_, fun k hk => ?_⟩
 ·have := (htb 0 hn).1
  have h0 := hc 0
  simp only [Nat.zero_mul, Array.getElem?_toList] at this
  rw [this] at h0
  exact block_lt_of_cell h0
 ·obtain ⟨h1, h2⟩ := htb k hk
  rw [hc, hc]
  exact ⟨by simpa using h1, by simpa using h2⟩
theorem tabs_of {W : World} (h : laidMetH Tryd.prog Rows.gridSizesRow.laid W) : Tabs W := by
 have h' : laidMet Tryd.prog Rows.gridSizesRow.laid W := h
 obtain ⟨ps, ⟨g, t, cs, fuel, p, q, hg, ht, hv, hd, ⟨g2, t2, cs2, fuel2, p2, q2, hg2, ht2, hv2, hd2, _⟩, _⟩, _⟩ := h'
 have e1 : Tryd.prog.globalNamed "scrollback/width.marks" = some 0 := by kernel_rfl
 have e2 : Tryd.prog.globalNamed "scrollback/width.wide" = some 1 := by kernel_rfl
 obtain rfl := Option.some.inj (e1.symm.trans hg)
 obtain rfl := Option.some.inj (e2.symm.trans hg2)
 have f1 : (Tryd.prog.globals[0]?).map (·.type) = some 127 := by kernel_rfl
 have f2 : (Tryd.prog.globals[1]?).map (·.type) = some 128 := by kernel_rfl
 obtain rfl := Option.some.inj (f1.symm.trans ht)
 obtain rfl := Option.some.inj (f2.symm.trans ht2)
 exact ⟨pairs_of (tab := marksTab) e1 Tryd.underlying127 hv hd (by decide), pairs_of (tab := wideTab) e2 Tryd.underlying128 hv2 hd2 (by decide)⟩
def setTab (n : Nat) (tab : List (Int × Int)) (h : Array Obj) : Array Obj := h.modify n fun
 | .cells _ t frozen => .cells (tab.flatMap fun x => [Value.int .i32 x.1, Value.int .i32 x.2]).toArray t frozen
 | o => o
noncomputable def laidWorld (os : Os) : World :=
 { World.holding Tryd.prog os ⟨#[], #[], []⟩ with heap := setTab 1 wideTab (setTab 0 marksTab (World.holding Tryd.prog os ⟨#[], #[], []⟩).heap) }
end Go.Proofs.YtppijfjigcoifaaDoor
