/-
  Part 3 of the texts on which the proofs of this seat stand: each part says ahead of it what it shows.
-/
import Derived.Test.YtppijfjigcoifaaDoorS2
import Derived.Lib.MinMax
import Derived.Deep.DeepAppendRoom
import Derived.Laws.OwnMore
set_option linter.unusedSimpArgs false
set_option linter.unusedVariables false
namespace Go.Proofs.YtppijfjigcoifaaDoor
open Go.RowKit

def rollK (n : Int) (many : Nat) : Nat := if -(many : Int) < n ∧ n < many then n.natAbs else many
theorem rollK_le (n : Int) (many : Nat) : rollK n many ≤ many := by unfold rollK; split <;> omega
def lastHard (S : List Ln) : List Ln := softMod (S.length - 1) false S
theorem lastHard_length (S : List Ln) : (lastHard S).length = S.length := softMod_length _ _ _
def rollIn (top bot : Nat) (L : List Ln) : List Ln := (L.drop top).take (bot + 1 - top)
def rollStay (top bot : Nat) (n : Int) (L : List Ln) : List Ln :=
 if 0 < n then (rollIn top bot L).drop (rollK n (bot + 1 - top)) else (rollIn top bot L).take (bot + 1 - top - rollK n (bot + 1 - top))
def rollFresh (k cols : Nat) (q : Pen) : List Ln := List.replicate k (List.replicate cols (blank q), false)
def rollMid (top bot : Nat) (n : Int) (q : Pen) (cols : Nat) (L : List Ln) : List Ln :=
 if 0 < n then lastHard (rollStay top bot n L) ++ rollFresh (rollK n (bot + 1 - top)) cols q else rollFresh (rollK n (bot + 1 - top)) cols q ++ lastHard (rollStay top bot n L)
def topHard (top : Nat) (L : List Ln) : List Ln := if 0 < top then softMod (top - 1) false L else L
def rollL (top bot : Nat) (n : Int) (q : Pen) (cols : Nat) (L : List Ln) : List Ln :=
 if n = 0 then L else topHard top (L.take top ++ (rollMid top bot n q cols L ++ L.drop (bot + 1)))
theorem Rect.topHard {n : Nat} {L : List Ln} (h : Rect n L) (top : Nat) : Rect n (topHard top L) := by unfold Proofs.YtppijfjigcoifaaDoor.topHard; split; exact h.softMod _ _; exact h
section
variable {top bot : Nat} {n : Int} {q : Pen} {cols : Nat} {L : List Ln}
theorem rollIn_length (h1 : top ≤ bot) (h2 : bot < L.length) : (rollIn top bot L).length = bot + 1 - top := by simp [rollIn]; omega
theorem rollStay_length (h1 : top ≤ bot) (h2 : bot < L.length) : (rollStay top bot n L).length = bot + 1 - top - rollK n (bot + 1 - top) := by
 have := rollK_le n (bot + 1 - top)
 unfold rollStay
 split <;> simp [rollIn_length h1 h2]
theorem rollMid_length (h1 : top ≤ bot) (h2 : bot < L.length) : (rollMid top bot n q cols L).length = bot + 1 - top := by
 have := rollK_le n (bot + 1 - top)
 unfold rollMid
 split <;> simp [lastHard_length, rollStay_length h1 h2, rollFresh] <;> omega
theorem Rect.part {n : Nat} {L : List Ln} (h : Rect n L) (a b : Nat) : Rect n ((L.drop a).take b) := fun l hl => h l (List.mem_of_mem_drop (List.mem_of_mem_take hl))
theorem Rect.app {n : Nat} {A B : List Ln} (h : Rect n A) (g : Rect n B) : Rect n (A ++ B) := fun l hl => (List.mem_append.1 hl).elim (h l) (g l)
theorem rect_fresh (k cols : Nat) (q : Pen) : Rect cols (rollFresh k cols q) := fun l hl => by rw [(List.mem_replicate.1 hl).2]; simp
theorem Rect.rollStay {cols : Nat} {L : List Ln} (h : Rect cols L) (top bot : Nat) (n : Int) : Rect cols (rollStay top bot n L) := by
 unfold Proofs.YtppijfjigcoifaaDoor.rollStay
 split
 ·exact fun l hl => h.part _ _ l (List.mem_of_mem_drop hl)
 ·exact fun l hl => h.part _ _ l (List.mem_of_mem_take hl)
theorem Rect.rollL {L : List Ln} (h : Rect cols L) : Rect cols (rollL top bot n q cols L) := by
 unfold Proofs.YtppijfjigcoifaaDoor.rollL
 split
 ·exact h
 ·refine Rect.topHard (Rect.app (fun l hl => h l (List.mem_of_mem_take hl)) (Rect.app ?_ (fun l hl => h l (List.mem_of_mem_drop hl)))) _
  unfold rollMid
  split
  ·exact ((h.rollStay _ _ _).softMod _ _).app (rect_fresh _ _ _)
  ·exact (rect_fresh _ _ _).app ((h.rollStay _ _ _).softMod _ _)
end
section
variable {w0 w : World} {os : List Ob}
end
section
variable {w0 w : World} {os : List Ob}
end
section
variable {T F : List Tr} {L : List Ln} {top bot k many cols : Nat} {n : Int} {q : Pen}
end
end Go.Proofs.YtppijfjigcoifaaDoor

namespace Go.Proofs.YtppijfjigcoifaaDoor
open Go.RowKit

section
variable {w0 w : World} {os : List Ob}
end
section
variable {w0 w : World} {os : List Ob} {p cols : Nat} {L : List Ln}
end
end Go.Proofs.YtppijfjigcoifaaDoor

namespace Go.Proofs.YtppijfjigcoifaaDoor
open Go.RowKit

section
variable {w0 w : World} {os : List Ob} {p cols : Nat} {L : List Ln}
end
end Go.Proofs.YtppijfjigcoifaaDoor

namespace Go.Proofs.YtppijfjigcoifaaDoor
open Go.RowKit

end Go.Proofs.YtppijfjigcoifaaDoor

namespace Go.Proofs.YtppijfjigcoifaaDoor
open Go.RowKit

theorem RdL.part {w : World} {b off c c' a m : Nat} {L : List Ln} (h : RdL w (some ⟨b, off, none⟩) c L) (ham : a + m ≤ L.length) (hm : m ≤ c') : RdL w (some ⟨b, off + a * 2, none⟩) c' ((L.drop a).take m) := by
 refine ⟨by simp; omega, (fun e => by cases e), fun hn => ?_⟩
 have hm0 : 0 < m := by simp at hn; omega
 obtain ⟨b', off', e, hz, hr⟩ := h.2.2 (by omega)
 cases e
 refine ⟨b, off + a * 2, rfl, hz, fun i l hl => ?_⟩
 rw [List.getElem?_take] at hl
 split at hl
 ·rw [List.getElem?_drop] at hl
  obtain ⟨A', c', h1, h2, h3⟩ := hr (a + i) l hl
  exact ⟨A', c', by rw [show off + a * 2 + i * 2 = off + (a + i) * 2 by omega]; exact h1, by rw [show off + a * 2 + i * 2 + 1 = off + (a + i) * 2 + 1 by omega]; exact h2, h3⟩
 ·cases hl
theorem RdL.empty (w : World) (ad : Addr) (c : Nat) : RdL w (some ad) c [] := ⟨by simp, (fun e => by cases e), fun h => by simp at h⟩
section
variable {w0 w : World} {os : List Ob} {v : Value} {hp : List (Value × Bool)}
end
section
variable {T Ts Tf : List Tr} {L : List Ln} {top bot k many cols : Nat} {n : Int} {q : Pen}
end
end Go.Proofs.YtppijfjigcoifaaDoor

namespace Go.Proofs.YtppijfjigcoifaaDoor
open Go.RowKit

section
variable {w0 w : World} {os : List Ob}
end
section
variable {w0 w : World} {os : List Ob} {x cols : Nat} {L : List Ln}
end
end Go.Proofs.YtppijfjigcoifaaDoor

namespace Go.Proofs.YtppijfjigcoifaaDoor
open Go.RowKit

section
variable {w0 w : World} {os : List Ob} {v : Value} {hp : List (Value × Bool)}
end
section
variable {w0 w : World} {os : List Ob} {x cols : Nat} {L : List Ln}
end
end Go.Proofs.YtppijfjigcoifaaDoor

namespace Go.Proofs.YtppijfjigcoifaaDoor
open Go.RowKit

def shiftN (j cols : Nat) (n : Int) (q : Pen) (cs : List Cell) : List Cell :=
 if n = 0 then cs else if 0 < n then shiftR j (min n ((cols - j : Nat) : Int)).toNat q cs else shiftL j (min (-n) ((cols - j : Nat) : Int)).toNat q cs
section
variable {w0 w : World} {os : List Ob} {k p cols : Nat} {L : List Ln}
theorem ShiftG {i j : Nat} (n : Int) (q : Pen) (hT : Tabs w0) (hS : Objs w0 w os) (hk : os[k]? = some (.grid p 58 cols L)) (hcm : cols ≤ 1000) (hR : Rect cols L) (hi : i < L.length) (hq : q.ok = true) (hj : j < cols) (hn : -9223372036854775808 ≤ n ∧ n ≤ 9223372036854775807) :
  Calls Tryd.prog 52 #[.pointer (some ⟨p, 0, none⟩), .int .i64 i, .int .i64 j, .int .i64 n, .agg (pv q)] w fun e w' => e = .returned (.int .i64 0) ∧ Objs w0 w' (os.set k (.grid p 58 cols (rowMod i (shiftN j cols n q) L))) := by
 obtain ⟨l, hl⟩ := get_of hi
 rw [rowMod_some hl]
 have hc : 0 < cols := by omega
 have hrow : l.1.length = cols := hR.at_ hl
 by_cases h0 : n = 0
 ·have e : shiftN j cols n q l.1 = l.1 := if_pos h0
  rw [e, set_self hl]
  exact front_call hS hk (fun os1 h => Shift_none q hT h hc hcm ⟨by omega, by omega⟩ hq h0)
 by_cases h1 : 0 < n
 ·have e : shiftN j cols n q l.1 = shiftR j (min n ((cols - j : Nat) : Int)).toNat q l.1 := by unfold shiftN; rw [if_neg h0, if_pos h1]
  rw [e]
  exact front_call hS hk (fun os1 h => Shift_right q hT h hc hcm hl hrow hq n hj h1 hn.2 (by omega))
 have e : shiftN j cols n q l.1 = shiftL j (min (-n) ((cols - j : Nat) : Int)).toNat q l.1 := by unfold shiftN; rw [if_neg h0, if_neg h1]
 rw [e]
 by_cases h2 : -n < ((cols - j : Nat) : Int)
 ·obtain ⟨m, hm⟩ : ∃ m : Nat, (m : Int) = -n := ⟨(-n).toNat, by omega⟩
  obtain rfl : n = -(m : Int) := by omega
  rw [show (min (-(-(m : Int))) ((cols - j : Nat) : Int)).toNat = m by omega]
  exact front_call hS hk (fun os1 h => Shift_left1 q hT h hc hcm hl hrow hq hj (by omega) (by omega))
 ·rw [show (min (-n) ((cols - j : Nat) : Int)).toNat = cols - j by omega]
  exact front_call hS hk (fun os1 h => Shift_left2 q hT h hc hcm hl hrow hq n hj (by omega) (by omega) hn.1)
end
theorem shiftN_length {j cols : Nat} {n : Int} {q : Pen} {cs : List Cell} (h : cs.length = cols) (hj : j < cols) : (shiftN j cols n q cs).length = cols := by
 unfold shiftN
 split
 ·exact h
 split
 ·rw [shiftR_length (by omega)]; exact h
 ·rw [shiftL_length (by omega)]; exact h
end Go.Proofs.YtppijfjigcoifaaDoor

namespace Go.Proofs.YtppijfjigcoifaaDoor
open Go.RowKit

def hardIf (b : Prop) [Decidable b] (l : Ln) : Ln := if b then (l.1, false) else l
def freshLn (cols : Nat) (q : Pen) : Ln := (List.replicate cols (blank q), false)
theorem hardIf_no {b : Prop} [Decidable b] (h : ¬ b) : hardIf b = id := by funext l; simp [hardIf, h]
theorem softMod_get (i : Nat) (L : List Ln) (r : Nat) : (softMod i false L)[r]? = (L[r]?).map (hardIf (r = i)) := by
  rw [softMod_is, lnMod_get]; rfl
theorem rollFresh_get {k cols r : Nat} {q : Pen} (h : r < k) : (rollFresh k cols q)[r]? = some (freshLn cols q) := by simp [rollFresh, freshLn, h]
theorem rollFresh_len (k cols : Nat) (q : Pen) : (rollFresh k cols q).length = k := by simp [rollFresh]
def rollAt (top bot : Nat) (n : Int) (q : Pen) (cols : Nat) (L : List Ln) (r : Nat) : Option Ln :=
  if n = 0 then L[r]? else
  (if r < top ∨ bot < r then L[r]?
   else if 0 < n then (if r + rollK n (bot + 1 - top) ≤ bot then (L[r + rollK n (bot + 1 - top)]?).map (hardIf (r + rollK n (bot + 1 - top) = bot)) else some (freshLn cols q))
   else (if r < top + rollK n (bot + 1 - top) then some (freshLn cols q) else (L[r - rollK n (bot + 1 - top)]?).map (hardIf (r = bot)))).map (hardIf (0 < top ∧ r + 1 = top))
section
variable {top bot : Nat} {n : Int} {q : Pen} {cols : Nat} {L : List Ln}
theorem rollIn_get {r : Nat} (hr : r < bot + 1 - top) : (rollIn top bot L)[r]? = L[top + r]? := by
  unfold rollIn; rw [List.getElem?_take, if_pos hr, List.getElem?_drop]
theorem rollMid_get (htb : top ≤ bot) (hbl : bot < L.length) {r : Nat} (hr : r < bot + 1 - top) :
    (rollMid top bot n q cols L)[r]? = if 0 < n then (if r + rollK n (bot + 1 - top) ≤ bot - top then (L[top + r + rollK n (bot + 1 - top)]?).map (hardIf (r + rollK n (bot + 1 - top) = bot - top)) else some (freshLn cols q))
      else (if r < rollK n (bot + 1 - top) then some (freshLn cols q) else (L[top + r - rollK n (bot + 1 - top)]?).map (hardIf (r = bot - top))) := by
  have hK := rollK_le n (bot + 1 - top)
  have hSl := rollStay_length (n := n) htb hbl
  unfold rollMid
  by_cases h0 : 0 < n
  · rw [if_pos h0, if_pos h0]
    by_cases h1 : r + rollK n (bot + 1 - top) ≤ bot - top
    · rw [if_pos h1, List.getElem?_append_left (by rw [lastHard_length, hSl]; omega)]
      unfold lastHard
      rw [softMod_get, hSl]
      unfold rollStay
      rw [if_pos h0, List.getElem?_drop, rollIn_get (by omega), show top + (rollK n (bot + 1 - top) + r) = top + r + rollK n (bot + 1 - top) by omega]
      congr 1
      funext l
      unfold hardIf
      by_cases h2 : r + rollK n (bot + 1 - top) = bot - top
      · rw [if_pos (by omega), if_pos h2]
      · rw [if_neg (by omega), if_neg h2]
    · rw [if_neg h1, List.getElem?_append_right (by rw [lastHard_length, hSl]; omega), rollFresh_get (by rw [lastHard_length, hSl]; omega)]
  · rw [if_neg h0, if_neg h0]
    by_cases h1 : r < rollK n (bot + 1 - top)
    · rw [if_pos h1, List.getElem?_append_left (by rw [rollFresh_len]; exact h1), rollFresh_get h1]
    · rw [if_neg h1, List.getElem?_append_right (by rw [rollFresh_len]; omega), rollFresh_len]
      unfold lastHard
      rw [softMod_get, hSl]
      unfold rollStay
      rw [if_neg h0, List.getElem?_take, if_pos (by omega), rollIn_get (by omega), show top + (r - rollK n (bot + 1 - top)) = top + r - rollK n (bot + 1 - top) by omega]
      congr 1
      funext l
      unfold hardIf
      by_cases h2 : r = bot - top
      · rw [if_pos (by omega), if_pos h2]
      · rw [if_neg (by omega), if_neg h2]
theorem topHard_get (r : Nat) : (topHard top L)[r]? = (L[r]?).map (hardIf (0 < top ∧ r + 1 = top)) := by
  unfold topHard
  by_cases h : 0 < top
  · rw [if_pos h, softMod_get]
    congr 1
    funext l
    unfold hardIf
    by_cases h2 : r = top - 1
    · rw [if_pos h2, if_pos (by omega)]
    · rw [if_neg h2, if_neg (by omega)]
  · rw [if_neg h, hardIf_no (by omega)]; simp
theorem rollL_get (htb : top ≤ bot) (hbl : bot < L.length) (r : Nat) : (rollL top bot n q cols L)[r]? = rollAt top bot n q cols L r := by
  unfold rollL rollAt
  by_cases h0 : n = 0
  · rw [if_pos h0, if_pos h0]
  rw [if_neg h0, if_neg h0, topHard_get]
  congr 1
  have hM := rollMid_length (n := n) (q := q) (cols := cols) htb hbl
  by_cases h1 : r < top
  · rw [List.getElem?_append_left (by simp; omega), List.getElem?_take, if_pos h1, if_pos (.inl h1)]
  have hTl : (L.take top).length = top := by simp; omega
  rw [List.getElem?_append_right (by omega), hTl]
  by_cases h2 : bot < r
  · rw [List.getElem?_append_right (by omega), hM, List.getElem?_drop, if_pos (.inr h2), show bot + 1 + (r - top - (bot + 1 - top)) = r by omega]
  rw [List.getElem?_append_left (by omega), rollMid_get htb hbl (by omega), if_neg (by omega : ¬ (r < top ∨ bot < r))]
  by_cases h3 : 0 < n
  · rw [if_pos h3, if_pos h3]
    by_cases h4 : r + rollK n (bot + 1 - top) ≤ bot
    · rw [if_pos (by omega), if_pos h4, show top + (r - top) = r by omega]
      congr 1
      funext l
      unfold hardIf
      by_cases h5 : r + rollK n (bot + 1 - top) = bot
      · rw [if_pos (by omega), if_pos h5]
      · rw [if_neg (by omega), if_neg h5]
    · rw [if_neg (show ¬ r - top + rollK n (bot + 1 - top) ≤ bot - top by omega), if_neg h4]
  · rw [if_neg h3, if_neg h3]
    by_cases h4 : r < top + rollK n (bot + 1 - top)
    · rw [if_pos (show r - top < rollK n (bot + 1 - top) by omega), if_pos h4]
    · rw [if_neg (show ¬ r - top < rollK n (bot + 1 - top) by omega), if_neg h4, show top + (r - top) = r by omega]
      congr 1
      funext l
      unfold hardIf
      by_cases h5 : r = bot
      · rw [if_pos (by omega), if_pos h5]
      · rw [if_neg (by omega), if_neg h5]
theorem hardIf_fresh (a : Prop) [Decidable a] (cols : Nat) (q : Pen) : hardIf a (freshLn cols q) = freshLn cols q := by
  unfold hardIf freshLn; split <;> rfl
theorem rollAt_out (hn : ¬ n = 0) {r : Nat} (h : r < top ∨ bot < r) : rollAt top bot n q cols L r = (L[r]?).map (hardIf (0 < top ∧ r + 1 = top)) := by
  unfold rollAt; rw [if_neg hn, if_pos h]
theorem rollAt_up (hn : 0 < n) {r K : Nat} (hK : rollK n (bot + 1 - top) = K) (h : ¬ (r < top ∨ bot < r)) (h2 : r + K ≤ bot) : rollAt top bot n q cols L r = (L[r + K]?).map (hardIf (r + K = bot)) := by
  subst hK
  unfold rollAt
  rw [if_neg (show ¬ n = 0 by omega), if_neg h, if_pos hn, if_pos h2, hardIf_no (show ¬ (0 < top ∧ r + 1 = top) by omega), Option.map_id, id]
theorem rollAt_upf (hn : 0 < n) {r K : Nat} (hK : rollK n (bot + 1 - top) = K) (h : ¬ (r < top ∨ bot < r)) (h2 : ¬ r + K ≤ bot) : rollAt top bot n q cols L r = some (freshLn cols q) := by
  subst hK
  unfold rollAt
  rw [if_neg (show ¬ n = 0 by omega), if_neg h, if_pos hn, if_neg h2, Option.map_some, hardIf_fresh]
theorem rollAt_dnf (hn : n < 0) {r K : Nat} (hK : rollK n (bot + 1 - top) = K) (h : ¬ (r < top ∨ bot < r)) (h2 : r < top + K) : rollAt top bot n q cols L r = some (freshLn cols q) := by
  subst hK
  unfold rollAt
  rw [if_neg (show ¬ n = 0 by omega), if_neg h, if_neg (show ¬ 0 < n by omega), if_pos h2, Option.map_some, hardIf_fresh]
theorem rollAt_dn (hn : n < 0) {r K : Nat} (hK : rollK n (bot + 1 - top) = K) (h : ¬ (r < top ∨ bot < r)) (h2 : ¬ r < top + K) : rollAt top bot n q cols L r = (L[r - K]?).map (hardIf (r = bot)) := by
  subst hK
  unfold rollAt
  rw [if_neg (show ¬ n = 0 by omega), if_neg h, if_neg (show ¬ 0 < n by omega), if_neg h2, hardIf_no (show ¬ (0 < top ∧ r + 1 = top) by omega), Option.map_id, id]
end
end Go.Proofs.YtppijfjigcoifaaDoor

namespace Go.Proofs.YtppijfjigcoifaaDoor
open Go.RowKit

theorem brk_id {c : Nat} {cs : List Cell} (h : 1 ≤ c → c < cs.length → ¬ (cAt cs (c - 1)).width = 2) : brk c cs = cs :=
 cells_ext (brk_length _ _) (fun j hj => by rw [cAt_brk, if_neg]; intro h2; exact h h2.1.1 h2.1.2.1 h2.1.2.2)
theorem brk_before {c : Nat} {cs : List Cell} (h1 : 1 ≤ c) (hc : c < cs.length) : ¬ (cAt (brk c cs) (c - 1)).width = 2 := by
 rw [cAt_brk]
 split
 ·simp [blank]
 ·rename_i h; intro h2; exact h ⟨⟨h1, hc, h2⟩, by omega⟩
section
variable {j k m : Nat} {q : Pen} {cs : List Cell}
theorem cAt_shiftR (h : j + k ≤ cs.length) {i : Nat} (hi : i < cs.length) : cAt (shiftR j k q cs) i = if i < j then cAt (brk (cs.length - k) (brk j cs)) i else if i < j + k then blank q else cAt (brk (cs.length - k) (brk j cs)) (i - k) := by
 obtain ⟨l, hl⟩ : ∃ l, l = brk (cs.length - k) (brk j cs) := ⟨_, rfl⟩
 have hll : l.length = cs.length := by rw [hl, brk_length, brk_length]
 unfold shiftR
 simp only [← hl]
 have ht : (l.take j).length = j := by simp; omega
 unfold cAt
 simp only [List.getD_eq_getElem?_getD]
 by_cases h1 : i < j
 ·rw [if_pos h1, List.getElem?_append_left (by omega), List.getElem?_take, if_pos h1]
 ·rw [if_neg h1, List.getElem?_append_right (by omega), ht]
  by_cases h2 : i < j + k
  ·rw [if_pos h2, List.getElem?_append_left (by simp; omega)]
   simp [List.getElem?_replicate, show i - j < k by omega]
  ·rw [if_neg h2, List.getElem?_append_right (by simp; omega), List.length_replicate, List.getElem?_take, if_pos (by omega), List.getElem?_drop, show j + (i - j - k) = i - k by omega]
theorem cAt_shiftL (h : j + k ≤ cs.length) {i : Nat} (hi : i < cs.length) : cAt (shiftL j k q cs) i = if i < j then cAt (brk (j + k) (brk j cs)) i else if i < cs.length - k then cAt (brk (j + k) (brk j cs)) (i + k) else blank q := by
 obtain ⟨l, hl⟩ : ∃ l, l = brk (j + k) (brk j cs) := ⟨_, rfl⟩
 have hll : l.length = cs.length := by rw [hl, brk_length, brk_length]
 unfold shiftL
 simp only [← hl]
 have ht : (l.take j).length = j := by simp; omega
 unfold cAt
 simp only [List.getD_eq_getElem?_getD]
 by_cases h1 : i < j
 ·rw [if_pos h1, List.getElem?_append_left (by omega), List.getElem?_take, if_pos h1]
 ·rw [if_neg h1, List.getElem?_append_right (by omega), ht]
  by_cases h2 : i < cs.length - k
  ·rw [if_pos h2, List.getElem?_append_left (by simp; omega), List.getElem?_drop, show j + k + (i - j) = i + k by omega]
  ·rw [if_neg h2, List.getElem?_append_right (by simp; omega)]
   simp [List.getElem?_replicate, show i - j - (l.length - (j + k)) < k by omega]
theorem shiftR_before (h : j + k ≤ cs.length) (hj : j < cs.length) {i : Nat} (hi : i < j) : cAt (shiftR j k q cs) i = cAt (brk j cs) i := by
 rw [cAt_shiftR h (by omega), if_pos hi, cAt_brk, if_neg]
 intro h2
 rw [brk_length] at h2
 rcases Nat.lt_or_ge (cs.length - k) (j + 1) with h3 | h3
 ·have e : cs.length - k = j := by omega
  rw [e] at h2
  exact brk_before (by omega) hj h2.1.2.2
 ·omega
theorem shiftR_brk (h : j + k ≤ cs.length) (hj : j < cs.length) : brk j (shiftR j k q cs) = shiftR j k q cs :=
 brk_id (fun h1 h2 => by rw [shiftR_before h hj (by omega)]; exact brk_before h1 hj)
def W2 (cs : List Cell) : Prop := ∀ i, i + 1 < cs.length → (cAt cs i).width = 2 → ¬ (cAt cs (i + 1)).width = 2
theorem W2.brk {cs : List Cell} (h : W2 cs) (c : Nat) : W2 (brk c cs) := fun i hi h1 h2 => by
 rw [brk_length] at hi
 rw [cAt_brk] at h1 h2
 split at h1
 ·simp [blank] at h1
 ·split at h2
  ·simp [blank] at h2
  ·exact h i hi h1 h2
end
section
variable {j cols a b : Nat} {q : Pen} {cs : List Cell}
end
end Go.Proofs.YtppijfjigcoifaaDoor

namespace Go.Proofs.YtppijfjigcoifaaDoor
open Go.RowKit

def prCell (cols : Nat) (x : Cell) : Cell := if (cols : Int) < x.width then blank x.pen else x
def prAt (cols j : Nat) (x : Cell) : Nat := min j (cols - x.width.toNat)
def prRow (ins : Bool) (j cols : Nat) (x : Cell) (cs : List Cell) : List Cell := putC j x (if ins then shiftN j cols x.width x.pen cs else cs)
def prCol (cols j : Nat) (x : Cell) : Nat := if j + x.width.toNat < cols then j + x.width.toNat else cols - 1
def prPend (cols j : Nat) (x : Cell) (auto : Bool) : Bool := if j + x.width.toNat < cols then false else auto
def printL (y j cols : Nat) (x : Cell) (ins : Bool) (L : List Ln) : List Ln := rowMod y (prRow ins (prAt cols j (prCell cols x)) cols (prCell cols x)) L
section
variable {j k cols : Nat} {x : Cell} {cs : List Cell} {ins : Bool}
theorem putC_before (hk : k < j) (hw : 1 ≤ x.width.toNat) : cAt (putC j x cs) k = cAt (brk j cs) k := by
 have h : cAt ((brk (j + x.width.toNat) (brk j cs)).set j x) k = cAt (brk j cs) k := by
  rw [cAt_set, if_neg (by omega), cAt_brk, if_neg (by omega)]
 unfold putC
 simp only
 split
 ·rw [cAt_set, if_neg (by omega)]; exact h
 ·exact h
theorem brk_change (hk : k < j) (h : ¬ cAt (brk j cs) k = cAt cs k) : k + 1 = j ∧ (cAt cs k).width = 2 := by
 rw [cAt_brk] at h
 split at h
 ·next h1 =>
  have e : k + 1 = j := by omega
  refine ⟨e, ?_⟩
  have := h1.1.2.2
  rwa [show j - 1 = k by omega] at this
 ·exact absurd rfl h
theorem prRow_before (hl : cs.length = cols) (hj : j < cols) (hk : k < j) (hw : 1 ≤ x.width.toNat) : cAt (prRow ins j cols x cs) k = cAt (brk j cs) k := by
 unfold prRow
 cases ins with
 | false => exact putC_before hk hw
 | true =>
  simp only [if_true]
  rw [putC_before hk hw]
  unfold shiftN
  rw [if_neg (by omega), if_pos (by omega)]
  have hb : j + (min x.width ((cols - j : Nat) : Int)).toNat ≤ cs.length := by omega
  rw [shiftR_brk hb (by omega), shiftR_before hb (by omega) hk]
theorem prRow_change (hl : cs.length = cols) (hj : j < cols) (hk : k < j) (hw : 1 ≤ x.width.toNat) (h : ¬ cAt (prRow ins j cols x cs) k = cAt cs k) : k + 1 = j ∧ (cAt cs k).width = 2 := by
 rw [prRow_before hl hj hk hw] at h
 exact brk_change hk h
theorem prRow_length (hl : cs.length = cols) (hj : j < cols) : (prRow ins j cols x cs).length = cols := by
 unfold prRow
 rw [putC_length]
 split
 ·exact shiftN_length hl hj
 ·exact hl
theorem prCell_width (hc : 0 < cols) (hw : x.width = 1 ∨ x.width = 2) : ((prCell cols x).width = 1 ∨ (prCell cols x).width = 2) ∧ (prCell cols x).width ≤ cols := by
 unfold prCell
 split
 ·exact ⟨.inl rfl, by show (1 : Int) ≤ cols; omega⟩
 ·exact ⟨hw, by omega⟩
theorem prAt_fits (hj : j < cols) (hw : x.width = 1 ∨ x.width = 2) (h : x.width ≤ cols) : ((prAt cols j x : Nat) : Int) + x.width ≤ cols ∧ prAt cols j x < cols ∧ prAt cols j x ≤ j ∧ (¬ (x.width = 2 ∧ j = cols - 1) → prAt cols j x = j) := by
 unfold prAt
 refine ⟨?_, ?_, ?_, fun hn => ?_⟩ <;> omega
theorem prCol_lt (hc : 0 < cols) : prCol cols j x < cols := by unfold prCol; split <;> omega
theorem prPend_at {auto : Bool} (h : prPend cols j x auto = true) : prCol cols j x = cols - 1 := by
 unfold prPend at h
 unfold prCol
 split at h
 ·cases h
 ·next hn => rw [if_neg hn]
def curCol (cols col : Nat) : Nat := if col < cols then col else cols - 1
def curPend (cols col : Nat) : Bool := decide (¬ col < cols)
theorem runs_wraps {col : Nat} (hc : 0 < cols) (hcol : col ≤ cols) (hw : x.width = 1 ∨ x.width = 2) : (curPend cols col = true ∨ (x.width = 2 ∧ 1 < cols ∧ curCol cols col = cols - 1)) ↔ cols < col + (prCell cols x).width.toNat := by
 have hp : (prCell cols x).width = if (cols : Int) < x.width then 1 else x.width := by unfold prCell; split <;> rfl
 rw [hp]
 unfold curPend curCol
 rw [decide_eq_true_eq]
 by_cases h1 : col < cols
 ·rw [if_pos h1]
  split <;> rcases hw with hw | hw <;> omega
 ·rw [if_neg h1]
  split <;> rcases hw with hw | hw <;> omega
theorem runs_next {col : Nat} (hc : 0 < cols) (hw : 1 ≤ x.width.toNat) (h : col + x.width.toNat ≤ cols) : prAt cols col x = col ∧ prCol cols col x = curCol cols (col + x.width.toNat) ∧ prPend cols col x true = curPend cols (col + x.width.toNat) := by
 unfold prAt prCol prPend curCol curPend
 refine ⟨by omega, rfl, ?_⟩
 by_cases h1 : col + x.width.toNat < cols
 ·rw [if_pos h1]; simp [h1]
 ·rw [if_neg h1]; simp [h1]
end
end Go.Proofs.YtppijfjigcoifaaDoor

namespace Go.Proofs.YtppijfjigcoifaaDoor
open Go.RowKit

section
variable {w0 w : World} {os : List Ob} {k p cols : Nat} {L : List Ln}
end
end Go.Proofs.YtppijfjigcoifaaDoor

namespace Go.Proofs.YtppijfjigcoifaaDoor
open Go.RowKit

section
variable {w0 w : World} {os : List Ob} {k p cols : Nat} {L : List Ln}
end
end Go.Proofs.YtppijfjigcoifaaDoor

namespace Go.Proofs.YtppijfjigcoifaaDoor
open Go.RowKit

section
variable {w0 w : World} {os : List Ob} {k p cols : Nat} {L : List Ln} {row col : Int} {pend : Bool}
def NoRows (w : World) (gp : Value) : Prop := ∀ w', Below w.heap.size w w' → Calls Tryd.prog 17 #[gp] w' fun e w2 => e = .returned (.int .i64 0) ∧ Below w'.heap.size w' w2
theorem NoRows.bel {gp : Value} {w' : World} (h : NoRows w gp) (hb : Below w.heap.size w w') : NoRows w' gp := fun w2 hb2 => h w2 (hb.trans (hb2.mono hb.size))
end
end Go.Proofs.YtppijfjigcoifaaDoor

namespace Go.Proofs.YtppijfjigcoifaaDoor
open Go.RowKit

structure Chg18 where
 g : Value
 row : Int
 col : Int
 pend : Bool
 top : Int
 bot : Int
 rows : Bool
 n : Int
 q : Pen
def ach (a : Chg18) : Array Value := #[a.g, .int .i64 a.row, .int .i64 a.col, .bool a.pend, .int .i64 a.top, .int .i64 a.bot, .bool a.rows, .int .i64 a.n, .int .i64 a.q.fk, .int .u8 a.q.fi, .int .u8 a.q.fr, .int .u8 a.q.fg, .int .u8 a.q.fb, .int .i64 a.q.bk, .int .u8 a.q.bi, .int .u8 a.q.br, .int .u8 a.q.bg, .int .u8 a.q.bb, .int .u8 a.q.fl]
@[go_sem] theorem ach_size (a : Chg18) : (ach a).size = 19 := by simp [ach]
@[simp high, go_sem high] theorem ach_get0 (a : Chg18) : (ach a)[0]? = some a.g := by simp [ach]
@[simp high, go_sem high] theorem ach_get1 (a : Chg18) : (ach a)[1]? = some (.int .i64 a.row) := by simp [ach]
@[simp high, go_sem high] theorem ach_get2 (a : Chg18) : (ach a)[2]? = some (.int .i64 a.col) := by simp [ach]
@[simp high, go_sem high] theorem ach_get3 (a : Chg18) : (ach a)[3]? = some (.bool a.pend) := by simp [ach]
@[simp high, go_sem high] theorem ach_get4 (a : Chg18) : (ach a)[4]? = some (.int .i64 a.top) := by simp [ach]
@[simp high, go_sem high] theorem ach_get5 (a : Chg18) : (ach a)[5]? = some (.int .i64 a.bot) := by simp [ach]
@[simp high, go_sem high] theorem ach_get6 (a : Chg18) : (ach a)[6]? = some (.bool a.rows) := by simp [ach]
@[simp high, go_sem high] theorem ach_get7 (a : Chg18) : (ach a)[7]? = some (.int .i64 a.n) := by simp [ach]
theorem ach_pen {w : World} {b o : Nat} {a : Chg18} (h : w.rangeAt b o (ach a).toList) : penAt w b (o + 8) = some a.q := penAt_of fun j v hv => by
 have := h (8 + j) v (by rw [← hv]; show ((ach a).toList)[8 + j]? = _; rw [← List.getElem?_drop]; rfl)
 rw [show o + 8 + j = o + (8 + j) by omega]; exact this
theorem Blk.ach_pen {w : World} {g : Nat} {t : TypeId} {a : Chg18} (h : Blk w g t (ach a)) : Proofs.YtppijfjigcoifaaDoor.penAt w g 8 = some a.q := by have := Proofs.YtppijfjigcoifaaDoor.ach_pen h.range; simpa using this
section
variable {w0 w : World} {os : List Ob} {k p cols : Nat} {L : List Ln}
end
end Go.Proofs.YtppijfjigcoifaaDoor

namespace Go.Proofs.YtppijfjigcoifaaDoor
open Go.RowKit

@[go_sem ↓] theorem load_ldR19 (a : Addr) : loadCellsFrom a 0 19 #[] = ldR a 19 := rfl
@[go_sem] theorem fill_ach (g : Value) (r c t b n : Int) (pe ro : Bool) (q : Pen) : Array.foldl (fun cs x => cs.setIfInBounds (8 + x.snd) x.fst) #[g, .int .i64 r, .int .i64 c, .bool pe, .int .i64 t, .int .i64 b, .bool ro, .int .i64 n, .int .i64 0, .int .u8 0, .int .u8 0, .int .u8 0, .int .u8 0, .int .i64 0, .int .u8 0, .int .u8 0, .int .u8 0, .int .u8 0, .int .u8 0] (pv q).zipIdx 0 11 = ach ⟨g, r, c, pe, t, b, ro, n, q⟩ := by kernel_rfl
theorem Blk.ach {w : World} {g : Nat} {t : TypeId} {a : Chg18} (h : Blk w g t (Proofs.YtppijfjigcoifaaDoor.ach a)) : (∀ i, w.cell? ⟨g, i, none⟩ = (Proofs.YtppijfjigcoifaaDoor.ach a)[i]?) ∧ (∀ i, w.frozen? ⟨g, i, none⟩ = false) ∧ g < w.heap.size ∧ Proofs.YtppijfjigcoifaaDoor.recAt w g 0 19 = some (Proofs.YtppijfjigcoifaaDoor.ach a) ∧ Proofs.YtppijfjigcoifaaDoor.penAt w g 8 = some a.q :=
 ⟨h.cell, h.frozen, h.lt, h.recAt 19 (ach_size a), h.ach_pen⟩
def NoGrid (w : World) (gp : Value) : Prop := NoRows w gp ∧ ∀ w', Below w.heap.size w w' → Calls Tryd.prog 18 #[gp] w' fun e w2 => e = .returned (.int .i64 0) ∧ Below w'.heap.size w' w2
theorem NoGrid.bel {w w' : World} {gp : Value} (h : NoGrid w gp) (hb : Below w.heap.size w w') : NoGrid w' gp := ⟨h.1.bel hb, fun w2 hb2 => h.2 w2 (hb.trans (hb2.mono hb.size))⟩
section
variable {w0 w : World} {os : List Ob} {k p cols : Nat} {L : List Ln}
end
end Go.Proofs.YtppijfjigcoifaaDoor

namespace Go.Proofs.YtppijfjigcoifaaDoor
open Go.RowKit

theorem eqIn_cursor (a b c d : Int) (x y : Bool) (w : World) : (Op.equalIn 10000 48 (.agg #[.int .i64 a, .int .i64 b, .bool x]) (.agg #[.int .i64 c, .int .i64 d, .bool y])).run Tryd.prog w = .ok (decide (a = c ∧ b = d ∧ x = y)) w := by
 by_cases h0 : a = c
 case neg => simp [go_sem, h0]
 by_cases h1 : b = d
 case neg => simp [go_sem, h0, h1]
 cases x <;> cases y <;> simp [go_sem, h0, h1]
section
variable {w0 w : World} {os : List Ob} {k p cols : Nat} {L : List Ln}
end
end Go.Proofs.YtppijfjigcoifaaDoor

namespace Go.Proofs.YtppijfjigcoifaaDoor
open Go.RowKit

theorem loadVar_blk {P : Program} {w : World} {g : Nat} {t ty : TypeId} {cs : Array Value} {d : TypeDesc} (h : Blk w g t cs) (hu : P.underlying ty = some d) (hd : (match d with | .struct _ | .array _ _ => true | _ => false) = true) (hi : (P.info? ty).map (·.size) = some cs.size) : (loadVar ty ⟨g, 0, none⟩).run P w = .ok (.agg cs) w := by
 exact run_loadVar_row w g t ty cs (0, 0) d h hu hd hi
theorem results_cell1 {P : Program} {fn : Func} {p : Tmp} {ty : TypeId} (h : fn.results = #[.cell p ty]) (tmps : Array Value) (w : World) (g : Nat) (t : TypeId) (cs : Array Value) (d : TypeDesc) (hp : tmps.getD p undef = .pointer (some ⟨g, 0, none⟩)) (hb : Blk w g t cs)
  (hu : P.underlying ty = some d) (hd : (match d with | .struct _ | .array _ _ => true | _ => false) = true) (hi : (P.info? ty).map (·.size) = some cs.size) : (results fn tmps).run P w = .ok (.agg cs) w := by
 have hp' : tmps[p]?.getD undef = .pointer (some ⟨g, 0, none⟩) := by simpa using hp
 simp [results, h, hp', asAddr, loadVar_blk hb hu hd hi]
section
variable {w0 w : World} {os : List Ob} {k p cols : Nat} {L : List Ln}
end
end Go.Proofs.YtppijfjigcoifaaDoor

namespace Go.Proofs.YtppijfjigcoifaaDoor
open Go.RowKit

section
variable {w0 w : World} {os : List Ob} {k p cols : Nat} {L : List Ln}
end
end Go.Proofs.YtppijfjigcoifaaDoor

namespace Go.Proofs.YtppijfjigcoifaaDoor
open Go.RowKit

section
variable {w0 w : World} {os : List Ob} {k p cols : Nat} {L : List Ln}
end
end Go.Proofs.YtppijfjigcoifaaDoor

namespace Go.Proofs.YtppijfjigcoifaaDoor
open Go.RowKit

@[go_sem ↓] theorem load_ldR18b (a : Addr) : loadCellsFrom a 0 18 #[] = ldR a 18 := rfl
attribute [go_sem high] eqIn_cursor
structure Act19 where
 what : Int
 n : Int
 top : Int
 bot : Int
 row : Int
 col : Int
 pend : Bool
 q : Pen
def av19 (a : Act19) : Array Value := #[.int .i64 a.what, .int .i64 a.n, .int .i64 a.top, .int .i64 a.bot, .int .i64 a.row, .int .i64 a.col, .bool a.pend, .int .i64 a.q.fk, .int .u8 a.q.fi, .int .u8 a.q.fr, .int .u8 a.q.fg, .int .u8 a.q.fb, .int .i64 a.q.bk, .int .u8 a.q.bi, .int .u8 a.q.br, .int .u8 a.q.bg, .int .u8 a.q.bb, .int .u8 a.q.fl]
@[go_sem] theorem av19_size (a : Act19) : (av19 a).size = 18 := by simp [av19]
@[simp high, go_sem high] theorem av19_get0 (a : Act19) : (av19 a)[0]? = some (.int .i64 a.what) := by simp [av19]
@[simp high, go_sem high] theorem av19_get1 (a : Act19) : (av19 a)[1]? = some (.int .i64 a.n) := by simp [av19]
@[simp high, go_sem high] theorem av19_get2 (a : Act19) : (av19 a)[2]? = some (.int .i64 a.top) := by simp [av19]
@[simp high, go_sem high] theorem av19_get3 (a : Act19) : (av19 a)[3]? = some (.int .i64 a.bot) := by simp [av19]
@[simp high, go_sem high] theorem av19_get4 (a : Act19) : (av19 a)[4]? = some (.int .i64 a.row) := by simp [av19]
@[simp high, go_sem high] theorem av19_get5 (a : Act19) : (av19 a)[5]? = some (.int .i64 a.col) := by simp [av19]
@[simp high, go_sem high] theorem av19_get6 (a : Act19) : (av19 a)[6]? = some (.bool a.pend) := by simp [av19]
@[go_sem] theorem av19_set0 (a : Act19) (n : Int) : (av19 a).setIfInBounds 0 (.int .i64 n) = av19 { a with what := n } := by simp [av19]
@[go_sem] theorem av19_set1 (a : Act19) (n : Int) : (av19 a).setIfInBounds 1 (.int .i64 n) = av19 { a with n := n } := by simp [av19]
end Go.Proofs.YtppijfjigcoifaaDoor

namespace Go.Proofs.YtppijfjigcoifaaDoor
open Go.RowKit

section
variable {w0 w : World} {os : List Ob}
end
end Go.Proofs.YtppijfjigcoifaaDoor

namespace Go.Proofs.YtppijfjigcoifaaDoor
open Go.RowKit

@[go_sem ↓] theorem load_ldR34 (a : Addr) : loadCellsFrom a 0 34 #[] = ldR a 34 := rfl
structure Act14 where
 what : Int
 row : Int
 a : Int
 b : Int
 n : Int
 x : Cell
 A : Option Addr
 c : Nat
 cs : List Cell
 soft : Bool
 q : Pen
def av14 (a : Act14) : Array Value := #[.int .i64 a.what, .int .i64 a.row, .int .i64 a.a, .int .i64 a.b, .int .i64 a.n, .int .i32 a.x.rune, .int .i32 a.x.m0, .int .i32 a.x.m1, .int .i32 a.x.m2, .int .i64 a.x.width, .int .i64 a.x.pen.fk, .int .u8 a.x.pen.fi, .int .u8 a.x.pen.fr, .int .u8 a.x.pen.fg, .int .u8 a.x.pen.fb, .int .i64 a.x.pen.bk, .int .u8 a.x.pen.bi, .int .u8 a.x.pen.br, .int .u8 a.x.pen.bg, .int .u8 a.x.pen.bb, .int .u8 a.x.pen.fl, .slice a.A a.cs.length a.c, .bool a.soft, .int .i64 a.q.fk, .int .u8 a.q.fi, .int .u8 a.q.fr, .int .u8 a.q.fg, .int .u8 a.q.fb, .int .i64 a.q.bk, .int .u8 a.q.bi, .int .u8 a.q.br, .int .u8 a.q.bg, .int .u8 a.q.bb, .int .u8 a.q.fl]
@[go_sem] theorem av14_size (a : Act14) : (av14 a).size = 34 := by simp [av14]
@[simp high, go_sem high] theorem av14_get0 (a : Act14) : (av14 a)[0]? = some (.int .i64 a.what) := by simp [av14]
@[simp high, go_sem high] theorem av14_get1 (a : Act14) : (av14 a)[1]? = some (.int .i64 a.row) := by simp [av14]
@[simp high, go_sem high] theorem av14_get2 (a : Act14) : (av14 a)[2]? = some (.int .i64 a.a) := by simp [av14]
@[simp high, go_sem high] theorem av14_get3 (a : Act14) : (av14 a)[3]? = some (.int .i64 a.b) := by simp [av14]
@[simp high, go_sem high] theorem av14_get4 (a : Act14) : (av14 a)[4]? = some (.int .i64 a.n) := by simp [av14]
@[simp high, go_sem high] theorem av14_get9 (a : Act14) : (av14 a)[9]? = some (.int .i64 a.x.width) := by simp [av14]
@[simp high, go_sem high] theorem av14_get21 (a : Act14) : (av14 a)[21]? = some (.slice a.A a.cs.length a.c) := by simp [av14]
@[simp high, go_sem high] theorem av14_get22 (a : Act14) : (av14 a)[22]? = some (.bool a.soft) := by simp [av14]
end Go.Proofs.YtppijfjigcoifaaDoor

namespace Go.Proofs.YtppijfjigcoifaaDoor
open Go.RowKit

section
variable {w0 w : World} {os : List Ob} {cs : List Cell} {x : Cell} {v : Value} {L : List Ln} {l : Ln}
theorem Objs.ownAt {k j : Nat} (hS : Objs w0 w os) (hk : os[k]? = some (.cells v cs)) (hj : cs[j]? = some x) : ∃ g c, v = .slice (some ⟨g, 0, none⟩) cs.length c ∧ g < w.heap.size ∧ w.cell? ⟨g, j * 16 + 4, none⟩ = some (.int .i64 x.width) ∧ (∀ i, w.frozen? ⟨g, i, none⟩ = false) := by
 have hl := (List.getElem?_eq_some_iff.1 hj).1
 obtain ⟨A, c, rfl, -, -, -, h⟩ := own_form (hS.own hk)
 obtain ⟨g, rfl, hz, hc, hf⟩ := h (by omega)
 refine ⟨g, c, rfl, hz, ?_, hf⟩
 rw [hc _ (by omega), flat_at cs j 4 x hj (by decide)]
 simp
end
end Go.Proofs.YtppijfjigcoifaaDoor

namespace Go.Proofs.YtppijfjigcoifaaDoor
open Go.RowKit

section
variable {w0 w : World} {os : List Ob} {k p cols : Nat} {L : List Ln}
end
end Go.Proofs.YtppijfjigcoifaaDoor

namespace Go.Proofs.YtppijfjigcoifaaDoor
open Go.RowKit

structure RowC (cs : List Cell) (k : Nat) : Prop where
 ok : (cAt cs k).ok = true
 zero : (cAt cs k).width = 0 ↔ 1 ≤ k ∧ (cAt cs (k - 1)).width = 2
 pen : 1 ≤ k → (cAt cs (k - 1)).width = 2 → (cAt cs k).pen = (cAt cs (k - 1)).pen
 last : (cAt cs k).width = 2 → k + 1 < cs.length
def RowV (cs : List Cell) : Prop := ∀ k, k < cs.length → RowC cs k
theorem behind_is (cs : List Cell) (k : Nat) : behindAt cs k = true ↔ 1 ≤ k ∧ (cAt cs (k - 1)).width = 2 := by
 cases k with
 | zero => simp [behindAt]
 | succ k => simp [behindAt]
theorem rowAt_is {cs : List Cell} {k : Nat} (hk : k < cs.length) : rowAt cs k = true ↔ RowC cs k := by
 have hb := behind_is cs k
 unfold rowAt
 constructor
 ·intro h
  simp only [Bool.and_eq_true, Bool.not_eq_true', Bool.or_eq_true, beq_iff_eq, decide_eq_true_eq] at h
  obtain ⟨⟨⟨h1, h2⟩, h3⟩, h4⟩ := h
  refine ⟨h1, ?_, ?_, ?_⟩
  ·rw [← hb, ← h2, decide_eq_true_eq]
  ·intro a b
   rcases h3 with h3 | h3
   ·have := hb.2 ⟨a, b⟩; rw [h3] at this; cases this
   ·exact h3
  ·intro a
   rcases Nat.lt_or_ge (k + 1) cs.length with h5 | h5
   ·exact h5
   ·have e : k + 1 = cs.length := by omega
    simp [a, e] at h4
 ·rintro ⟨h1, h2, h3, h4⟩
  simp only [Bool.and_eq_true, Bool.not_eq_true', Bool.or_eq_true, beq_iff_eq, decide_eq_true_eq]
  refine ⟨⟨⟨h1, ?_⟩, ?_⟩, ?_⟩
  ·rw [Bool.eq_iff_iff, decide_eq_true_eq, hb]; exact h2
  ·cases hbb : behindAt cs k with
   | false => exact .inl rfl
   | true => obtain ⟨a, b⟩ := hb.1 hbb; exact .inr (h3 a b)
  ·rw [Bool.and_eq_false_iff]
   by_cases a : (cAt cs k).width = 2
   ·exact .inr (by have := h4 a; simp; omega)
   ·exact .inl (by simpa using a)
theorem rowOk_is {cs : List Cell} : rowOk cs = true ↔ RowV cs := by
 constructor
 ·intro h k hk; exact (rowAt_is hk).1 (rowOk_at h hk)
 ·intro h; exact rowOk_yes fun k hk => (rowAt_is hk).2 (h k hk)
theorem ok_penV {c : Cell} (h : c.ok = true) : c.pen.ok = true := by unfold Cell.ok at h; rw [Bool.and_eq_true] at h; exact h.1
theorem blank_ok' {p : Pen} (h : p.ok = true) : (blank p).ok = true := by rw [ok_blank]; exact h
theorem spacer_ok {p : Pen} (h : p.ok = true) : (spacer p).ok = true := by simp [Cell.ok, spacer, h, Cell.noMarks]
section
variable {cs : List Cell} {c j k : Nat} {x : Cell} {q : Pen}
theorem RowV.brk (h : RowV cs) (c : Nat) : RowV (brk c cs) := by
 intro k hk
 rw [brk_length] at hk
 have hg := cAt_brk c cs
 by_cases hc : 1 ≤ c ∧ c < cs.length ∧ (cAt cs (c - 1)).width = 2
 ·have h0 := h k hk
  have h1 := h (c - 1) (by omega)
  have h2 := h c hc.2.1
  refine ⟨?_, ?_, ?_, ?_⟩
  ·rw [hg]; split
   ·exact blank_ok' (ok_penV h0.ok)
   ·exact h0.ok
  ·rw [hg, hg]
   have z0 := h0.zero
   have z1 := h1.zero
   have z2 := h2.zero
   have w0 : ∀ p, (blank p).width = 1 := fun _ => rfl
   grind
  ·rw [hg, hg]
   have z0 := h0.pen
   have w0 : ∀ p, (blank p).width = 1 := fun _ => rfl
   have w1 : ∀ p, (blank p).pen = p := fun _ => rfl
   grind
  ·rw [hg, brk_length]
   have z0 := h0.last
   have w0 : ∀ p, (blank p).width = 1 := fun _ => rfl
   grind
 ·have e : ∀ i, cAt (Proofs.YtppijfjigcoifaaDoor.brk c cs) i = cAt cs i := fun i => by rw [hg, if_neg (fun a => hc a.1)]
  have h0 := h k hk
  exact ⟨by rw [e]; exact h0.ok, by rw [e, e]; exact h0.zero, by rw [e, e]; exact h0.pen, by rw [e, brk_length]; exact h0.last⟩
def CutAt (cs : List Cell) (c : Nat) : Prop := 1 ≤ c → c < cs.length → ¬ (cAt cs (c - 1)).width = 2
theorem cut_brk (c : Nat) (cs : List Cell) : CutAt (brk c cs) c := fun h1 h2 => brk_before h1 (by rwa [brk_length] at h2)
theorem CutAt.brk (h : CutAt cs j) (c : Nat) : CutAt (brk c cs) j := fun h1 h2 => by
 rw [brk_length] at h2
 rw [cAt_brk]
 split
 ·simp [blank]
 ·exact h h1 h2
theorem RowV.put (h : RowV cs) (hx : x.ok = true) (hw : x.width = 1 ∨ x.width = 2) (hj : (j : Int) + x.width ≤ cs.length) : RowV (putC j x cs) := by
 obtain ⟨b, hb⟩ : ∃ b, b = Proofs.YtppijfjigcoifaaDoor.brk (j + x.width.toNat) (Proofs.YtppijfjigcoifaaDoor.brk j cs) := ⟨_, rfl⟩
 have hbl : b.length = cs.length := by rw [hb, brk_length, brk_length]
 have hv : RowV b := by rw [hb]; exact (h.brk j).brk _
 have hc1 : CutAt b j := by rw [hb]; exact (cut_brk j cs).brk _
 have hc2 : CutAt b (j + x.width.toNat) := by rw [hb]; exact cut_brk _ _
 have hg : ∀ i, cAt (putC j x cs) i = if x.width = 2 ∧ i = j + 1 ∧ j + 1 < cs.length then spacer x.pen else if i = j then x else cAt b i := fun i => by
  unfold putC
  simp only [← hb]
  by_cases h2 : x.width = 2
  ·rw [if_pos h2, cAt_set, cAt_set, List.length_set, hbl]; grind
  ·rw [if_neg h2, cAt_set, hbl]; grind
 intro k hk
 rw [putC_length] at hk
 have hk2 : k < b.length := by omega
 have h0 := hv k hk2
 have w0 : ∀ p, (spacer p).width = 0 := fun _ => rfl
 have w1 : ∀ p, (spacer p).pen = p := fun _ => rfl
 have z0 := h0.zero
 have z1 := h0.pen
 have z2 := h0.last
 unfold CutAt at hc1 hc2
 have hxw : x.width.toNat = 1 ∨ x.width.toNat = 2 := by omega
 refine ⟨?_, ?_, ?_, ?_⟩
 ·rw [hg]; split
  ·exact spacer_ok (ok_penV hx)
  ·split
   ·exact hx
   ·exact h0.ok
 ·rw [hg, hg]
  rcases hw with hw | hw
  ·have e : x.width.toNat = 1 := by omega
   rw [e] at hc2
   grind
  ·have e : x.width.toNat = 2 := by omega
   rw [e] at hc2
   grind
 ·rw [hg, hg]
  rcases hw with hw | hw
  ·grind
  ·grind
 ·rw [hg, putC_length]
  rcases hw with hw | hw
  ·grind
  ·grind
theorem RowV.clear {f t : Nat} (h : RowV cs) (hq : q.ok = true) (ht : t ≤ cs.length) : RowV (clearC f t q cs) := by
 by_cases hft : f < t
 case neg => unfold clearC; rw [if_neg hft]; exact h
 obtain ⟨b, hb⟩ : ∃ b, b = Proofs.YtppijfjigcoifaaDoor.brk t (Proofs.YtppijfjigcoifaaDoor.brk f cs) := ⟨_, rfl⟩
 have hbl : b.length = cs.length := by rw [hb, brk_length, brk_length]
 have hv : RowV b := by rw [hb]; exact (h.brk f).brk _
 have hc1 : CutAt b f := by rw [hb]; exact (cut_brk f cs).brk _
 have hc2 : CutAt b t := by rw [hb]; exact cut_brk _ _
 have hg : ∀ i, i < cs.length → cAt (clearC f t q cs) i = if f ≤ i ∧ i < t then blank q else cAt b i := fun i hi => by
  unfold clearC
  rw [if_pos hft, ← hb]
  rw [cAt_wipe (by rw [hbl]; omega), show f + (t - f) = t by omega]
 intro k hk
 rw [clearC_length ht] at hk
 have h0 := hv k (by omega)
 have w0 : ∀ p, (blank p).width = 1 := fun _ => rfl
 have z0 := h0.zero
 have z1 := h0.pen
 have z2 := h0.last
 have hgk := hg k hk
 have hgk1 : 1 ≤ k → cAt (clearC f t q cs) (k - 1) = if f ≤ k - 1 ∧ k - 1 < t then blank q else cAt b (k - 1) := fun _ => hg (k - 1) (by omega)
 unfold CutAt at hc1 hc2
 refine ⟨?_, ?_, ?_, ?_⟩
 ·rw [hgk]; split
  ·exact blank_ok' hq
  ·exact h0.ok
 ·rw [hgk]; grind
 ·rw [hgk]; grind
 ·rw [hgk, clearC_length ht]; grind
theorem RowV.shiftR (h : RowV cs) (hq : q.ok = true) (hjk : j + k ≤ cs.length) (hk0 : 0 < k) : RowV (shiftR j k q cs) := by
 obtain ⟨b, hb⟩ : ∃ b, b = Proofs.YtppijfjigcoifaaDoor.brk (cs.length - k) (Proofs.YtppijfjigcoifaaDoor.brk j cs) := ⟨_, rfl⟩
 have hbl : b.length = cs.length := by rw [hb, brk_length, brk_length]
 have hv : RowV b := by rw [hb]; exact (h.brk j).brk _
 have hc1 : CutAt b j := by rw [hb]; exact (cut_brk j cs).brk _
 have hc2 : CutAt b (cs.length - k) := by rw [hb]; exact cut_brk _ _
 have hg : ∀ i, i < cs.length → cAt (Proofs.YtppijfjigcoifaaDoor.shiftR j k q cs) i = if i < j then cAt b i else if i < j + k then blank q else cAt b (i - k) := fun i hi => by rw [cAt_shiftR hjk hi, ← hb]
 intro i hi
 rw [shiftR_length hjk] at hi
 have w0 : ∀ p, (blank p).width = 1 := fun _ => rfl
 have hgi := hg i hi
 have hgi1 : 1 ≤ i → cAt (Proofs.YtppijfjigcoifaaDoor.shiftR j k q cs) (i - 1) = if i - 1 < j then cAt b (i - 1) else if i - 1 < j + k then blank q else cAt b (i - 1 - k) := fun _ => hg (i - 1) (by omega)
 unfold CutAt at hc1 hc2
 by_cases h1 : i < j
 ·have h0 := hv i (by omega)
  rw [if_pos h1] at hgi
  have e1 : 1 ≤ i → cAt (Proofs.YtppijfjigcoifaaDoor.shiftR j k q cs) (i - 1) = cAt b (i - 1) := fun a => by rw [hgi1 a, if_pos (by omega)]
  refine ⟨by rw [hgi]; exact h0.ok, ?_, ?_, ?_⟩
  ·rw [hgi]; have := h0.zero; grind
  ·rw [hgi]; have := h0.pen; grind
  ·rw [hgi, shiftR_length hjk]; have := h0.last; grind
 rw [if_neg h1] at hgi
 by_cases h2 : i < j + k
 ·rw [if_pos h2] at hgi
  refine ⟨by rw [hgi]; exact blank_ok' hq, ?_, ?_, ?_⟩
  ·rw [hgi]; grind
  ·rw [hgi]; grind
  ·rw [hgi]; intro a; cases a
 rw [if_neg h2] at hgi
 have h0 := hv (i - k) (by omega)
 have z0 := h0.zero
 have z1 := h0.pen
 have z2 := h0.last
 by_cases h3 : i = j + k
 ·subst h3
  have e1 : cAt (Proofs.YtppijfjigcoifaaDoor.shiftR j k q cs) (j + k - 1) = blank q := by rw [hgi1 (by omega), if_neg (by omega), if_pos (by omega)]
  rw [show j + k - k = j by omega] at hgi h0 z0 z1 z2
  refine ⟨by rw [hgi]; exact h0.ok, ?_, ?_, ?_⟩
  ·rw [hgi, e1]; grind
  ·rw [hgi, e1]; grind
  ·rw [hgi, shiftR_length hjk]; grind
 ·have e1 : cAt (Proofs.YtppijfjigcoifaaDoor.shiftR j k q cs) (i - 1) = cAt b (i - k - 1) := by rw [hgi1 (by omega), if_neg (by omega), if_neg (by omega)]; congr 1; omega
  refine ⟨by rw [hgi]; exact h0.ok, ?_, ?_, ?_⟩
  ·rw [hgi, e1]; grind
  ·rw [hgi, e1]; grind
  ·rw [hgi, shiftR_length hjk]; grind
theorem RowV.shiftL (h : RowV cs) (hq : q.ok = true) (hjk : j + k ≤ cs.length) (hk0 : 0 < k) : RowV (shiftL j k q cs) := by
 obtain ⟨b, hb⟩ : ∃ b, b = Proofs.YtppijfjigcoifaaDoor.brk (j + k) (Proofs.YtppijfjigcoifaaDoor.brk j cs) := ⟨_, rfl⟩
 have hbl : b.length = cs.length := by rw [hb, brk_length, brk_length]
 have hv : RowV b := by rw [hb]; exact (h.brk j).brk _
 have hc1 : CutAt b j := by rw [hb]; exact (cut_brk j cs).brk _
 have hc2 : CutAt b (j + k) := by rw [hb]; exact cut_brk _ _
 have hg : ∀ i, i < cs.length → cAt (Proofs.YtppijfjigcoifaaDoor.shiftL j k q cs) i = if i < j then cAt b i else if i < cs.length - k then cAt b (i + k) else blank q := fun i hi => by rw [cAt_shiftL hjk hi, ← hb]
 intro i hi
 rw [shiftL_length hjk] at hi
 have w0 : ∀ p, (blank p).width = 1 := fun _ => rfl
 have hgi := hg i hi
 have hgi1 : 1 ≤ i → cAt (Proofs.YtppijfjigcoifaaDoor.shiftL j k q cs) (i - 1) = if i - 1 < j then cAt b (i - 1) else if i - 1 < cs.length - k then cAt b (i - 1 + k) else blank q := fun _ => hg (i - 1) (by omega)
 unfold CutAt at hc1 hc2
 by_cases h1 : i < j
 ·have h0 := hv i (by omega)
  rw [if_pos h1] at hgi
  have e1 : 1 ≤ i → cAt (Proofs.YtppijfjigcoifaaDoor.shiftL j k q cs) (i - 1) = cAt b (i - 1) := fun a => by rw [hgi1 a, if_pos (by omega)]
  refine ⟨by rw [hgi]; exact h0.ok, ?_, ?_, ?_⟩
  ·rw [hgi]; have := h0.zero; grind
  ·rw [hgi]; have := h0.pen; grind
  ·rw [hgi, shiftL_length hjk]; have := h0.last; grind
 rw [if_neg h1] at hgi
 by_cases h2 : i < cs.length - k
 ·rw [if_pos h2] at hgi
  have h0 := hv (i + k) (by omega)
  have z0 := h0.zero
  have z1 := h0.pen
  have z2 := h0.last
  by_cases h3 : i = j
  ·subst h3
   have e1 : 1 ≤ i → cAt (Proofs.YtppijfjigcoifaaDoor.shiftL i k q cs) (i - 1) = cAt b (i - 1) := fun a => by rw [hgi1 a, if_pos (by omega)]
   refine ⟨by rw [hgi]; exact h0.ok, ?_, ?_, ?_⟩
   ·rw [hgi]; grind
   ·rw [hgi]; grind
   ·rw [hgi, shiftL_length hjk]; grind
  ·have e1 : cAt (Proofs.YtppijfjigcoifaaDoor.shiftL j k q cs) (i - 1) = cAt b (i + k - 1) := by rw [hgi1 (by omega), if_neg (by omega), if_pos (by omega)]; congr 1; omega
   refine ⟨by rw [hgi]; exact h0.ok, ?_, ?_, ?_⟩
   ·rw [hgi, e1]; grind
   ·rw [hgi, e1]; grind
   ·rw [hgi, shiftL_length hjk]; grind
 ·rw [if_neg h2] at hgi
  have hl : ¬ (cAt b (cs.length - 1)).width = 2 := fun a => by have := (hv (cs.length - 1) (by omega)).last a; omega
  have e1 : 1 ≤ i → ¬ (cAt (Proofs.YtppijfjigcoifaaDoor.shiftL j k q cs) (i - 1)).width = 2 := fun a => by
   rw [hgi1 a]
   split
   ·rw [show i - 1 = j - 1 by omega]; exact hc1 (by omega) (by omega)
   ·split
    ·rw [show i - 1 + k = cs.length - 1 by omega]; exact hl
    ·intro e; cases e
  refine ⟨by rw [hgi]; exact blank_ok' hq, ?_, ?_, ?_⟩
  ·rw [hgi]; grind
  ·rw [hgi]; grind
  ·rw [hgi]; intro a; cases a
theorem putC_same (h : RowV cs) (hj : j < cs.length) (h0 : ¬ (cAt cs j).width = 0) (hw : x.width = (cAt cs j).width) (hp : x.pen = (cAt cs j).pen) (hs : ∀ i, i < cs.length → (cAt cs i).width = 0 → cAt cs i = spacer (cAt cs i).pen) : putC j x cs = cs.set j x := by
 have h1 : Proofs.YtppijfjigcoifaaDoor.brk j cs = cs := brk_id fun a b c => by
  have := (h j hj).zero.2 ⟨a, c⟩
  exact h0 this
 have h2 : Proofs.YtppijfjigcoifaaDoor.brk (j + x.width.toNat) cs = cs := brk_id fun a b c => by
  have hw3 := ok_width (h j hj).ok
  rw [hw] at a b c
  rcases hw3 with e | e | e
  ·exact h0 e
  ·rw [e, show j + (1 : Int).toNat - 1 = j by simp] at c; omega
  ·rw [e, show j + (2 : Int).toNat - 1 = j + 1 by simp] at c
   have hl := (h j hj).last e
   have := (h (j + 1) hl).zero.2 ⟨by omega, by rw [Nat.add_sub_cancel]; exact e⟩
   omega
 unfold putC
 simp only [h1, h2]
 split
 ·next e =>
  have e2 : (cAt cs j).width = 2 := by rw [← hw]; exact e
  have hl := (h j hj).last e2
  have hz := (h (j + 1) hl).zero.2 ⟨by omega, by rw [Nat.add_sub_cancel]; exact e2⟩
  have hpn := (h (j + 1) hl).pen (by omega) (by rw [Nat.add_sub_cancel]; exact e2)
  rw [Nat.add_sub_cancel] at hpn
  have hsp := hs (j + 1) hl hz
  rw [hpn, ← hp] at hsp
  apply List.ext_getElem?
  intro r
  by_cases hr : r = j + 1
  ·subst hr
   rw [List.getElem?_set_self (by rw [List.length_set]; exact hl), List.getElem?_set_ne (by omega), List.getElem?_eq_getElem hl, ← hsp, cAt_eq hl]
  ·rw [List.getElem?_set_ne (by omega)]
 ·rfl
theorem zero_spacer {c : Cell} (h : c.ok = true) (hw : c.width = 0) : c = spacer c.pen := by
 obtain ⟨r, m0, m1, m2, wd, p⟩ := c
 simp only at hw
 subst hw
 unfold Cell.ok at h
 rw [Bool.and_eq_true] at h
 have h2 := h.2
 by_cases hr : r = 0
 ·subst hr
  simp only [if_true] at h2
  rw [Bool.and_eq_true] at h2
  have h3 := h2.2
  unfold Cell.noMarks at h3
  simp only [Bool.and_eq_true, decide_eq_true_eq, beq_iff_eq] at h3
  obtain ⟨h4, h5⟩ := h3
  simp_all [spacer]
 ·simp [hr] at h2
end
def AllV (L : List Ln) : Prop := ∀ l ∈ L, RowV l.1
theorem AllV.lnMod {L : List Ln} (h : AllV L) (i : Nat) {F : Ln → Ln} (hF : ∀ l : Ln, l ∈ L → RowV (F l).1) : AllV (lnMod i F L) := by
 unfold Proofs.YtppijfjigcoifaaDoor.lnMod
 split
 ·rename_i l hl
  intro x hx
  rcases List.mem_or_eq_of_mem_set hx with h1 | rfl
  ·exact h x h1
  ·exact hF l (List.mem_of_getElem? hl)
 ·exact h
theorem rowV_blanks {n : Nat} {q : Pen} (hq : q.ok = true) : RowV (List.replicate n (blank q)) := fun k hk => by
 rw [List.length_replicate] at hk
 have e : ∀ i, i < n → cAt (List.replicate n (blank q)) i = blank q := fun i hi => by rw [cAt_eq (by simpa using hi)]; simp
 refine ⟨by rw [e k hk]; exact blank_ok' hq, ?_, ?_, ?_⟩
 ·rw [e k hk]
  constructor
  ·intro a; cases a
  ·rintro ⟨a, b⟩; rw [e (k - 1) (by omega)] at b; cases b
 ·intro a b; rw [e (k - 1) (by omega)] at b; cases b
 ·rw [e k hk]; intro a; cases a
end Go.Proofs.YtppijfjigcoifaaDoor

namespace Go.Proofs.YtppijfjigcoifaaDoor
open Go.RowKit

section
variable {cs : List Cell} {j k cols : Nat} {x : Cell} {q : Pen} {n : Int}
theorem RowV.shiftN (h : RowV cs) (hq : q.ok = true) (hl : cs.length = cols) (hj : j < cols) : RowV (shiftN j cols n q cs) := by
 unfold Proofs.YtppijfjigcoifaaDoor.shiftN
 by_cases h0 : n = 0
 ·rw [if_pos h0]; exact h
 rw [if_neg h0]
 split
 ·exact h.shiftR hq (by omega) (by omega)
 ·exact h.shiftL hq (by omega) (by omega)
theorem RowV.print {ins : Bool} (h : RowV cs) (hx : x.ok = true) (hw : x.width = 1 ∨ x.width = 2) (hl : cs.length = cols) (hj : (j : Int) + x.width ≤ cols) : RowV (prRow ins j cols x cs) := by
 unfold prRow
 cases ins with
 | false => exact h.put hx hw (by rw [hl]; exact hj)
 | true =>
  simp only [if_true]
  have hj2 : j < cols := by omega
  exact (h.shiftN (ok_penV hx) hl hj2).put hx hw (by rw [shiftN_length hl hj2]; exact hj)
end
section
variable {top bot cols : Nat} {n : Int} {q : Pen} {L : List Ln}
theorem AllV.roll (h : AllV L) (hq : q.ok = true) (htb : top ≤ bot) (hbl : bot < L.length) : AllV (rollL top bot n q cols L) := fun l hl => by
 obtain ⟨r, hr, rfl⟩ := List.getElem_of_mem hl
 have h1 := rollL_get (n := n) (q := q) (cols := cols) htb hbl r
 rw [List.getElem?_eq_getElem hr] at h1
 have hm : ∀ (o : Option Ln) (p : Prop) [Decidable p] (x : Ln), (∀ y : Ln, o = some y → RowV y.1) → some x = o.map (hardIf p) → RowV x.1 := fun o p _ x ho h => by
  cases o with
  | none => simp at h
  | some y => simp only [Option.map_some, Option.some.injEq] at h; subst h; unfold hardIf; split <;> exact ho y rfl
 have hL : ∀ (i : Nat) (y : Ln), L[i]? = some y → RowV y.1 := fun i y hy => h y (List.mem_of_getElem? hy)
 have hfr : ∀ x : Ln, some x = some (freshLn cols q) → RowV x.1 := fun x e => by simp only [Option.some.injEq] at e; rw [e]; exact rowV_blanks hq
 by_cases hn : n = 0
 ·unfold rollAt at h1; rw [if_pos hn] at h1; exact hL r _ h1.symm
 by_cases ho : r < top ∨ bot < r
 ·rw [rollAt_out hn ho] at h1; exact hm _ _ _ (hL r) h1
 by_cases hp : 0 < n
 ·by_cases h2 : r + rollK n (bot + 1 - top) ≤ bot
  ·rw [rollAt_up hp rfl ho h2] at h1; exact hm _ _ _ (hL _) h1
  ·rw [rollAt_upf hp rfl ho h2] at h1; exact hfr _ h1
 ·have hn2 : n < 0 := by omega
  by_cases h2 : r < top + rollK n (bot + 1 - top)
  ·rw [rollAt_dnf hn2 rfl ho h2] at h1; exact hfr _ h1
  ·rw [rollAt_dn hn2 rfl ho h2] at h1; exact hm _ _ _ (hL _) h1
end
end Go.Proofs.YtppijfjigcoifaaDoor

namespace Go.Proofs.YtppijfjigcoifaaDoor
open Go.RowKit

theorem AllV.rowMod {L : List Ln} (h : AllV L) (i : Nat) {f : List Cell → List Cell} (hf : ∀ l : Ln, l ∈ L → RowV (f l.1)) : AllV (rowMod i f L) := by
 rw [rowMod_is]; exact h.lnMod i hf
theorem AllV.softMod {L : List Ln} (h : AllV L) (i : Nat) (s : Bool) : AllV (softMod i s L) := by
 rw [softMod_is]; exact h.lnMod i (fun l hl => h l hl)
theorem AllV.set {L : List Ln} (h : AllV L) (i : Nat) {l : Ln} (hl : RowV l.1) : AllV (L.set i l) := fun x hx => by
 rcases List.mem_or_eq_of_mem_set hx with h1 | rfl
 ·exact h x h1
 ·exact hl
theorem allV_new (rows cols : Nat) {q : Pen} (hq : q.ok = true) : AllV (List.replicate rows (List.replicate cols (blank q), false)) := fun l hl => by
 rw [(List.mem_replicate.1 hl).2]; exact rowV_blanks hq
end Go.Proofs.YtppijfjigcoifaaDoor

namespace Go.Proofs.YtppijfjigcoifaaDoor
open Go.RowKit

def pickAt (σ : List Ob) : Option Nat → Ob
 | some k => σ.getD k .none
 | none => .none
theorem Objs.pick {w0 w : World} {σ os : List Ob} (h : Objs w0 w (σ ++ os)) (ks : List (Option Nat)) (hn : (ks.filterMap id).Nodup) (hlt : (ks.filterMap id).all (fun k => decide (k < σ.length)) = true) : Objs w0 w (ks.map (pickAt σ) ++ os) := by
 obtain ⟨h1, F, h2, h3, h4, h5⟩ := h
 have hk : ∀ (i k : Nat), ks[i]? = some (some k) → k < σ.length := fun i k hi => by
  have := List.all_eq_true.1 hlt k (List.mem_filterMap.2 ⟨some k, List.mem_of_getElem? hi, rfl⟩)
  simpa using this
 have hinj : ∀ (i j k : Nat), ks[i]? = some (some k) → ks[j]? = some (some k) → i = j := by
  clear hk hlt h2 h3 h4 h5 h1
  induction ks with
  | nil => intro i j k hi; simp at hi
  | cons a r ih =>
   intro i j k hi hj
   have hr : (r.filterMap id).Nodup := by
    cases a with
    | none => simpa using hn
    | some x => simp at hn; exact hn.2
   have hno : ∀ m, a = some m → ∀ q, r[q]? ≠ some (some m) := fun m e q hq => by
    subst e
    simp at hn
    exact hn.1 (List.mem_of_getElem? hq)
   cases i with
   | zero =>
    cases j with
    | zero => rfl
    | succ j => simp at hi hj; exact (hno k hi j hj).elim
   | succ i =>
    cases j with
    | zero => simp at hi hj; exact (hno k hj i hi).elim
    | succ j => simp at hi hj; rw [ih hr i j k hi hj]
 refine ⟨h1, fun i b => if i < ks.length then ∃ k, ks[i]? = some (some k) ∧ F k b else F (i - ks.length + σ.length) b, fun i o hi => ?_, fun i b hb => ?_, fun i hi b hb => ?_, fun i j b hi hj => ?_⟩
 ·by_cases hl : i < ks.length
  ·simp only [hl, if_true]
   rw [List.getElem?_append_left (by simpa using hl), List.getElem?_map] at hi
   cases hks : ks[i]? with
   | none => rw [hks] at hi; simp at hi
   | some x =>
    rw [hks] at hi
    simp only [Option.map_some, Option.some.injEq] at hi
    cases x with
    | none => subst hi; rintro b ⟨k, e, -⟩; simp at e
    | some k =>
     have hlt := hk i k hks
     have hF : (fun b => ∃ k', some (some k) = some (some k') ∧ F k' b) = F k := by
      funext b
      exact propext ⟨fun ⟨k', e, hb⟩ => by simp at e; subst e; exact hb, fun hb => ⟨k, rfl, hb⟩⟩
     rw [hF]
     refine h2 k o ?_
     rw [List.getElem?_append_left hlt, ← hi]
     show σ[k]? = some (σ.getD k .none)
     rw [List.getD_eq_getElem?_getD, List.getElem?_eq_getElem hlt]; rfl
  ·simp only [hl, if_false]
   rw [List.getElem?_append_right (by simp; omega), List.length_map] at hi
   refine h2 _ o ?_
   rw [List.getElem?_append_right (by omega), Nat.add_sub_cancel]; exact hi
 ·simp only at hb
  split at hb
  ·obtain ⟨k, -, hb⟩ := hb; exact h3 _ b hb
  ·exact h3 _ b hb
 ·simp only at hb
  simp only [List.length_append, List.length_map] at hi
  rw [if_neg (by omega)] at hb
  exact h4 _ (by simp; omega) b hb
 ·simp only at hi hj
  split at hi
  ·obtain ⟨k, hks, hi⟩ := hi
   split at hj
   ·obtain ⟨k2, hks2, hj⟩ := hj
    have := h5 _ _ b hi hj
    subst this
    exact hinj i j _ hks hks2
   ·have := h5 _ _ b hi hj
    have := hk i k hks
    omega
  ·rename_i hil
   split at hj
   ·obtain ⟨k2, hks2, hj⟩ := hj
    have := h5 _ _ b hi hj
    have := hk j k2 hks2
    omega
   ·have := h5 _ _ b hi hj
    omega
theorem wanted_undef {ops : Array Oper} {o : Oper} {a : Act} {j : Nat} {x : Oper} {d : Tmp} {b : Bool} (hg : o.guard = some (j, b)) (ho : ops[j]? = some x) (hd : x.dst = some d) (hv : a.tmps.getD d undef = undef) : Region.wanted o (yielded ops a.tmps) = false := by
 have h : yielded ops a.tmps j = none := by
  cases h : a.tmps[d]? with
  | none => simp [yielded, ho, hd, h]
  | some v =>
   have : v = undef := by simpa [h] using hv
   subst this
   simp [yielded, ho, hd, h, undef]
 simp [Region.wanted, hg, h]
end Go.Proofs.YtppijfjigcoifaaDoor

namespace Go.Proofs.YtppijfjigcoifaaDoor
open Go.RowKit

theorem tg {σ os z : List Ob} {k : Nat} {o : Ob} (hl : σ.length = z.length) (hk : os[k]? = some o) : (σ ++ os)[z.length + k]? = some o := by
 rw [← hl, List.getElem?_append_right (Nat.le_add_right _ _), Nat.add_sub_cancel_left]; exact hk
section
variable {w0 w : World} {os : List Ob} {k p cols : Nat} {L : List Ln}
end
end Go.Proofs.YtppijfjigcoifaaDoor

namespace Go.Proofs.YtppijfjigcoifaaDoor
open Go.RowKit

def chkE (row col : Int) (pend : Bool) (rows cols : Nat) : Int := if inG row col pend rows cols = true then 0 else 2
section
variable {w0 w : World} {os : List Ob} {k p cols : Nat} {L : List Ln}
set_option maxRecDepth 100000 in
set_option maxHeartbeats 4000000 in
theorem prcheck_any (row col : Int) (b5 : Bool) (hS : Objs w0 w os) (hk : os[k]? = some (.grid p 58 cols L)) (hc : 0 < cols) (hcm : cols ≤ 1000) (hL : 0 < L.length) :
  Calls Tryd.prog 76 #[.pointer (some ⟨p, 0, none⟩), .agg #[.int .i64 row, .int .i64 col, .bool b5]] w fun e w' => e = .returned (.int .i64 (chkE row col b5 L.length cols)) ∧ Objs w0 w' os := by
 have S0 := Lib.hid hS
 have HK := Lib.hid hk
 clear hS hk
 obtain ⟨b1, h1⟩ : ∃ b1, decide (row < 0) = b1 := ⟨_, rfl⟩
 obtain ⟨b2, h2⟩ : ∃ b2, decide ((L.length : Int) ≤ row) = b2 := ⟨_, rfl⟩
 obtain ⟨b3, h3⟩ : ∃ b3, decide (col < 0) = b3 := ⟨_, rfl⟩
 obtain ⟨b4, h4⟩ : ∃ b4, decide ((cols : Int) ≤ col) = b4 := ⟨_, rfl⟩
 obtain ⟨b6, h6⟩ : ∃ b6, (col != (cols : Int) - 1) = b6 := ⟨_, rfl⟩
 have HE := Lib.hid (show chkE row col b5 L.length cols = if (b1 || b2 || b3 || b4 || (b5 && b6)) = true then 2 else 0 by
  unfold chkE
  by_cases hin : inG row col b5 L.length cols = true
  ·rw [if_pos hin]
   have hi := ingrid_iff.1 hin
   have e1 : b1 = false := by rw [← h1]; exact decide_eq_false (by omega)
   have e2 : b2 = false := by rw [← h2]; exact decide_eq_false (by omega)
   have e3 : b3 = false := by rw [← h3]; exact decide_eq_false (by omega)
   have e4 : b4 = false := by rw [← h4]; exact decide_eq_false (by omega)
   have e6 : (b5 && b6) = false := by
    cases b5 with
    | false => rfl
    | true => rw [← h6, hi.2.2 rfl]; simp
   rw [e1, e2, e3, e4, e6]; rfl
  ·rw [if_neg hin]
   have : (b1 || b2 || b3 || b4 || (b5 && b6)) = true := by
    apply Classical.byContradiction
    intro h
    apply hin
    have h' : (b1 = false ∧ b2 = false ∧ b3 = false ∧ b4 = false) ∧ (b5 = true → b6 = false) := by
     revert h; cases b1 <;> cases b2 <;> cases b3 <;> cases b4 <;> cases b5 <;> cases b6 <;> simp
    obtain ⟨⟨e1, e2, e3, e4⟩, e5⟩ := h'
    subst e1; subst e2; subst e3; subst e4
    have g1 := of_decide_eq_false h1
    have g2 := of_decide_eq_false h2
    have g3 := of_decide_eq_false h3
    have g4 := of_decide_eq_false h4
    rw [ingrid_iff]
    refine ⟨by omega, by omega, fun hp => ?_⟩
    have := e5 hp
    rw [this] at h6
    simpa using h6
   rw [if_pos this])
 have H1 := Lib.hid h1
 have H2 := Lib.hid h2
 have H3 := Lib.hid h3
 have H4 := Lib.hid h4
 have H6 := Lib.hid h6
 have HWC := Lib.hid (show IntKind.i64.wrap ((cols : Int) - 1) = (cols : Int) - 1 from IntWalk.i64_in _ (by omega))
 clear h1 h2 h3 h4 h6
 go_enter Tryd.func76, Tryd.ntmps76
 go_upto_region 1 with (fail)
 refine at_objsC S0.out.alloc1 (fun W hW => ?_)
 generalize w.heap.size = bc at hW ⊢
 have S1 := Lib.hid hW
 clear hW S0
 go_wp2_with fail
 refine (Rows_any S1.out (k := k + 1) HK.out).mono ?_
 rintro e w1 ⟨rfl, hS⟩
 have S2 := Lib.hid hS
 clear hS S1
 have hl0 : ((L.length : Int) == 0) = false := beq_no (by omega)
 have hl1 : ¬ (L.length : Int) = 0 := by omega
 go_upto_region 3 with (fail)
 refine wp_region_stage (w0 := w0) (os := os) (by kernel_rfl) (by kernel_rfl) (by kernel_rfl) [] [[], [0], [], [], [], [0], [], [], [], [], [], [], [0], [], [], [], [], [0], [], [], [], [], [], [], [0], [], [], [0], [], [], [], [], [], [], []] [.box bc 48 #[.int .i64 row, .int .i64 col, .bool b5]] (fun opn u => match opn with | 0 => u = .pointer (some ⟨bc, 0, none⟩) | 1 => u = .int .i64 row | 2 => u = .bool b1 | 3 => u = .bool b1 | 4 => u = ((bif b1 then undef else .pointer (some ⟨bc, 0, none⟩)) : Value) | 5 => u = ((bif b1 then undef else .int .i64 row) : Value) | 6 => u = ((bif b1 then undef else .pointer (some ⟨p, 0, none⟩)) : Value) | 7 => u = ((bif b1 then undef else .int .i64 L.length) : Value) | 8 => u = ((bif b1 then undef else .bool b2) : Value) | 9 => u = (.bool (b1 || b2) : Value) | 10 => u = (.bool (b1 || b2) : Value) | 11 => u = ((bif b1 then undef else bif b2 then undef else .pointer (some ⟨bc, 1, none⟩)) : Value) | 12 => u = ((bif b1 then undef else bif b2 then undef else .int .i64 col) : Value) | 13 => u = ((bif b1 then undef else bif b2 then undef else .bool b3) : Value) | 14 => u = (.bool (b1 || b2 || b3) : Value) | 15 => u = (.bool (b1 || b2 || b3) : Value) | 16 => u = ((bif b1 then undef else bif b2 then undef else bif b3 then undef else .pointer (some ⟨bc, 1, none⟩)) : Value) | 17 => u = ((bif b1 then undef else bif b2 then undef else bif b3 then undef else .int .i64 col) : Value) | 18 => u = ((bif b1 then undef else bif b2 then undef else bif b3 then undef else .pointer (some ⟨p, 0, none⟩)) : Value) | 19 => u = ((bif b1 then undef else bif b2 then undef else bif b3 then undef else .int .i64 ↑cols) : Value) | 20 => u = ((bif b1 then undef else bif b2 then undef else bif b3 then undef else .bool b4) : Value) | 21 => u = (.bool (b1 || b2 || b3 || b4) : Value) | 22 => u = (.bool (b1 || b2 || b3 || b4) : Value) | 23 => u = ((bif b1 then undef else bif b2 then undef else bif b3 then undef else bif b4 then undef else .pointer (some ⟨bc, 2, none⟩)) : Value) | 24 => u = ((bif b1 then undef else bif b2 then undef else bif b3 then undef else bif b4 then undef else .bool b5) : Value) | 25 => u = ((bif b1 then undef else bif b2 then undef else bif b3 then undef else bif b4 then undef else .bool b5) : Value) | 26 => u = ((bif b1 then undef else bif b2 then undef else bif b3 then undef else bif b4 then undef else bif b5 then .pointer (some ⟨bc, 1, none⟩) else undef) : Value) | 27 => u = ((bif b1 then undef else bif b2 then undef else bif b3 then undef else bif b4 then undef else bif b5 then .int .i64 col else undef) : Value) | 28 => u = ((bif b1 then undef else bif b2 then undef else bif b3 then undef else bif b4 then undef else bif b5 then .pointer (some ⟨p, 0, none⟩) else undef) : Value) | 29 => u = ((bif b1 then undef else bif b2 then undef else bif b3 then undef else bif b4 then undef else bif b5 then .int .i64 ↑cols else undef) : Value) | 30 => u = ((bif b1 then undef else bif b2 then undef else bif b3 then undef else bif b4 then undef else bif b5 then .int .i64 (↑cols - 1) else undef) : Value) | 31 => u = ((bif b1 then undef else bif b2 then undef else bif b3 then undef else bif b4 then undef else bif b5 then .bool b6 else undef) : Value) | 32 => u = ((bif b1 then undef else bif b2 then undef else bif b3 then undef else bif b4 then undef else .bool (b5 && b6)) : Value) | 33 => u = (.bool (b1 || b2 || b3 || b4 || (b5 && b6)) : Value) | 34 => u = (.bool (b1 || b2 || b3 || b4 || (b5 && b6)) : Value) | _ => True) (fun vs => [.box bc 48 #[.int .i64 row, .int .i64 col, .bool b5]]) (by kernel_rfl) (fun vs => by rfl) S2.out ?_ ?_
 ·apply sc
  ·intro a w' vs σ hS hl hs hk
   have f3 : a.tmps[3]?.getD undef = .pointer (some ⟨bc, 0, none⟩) := sof hk
   exact rp (pt bc 0) (by simp [execOp, Act.eval, f3, go_sem]) hl hs hS
  apply sc
  ·intro a w' vs σ hS hl hs hk
   have f10 : a.tmps[10]?.getD undef = .pointer (some ⟨bc, 0, none⟩) := svf hk 0
   have hx := (hS.box (sg (hs 0 (by decide)))).cell
   exact rp (.int .i64 row) (by simp [execOp, Act.eval, f10, go_sem, hx]) hl hs hS
  apply sc
  ·intro a w' vs σ hS hl hs hk
   have f11 : a.tmps[11]?.getD undef = .int .i64 row := svf hk 1
   exact rp (.bool b1) (by simp [execOp, Act.eval, f11, go_sem, H1.out]) hl hs hS
  apply sc
  ·intro a w' vs σ hS hl hs hk
   have f12 : a.tmps[12]?.getD undef = .bool b1 := svf hk 2
   exact rp (.bool b1) (by simp [execOp, Act.eval, f12, go_sem]) hl hs hS
  apply sc
  ·intro a w' vs σ hS hl hs hk
   cases b1 with
   | true =>
    exact rs_skip (wanted_no rfl rfl rfl (svv hk 3) (by simp)) (sp_same (by kernel_rfl) hl hs hS (show undef = _ from rfl))
   | false =>
    have f3 : a.tmps[3]?.getD undef = pt bc 0 := sof hk
    exact rq (pt bc 0) (wanted_yes rfl rfl rfl (svv hk 3)) (by simp [execOp, Act.eval, f3, go_sem]) hl hs hS
  apply sc
  ·intro a w' vs σ hS hl hs hk
   cases b1 with
   | true =>
    exact rs_skip (wanted_no rfl rfl rfl (svv hk 3) (by simp)) (sp_same (by kernel_rfl) hl hs hS (show undef = _ from rfl))
   | false =>
    have f14 : a.tmps[14]?.getD undef = pt bc 0 := svf hk 4
    have hx := (hS.box (sg (hs 0 (by decide)))).cell
    exact rq (.int .i64 row) (wanted_yes rfl rfl rfl (svv hk 3)) (by simp [execOp, Act.eval, f14, go_sem, hx]) hl hs hS
  apply sc
  ·intro a w' vs σ hS hl hs hk
   cases b1 with
   | true =>
    exact rs_skip (wanted_no rfl rfl rfl (svv hk 3) (by simp)) (sp_same (by kernel_rfl) hl hs hS (show undef = _ from rfl))
   | false =>
    have f0 : a.tmps[0]?.getD undef = pt p 0 := sof hk
    exact rq (pt p 0) (wanted_yes rfl rfl rfl (svv hk 3)) (by simp [execOp, Act.eval, f0, go_sem]) hl hs hS
  apply sc
  ·intro a w' vs σ hS hl hs hk
   cases b1 with
   | true =>
    exact rs_skip (wanted_no rfl rfl rfl (svv hk 3) (by simp)) (sp_same (by kernel_rfl) hl hs hS (show undef = _ from rfl))
   | false =>
    have e16 : a.tmps.getD 16 undef = pt p 0 := svv hk 6
    exact ro_call (f := 17) (wanted_yes rfl rfl rfl (svv hk 3)) rfl (by simp only [List.map_toArray, List.map_cons, List.map_nil, Act.eval, e16] <;> rfl) (fun _ _ => by kernel_rfl) ((Rows_any hS (tg hl HK.out)).mono fun e w2 ⟨h1, h2⟩ => ⟨_, h1, sp_same (by kernel_rfl) hl hs h2 rfl, trivial⟩)
  apply sc
  ·intro a w' vs σ hS hl hs hk
   cases b1 with
   | true =>
    exact rs_skip (wanted_no rfl rfl rfl (svv hk 3) (by simp)) (sp_same (by kernel_rfl) hl hs hS (show undef = _ from rfl))
   | false =>
    have f15 : a.tmps[15]?.getD undef = .int .i64 row := svf hk 5
    have f17 : a.tmps[17]?.getD undef = .int .i64 L.length := svf hk 7
    exact rq (.bool b2) (wanted_yes rfl rfl rfl (svv hk 3)) (by simp [execOp, Act.eval, f15, f17, go_sem, H2.out]) hl hs hS
  apply sc
  ·intro a w' vs σ hS hl hs hk
   cases b1 with
   | true =>
    have e13 : a.tmps.getD 13 undef = .bool true := svv hk 3
    have f13 := gd e13
    have e18 : a.tmps.getD 18 undef = (undef : Value) := svv hk 8
    have f18 := gd e18
    exact rp (.bool (true || b2)) (by simp [execOp, Act.eval, e13, f13, e18, f18, go_sem]) hl hs hS
   | false =>
    have e13 : a.tmps.getD 13 undef = .bool false := svv hk 3
    have f13 := gd e13
    have e18 : a.tmps.getD 18 undef = .bool b2 := svv hk 8
    have f18 := gd e18
    exact rp (.bool (false || b2)) (by simp [execOp, Act.eval, e13, f13, e18, f18, go_sem]) hl hs hS
  apply sc
  ·intro a w' vs σ hS hl hs hk
   have f19 : a.tmps[19]?.getD undef = .bool (b1 || b2) := svf hk 9
   exact rp (.bool (b1 || b2)) (by simp [execOp, Act.eval, f19, go_sem]) hl hs hS
  apply sc
  ·intro a w' vs σ hS hl hs hk
   cases b1 with
   | true =>
    exact rs_skip (wanted_no rfl rfl rfl (svv hk 10) (by simp)) (sp_same (by kernel_rfl) hl hs hS (show undef = _ from rfl))
   | false =>
    cases b2 with
    | true =>
     exact rs_skip (wanted_no rfl rfl rfl (svv hk 10) (by simp)) (sp_same (by kernel_rfl) hl hs hS (show undef = _ from rfl))
    | false =>
     have f3 : a.tmps[3]?.getD undef = pt bc 0 := sof hk
     exact rq (pt bc 1) (wanted_yes rfl rfl rfl (svv hk 10)) (by simp [execOp, Act.eval, f3, go_sem]) hl hs hS
  apply sc
  ·intro a w' vs σ hS hl hs hk
   cases b1 with
   | true =>
    exact rs_skip (wanted_no rfl rfl rfl (svv hk 10) (by simp)) (sp_same (by kernel_rfl) hl hs hS (show undef = _ from rfl))
   | false =>
    cases b2 with
    | true =>
     exact rs_skip (wanted_no rfl rfl rfl (svv hk 10) (by simp)) (sp_same (by kernel_rfl) hl hs hS (show undef = _ from rfl))
    | false =>
     have f21 : a.tmps[21]?.getD undef = pt bc 1 := svf hk 11
     have hx := (hS.box (sg (hs 0 (by decide)))).cell
     exact rq (.int .i64 col) (wanted_yes rfl rfl rfl (svv hk 10)) (by simp [execOp, Act.eval, f21, go_sem, hx]) hl hs hS
  apply sc
  ·intro a w' vs σ hS hl hs hk
   cases b1 with
   | true =>
    exact rs_skip (wanted_no rfl rfl rfl (svv hk 10) (by simp)) (sp_same (by kernel_rfl) hl hs hS (show undef = _ from rfl))
   | false =>
    cases b2 with
    | true =>
     exact rs_skip (wanted_no rfl rfl rfl (svv hk 10) (by simp)) (sp_same (by kernel_rfl) hl hs hS (show undef = _ from rfl))
    | false =>
     have f22 : a.tmps[22]?.getD undef = .int .i64 col := svf hk 12
     exact rq (.bool b3) (wanted_yes rfl rfl rfl (svv hk 10)) (by simp [execOp, Act.eval, f22, go_sem, H3.out]) hl hs hS
  apply sc
  ·intro a w' vs σ hS hl hs hk
   cases b1 with
   | true =>
    cases b2 with
    | true =>
     have e20 : a.tmps.getD 20 undef = .bool (true || true) := svv hk 10
     have f20 := gd e20
     have e23 : a.tmps.getD 23 undef = (undef : Value) := svv hk 13
     have f23 := gd e23
     exact rp (.bool (true || true || b3)) (by simp [execOp, Act.eval, e20, f20, e23, f23, go_sem]) hl hs hS
    | false =>
     have e20 : a.tmps.getD 20 undef = .bool (true || false) := svv hk 10
     have f20 := gd e20
     have e23 : a.tmps.getD 23 undef = (undef : Value) := svv hk 13
     have f23 := gd e23
     exact rp (.bool (true || false || b3)) (by simp [execOp, Act.eval, e20, f20, e23, f23, go_sem]) hl hs hS
   | false =>
    cases b2 with
    | true =>
     have e20 : a.tmps.getD 20 undef = .bool (false || true) := svv hk 10
     have f20 := gd e20
     have e23 : a.tmps.getD 23 undef = (undef : Value) := svv hk 13
     have f23 := gd e23
     exact rp (.bool (false || true || b3)) (by simp [execOp, Act.eval, e20, f20, e23, f23, go_sem]) hl hs hS
    | false =>
     have e20 : a.tmps.getD 20 undef = .bool (false || false) := svv hk 10
     have f20 := gd e20
     have e23 : a.tmps.getD 23 undef = .bool b3 := svv hk 13
     have f23 := gd e23
     exact rp (.bool (false || false || b3)) (by simp [execOp, Act.eval, e20, f20, e23, f23, go_sem]) hl hs hS
  apply sc
  ·intro a w' vs σ hS hl hs hk
   have f24 : a.tmps[24]?.getD undef = .bool (b1 || b2 || b3) := svf hk 14
   exact rp (.bool (b1 || b2 || b3)) (by simp [execOp, Act.eval, f24, go_sem]) hl hs hS
  apply sc
  ·intro a w' vs σ hS hl hs hk
   cases b1 with
   | true =>
    exact rs_skip (wanted_no rfl rfl rfl (svv hk 15) (by simp)) (sp_same (by kernel_rfl) hl hs hS (show undef = _ from rfl))
   | false =>
    cases b2 with
    | true =>
     exact rs_skip (wanted_no rfl rfl rfl (svv hk 15) (by simp)) (sp_same (by kernel_rfl) hl hs hS (show undef = _ from rfl))
    | false =>
     cases b3 with
     | true =>
      exact rs_skip (wanted_no rfl rfl rfl (svv hk 15) (by simp)) (sp_same (by kernel_rfl) hl hs hS (show undef = _ from rfl))
     | false =>
      have f3 : a.tmps[3]?.getD undef = pt bc 0 := sof hk
      exact rq (pt bc 1) (wanted_yes rfl rfl rfl (svv hk 15)) (by simp [execOp, Act.eval, f3, go_sem]) hl hs hS
  apply sc
  ·intro a w' vs σ hS hl hs hk
   cases b1 with
   | true =>
    exact rs_skip (wanted_no rfl rfl rfl (svv hk 15) (by simp)) (sp_same (by kernel_rfl) hl hs hS (show undef = _ from rfl))
   | false =>
    cases b2 with
    | true =>
     exact rs_skip (wanted_no rfl rfl rfl (svv hk 15) (by simp)) (sp_same (by kernel_rfl) hl hs hS (show undef = _ from rfl))
    | false =>
     cases b3 with
     | true =>
      exact rs_skip (wanted_no rfl rfl rfl (svv hk 15) (by simp)) (sp_same (by kernel_rfl) hl hs hS (show undef = _ from rfl))
     | false =>
      have f26 : a.tmps[26]?.getD undef = pt bc 1 := svf hk 16
      have hx := (hS.box (sg (hs 0 (by decide)))).cell
      exact rq (.int .i64 col) (wanted_yes rfl rfl rfl (svv hk 15)) (by simp [execOp, Act.eval, f26, go_sem, hx]) hl hs hS
  apply sc
  ·intro a w' vs σ hS hl hs hk
   cases b1 with
   | true =>
    exact rs_skip (wanted_no rfl rfl rfl (svv hk 15) (by simp)) (sp_same (by kernel_rfl) hl hs hS (show undef = _ from rfl))
   | false =>
    cases b2 with
    | true =>
     exact rs_skip (wanted_no rfl rfl rfl (svv hk 15) (by simp)) (sp_same (by kernel_rfl) hl hs hS (show undef = _ from rfl))
    | false =>
     cases b3 with
     | true =>
      exact rs_skip (wanted_no rfl rfl rfl (svv hk 15) (by simp)) (sp_same (by kernel_rfl) hl hs hS (show undef = _ from rfl))
     | false =>
      have f0 : a.tmps[0]?.getD undef = pt p 0 := sof hk
      exact rq (pt p 0) (wanted_yes rfl rfl rfl (svv hk 15)) (by simp [execOp, Act.eval, f0, go_sem]) hl hs hS
  apply sc
  ·intro a w' vs σ hS hl hs hk
   cases b1 with
   | true =>
    exact rs_skip (wanted_no rfl rfl rfl (svv hk 15) (by simp)) (sp_same (by kernel_rfl) hl hs hS (show undef = _ from rfl))
   | false =>
    cases b2 with
    | true =>
     exact rs_skip (wanted_no rfl rfl rfl (svv hk 15) (by simp)) (sp_same (by kernel_rfl) hl hs hS (show undef = _ from rfl))
    | false =>
     cases b3 with
     | true =>
      exact rs_skip (wanted_no rfl rfl rfl (svv hk 15) (by simp)) (sp_same (by kernel_rfl) hl hs hS (show undef = _ from rfl))
     | false =>
      have e28 : a.tmps.getD 28 undef = pt p 0 := svv hk 18
      exact ro_call (f := 18) (wanted_yes rfl rfl rfl (svv hk 15)) rfl (by simp only [List.map_toArray, List.map_cons, List.map_nil, Act.eval, e28] <;> rfl) (fun _ _ => by kernel_rfl) ((Cols_any hS (tg hl HK.out)).mono fun e w2 ⟨h1, h2⟩ => ⟨_, h1, sp_same (by kernel_rfl) hl hs h2 rfl, trivial⟩)
  apply sc
  ·intro a w' vs σ hS hl hs hk
   cases b1 with
   | true =>
    exact rs_skip (wanted_no rfl rfl rfl (svv hk 15) (by simp)) (sp_same (by kernel_rfl) hl hs hS (show undef = _ from rfl))
   | false =>
    cases b2 with
    | true =>
     exact rs_skip (wanted_no rfl rfl rfl (svv hk 15) (by simp)) (sp_same (by kernel_rfl) hl hs hS (show undef = _ from rfl))
    | false =>
     cases b3 with
     | true =>
      exact rs_skip (wanted_no rfl rfl rfl (svv hk 15) (by simp)) (sp_same (by kernel_rfl) hl hs hS (show undef = _ from rfl))
     | false =>
      have f27 : a.tmps[27]?.getD undef = .int .i64 col := svf hk 17
      have f29 : a.tmps[29]?.getD undef = .int .i64 ↑cols := svf hk 19
      exact rq (.bool b4) (wanted_yes rfl rfl rfl (svv hk 15)) (by simp [execOp, Act.eval, f27, f29, go_sem, H4.out]) hl hs hS
  apply sc
  ·intro a w' vs σ hS hl hs hk
   cases b1 with
   | true =>
    cases b2 with
    | true =>
     cases b3 with
     | true =>
      have e25 : a.tmps.getD 25 undef = .bool (true || true || true) := svv hk 15
      have f25 := gd e25
      have e30 : a.tmps.getD 30 undef = (undef : Value) := svv hk 20
      have f30 := gd e30
      exact rp (.bool (true || true || true || b4)) (by simp [execOp, Act.eval, e25, f25, e30, f30, go_sem]) hl hs hS
     | false =>
      have e25 : a.tmps.getD 25 undef = .bool (true || true || false) := svv hk 15
      have f25 := gd e25
      have e30 : a.tmps.getD 30 undef = (undef : Value) := svv hk 20
      have f30 := gd e30
      exact rp (.bool (true || true || false || b4)) (by simp [execOp, Act.eval, e25, f25, e30, f30, go_sem]) hl hs hS
    | false =>
     cases b3 with
     | true =>
      have e25 : a.tmps.getD 25 undef = .bool (true || false || true) := svv hk 15
      have f25 := gd e25
      have e30 : a.tmps.getD 30 undef = (undef : Value) := svv hk 20
      have f30 := gd e30
      exact rp (.bool (true || false || true || b4)) (by simp [execOp, Act.eval, e25, f25, e30, f30, go_sem]) hl hs hS
     | false =>
      have e25 : a.tmps.getD 25 undef = .bool (true || false || false) := svv hk 15
      have f25 := gd e25
      have e30 : a.tmps.getD 30 undef = (undef : Value) := svv hk 20
      have f30 := gd e30
      exact rp (.bool (true || false || false || b4)) (by simp [execOp, Act.eval, e25, f25, e30, f30, go_sem]) hl hs hS
   | false =>
    cases b2 with
    | true =>
     cases b3 with
     | true =>
      have e25 : a.tmps.getD 25 undef = .bool (false || true || true) := svv hk 15
      have f25 := gd e25
      have e30 : a.tmps.getD 30 undef = (undef : Value) := svv hk 20
      have f30 := gd e30
      exact rp (.bool (false || true || true || b4)) (by simp [execOp, Act.eval, e25, f25, e30, f30, go_sem]) hl hs hS
     | false =>
      have e25 : a.tmps.getD 25 undef = .bool (false || true || false) := svv hk 15
      have f25 := gd e25
      have e30 : a.tmps.getD 30 undef = (undef : Value) := svv hk 20
      have f30 := gd e30
      exact rp (.bool (false || true || false || b4)) (by simp [execOp, Act.eval, e25, f25, e30, f30, go_sem]) hl hs hS
    | false =>
     cases b3 with
     | true =>
      have e25 : a.tmps.getD 25 undef = .bool (false || false || true) := svv hk 15
      have f25 := gd e25
      have e30 : a.tmps.getD 30 undef = (undef : Value) := svv hk 20
      have f30 := gd e30
      exact rp (.bool (false || false || true || b4)) (by simp [execOp, Act.eval, e25, f25, e30, f30, go_sem]) hl hs hS
     | false =>
      have e25 : a.tmps.getD 25 undef = .bool (false || false || false) := svv hk 15
      have f25 := gd e25
      have e30 : a.tmps.getD 30 undef = .bool b4 := svv hk 20
      have f30 := gd e30
      exact rp (.bool (false || false || false || b4)) (by simp [execOp, Act.eval, e25, f25, e30, f30, go_sem]) hl hs hS
  apply sc
  ·intro a w' vs σ hS hl hs hk
   have f31 : a.tmps[31]?.getD undef = .bool (b1 || b2 || b3 || b4) := svf hk 21
   exact rp (.bool (b1 || b2 || b3 || b4)) (by simp [execOp, Act.eval, f31, go_sem]) hl hs hS
  apply sc
  ·intro a w' vs σ hS hl hs hk
   cases b1 with
   | true =>
    exact rs_skip (wanted_no rfl rfl rfl (svv hk 22) (by simp)) (sp_same (by kernel_rfl) hl hs hS (show undef = _ from rfl))
   | false =>
    cases b2 with
    | true =>
     exact rs_skip (wanted_no rfl rfl rfl (svv hk 22) (by simp)) (sp_same (by kernel_rfl) hl hs hS (show undef = _ from rfl))
    | false =>
     cases b3 with
     | true =>
      exact rs_skip (wanted_no rfl rfl rfl (svv hk 22) (by simp)) (sp_same (by kernel_rfl) hl hs hS (show undef = _ from rfl))
     | false =>
      cases b4 with
      | true =>
       exact rs_skip (wanted_no rfl rfl rfl (svv hk 22) (by simp)) (sp_same (by kernel_rfl) hl hs hS (show undef = _ from rfl))
      | false =>
       have f3 : a.tmps[3]?.getD undef = pt bc 0 := sof hk
       exact rq (pt bc 2) (wanted_yes rfl rfl rfl (svv hk 22)) (by simp [execOp, Act.eval, f3, go_sem]) hl hs hS
  apply sc
  ·intro a w' vs σ hS hl hs hk
   cases b1 with
   | true =>
    exact rs_skip (wanted_no rfl rfl rfl (svv hk 22) (by simp)) (sp_same (by kernel_rfl) hl hs hS (show undef = _ from rfl))
   | false =>
    cases b2 with
    | true =>
     exact rs_skip (wanted_no rfl rfl rfl (svv hk 22) (by simp)) (sp_same (by kernel_rfl) hl hs hS (show undef = _ from rfl))
    | false =>
     cases b3 with
     | true =>
      exact rs_skip (wanted_no rfl rfl rfl (svv hk 22) (by simp)) (sp_same (by kernel_rfl) hl hs hS (show undef = _ from rfl))
     | false =>
      cases b4 with
      | true =>
       exact rs_skip (wanted_no rfl rfl rfl (svv hk 22) (by simp)) (sp_same (by kernel_rfl) hl hs hS (show undef = _ from rfl))
      | false =>
       have f33 : a.tmps[33]?.getD undef = pt bc 2 := svf hk 23
       have hx := (hS.box (sg (hs 0 (by decide)))).cell
       exact rq (.bool b5) (wanted_yes rfl rfl rfl (svv hk 22)) (by simp [execOp, Act.eval, f33, go_sem, hx]) hl hs hS
  apply sc
  ·intro a w' vs σ hS hl hs hk
   cases b1 with
   | true =>
    exact rs_skip (wanted_no rfl rfl rfl (svv hk 22) (by simp)) (sp_same (by kernel_rfl) hl hs hS (show undef = _ from rfl))
   | false =>
    cases b2 with
    | true =>
     exact rs_skip (wanted_no rfl rfl rfl (svv hk 22) (by simp)) (sp_same (by kernel_rfl) hl hs hS (show undef = _ from rfl))
    | false =>
     cases b3 with
     | true =>
      exact rs_skip (wanted_no rfl rfl rfl (svv hk 22) (by simp)) (sp_same (by kernel_rfl) hl hs hS (show undef = _ from rfl))
     | false =>
      cases b4 with
      | true =>
       exact rs_skip (wanted_no rfl rfl rfl (svv hk 22) (by simp)) (sp_same (by kernel_rfl) hl hs hS (show undef = _ from rfl))
      | false =>
       have f34 : a.tmps[34]?.getD undef = .bool b5 := svf hk 24
       exact rq (.bool b5) (wanted_yes rfl rfl rfl (svv hk 22)) (by simp [execOp, Act.eval, f34, go_sem]) hl hs hS
  apply sc
  ·intro a w' vs σ hS hl hs hk
   cases b1 with
   | true =>
    exact rs_skip (wanted_undef rfl rfl rfl (svv hk 25)) (sp_same (by kernel_rfl) hl hs hS (show undef = _ from rfl))
   | false =>
    cases b2 with
    | true =>
     exact rs_skip (wanted_undef rfl rfl rfl (svv hk 25)) (sp_same (by kernel_rfl) hl hs hS (show undef = _ from rfl))
    | false =>
     cases b3 with
     | true =>
      exact rs_skip (wanted_undef rfl rfl rfl (svv hk 25)) (sp_same (by kernel_rfl) hl hs hS (show undef = _ from rfl))
     | false =>
      cases b4 with
      | true =>
       exact rs_skip (wanted_undef rfl rfl rfl (svv hk 25)) (sp_same (by kernel_rfl) hl hs hS (show undef = _ from rfl))
      | false =>
       cases b5 with
       | true =>
        have f3 : a.tmps[3]?.getD undef = pt bc 0 := sof hk
        exact rq (pt bc 1) (wanted_yes rfl rfl rfl (svv hk 25)) (by simp [execOp, Act.eval, f3, go_sem]) hl hs hS
       | false =>
        exact rs_skip (wanted_no rfl rfl rfl (svv hk 25) (by simp)) (sp_same (by kernel_rfl) hl hs hS (show undef = _ from rfl))
  apply sc
  ·intro a w' vs σ hS hl hs hk
   cases b1 with
   | true =>
    exact rs_skip (wanted_undef rfl rfl rfl (svv hk 25)) (sp_same (by kernel_rfl) hl hs hS (show undef = _ from rfl))
   | false =>
    cases b2 with
    | true =>
     exact rs_skip (wanted_undef rfl rfl rfl (svv hk 25)) (sp_same (by kernel_rfl) hl hs hS (show undef = _ from rfl))
    | false =>
     cases b3 with
     | true =>
      exact rs_skip (wanted_undef rfl rfl rfl (svv hk 25)) (sp_same (by kernel_rfl) hl hs hS (show undef = _ from rfl))
     | false =>
      cases b4 with
      | true =>
       exact rs_skip (wanted_undef rfl rfl rfl (svv hk 25)) (sp_same (by kernel_rfl) hl hs hS (show undef = _ from rfl))
      | false =>
       cases b5 with
       | true =>
        have f36 : a.tmps[36]?.getD undef = pt bc 1 := svf hk 26
        have hx := (hS.box (sg (hs 0 (by decide)))).cell
        exact rq (.int .i64 col) (wanted_yes rfl rfl rfl (svv hk 25)) (by simp [execOp, Act.eval, f36, go_sem, hx]) hl hs hS
       | false =>
        exact rs_skip (wanted_no rfl rfl rfl (svv hk 25) (by simp)) (sp_same (by kernel_rfl) hl hs hS (show undef = _ from rfl))
  apply sc
  ·intro a w' vs σ hS hl hs hk
   cases b1 with
   | true =>
    exact rs_skip (wanted_undef rfl rfl rfl (svv hk 25)) (sp_same (by kernel_rfl) hl hs hS (show undef = _ from rfl))
   | false =>
    cases b2 with
    | true =>
     exact rs_skip (wanted_undef rfl rfl rfl (svv hk 25)) (sp_same (by kernel_rfl) hl hs hS (show undef = _ from rfl))
    | false =>
     cases b3 with
     | true =>
      exact rs_skip (wanted_undef rfl rfl rfl (svv hk 25)) (sp_same (by kernel_rfl) hl hs hS (show undef = _ from rfl))
     | false =>
      cases b4 with
      | true =>
       exact rs_skip (wanted_undef rfl rfl rfl (svv hk 25)) (sp_same (by kernel_rfl) hl hs hS (show undef = _ from rfl))
      | false =>
       cases b5 with
       | true =>
        have f0 : a.tmps[0]?.getD undef = pt p 0 := sof hk
        exact rq (pt p 0) (wanted_yes rfl rfl rfl (svv hk 25)) (by simp [execOp, Act.eval, f0, go_sem]) hl hs hS
       | false =>
        exact rs_skip (wanted_no rfl rfl rfl (svv hk 25) (by simp)) (sp_same (by kernel_rfl) hl hs hS (show undef = _ from rfl))
  apply sc
  ·intro a w' vs σ hS hl hs hk
   cases b1 with
   | true =>
    exact rs_skip (wanted_undef rfl rfl rfl (svv hk 25)) (sp_same (by kernel_rfl) hl hs hS (show undef = _ from rfl))
   | false =>
    cases b2 with
    | true =>
     exact rs_skip (wanted_undef rfl rfl rfl (svv hk 25)) (sp_same (by kernel_rfl) hl hs hS (show undef = _ from rfl))
    | false =>
     cases b3 with
     | true =>
      exact rs_skip (wanted_undef rfl rfl rfl (svv hk 25)) (sp_same (by kernel_rfl) hl hs hS (show undef = _ from rfl))
     | false =>
      cases b4 with
      | true =>
       exact rs_skip (wanted_undef rfl rfl rfl (svv hk 25)) (sp_same (by kernel_rfl) hl hs hS (show undef = _ from rfl))
      | false =>
       cases b5 with
       | true =>
        have e38 : a.tmps.getD 38 undef = pt p 0 := svv hk 28
        exact ro_call (f := 18) (wanted_yes rfl rfl rfl (svv hk 25)) rfl (by simp only [List.map_toArray, List.map_cons, List.map_nil, Act.eval, e38] <;> rfl) (fun _ _ => by kernel_rfl) ((Cols_any hS (tg hl HK.out)).mono fun e w2 ⟨h1, h2⟩ => ⟨_, h1, sp_same (by kernel_rfl) hl hs h2 rfl, trivial⟩)
       | false =>
        exact rs_skip (wanted_no rfl rfl rfl (svv hk 25) (by simp)) (sp_same (by kernel_rfl) hl hs hS (show undef = _ from rfl))
  apply sc
  ·intro a w' vs σ hS hl hs hk
   cases b1 with
   | true =>
    exact rs_skip (wanted_undef rfl rfl rfl (svv hk 25)) (sp_same (by kernel_rfl) hl hs hS (show undef = _ from rfl))
   | false =>
    cases b2 with
    | true =>
     exact rs_skip (wanted_undef rfl rfl rfl (svv hk 25)) (sp_same (by kernel_rfl) hl hs hS (show undef = _ from rfl))
    | false =>
     cases b3 with
     | true =>
      exact rs_skip (wanted_undef rfl rfl rfl (svv hk 25)) (sp_same (by kernel_rfl) hl hs hS (show undef = _ from rfl))
     | false =>
      cases b4 with
      | true =>
       exact rs_skip (wanted_undef rfl rfl rfl (svv hk 25)) (sp_same (by kernel_rfl) hl hs hS (show undef = _ from rfl))
      | false =>
       cases b5 with
       | true =>
        have f39 : a.tmps[39]?.getD undef = .int .i64 ↑cols := svf hk 29
        exact rq (.int .i64 (↑cols - 1)) (wanted_yes rfl rfl rfl (svv hk 25)) (by simp [execOp, Act.eval, f39, go_sem, HWC.out]) hl hs hS
       | false =>
        exact rs_skip (wanted_no rfl rfl rfl (svv hk 25) (by simp)) (sp_same (by kernel_rfl) hl hs hS (show undef = _ from rfl))
  apply sc
  ·intro a w' vs σ hS hl hs hk
   cases b1 with
   | true =>
    exact rs_skip (wanted_undef rfl rfl rfl (svv hk 25)) (sp_same (by kernel_rfl) hl hs hS (show undef = _ from rfl))
   | false =>
    cases b2 with
    | true =>
     exact rs_skip (wanted_undef rfl rfl rfl (svv hk 25)) (sp_same (by kernel_rfl) hl hs hS (show undef = _ from rfl))
    | false =>
     cases b3 with
     | true =>
      exact rs_skip (wanted_undef rfl rfl rfl (svv hk 25)) (sp_same (by kernel_rfl) hl hs hS (show undef = _ from rfl))
     | false =>
      cases b4 with
      | true =>
       exact rs_skip (wanted_undef rfl rfl rfl (svv hk 25)) (sp_same (by kernel_rfl) hl hs hS (show undef = _ from rfl))
      | false =>
       cases b5 with
       | true =>
        have f37 : a.tmps[37]?.getD undef = .int .i64 col := svf hk 27
        have f40 : a.tmps[40]?.getD undef = .int .i64 (↑cols - 1) := svf hk 30
        exact rq (.bool b6) (wanted_yes rfl rfl rfl (svv hk 25)) (by simp [execOp, Act.eval, f37, f40, go_sem, H6.out]) hl hs hS
       | false =>
        exact rs_skip (wanted_no rfl rfl rfl (svv hk 25) (by simp)) (sp_same (by kernel_rfl) hl hs hS (show undef = _ from rfl))
  apply sc
  ·intro a w' vs σ hS hl hs hk
   cases b1 with
   | true =>
    exact rs_skip (wanted_no rfl rfl rfl (svv hk 22) (by simp)) (sp_same (by kernel_rfl) hl hs hS (show undef = _ from rfl))
   | false =>
    cases b2 with
    | true =>
     exact rs_skip (wanted_no rfl rfl rfl (svv hk 22) (by simp)) (sp_same (by kernel_rfl) hl hs hS (show undef = _ from rfl))
    | false =>
     cases b3 with
     | true =>
      exact rs_skip (wanted_no rfl rfl rfl (svv hk 22) (by simp)) (sp_same (by kernel_rfl) hl hs hS (show undef = _ from rfl))
     | false =>
      cases b4 with
      | true =>
       exact rs_skip (wanted_no rfl rfl rfl (svv hk 22) (by simp)) (sp_same (by kernel_rfl) hl hs hS (show undef = _ from rfl))
      | false =>
       cases b5 with
       | true =>
        have e35 : a.tmps.getD 35 undef = .bool true := svv hk 25
        have f35 := gd e35
        have e41 : a.tmps.getD 41 undef = .bool b6 := svv hk 31
        have f41 := gd e41
        exact rq (.bool (true && b6)) (wanted_yes rfl rfl rfl (svv hk 22)) (by simp [execOp, Act.eval, e35, f35, e41, f41, go_sem]) hl hs hS
       | false =>
        have e35 : a.tmps.getD 35 undef = .bool false := svv hk 25
        have f35 := gd e35
        have e41 : a.tmps.getD 41 undef = (undef : Value) := svv hk 31
        have f41 := gd e41
        exact rq (.bool (false && b6)) (wanted_yes rfl rfl rfl (svv hk 22)) (by simp [execOp, Act.eval, e35, f35, e41, f41, go_sem]) hl hs hS
  apply sc
  ·intro a w' vs σ hS hl hs hk
   cases b1 with
   | true =>
    cases b2 with
    | true =>
     cases b3 with
     | true =>
      cases b4 with
      | true =>
       have e32 : a.tmps.getD 32 undef = .bool (true || true || true || true) := svv hk 22
       have f32 := gd e32
       have e42 : a.tmps.getD 42 undef = (undef : Value) := svv hk 32
       have f42 := gd e42
       exact rp (.bool (true || true || true || true || (b5 && b6))) (by simp [execOp, Act.eval, e32, f32, e42, f42, go_sem]) hl hs hS
      | false =>
       have e32 : a.tmps.getD 32 undef = .bool (true || true || true || false) := svv hk 22
       have f32 := gd e32
       have e42 : a.tmps.getD 42 undef = (undef : Value) := svv hk 32
       have f42 := gd e42
       exact rp (.bool (true || true || true || false || (b5 && b6))) (by simp [execOp, Act.eval, e32, f32, e42, f42, go_sem]) hl hs hS
     | false =>
      cases b4 with
      | true =>
       have e32 : a.tmps.getD 32 undef = .bool (true || true || false || true) := svv hk 22
       have f32 := gd e32
       have e42 : a.tmps.getD 42 undef = (undef : Value) := svv hk 32
       have f42 := gd e42
       exact rp (.bool (true || true || false || true || (b5 && b6))) (by simp [execOp, Act.eval, e32, f32, e42, f42, go_sem]) hl hs hS
      | false =>
       have e32 : a.tmps.getD 32 undef = .bool (true || true || false || false) := svv hk 22
       have f32 := gd e32
       have e42 : a.tmps.getD 42 undef = (undef : Value) := svv hk 32
       have f42 := gd e42
       exact rp (.bool (true || true || false || false || (b5 && b6))) (by simp [execOp, Act.eval, e32, f32, e42, f42, go_sem]) hl hs hS
    | false =>
     cases b3 with
     | true =>
      cases b4 with
      | true =>
       have e32 : a.tmps.getD 32 undef = .bool (true || false || true || true) := svv hk 22
       have f32 := gd e32
       have e42 : a.tmps.getD 42 undef = (undef : Value) := svv hk 32
       have f42 := gd e42
       exact rp (.bool (true || false || true || true || (b5 && b6))) (by simp [execOp, Act.eval, e32, f32, e42, f42, go_sem]) hl hs hS
      | false =>
       have e32 : a.tmps.getD 32 undef = .bool (true || false || true || false) := svv hk 22
       have f32 := gd e32
       have e42 : a.tmps.getD 42 undef = (undef : Value) := svv hk 32
       have f42 := gd e42
       exact rp (.bool (true || false || true || false || (b5 && b6))) (by simp [execOp, Act.eval, e32, f32, e42, f42, go_sem]) hl hs hS
     | false =>
      cases b4 with
      | true =>
       have e32 : a.tmps.getD 32 undef = .bool (true || false || false || true) := svv hk 22
       have f32 := gd e32
       have e42 : a.tmps.getD 42 undef = (undef : Value) := svv hk 32
       have f42 := gd e42
       exact rp (.bool (true || false || false || true || (b5 && b6))) (by simp [execOp, Act.eval, e32, f32, e42, f42, go_sem]) hl hs hS
      | false =>
       have e32 : a.tmps.getD 32 undef = .bool (true || false || false || false) := svv hk 22
       have f32 := gd e32
       have e42 : a.tmps.getD 42 undef = (undef : Value) := svv hk 32
       have f42 := gd e42
       exact rp (.bool (true || false || false || false || (b5 && b6))) (by simp [execOp, Act.eval, e32, f32, e42, f42, go_sem]) hl hs hS
   | false =>
    cases b2 with
    | true =>
     cases b3 with
     | true =>
      cases b4 with
      | true =>
       have e32 : a.tmps.getD 32 undef = .bool (false || true || true || true) := svv hk 22
       have f32 := gd e32
       have e42 : a.tmps.getD 42 undef = (undef : Value) := svv hk 32
       have f42 := gd e42
       exact rp (.bool (false || true || true || true || (b5 && b6))) (by simp [execOp, Act.eval, e32, f32, e42, f42, go_sem]) hl hs hS
      | false =>
       have e32 : a.tmps.getD 32 undef = .bool (false || true || true || false) := svv hk 22
       have f32 := gd e32
       have e42 : a.tmps.getD 42 undef = (undef : Value) := svv hk 32
       have f42 := gd e42
       exact rp (.bool (false || true || true || false || (b5 && b6))) (by simp [execOp, Act.eval, e32, f32, e42, f42, go_sem]) hl hs hS
     | false =>
      cases b4 with
      | true =>
       have e32 : a.tmps.getD 32 undef = .bool (false || true || false || true) := svv hk 22
       have f32 := gd e32
       have e42 : a.tmps.getD 42 undef = (undef : Value) := svv hk 32
       have f42 := gd e42
       exact rp (.bool (false || true || false || true || (b5 && b6))) (by simp [execOp, Act.eval, e32, f32, e42, f42, go_sem]) hl hs hS
      | false =>
       have e32 : a.tmps.getD 32 undef = .bool (false || true || false || false) := svv hk 22
       have f32 := gd e32
       have e42 : a.tmps.getD 42 undef = (undef : Value) := svv hk 32
       have f42 := gd e42
       exact rp (.bool (false || true || false || false || (b5 && b6))) (by simp [execOp, Act.eval, e32, f32, e42, f42, go_sem]) hl hs hS
    | false =>
     cases b3 with
     | true =>
      cases b4 with
      | true =>
       have e32 : a.tmps.getD 32 undef = .bool (false || false || true || true) := svv hk 22
       have f32 := gd e32
       have e42 : a.tmps.getD 42 undef = (undef : Value) := svv hk 32
       have f42 := gd e42
       exact rp (.bool (false || false || true || true || (b5 && b6))) (by simp [execOp, Act.eval, e32, f32, e42, f42, go_sem]) hl hs hS
      | false =>
       have e32 : a.tmps.getD 32 undef = .bool (false || false || true || false) := svv hk 22
       have f32 := gd e32
       have e42 : a.tmps.getD 42 undef = (undef : Value) := svv hk 32
       have f42 := gd e42
       exact rp (.bool (false || false || true || false || (b5 && b6))) (by simp [execOp, Act.eval, e32, f32, e42, f42, go_sem]) hl hs hS
     | false =>
      cases b4 with
      | true =>
       have e32 : a.tmps.getD 32 undef = .bool (false || false || false || true) := svv hk 22
       have f32 := gd e32
       have e42 : a.tmps.getD 42 undef = (undef : Value) := svv hk 32
       have f42 := gd e42
       exact rp (.bool (false || false || false || true || (b5 && b6))) (by simp [execOp, Act.eval, e32, f32, e42, f42, go_sem]) hl hs hS
      | false =>
       have e32 : a.tmps.getD 32 undef = .bool (false || false || false || false) := svv hk 22
       have f32 := gd e32
       have e42 : a.tmps.getD 42 undef = .bool (b5 && b6) := svv hk 32
       have f42 := gd e42
       exact rp (.bool (false || false || false || false || (b5 && b6))) (by simp [execOp, Act.eval, e32, f32, e42, f42, go_sem]) hl hs hS
  apply sc
  ·intro a w' vs σ hS hl hs hk
   have f43 : a.tmps[43]?.getD undef = .bool (b1 || b2 || b3 || b4 || (b5 && b6)) := svf hk 33
   exact rp (.bool (b1 || b2 || b3 || b4 || (b5 && b6))) (by simp [execOp, Act.eval, f43, go_sem]) hl hs hS
  exact SSteps.nil
 ·intro vs w' hS hv
  have q0 : vs 0 = _ := hv 0 (by decide)
  have q1 : vs 1 = _ := hv 1 (by decide)
  have q2 : vs 2 = _ := hv 2 (by decide)
  have q3 : vs 3 = _ := hv 3 (by decide)
  have q4 : vs 4 = _ := hv 4 (by decide)
  have q5 : vs 5 = _ := hv 5 (by decide)
  have q6 : vs 6 = _ := hv 6 (by decide)
  have q7 : vs 7 = _ := hv 7 (by decide)
  have q8 : vs 8 = _ := hv 8 (by decide)
  have q9 : vs 9 = _ := hv 9 (by decide)
  have q10 : vs 10 = _ := hv 10 (by decide)
  have q11 : vs 11 = _ := hv 11 (by decide)
  have q12 : vs 12 = _ := hv 12 (by decide)
  have q13 : vs 13 = _ := hv 13 (by decide)
  have q14 : vs 14 = _ := hv 14 (by decide)
  have q15 : vs 15 = _ := hv 15 (by decide)
  have q16 : vs 16 = _ := hv 16 (by decide)
  have q17 : vs 17 = _ := hv 17 (by decide)
  have q18 : vs 18 = _ := hv 18 (by decide)
  have q19 : vs 19 = _ := hv 19 (by decide)
  have q20 : vs 20 = _ := hv 20 (by decide)
  have q21 : vs 21 = _ := hv 21 (by decide)
  have q22 : vs 22 = _ := hv 22 (by decide)
  have q23 : vs 23 = _ := hv 23 (by decide)
  have q24 : vs 24 = _ := hv 24 (by decide)
  have q25 : vs 25 = _ := hv 25 (by decide)
  have q26 : vs 26 = _ := hv 26 (by decide)
  have q27 : vs 27 = _ := hv 27 (by decide)
  have q28 : vs 28 = _ := hv 28 (by decide)
  have q29 : vs 29 = _ := hv 29 (by decide)
  have q30 : vs 30 = _ := hv 30 (by decide)
  have q31 : vs 31 = _ := hv 31 (by decide)
  have q32 : vs 32 = _ := hv 32 (by decide)
  have q33 : vs 33 = _ := hv 33 (by decide)
  have q34 : vs 34 = _ := hv 34 (by decide)
  have S2 := Lib.hid hS
  simp only [putL, Act.put, Nat.zero_add, Nat.reduceAdd, List.setIfInBounds_toArray, List.set_cons_succ, List.set_cons_zero, q0, q1, q2, q3, q4, q5, q6, q7, q8, q9, q10, q11, q12, q13, q14, q15, q16, q17, q18, q19, q20, q21, q22, q23, q24, q25, q26, q27, q28, q29, q30, q31, q32, q33, q34]
  clear hS hv q0 q1 q2 q3 q4 q5 q6 q7 q8 q9 q10 q11 q12 q13 q14 q15 q16 q17 q18 q19 q20 q21 q22 q23 q24 q25 q26 q27 q28 q29 q30 q31 q32 q33 q34
  have HB := HE
  obtain ⟨B, hB⟩ : ∃ B, (b1 || b2 || b3 || b4 || (b5 && b6)) = B := ⟨_, rfl⟩
  rw [hB] at HE ⊢
  cases B with
  | true =>
   go_wp2_with fail
   go_ret
   exact ⟨by rw [HE.out]; rfl, S2.out.tail⟩
  | false =>
   go_wp2_with fail
   go_ret
   exact ⟨by rw [HE.out]; rfl, S2.out.tail⟩
end
end Go.Proofs.YtppijfjigcoifaaDoor

namespace Go.Proofs.YtppijfjigcoifaaDoor
open Go.RowKit

def wrapB (cols : Nat) (col : Int) (pend auto : Bool) (n : Int) : Bool := auto && (pend || (decide (n = 2) && decide (1 < cols) && decide (col = (cols : Int) - 1)))
section
variable {w0 w : World} {os : List Ob} {k p cols : Nat} {L : List Ln}
set_option maxHeartbeats 4000000 in
theorem prwraps_any (row col : Int) (pend auto : Bool) (n : Int) (hS : Objs w0 w os) (hk : os[k]? = some (.grid p 58 cols L)) (hc : 0 < cols) (hcm : cols ≤ 1000) :
  Calls Tryd.prog 77 #[.pointer (some ⟨p, 0, none⟩), .agg #[.int .i64 row, .int .i64 col, .bool pend], .int .i64 n, .bool auto] w fun e w' => e = .returned (.bool (wrapB cols col pend auto n)) ∧ Objs w0 w' os := by
 have S0 := Lib.hid hS
 have HK := Lib.hid hk
 have HWC := Lib.hid (show IntKind.i64.wrap ((cols : Int) - 1) = (cols : Int) - 1 from IntWalk.i64_in _ (by omega))
 clear hS hk
 cases auto with
 | false =>
  have HV := Lib.hid (show wrapB cols col pend false n = false by simp [wrapB])
  go_enter Tryd.func77, Tryd.ntmps77
  go_upto_region 1 with (fail)
  refine at_objsC S0.out.alloc1 (fun W hW => ?_)
  generalize w.heap.size = bc at hW ⊢
  have S1 := Lib.hid hW
  clear hW S0
  go_wp2_with fail
  refine (Cols_any S1.out (k := k + 1) HK.out).mono ?_
  rintro e w1 ⟨rfl, hS⟩
  have S2 := Lib.hid hS
  obtain ⟨hxc, hfc, hzc⟩ := (hS.box (k := 0) rfl).facts
  clear hS S1
  have hwc := HWC.out
  go_wp2_with fail
  go_ret
  exact ⟨by rw [HV.out]; rfl, S2.out.tail⟩
 | true =>
 cases pend with
 | true =>
  have HV := Lib.hid (show wrapB cols col true true n = true by simp [wrapB])
  go_enter Tryd.func77, Tryd.ntmps77
  go_upto_region 1 with (fail)
  refine at_objsC S0.out.alloc1 (fun W hW => ?_)
  generalize w.heap.size = bc at hW ⊢
  have S1 := Lib.hid hW
  clear hW S0
  go_wp2_with fail
  refine (Cols_any S1.out (k := k + 1) HK.out).mono ?_
  rintro e w1 ⟨rfl, hS⟩
  have S2 := Lib.hid hS
  obtain ⟨hxc, hfc, hzc⟩ := (hS.box (k := 0) rfl).facts
  clear hS S1
  have hwc := HWC.out
  go_wp2_with fail
  go_ret
  exact ⟨by rw [HV.out]; rfl, S2.out.tail⟩
 | false =>
 by_cases h2 : n = 2
 case neg =>
  have hb2 := beq_no h2
  have HV := Lib.hid (show wrapB cols col false true n = false by simp [wrapB, h2])
  clear h2
  go_enter Tryd.func77, Tryd.ntmps77
  go_upto_region 1 with (fail)
  refine at_objsC S0.out.alloc1 (fun W hW => ?_)
  generalize w.heap.size = bc at hW ⊢
  have S1 := Lib.hid hW
  clear hW S0
  go_wp2_with fail
  refine (Cols_any S1.out (k := k + 1) HK.out).mono ?_
  rintro e w1 ⟨rfl, hS⟩
  have S2 := Lib.hid hS
  obtain ⟨hxc, hfc, hzc⟩ := (hS.box (k := 0) rfl).facts
  clear hS S1
  have hwc := HWC.out
  go_wp2_with fail
  go_ret
  exact ⟨by rw [HV.out]; rfl, S2.out.tail⟩
 subst h2
 by_cases h3 : 1 < cols
 case neg =>
  have HV := Lib.hid (show wrapB cols col false true 2 = false by simp [wrapB, h3])
  have d3 : decide ((0 : Int) < (cols : Int) - 1) = false := decide_eq_false (by omega)
  have d4 : decide ((1 : Int) < (cols : Int)) = false := decide_eq_false (by omega)
  have d5 : decide (1 < cols) = false := decide_eq_false (by omega)
  go_enter Tryd.func77, Tryd.ntmps77
  go_upto_region 1 with (fail)
  refine at_objsC S0.out.alloc1 (fun W hW => ?_)
  generalize w.heap.size = bc at hW ⊢
  have S1 := Lib.hid hW
  clear hW S0
  go_wp2_with fail
  refine (Cols_any S1.out (k := k + 1) HK.out).mono ?_
  rintro e w1 ⟨rfl, hS⟩
  have S2 := Lib.hid hS
  obtain ⟨hxc, hfc, hzc⟩ := (hS.box (k := 0) rfl).facts
  clear hS S1
  have hwc := HWC.out
  go_wp2_with fail
  go_ret
  exact ⟨by rw [HV.out]; rfl, S2.out.tail⟩
 by_cases h4 : col = (cols : Int) - 1
 case neg =>
  have hb4 := beq_no h4
  have HV := Lib.hid (show wrapB cols col false true 2 = false by simp [wrapB, h4])
  clear h4
  have d3 : decide ((0 : Int) < (cols : Int) - 1) = true := decide_eq_true (by omega)
  have d4 : decide ((1 : Int) < (cols : Int)) = true := decide_eq_true (by omega)
  have d5 : decide (1 < cols) = true := decide_eq_true (by omega)
  go_enter Tryd.func77, Tryd.ntmps77
  go_upto_region 1 with (fail)
  refine at_objsC S0.out.alloc1 (fun W hW => ?_)
  generalize w.heap.size = bc at hW ⊢
  have S1 := Lib.hid hW
  clear hW S0
  go_wp2_with fail
  refine (Cols_any S1.out (k := k + 1) HK.out).mono ?_
  rintro e w1 ⟨rfl, hS⟩
  have S2 := Lib.hid hS
  obtain ⟨hxc, hfc, hzc⟩ := (hS.box (k := 0) rfl).facts
  clear hS S1
  have hwc := HWC.out
  go_wp2_with fail
  go_ret
  exact ⟨by rw [HV.out]; rfl, S2.out.tail⟩
 have hb4 := beq_yes h4
 have HV := Lib.hid (show wrapB cols col false true 2 = true by simp [wrapB, h3, h4])
 clear h4
 have d3 : decide ((0 : Int) < (cols : Int) - 1) = true := decide_eq_true (by omega)
 have d4 : decide ((1 : Int) < (cols : Int)) = true := decide_eq_true (by omega)
 have d5 : decide (1 < cols) = true := decide_eq_true (by omega)
 go_enter Tryd.func77, Tryd.ntmps77
 go_upto_region 1 with (fail)
 refine at_objsC S0.out.alloc1 (fun W hW => ?_)
 generalize w.heap.size = bc at hW ⊢
 have S1 := Lib.hid hW
 clear hW S0
 go_wp2_with fail
 refine (Cols_any S1.out (k := k + 1) HK.out).mono ?_
 rintro e w1 ⟨rfl, hS⟩
 have S2 := Lib.hid hS
 obtain ⟨hxc, hfc, hzc⟩ := (hS.box (k := 0) rfl).facts
 clear hS S1
 have hwc := HWC.out
 go_wp2_with fail
 go_ret
 exact ⟨by rw [HV.out]; rfl, S2.out.tail⟩
set_option maxHeartbeats 4000000 in
theorem prWraps_yes (row col : Int) (pend auto : Bool) (r : Int) (hT : Tabs w0) (hS : Objs w0 w os) (hk : os[k]? = some (.grid p 58 cols L)) (hc : 0 < cols) (hcm : cols ≤ 1000) (hL : 0 < L.length) (hin : inG row col pend L.length cols = true) :
  Calls Tryd.prog 37 #[.pointer (some ⟨p, 0, none⟩), .agg #[.int .i64 row, .int .i64 col, .bool pend], .int .i32 r, .bool auto] w fun e w' => e = .returned (if wOf r < 1 then .tuple #[.bool false, .int .i64 2] else .tuple #[.bool (wrapB cols col pend auto (wOf r)), .int .i64 0]) ∧ Objs w0 w' os := by
 have S0 := Lib.hid hS
 have HK := Lib.hid hk
 have HT := Lib.hid hT
 have HE := Lib.hid (show chkE row col pend L.length cols = 0 by unfold chkE; rw [hin]; rfl)
 clear hS hk hT
 obtain ⟨n, hn⟩ : ∃ n, wOf r = n := ⟨_, rfl⟩
 have HW := Lib.hid hn
 rw [hn]
 clear hn
 by_cases h1 : n < 1
 ·rw [if_pos h1]
  go_enter Tryd.func37, Tryd.ntmps37
  go_upto_region 1 with (fail)
  refine at_objsC S0.out.alloc1 (fun W hW => ?_)
  generalize w.heap.size = bc at hW ⊢
  obtain ⟨hxc, hfc, hzc⟩ := (hW.box (k := 0) rfl).facts
  have S1 := Lib.hid hW
  clear hW S0
  go_wp2_with fail
  have hcon := prcheck_any row col pend S1.out (k := k + 1) HK.out hc hcm hL
  rw [HE.out] at hcon
  refine hcon.mono ?_
  rintro e w1 ⟨rfl, hS⟩
  have S2 := Lib.hid hS
  clear hS S1 hcon hxc hfc hzc
  go_wp2_with fail
  refine (width_is HW.out _ (S2.out.tabs HT.out)).mono ?_
  rintro e w2 ⟨rfl, hb⟩
  have S3 := Lib.hid (S2.out.bel hb)
  clear hb S2
  go_wp2_with fail
  go_ret2
  exact ⟨rfl, S3.out.tail⟩
 ·rw [if_neg h1]
  go_enter Tryd.func37, Tryd.ntmps37
  go_upto_region 1 with (fail)
  refine at_objsC S0.out.alloc1 (fun W hW => ?_)
  generalize w.heap.size = bc at hW ⊢
  obtain ⟨hxc, hfc, hzc⟩ := (hW.box (k := 0) rfl).facts
  have S1 := Lib.hid hW
  clear hW S0
  go_wp2_with fail
  have hcon := prcheck_any row col pend S1.out (k := k + 1) HK.out hc hcm hL
  rw [HE.out] at hcon
  refine hcon.mono ?_
  rintro e w1 ⟨rfl, hS⟩
  have S2 := Lib.hid hS
  clear hS S1 hcon hxc hfc hzc
  go_wp2_with fail
  refine (width_is HW.out _ (S2.out.tabs HT.out)).mono ?_
  rintro e w2 ⟨rfl, hb⟩
  have S3 := Lib.hid (S2.out.bel hb)
  clear hb S2
  obtain ⟨hxc, hfc, hzc⟩ := (S3.out.box (k := 0) rfl).facts
  go_wp2_with fail
  refine (prwraps_any row col pend auto n S3.out (k := k + 1) HK.out hc hcm).mono ?_
  rintro e w3 ⟨rfl, hS⟩
  have S4 := Lib.hid hS
  clear hS S3 hxc hfc hzc
  go_wp2_with fail
  go_ret2
  exact ⟨rfl, S4.out.tail⟩
end
end Go.Proofs.YtppijfjigcoifaaDoor

namespace Go.Proofs.YtppijfjigcoifaaDoor
open Go.RowKit

theorem Blk.width4 {w : World} {g : Nat} {t : TypeId} {c : Cell} (h : Blk w g t (cv c)) : w.cell? ⟨g, 4, none⟩ = some (.int .i64 c.width) := (h.cell 4).trans rfl
theorem pcursor_size : (Tryd.prog.info? 48).map (·.size) = some 3 := by kernel_rfl
theorem Objs.setCur {w0 w : World} {os : List Ob} (h : Objs w0 w os) (k : Nat) {g : Nat} {t : TypeId} {x y z : Value} {r c : Int} {b : Bool} (hk : os[k]? = some (.box g t #[x, y, z])) : Objs w0 (((w.setCell ⟨g, 0, none⟩ (.int .i64 r)).setCell ⟨g, 1, none⟩ (.int .i64 c)).setCell ⟨g, 2, none⟩ (.bool b)) (os.set k (.box g t #[.int .i64 r, .int .i64 c, .bool b])) := by
 have hkl := (List.getElem?_eq_some_iff.1 hk).1
 have h1 := h.setBox k (i := 0) (u := .int .i64 r) hk
 have h2 := h1.setBox k (i := 1) (u := .int .i64 c) (g := g) (t := t) (cs := #[.int .i64 r, y, z]) (by rw [List.getElem?_set_self hkl]; simp)
 have h3 := h2.setBox k (i := 2) (u := .bool b) (g := g) (t := t) (cs := #[.int .i64 r, .int .i64 c, z]) (by rw [List.getElem?_set_self (by simpa using hkl)]; simp)
 simpa using h3
theorem tg4 {σ os : List Ob} {a b c d o : Ob} {k : Nat} (hl : σ.length = [a].length) (hk : os[k]? = some o) : (σ ++ (b :: c :: d :: os))[k + 4]? = some o := by
 match σ, hl with
 | [x], _ => exact hk
theorem tg4b {σ os : List Ob} {a b c d o : Ob} {k : Nat} (hl : σ.length = [a, b, c, d].length) (hk : os[k]? = some o) : (σ ++ os)[k + 4]? = some o := by
 match σ, hl with
 | [x, y, z, v], _ => exact hk
theorem of_ok {r : Int} {q : Pen} (hw : 1 ≤ wOf r) (hq : q.ok = true) : (⟨r, 0, 0, 0, wOf r, q⟩ : Cell).ok = true := by
 have hr : ¬ r = 0 := fun h => by rw [h, wOf_zero] at hw; omega
 have h0 : (0 : Int) < wOf r := by omega
 simp [Cell.ok, hq, hr, h0, Cell.marksOk, Cell.mOk, Cell.mark]
section
variable {w0 w : World} {os : List Ob} {k p cols : Nat} {L : List Ln}
set_option maxHeartbeats 4000000 in
theorem Print_bad (row col : Int) (pend auto ins : Bool) (r : Int) (q : Pen) (hT : Tabs w0) (hS : Objs w0 w os) (hk : os[k]? = some (.grid p 58 cols L)) (hc : 0 < cols) (hcm : cols ≤ 1000) (hL : 0 < L.length) (hin : inG row col pend L.length cols = true) (hbad : wOf r < 1 ∨ q.ok = false) :
  Calls Tryd.prog 38 #[.pointer (some ⟨p, 0, none⟩), .agg #[.int .i64 row, .int .i64 col, .bool pend], .int .i32 r, .agg (pv q), .bool auto, .bool ins] w fun e w' => e = .returned (.tuple #[.agg #[.int .i64 0, .int .i64 0, .bool false], .int .i64 2]) ∧ Objs w0 w' os := by
 have S0 := Lib.hid hS
 have HK := Lib.hid hk
 clear hS hk
 have HT := Lib.hid hT
 have HE := Lib.hid (show chkE row col pend L.length cols = 0 by unfold chkE; rw [hin]; rfl)
 obtain ⟨n, hn⟩ : ∃ n, wOf r = n := ⟨_, rfl⟩
 have HW := Lib.hid hn
 rw [hn] at hbad
 clear hin hT hn
 by_cases h1 : n < 1
 ·clear hbad
  go_enter Tryd.func38, Tryd.ntmps38
  go_upto_region 1 with (fail)
  refine at_objsC (S0.out.alloc3 (c1 := #[.int .i64 row, .int .i64 col, .bool pend]) (t1 := 48) (c2 := pv q) (t2 := 54) (c3 := #[.int .i64 0, .int .i64 0, .bool false]) (t3 := 48)) (fun W hW => ?_)
  generalize w.heap.size + 1 + 1 = b12 at hW ⊢
  generalize w.heap.size + 1 = b9 at hW ⊢
  generalize w.heap.size = b7 at hW ⊢
  have S1 := Lib.hid hW
  clear hW S0
  obtain ⟨hx7, hf7, hz7⟩ := (S1.out.box (k := 2) rfl).facts
  go_wp2_with fail
  clear hx7 hf7 hz7
  have hcon := prcheck_any row col pend S1.out (k := k + 3) HK.out hc hcm hL
  rw [HE.out] at hcon
  refine hcon.mono ?_
  rintro e w1 ⟨rfl, hS⟩
  have S2 := Lib.hid hS
  clear hS hcon S1
  go_wp2_with fail
  refine (width_is HW.out _ (S2.out.tabs HT.out)).mono ?_
  rintro e w2 ⟨rfl, hb⟩
  have S3 := Lib.hid (S2.out.bel hb)
  clear hb S2
  have hp9 := (S3.out.box (k := 1) rfl).penAt
  have hp9z := (S3.out.box (k := 1) rfl).lt
  obtain ⟨hx7, hf7, hz7⟩ := (S3.out.box (k := 2) rfl).facts
  clear hp9 hp9z hx7 hf7 hz7
  obtain ⟨hx12, hf12, hz12⟩ := (S3.out.box (k := 0) rfl).facts
  have SF := Lib.hid (S3.out.setCur 0 (r := 0) (c := 0) (b := false) rfl)
  go_wp2_with fail
  refine bodyPost_ret (results_ct Tryd.results38 _ _ b12 _ _ rfl (SF.out.box (k := 0) rfl) Tryd.underlying48 rfl pcursor_size) rfl ?_
  exact ⟨rfl, SF.out.tail.tail.tail⟩
 ·have HQB := Lib.hid (show (blank q).ok = false by rw [ok_blank]; exact hbad.resolve_left h1)
  clear hbad
  go_enter Tryd.func38, Tryd.ntmps38
  go_upto_region 1 with (fail)
  refine at_objsC (S0.out.alloc3 (c1 := #[.int .i64 row, .int .i64 col, .bool pend]) (t1 := 48) (c2 := pv q) (t2 := 54) (c3 := #[.int .i64 0, .int .i64 0, .bool false]) (t3 := 48)) (fun W hW => ?_)
  generalize w.heap.size + 1 + 1 = b12 at hW ⊢
  generalize w.heap.size + 1 = b9 at hW ⊢
  generalize w.heap.size = b7 at hW ⊢
  have S1 := Lib.hid hW
  clear hW S0
  obtain ⟨hx7, hf7, hz7⟩ := (S1.out.box (k := 2) rfl).facts
  go_wp2_with fail
  clear hx7 hf7 hz7
  have hcon := prcheck_any row col pend S1.out (k := k + 3) HK.out hc hcm hL
  rw [HE.out] at hcon
  refine hcon.mono ?_
  rintro e w1 ⟨rfl, hS⟩
  have S2 := Lib.hid hS
  clear hS hcon S1
  go_wp2_with fail
  refine (width_is HW.out _ (S2.out.tabs HT.out)).mono ?_
  rintro e w2 ⟨rfl, hb⟩
  have S3 := Lib.hid (S2.out.bel hb)
  clear hb S2
  have hp9 := (S3.out.box (k := 1) rfl).penAt
  have hp9z := (S3.out.box (k := 1) rfl).lt
  obtain ⟨hx7, hf7, hz7⟩ := (S3.out.box (k := 2) rfl).facts
  go_wp2_with fail
  refine (cellBlank_any q _).mono ?_
  rintro e w3 ⟨rfl, hb⟩
  have S4 := Lib.hid (S3.out.bel hb)
  clear hb S3
  go_wp2_with fail
  refine (valid_no HQB.out _ (S4.out.tabs HT.out)).mono ?_
  rintro e w4 ⟨rfl, hb⟩
  have S5 := Lib.hid (S4.out.bel hb)
  clear hb S4
  clear hp9 hp9z hx7 hf7 hz7
  obtain ⟨hx12, hf12, hz12⟩ := (S5.out.box (k := 0) rfl).facts
  have SF := Lib.hid (S5.out.setCur 0 (r := 0) (c := 0) (b := false) rfl)
  go_wp2_with fail
  refine bodyPost_ret (results_ct Tryd.results38 _ _ b12 _ _ rfl (SF.out.box (k := 0) rfl) Tryd.underlying48 rfl pcursor_size) rfl ?_
  exact ⟨rfl, SF.out.tail.tail.tail⟩
set_option maxHeartbeats 4000000 in
theorem Print_wrap (row col : Int) (pend auto ins : Bool) (r : Int) (q : Pen) (hT : Tabs w0) (hS : Objs w0 w os) (hk : os[k]? = some (.grid p 58 cols L)) (hc : 0 < cols) (hcm : cols ≤ 1000) (hL : 0 < L.length) (hin : inG row col pend L.length cols = true) (hw : 1 ≤ wOf r) (hq : q.ok = true) (hwr : wrapB cols col pend auto (wOf r) = true) :
  Calls Tryd.prog 38 #[.pointer (some ⟨p, 0, none⟩), .agg #[.int .i64 row, .int .i64 col, .bool pend], .int .i32 r, .agg (pv q), .bool auto, .bool ins] w fun e w' => e = .returned (.tuple #[.agg #[.int .i64 0, .int .i64 0, .bool false], .int .i64 8]) ∧ Objs w0 w' os := by
 have S0 := Lib.hid hS
 have HK := Lib.hid hk
 clear hS hk
 have HT := Lib.hid hT
 have HE := Lib.hid (show chkE row col pend L.length cols = 0 by unfold chkE; rw [hin]; rfl)
 have HQB := Lib.hid (show (blank q).ok = true by rw [ok_blank]; exact hq)
 obtain ⟨n, hn⟩ : ∃ n, wOf r = n := ⟨_, rfl⟩
 have HW := Lib.hid hn
 rw [hn] at hw hwr
 have HWR := Lib.hid hwr
 clear hin hT hn hq hwr
 go_enter Tryd.func38, Tryd.ntmps38
 go_upto_region 1 with (fail)
 refine at_objsC (S0.out.alloc3 (c1 := #[.int .i64 row, .int .i64 col, .bool pend]) (t1 := 48) (c2 := pv q) (t2 := 54) (c3 := #[.int .i64 0, .int .i64 0, .bool false]) (t3 := 48)) (fun W hW => ?_)
 generalize w.heap.size + 1 + 1 = b12 at hW ⊢
 generalize w.heap.size + 1 = b9 at hW ⊢
 generalize w.heap.size = b7 at hW ⊢
 have S1 := Lib.hid hW
 clear hW S0
 obtain ⟨hx7, hf7, hz7⟩ := (S1.out.box (k := 2) rfl).facts
 go_wp2_with fail
 clear hx7 hf7 hz7
 have hcon := prcheck_any row col pend S1.out (k := k + 3) HK.out hc hcm hL
 rw [HE.out] at hcon
 refine hcon.mono ?_
 rintro e w1 ⟨rfl, hS⟩
 have S2 := Lib.hid hS
 clear hS hcon S1
 go_wp2_with fail
 refine (width_is HW.out _ (S2.out.tabs HT.out)).mono ?_
 rintro e w2 ⟨rfl, hb⟩
 have S3 := Lib.hid (S2.out.bel hb)
 clear hb S2
 have hp9 := (S3.out.box (k := 1) rfl).penAt
 have hp9z := (S3.out.box (k := 1) rfl).lt
 obtain ⟨hx7, hf7, hz7⟩ := (S3.out.box (k := 2) rfl).facts
 go_wp2_with fail
 refine (cellBlank_any q _).mono ?_
 rintro e w3 ⟨rfl, hb⟩
 have S4 := Lib.hid (S3.out.bel hb)
 clear hb S3
 go_wp2_with fail
 refine (valid_yes HQB.out _ (S4.out.tabs HT.out)).mono ?_
 rintro e w4 ⟨rfl, hb⟩
 have S5 := Lib.hid (S4.out.bel hb)
 clear hb S4
 clear hp9 hp9z hx7 hf7 hz7
 have hp9 := (S5.out.box (k := 1) rfl).penAt
 have hp9z := (S5.out.box (k := 1) rfl).lt
 obtain ⟨hx7, hf7, hz7⟩ := (S5.out.box (k := 2) rfl).facts
 go_wp2_with fail
 clear hp9 hp9z hx7 hf7 hz7
 have hcon := prwraps_any row col pend auto n S5.out (k := k + 3) HK.out hc hcm
 rw [HWR.out] at hcon
 refine hcon.mono ?_
 rintro e w5 ⟨rfl, hS⟩
 have S6 := Lib.hid hS
 clear hS hcon S5
 obtain ⟨hx12, hf12, hz12⟩ := (S6.out.box (k := 0) rfl).facts
 have SF := Lib.hid (S6.out.setCur 0 (r := 0) (c := 0) (b := false) rfl)
 go_wp2_with fail
 refine bodyPost_ret (results_ct Tryd.results38 _ _ b12 _ _ rfl (SF.out.box (k := 0) rfl) Tryd.underlying48 rfl pcursor_size) rfl ?_
 exact ⟨rfl, SF.out.tail.tail.tail⟩
set_option maxRecDepth 100000 in
set_option maxHeartbeats 16000000 in
theorem Print_yes {i j : Nat} (pend auto ins : Bool) (r : Int) (q : Pen) (hT : Tabs w0) (hS : Objs w0 w os) (hk : os[k]? = some (.grid p 58 cols L)) (hc : 0 < cols) (hcm : cols ≤ 1000) (hL : 0 < L.length) (hR : Rect cols L) (hin : inG i j pend L.length cols = true) (hw : 1 ≤ wOf r) (hq : q.ok = true) (hwr : wrapB cols j pend auto (wOf r) = false) (x0 : Cell) (hx0 : x0 = ⟨r, 0, 0, 0, wOf r, q⟩) :
  Calls Tryd.prog 38 #[.pointer (some ⟨p, 0, none⟩), .agg #[.int .i64 ↑i, .int .i64 ↑j, .bool pend], .int .i32 r, .agg (pv q), .bool auto, .bool ins] w fun e w' => e = .returned (.tuple #[.agg #[.int .i64 ↑i, .int .i64 ↑(prCol cols (prAt cols j (prCell cols x0)) (prCell cols x0)), .bool (prPend cols (prAt cols j (prCell cols x0)) (prCell cols x0) auto)], .int .i64 0]) ∧ Objs w0 w' (os.set k (.grid p 58 cols (printL i j cols x0 ins L))) := by
 have S0 := Lib.hid hS
 have HK := Lib.hid hk
 clear hS hk
 have HT := Lib.hid hT
 have HR := Lib.hid hR
 have HE := Lib.hid (show chkE i j pend L.length cols = 0 by unfold chkE; rw [hin]; rfl)
 have HQ := Lib.hid hq
 have HQB := Lib.hid (show (blank q).ok = true by rw [ok_blank]; exact hq)
 have hing := ingrid_iff.1 hin
 have hi : i < L.length := by omega
 have hj : j < cols := by omega
 have hw12 : x0.width = 1 ∨ x0.width = 2 := by rw [hx0]; show wOf r = 1 ∨ wOf r = 2; rcases wOf_cases r with h | h | h | h <;> omega
 have HXK := Lib.hid (show x0.ok = true by rw [hx0]; exact of_ok hw hq)
 obtain ⟨l, HOF, HX0⟩ : ∃ l, Hid (ofCells r q = (l, 0)) ∧ Hid (l[0]? = some x0) := by
  rw [hx0]
  unfold ofCells
  rw [if_neg (by rw [hq]; simp; omega)]
  by_cases h2 : wOf r = 2
  ·rw [if_pos h2, h2]; exact ⟨_, Lib.hid rfl, Lib.hid rfl⟩
  ·rw [if_neg h2, show wOf r = 1 by rcases wOf_cases r with h | h | h | h <;> omega]; exact ⟨_, Lib.hid rfl, Lib.hid rfl⟩
 obtain ⟨n, hn⟩ : ∃ n, wOf r = n := ⟨_, rfl⟩
 have HW := Lib.hid hn
 have HX00 := Lib.hid hx0
 rw [hn] at hw hwr
 have HWR := Lib.hid hwr
 have HWC := Lib.hid (show IntKind.i64.wrap ((cols : Int) - 1) = (cols : Int) - 1 from IntWalk.i64_in _ (by omega))
 obtain ⟨bw, hbw⟩ : ∃ bw, decide ((cols : Int) < x0.width) = bw := ⟨_, rfl⟩
 have HBW := Lib.hid hbw
 clear hin hT hR hn hq hwr hx0 hing hbw
 go_enter Tryd.func38, Tryd.ntmps38
 go_upto_region 1 with (fail)
 refine at_objsC (S0.out.alloc3 (c1 := #[.int .i64 ↑i, .int .i64 ↑j, .bool pend]) (t1 := 48) (c2 := pv q) (t2 := 54) (c3 := #[.int .i64 0, .int .i64 0, .bool false]) (t3 := 48)) (fun W hW => ?_)
 generalize w.heap.size + 1 + 1 = b12 at hW ⊢
 generalize w.heap.size + 1 = b9 at hW ⊢
 generalize w.heap.size = b7 at hW ⊢
 have S1 := Lib.hid hW
 clear hW S0
 obtain ⟨hx7, hf7, hz7⟩ := (S1.out.box (k := 2) rfl).facts
 go_wp2_with fail
 clear hx7 hf7 hz7
 have hcon := prcheck_any ↑i ↑j pend S1.out (k := k + 3) HK.out hc hcm hL
 rw [HE.out] at hcon
 refine hcon.mono ?_
 rintro e w1 ⟨rfl, hS⟩
 have S2 := Lib.hid hS
 clear hS hcon S1
 go_wp2_with fail
 refine (width_is HW.out _ (S2.out.tabs HT.out)).mono ?_
 rintro e w2 ⟨rfl, hb⟩
 have S3 := Lib.hid (S2.out.bel hb)
 clear hb S2
 have hp9 := (S3.out.box (k := 1) rfl).penAt
 have hp9z := (S3.out.box (k := 1) rfl).lt
 obtain ⟨hx7, hf7, hz7⟩ := (S3.out.box (k := 2) rfl).facts
 go_wp2_with fail
 refine (cellBlank_any q _).mono ?_
 rintro e w3 ⟨rfl, hb⟩
 have S4 := Lib.hid (S3.out.bel hb)
 clear hb S3
 go_wp2_with fail
 refine (valid_yes HQB.out _ (S4.out.tabs HT.out)).mono ?_
 rintro e w4 ⟨rfl, hb⟩
 have S5 := Lib.hid (S4.out.bel hb)
 clear hb S4
 clear hp9 hp9z hx7 hf7 hz7
 have hp9 := (S5.out.box (k := 1) rfl).penAt
 have hp9z := (S5.out.box (k := 1) rfl).lt
 obtain ⟨hx7, hf7, hz7⟩ := (S5.out.box (k := 2) rfl).facts
 go_wp2_with fail
 clear hp9 hp9z hx7 hf7 hz7
 have hcon := prwraps_any ↑i ↑j pend auto n S5.out (k := k + 3) HK.out hc hcm
 rw [HWR.out] at hcon
 refine hcon.mono ?_
 rintro e w5 ⟨rfl, hS⟩
 have S6 := Lib.hid hS
 clear hS hcon S5
 have hp9 := (S6.out.box (k := 1) rfl).penAt
 have hp9z := (S6.out.box (k := 1) rfl).lt
 obtain ⟨hx7, hf7, hz7⟩ := (S6.out.box (k := 2) rfl).facts
 go_wp2_with fail
 clear hp9 hp9z hx7 hf7 hz7
 have hcon := cellOf_any r q _ (S6.out.tabs HT.out)
 rw [HOF.out] at hcon
 refine hcon.mono ?_
 rintro e w6 ⟨vl, rfl, ho, hb⟩
 have hS := S6.out.newCells hb ho
 obtain ⟨gl, cl, rfl, -, -, -⟩ := hS.ownAt (k := 0) (j := 0) rfl HX0.out
 have S7 := Lib.hid hS
 have hl0 : 0 < l.length := (List.getElem?_eq_some_iff.1 HX0.out).1
 clear hS ho hb hcon S6
 go_upto_region 12 with (fail)
 refine wp_region_stage (w0 := w0) (os := os) (by kernel_rfl) (by kernel_rfl) (by kernel_rfl) [(0, 5, [5], fun vs => .box (blkOf (vs 5)) 71 (cv cell0)), (0, 6, [5], fun vs => .box (blkOf (vs 5)) 71 (cv x0))] [[], [], [1], [], [4], [0], [0], []] [.none, .cells (.slice (some ⟨gl, 0, none⟩) l.length cl) l, .box b12 48 #[.int .i64 0, .int .i64 0, .bool false], .box b9 54 (pv q), .box b7 48 #[.int .i64 ↑i, .int .i64 ↑j, .bool pend]] (fun opn u => match opn with | 0 => u = .slice (some ⟨gl, 0, none⟩) l.length cl | 1 => u = .pointer (some ⟨gl, 0, none⟩) | 2 => u = .agg (cv x0) | 3 => u = .pointer (some ⟨b7, 1, none⟩) | 4 => u = .int .i64 ↑j | 5 => ∃ g, u = .pointer (some ⟨g, 0, none⟩) | 6 => True | 7 => u = .int .i64 ↑j | _ => True) (fun vs => [.box (blkOf (vs 5)) 71 (cv x0), .cells (.slice (some ⟨gl, 0, none⟩) l.length cl) l, .box b12 48 #[.int .i64 0, .int .i64 0, .bool false], .box b9 54 (pv q), .box b7 48 #[.int .i64 ↑i, .int .i64 ↑j, .bool pend]]) (by kernel_rfl) (fun vs => by rfl) S7.out.pad ?_ ?_
 ·apply sc
  ·intro a w' vs σ hS hl hs hk
   have f16 : a.tmps[16]?.getD undef = .slice (some ⟨gl, 0, none⟩) l.length cl := sof hk
   exact rp (.slice (some ⟨gl, 0, none⟩) l.length cl) (by simp [execOp, Act.eval, f16, go_sem]) hl hs hS
  apply sc
  ·intro a w' vs σ hS hl hs hk
   have f56 : a.tmps[56]?.getD undef = .slice (some ⟨gl, 0, none⟩) l.length cl := svf hk 0
   exact rp (pt gl 0) (by simp [execOp, Act.eval, f56, go_sem, hl0]) hl hs hS
  apply sc
  ·intro a w' vs σ hS hl hs hk
   have f57 : a.tmps[57]?.getD undef = .pointer (some ⟨gl, 0, none⟩) := svf hk 1
   have hx : cellAt w' gl 0 = some x0 := by have := (cells_facts hS (sg (hs 1 (by decide))) (i := 0) (c := x0) HX0.out).2.2.1; simpa using this
   exact rp (.agg (cv x0)) (by simp [execOp, Act.eval, f57, go_sem, hx]) hl hs hS
  apply sc
  ·intro a w' vs σ hS hl hs hk
   have f7 : a.tmps[7]?.getD undef = .pointer (some ⟨b7, 0, none⟩) := sof hk
   exact rp (pt b7 1) (by simp [execOp, Act.eval, f7, go_sem]) hl hs hS
  apply sc
  ·intro a w' vs σ hS hl hs hk
   have f59 : a.tmps[59]?.getD undef = .pointer (some ⟨b7, 1, none⟩) := svf hk 3
   have hx := (hS.box (sg (hs 4 (by decide)))).cell
   exact rp (.int .i64 ↑j) (by simp [execOp, Act.eval, f59, go_sem, hx]) hl hs hS
  apply sc
  ·intro a w' vs σ hS hl hs hk
   have h1 : σ[0]? = some .none := hs 0 (by decide)
   exact rs_run (v' := .pointer (some ⟨w'.heap.size, 0, none⟩)) (w' := w'.alloc (.cells (cv cell0) 71)) (wanted_none rfl) (by first | (simp [execOp, go_sem]; done) | (simp [execOp, go_sem]; rfl) | rfl) (sp_set 0 (.box w'.heap.size 71 (cv cell0)) (by kernel_rfl) (by simp) (by decide) hl hs (by rfl) (hS.alloc1.place (sg h1)) ⟨_, rfl⟩)
  apply sc
  ·intro a w' vs σ hS hl hs hk
   have e18 : a.tmps.getD 18 undef = vs 5 := sk_val hk 5 (by kernel_rfl) rfl rfl
   have p18 : (fun u : Value => ∃ g, u = .pointer (some ⟨g, 0, none⟩)) (vs 5) := (hk.1 5 (by kernel_rfl)).1
   have f18 := gd e18
   have f58 : a.tmps[58]?.getD undef = .agg (cv x0) := svf hk 2
   obtain ⟨g9, q9⟩ := p18
   have h1 : σ[0]? = some (.box (blkOf (vs 5)) 71 (cv cell0)) := hs 0 (by decide)
   rw [q9, show blkOf (.pointer (some ⟨g9, 0, none⟩)) = g9 from rfl] at h1
   have hst := store_cv_row w' g9 (cv cell0) x0 (hS.box (sg h1)) (cv_size _)
   exact rstep_store (w2 := w'.setRow g9 (cv x0)) (wanted_none rfl) rfl (by simp [execOp, Act.eval, e18, f18, f58, q9, hst, go_sem]) (sp_set 0 (.box g9 71 (cv x0)) (by kernel_rfl) (by simp) (by decide) hl hs (by show Ob.box (blkOf (vs 5)) 71 (cv x0) = _; rw [q9]; rfl) (hS.rowBox 0 (ds := cv x0) (sg h1)) trivial) trivial
  apply sc
  ·intro a w' vs σ hS hl hs hk
   have f60 : a.tmps[60]?.getD undef = .int .i64 ↑j := svf hk 4
   exact rp (.int .i64 ↑j) (by simp [execOp, Act.eval, f60, go_sem]) hl hs hS
  exact SSteps.nil
 ·intro vs w' hS hv
  have q0 : vs 0 = _ := hv 0 (by decide)
  have q1 : vs 1 = _ := hv 1 (by decide)
  have q2 : vs 2 = _ := hv 2 (by decide)
  have q3 : vs 3 = _ := hv 3 (by decide)
  have q4 : vs 4 = _ := hv 4 (by decide)
  have q7 : vs 7 = _ := hv 7 (by decide)
  obtain ⟨b18, q5⟩ := (show ∃ g, vs 5 = .pointer (some ⟨g, 0, none⟩) from hv 5 (by decide))
  rw [q5, show blkOf (.pointer (some ⟨b18, 0, none⟩)) = b18 from rfl] at hS
  have S2 := Lib.hid hS
  simp only [putL, Act.put, Nat.zero_add, Nat.reduceAdd, List.setIfInBounds_toArray, List.set_cons_succ, List.set_cons_zero, q0, q1, q2, q3, q4, q7]
  clear hS hv q0 q1 q2 q3 q4 q7
  simp only [q5]
  have S9 := Lib.hid (show Objs w0 _ (.box b18 71 (cv x0) :: .box b12 48 #[.int .i64 0, .int .i64 0, .bool false] :: .box b9 54 (pv q) :: .box b7 48 #[.int .i64 ↑i, .int .i64 ↑j, .bool pend] :: os) from (Objs.pick (σ := [_, _, _, _, _]) (os := os) S2.out [some 0, some 2, some 3, some 4] (by decide) rfl))
  clear S2 S7 q5
  go_upto_region 13 with (fail)
  refine wp_region_stage (w0 := w0) (os := (.box b12 48 #[.int .i64 0, .int .i64 0, .bool false] :: .box b9 54 (pv q) :: .box b7 48 #[.int .i64 ↑i, .int .i64 ↑j, .bool pend] :: os)) (by kernel_rfl) (by kernel_rfl) (by kernel_rfl) [] [[], [0], [], [], []] [.box b18 71 (cv x0)] (fun opn u => match opn with | 0 => u = .pointer (some ⟨b18, 4, none⟩) | 1 => u = .int .i64 x0.width | 2 => u = .pointer (some ⟨p, 0, none⟩) | 3 => u = .int .i64 ↑cols | 4 => u = .bool bw | _ => True) (fun vs => [.box b18 71 (cv x0)]) (by kernel_rfl) (fun vs => by rfl) S9.out ?_ ?_
  ·apply sc
   ·intro a w' vs σ hS hl hs hk
    have f18 : a.tmps[18]?.getD undef = .pointer (some ⟨b18, 0, none⟩) := sof hk
    exact rp (pt b18 4) (by simp [execOp, Act.eval, f18, go_sem]) hl hs hS
   apply sc
   ·intro a w' vs σ hS hl hs hk
    have f61 : a.tmps[61]?.getD undef = .pointer (some ⟨b18, 4, none⟩) := svf hk 0
    have hx := (hS.box (sg (hs 0 (by decide)))).cell
    exact rp (.int .i64 x0.width) (by simp [execOp, Act.eval, f61, go_sem, hx]) hl hs hS
   apply sc
   ·intro a w' vs σ hS hl hs hk
    have f0 : a.tmps[0]?.getD undef = .pointer (some ⟨p, 0, none⟩) := sof hk
    exact rp (pt p 0) (by simp [execOp, Act.eval, f0, go_sem]) hl hs hS
   apply sc
   ·intro a w' vs σ hS hl hs hk
    have e63 : a.tmps.getD 63 undef = .pointer (some ⟨p, 0, none⟩) := svv hk 2
    exact ro_call (f := 18) (wanted_none rfl) rfl (by simp only [List.map_toArray, List.map_cons, List.map_nil, Act.eval, e63] <;> rfl) (fun _ _ => by kernel_rfl) ((Cols_any hS (k := k + 4) (by simpa using tg4 hl HK.out)).mono fun e w2 ⟨h1, h2⟩ => ⟨_, h1, sp_same (by kernel_rfl) hl hs h2 rfl, trivial⟩)
   apply sc
   ·intro a w' vs σ hS hl hs hk
    have f62 : a.tmps[62]?.getD undef = .int .i64 x0.width := svf hk 1
    have f64 : a.tmps[64]?.getD undef = .int .i64 ↑cols := svf hk 3
    exact rp (.bool bw) (by simp [execOp, Act.eval, f62, f64, go_sem, HBW.out]) hl hs hS
   exact SSteps.nil
  ·intro vs w' hS hv
   have q0 : vs 0 = _ := hv 0 (by decide)
   have q1 : vs 1 = _ := hv 1 (by decide)
   have q2 : vs 2 = _ := hv 2 (by decide)
   have q3 : vs 3 = _ := hv 3 (by decide)
   have q4 : vs 4 = _ := hv 4 (by decide)
   have S2 := Lib.hid hS
   simp only [putL, Act.put, Nat.zero_add, Nat.reduceAdd, List.setIfInBounds_toArray, List.set_cons_succ, List.set_cons_zero, q0, q1, q2, q3, q4]
   clear hS hv q0 q1 q2 q3 q4
   have S10 := S2
   clear S2 S9
   obtain ⟨x, hx⟩ : ∃ x, prCell cols x0 = x := ⟨_, rfl⟩
   obtain ⟨hxw, hxc⟩ := prCell_width (x := x0) hc hw12
   rw [hx] at hxw hxc
   have hxn : x.width = (x.width.toNat : Int) ∧ 1 ≤ x.width.toNat ∧ x.width.toNat ≤ 2 := by rcases hxw with h | h <;> rw [h] <;> decide
   have HXN := Lib.hid hxn
   have HXC := Lib.hid hx
   have HXP := Lib.hid (show x.pen = q by rw [← hx]; unfold prCell; split <;> (rw [HX00.out]; try rfl))
   have HXO := Lib.hid (show x.ok = true by rw [← hx]; unfold prCell; split; (rw [ok_blank, HX00.out]; exact HQ.out); exact HXK.out)
   have HXZ := Lib.hid (show ¬ x.width = 0 by omega)
   obtain ⟨hfit, hat, -, -⟩ := prAt_fits (x := x) (j := j) hj hxw hxc
   obtain ⟨at_, hat_⟩ : ∃ at_, prAt cols j x = at_ := ⟨_, rfl⟩
   rw [hat_] at hfit hat
   have HAT := Lib.hid hat_
   have HFT := Lib.hid hfit
   have HWS := Lib.hid (show IntKind.i64.wrap ((cols : Int) - x.width) = (cols : Int) - x.width from IntWalk.i64_in _ (by omega))
   have HWA := Lib.hid (show IntKind.i64.wrap ((at_ : Int) + x.width) = (at_ : Int) + x.width from IntWalk.i64_in _ (by omega))
   have HMIN := Lib.hid (show min (j : Int) ((cols : Int) - x.width) = (at_ : Int) by rw [← hat_]; unfold prAt; omega)
   clear hx hxw hxc hxn hat_ hfit
   have hbw : bw = decide ((cols : Int) < x0.width) := HBW.out.symm
   cases bw with
   | true =>
    have HXB := Lib.hid (show x = blank q by rw [← HXC.out]; unfold prCell; rw [if_pos (of_decide_eq_true hbw.symm), HX00.out])
    clear hbw
    have hp9 := (S10.out.box (k := 2) rfl).penAt
    have hp9z := (S10.out.box (k := 2) rfl).lt
    obtain ⟨hx7, hf7, hz7⟩ := (S10.out.box (k := 3) rfl).facts
    have hc18 := (S10.out.box (k := 0) rfl).cellAt
    have hw18 := (S10.out.box (k := 0) rfl).width4
    go_wp2_with fail
    clear hp9 hp9z hx7 hf7 hz7 hc18 hw18
    refine (cellBlank_any q _).mono ?_
    rintro e w5 ⟨rfl, hb⟩
    have hS := S10.out.bel hb
    have hst := store_cv_row w5 b18 (cv x0) (blank q) (hS.box (k := 0) rfl) (cv_size _)
    have S12 := Lib.hid (show Objs w0 (w5.setRow b18 (cv (blank q))) (.box b18 71 (cv x) :: .box b12 48 #[.int .i64 0, .int .i64 0, .bool false] :: .box b9 54 (pv q) :: .box b7 48 #[.int .i64 ↑i, .int .i64 ↑j, .bool pend] :: os) from by rw [HXB.out]; exact hS.rowBox 0 (ds := cv (blank q)) rfl)
    clear hb hS S10
    go_upto_region 15 with (fail)
    refine wp_region_stage (w0 := w0) (os := (.box b12 48 #[.int .i64 0, .int .i64 0, .bool false] :: .box b9 54 (pv q) :: .box b7 48 #[.int .i64 ↑i, .int .i64 ↑j, .bool pend] :: os)) (by kernel_rfl) (by kernel_rfl) (by kernel_rfl) [] [[], [], [], [], [0], [], [], []] [.box b18 71 (cv x)] (fun opn u => match opn with | 0 => u = .int .i64 ↑j | 1 => u = .pointer (some ⟨p, 0, none⟩) | 2 => u = .int .i64 ↑cols | 3 => u = .pointer (some ⟨b18, 4, none⟩) | 4 => u = .int .i64 x.width | 5 => u = .int .i64 (↑cols - x.width) | 6 => u = .int .i64 ↑at_ | 7 => u = .int .i64 ↑at_ | _ => True) (fun vs => [.box b18 71 (cv x)]) (by kernel_rfl) (fun vs => by rfl) S12.out ?_ ?_
    ·apply sc
     ·intro a w' vs σ hS hl hs hk
      have e19 : a.tmps.getD 19 undef = .int .i64 ↑j := (sk_later hk 7 (by kernel_rfl) rfl rfl).trans rfl
      have f19 := gd e19
      exact rp (.int .i64 ↑j) (by simp [execOp, Act.eval, e19, f19, go_sem]) hl hs hS
     apply sc
     ·intro a w' vs σ hS hl hs hk
      have f0 : a.tmps[0]?.getD undef = .pointer (some ⟨p, 0, none⟩) := sof hk
      exact rp (pt p 0) (by simp [execOp, Act.eval, f0, go_sem]) hl hs hS
     apply sc
     ·intro a w' vs σ hS hl hs hk
      have e69 : a.tmps.getD 69 undef = .pointer (some ⟨p, 0, none⟩) := svv hk 1
      exact ro_call (f := 18) (wanted_none rfl) rfl (by simp only [List.map_toArray, List.map_cons, List.map_nil, Act.eval, e69] <;> rfl) (fun _ _ => by kernel_rfl) ((Cols_any hS (k := k + 4) (by simpa using tg4 hl HK.out)).mono fun e w2 ⟨h1, h2⟩ => ⟨_, h1, sp_same (by kernel_rfl) hl hs h2 rfl, trivial⟩)
     apply sc
     ·intro a w' vs σ hS hl hs hk
      have f18 : a.tmps[18]?.getD undef = .pointer (some ⟨b18, 0, none⟩) := sof hk
      exact rp (pt b18 4) (by simp [execOp, Act.eval, f18, go_sem]) hl hs hS
     apply sc
     ·intro a w' vs σ hS hl hs hk
      have f71 : a.tmps[71]?.getD undef = .pointer (some ⟨b18, 4, none⟩) := svf hk 3
      have hx := (hS.box (sg (hs 0 (by decide)))).cell
      exact rp (.int .i64 x.width) (by simp [execOp, Act.eval, f71, go_sem, hx]) hl hs hS
     apply sc
     ·intro a w' vs σ hS hl hs hk
      have f70 : a.tmps[70]?.getD undef = .int .i64 ↑cols := svf hk 2
      have f72 : a.tmps[72]?.getD undef = .int .i64 x.width := svf hk 4
      exact rp (.int .i64 (↑cols - x.width)) (by simp [execOp, Act.eval, f70, f72, go_sem, HWS.out]) hl hs hS
     apply sc
     ·intro a w' vs σ hS hl hs hk
      have f68 : a.tmps[68]?.getD undef = .int .i64 ↑j := svf hk 0
      have f73 : a.tmps[73]?.getD undef = .int .i64 (↑cols - x.width) := svf hk 5
      have hmin := HMIN.out
      exact rp (.int .i64 ↑at_) (by simp [execOp, Act.eval, f68, f73, go_sem, hmin]) hl hs hS
     apply sc
     ·intro a w' vs σ hS hl hs hk
      have f74 : a.tmps[74]?.getD undef = .int .i64 ↑at_ := svf hk 6
      exact rp (.int .i64 ↑at_) (by simp [execOp, Act.eval, f74, go_sem]) hl hs hS
     exact SSteps.nil
    ·intro vs w' hS hv
     have q0 : vs 0 = _ := hv 0 (by decide)
     have q1 : vs 1 = _ := hv 1 (by decide)
     have q2 : vs 2 = _ := hv 2 (by decide)
     have q3 : vs 3 = _ := hv 3 (by decide)
     have q4 : vs 4 = _ := hv 4 (by decide)
     have q5 : vs 5 = _ := hv 5 (by decide)
     have q6 : vs 6 = _ := hv 6 (by decide)
     have q7 : vs 7 = _ := hv 7 (by decide)
     have S2 := Lib.hid hS
     simp only [putL, Act.put, Nat.zero_add, Nat.reduceAdd, List.setIfInBounds_toArray, List.set_cons_succ, List.set_cons_zero, q0, q1, q2, q3, q4, q5, q6, q7]
     clear hS hv q0 q1 q2 q3 q4 q5 q6 q7
     have S13 := S2
     clear S2 S12
     cases ins with
     | false =>
      have HFIN := Lib.hid (show printL i j cols x0 false L = rowMod i (putC at_ x) L by unfold printL; rw [HXC.out, HAT.out]; rfl)
      have hp9 := (S13.out.box (k := 2) rfl).penAt
      have hp9z := (S13.out.box (k := 2) rfl).lt
      obtain ⟨hx7, hf7, hz7⟩ := (S13.out.box (k := 3) rfl).facts
      have hc18 := (S13.out.box (k := 0) rfl).cellAt
      have hw18 := (S13.out.box (k := 0) rfl).width4
      go_wp2_with fail
      clear hp9 hp9z hx7 hf7 hz7 hc18 hw18
      refine (PutG (i := i) (j := at_) x HT.out S13.out (k := k + 4) HK.out hcm HR.out hi HXO.out HXZ.out HFT.out).mono ?_
      rintro e w7 ⟨rfl, hS⟩
      have S14 := Lib.hid hS
      clear hS S13
      obtain ⟨os2, hos2⟩ : ∃ os2, os2 = os.set k (.grid p 58 cols (rowMod i (putC at_ x) L)) := ⟨_, rfl⟩
      have HK2 := Lib.hid (show os2[k]? = some (.grid p 58 cols (rowMod i (putC at_ x) L)) by rw [hos2]; exact set_at HK.out)
      have HOS := Lib.hid hos2
      have S19 := Lib.hid (show Objs w0 _ (.box b18 71 (cv x) :: .box b12 48 #[.int .i64 0, .int .i64 0, .bool false] :: .box b9 54 (pv q) :: .box b7 48 #[.int .i64 ↑i, .int .i64 ↑j, .bool pend] :: os2) from by rw [hos2]; exact S14.out)
      clear hos2 S14
      have hw18 := (S19.out.box (k := 0) rfl).width4
      have hwa := HWA.out
      go_wp2_with fail
      clear hw18 hwa
      refine (Cols_any S19.out (k := k + 4) HK2.out).mono ?_
      rintro e w8 ⟨rfl, hS⟩
      have S20 := Lib.hid hS
      clear hS S19
      by_cases hend : (at_ : Int) + x.width < cols
      ·have d1 : decide ((at_ : Int) + x.width < (cols : Int)) = true := decide_eq_true hend
       have HP1 := Lib.hid (show ((prCol cols at_ x : Nat) : Int) = (at_ : Int) + x.width by unfold prCol; rw [if_pos (by have := HXN.out; omega)]; have := HXN.out; omega)
       have HP2 := Lib.hid (show prPend cols at_ x auto = false by unfold prPend; rw [if_pos (by have := HXN.out; omega)])
       obtain ⟨hx7, hf7, hz7⟩ := (S20.out.box (k := 3) rfl).facts
       obtain ⟨hx12, hf12, hz12⟩ := (S20.out.box (k := 1) rfl).facts
       have SF := Lib.hid (S20.out.setCur 1 (r := ↑i) (c := ↑at_ + x.width) (b := false) rfl)
       clear hend
       go_wp2_with fail
       refine bodyPost_ret (results_ct Tryd.results38 _ _ b12 _ _ rfl (SF.out.box (k := 1) rfl) Tryd.underlying48 rfl pcursor_size) rfl ?_
       exact ⟨by rw [HXC.out, HAT.out, HP1.out, HP2.out]; rfl, by rw [HFIN.out, ← HOS.out]; exact SF.out.tail.tail.tail.tail⟩
      ·have d1 : decide ((at_ : Int) + x.width < (cols : Int)) = false := decide_eq_false hend
       have HP1 := Lib.hid (show ((prCol cols at_ x : Nat) : Int) = (cols : Int) - 1 by unfold prCol; rw [if_neg (by have := HXN.out; omega)]; omega)
       have HP2 := Lib.hid (show prPend cols at_ x auto = auto by unfold prPend; rw [if_neg (by have := HXN.out; omega)])
       clear hend
       go_upto_region 26 with (fail)
       refine wp_region_stage (w0 := w0) (os := os2) (by kernel_rfl) (by kernel_rfl) (by kernel_rfl) [(1, 7, [], fun vs => .box b12 48 #[.int .i64 ↑i, .int .i64 (↑cols - 1), .bool auto])] [[], [3], [], [], [], [], [], [1], []] [.box b18 71 (cv x), .box b12 48 #[.int .i64 0, .int .i64 0, .bool false], .box b9 54 (pv q), .box b7 48 #[.int .i64 ↑i, .int .i64 ↑j, .bool pend]] (fun opn u => match opn with | 0 => u = .pointer (some ⟨b7, 0, none⟩) | 1 => u = .int .i64 ↑i | 2 => u = .pointer (some ⟨p, 0, none⟩) | 3 => u = .int .i64 ↑cols | 4 => u = .int .i64 (↑cols - 1) | 5 => u = .bool auto | 6 => u = .agg #[.int .i64 ↑i, .int .i64 (↑cols - 1), .bool auto] | 7 => True | 8 => u = .int .i64 0 | _ => True) (fun vs => [.box b18 71 (cv x), .box b12 48 #[.int .i64 ↑i, .int .i64 (↑cols - 1), .bool auto], .box b9 54 (pv q), .box b7 48 #[.int .i64 ↑i, .int .i64 ↑j, .bool pend]]) (by kernel_rfl) (fun vs => by rfl) S20.out ?_ ?_
       ·apply sc
        ·intro a w' vs σ hS hl hs hk
         have f7 : a.tmps[7]?.getD undef = .pointer (some ⟨b7, 0, none⟩) := sof hk
         exact rp (pt b7 0) (by simp [execOp, Act.eval, f7, go_sem]) hl hs hS
        apply sc
        ·intro a w' vs σ hS hl hs hk
         have f111 : a.tmps[111]?.getD undef = .pointer (some ⟨b7, 0, none⟩) := svf hk 0
         have hx := (hS.box (sg (hs 3 (by decide)))).cell
         exact rp (.int .i64 ↑i) (by simp [execOp, Act.eval, f111, go_sem, hx]) hl hs hS
        apply sc
        ·intro a w' vs σ hS hl hs hk
         have f0 : a.tmps[0]?.getD undef = .pointer (some ⟨p, 0, none⟩) := sof hk
         exact rp (pt p 0) (by simp [execOp, Act.eval, f0, go_sem]) hl hs hS
        apply sc
        ·intro a w' vs σ hS hl hs hk
         have e113 : a.tmps.getD 113 undef = .pointer (some ⟨p, 0, none⟩) := svv hk 2
         exact ro_call (f := 18) (wanted_none rfl) rfl (by simp only [List.map_toArray, List.map_cons, List.map_nil, Act.eval, e113] <;> rfl) (fun _ _ => by kernel_rfl) ((Cols_any hS (k := k + 4) (by simpa using tg4b hl HK2.out)).mono fun e w2 ⟨h1, h2⟩ => ⟨_, h1, sp_same (by kernel_rfl) hl hs h2 rfl, trivial⟩)
        apply sc
        ·intro a w' vs σ hS hl hs hk
         have f114 : a.tmps[114]?.getD undef = .int .i64 ↑cols := svf hk 3
         exact rp (.int .i64 (↑cols - 1)) (by simp [execOp, Act.eval, f114, go_sem, HWC.out]) hl hs hS
        apply sc
        ·intro a w' vs σ hS hl hs hk
         have f4 : a.tmps[4]?.getD undef = .bool auto := sof hk
         exact rp (.bool auto) (by simp [execOp, Act.eval, f4, go_sem]) hl hs hS
        apply sc
        ·intro a w' vs σ hS hl hs hk
         have f112 : a.tmps[112]?.getD undef = .int .i64 ↑i := svf hk 1
         have f115 : a.tmps[115]?.getD undef = .int .i64 (↑cols - 1) := svf hk 4
         have f116 : a.tmps[116]?.getD undef = .bool auto := svf hk 5
         exact rp (.agg #[.int .i64 ↑i, .int .i64 (↑cols - 1), .bool auto]) (by simp [execOp, Act.eval, f112, f115, f116, go_sem]) hl hs hS
        apply sc
        ·intro a w' vs σ hS hl hs hk
         have f12 : a.tmps[12]?.getD undef = .pointer (some ⟨b12, 0, none⟩) := sof hk
         have f117 : a.tmps[117]?.getD undef = .agg #[.int .i64 ↑i, .int .i64 (↑cols - 1), .bool auto] := svf hk 6
         have h1 : σ[1]? = some (.box b12 48 #[.int .i64 0, .int .i64 0, .bool false]) := hs 1 (by decide)
         obtain ⟨hx, hf, hz⟩ := (hS.box (sg h1)).facts
         exact rstep_store (w2 := ((w'.setCell ⟨b12, 0, none⟩ (.int .i64 ↑i)).setCell ⟨b12, 1, none⟩ (.int .i64 (↑cols - 1))).setCell ⟨b12, 2, none⟩ (.bool auto)) (wanted_none rfl) rfl (by simp [execOp, Act.eval, f12, f117, hx, hf, hz, go_sem]) (sp_set 1 (.box b12 48 #[.int .i64 ↑i, .int .i64 (↑cols - 1), .bool auto]) (by kernel_rfl) (by simp) (by decide) hl hs (by rfl) (hS.setCur 1 (sg h1)) trivial) trivial
        apply sc
        ·intro a w' vs σ hS hl hs hk
         exact rp (.int .i64 0) (by simp [execOp, Act.eval, go_sem]) hl hs hS
        exact SSteps.nil
       ·intro vs w' hS hv
        have q0 : vs 0 = _ := hv 0 (by decide)
        have q1 : vs 1 = _ := hv 1 (by decide)
        have q2 : vs 2 = _ := hv 2 (by decide)
        have q3 : vs 3 = _ := hv 3 (by decide)
        have q4 : vs 4 = _ := hv 4 (by decide)
        have q5 : vs 5 = _ := hv 5 (by decide)
        have q6 : vs 6 = _ := hv 6 (by decide)
        have q8 : vs 8 = _ := hv 8 (by decide)
        have S2 := Lib.hid hS
        simp only [putL, Act.put, Nat.zero_add, Nat.reduceAdd, List.setIfInBounds_toArray, List.set_cons_succ, List.set_cons_zero, q0, q1, q2, q3, q4, q5, q6, q8]
        clear hS hv q0 q1 q2 q3 q4 q5 q6 q8
        have SF := S2
        clear S2
        go_wp2_with fail
        refine bodyPost_ret (results_ct Tryd.results38 _ _ b12 _ _ rfl (SF.out.box (k := 1) rfl) Tryd.underlying48 rfl pcursor_size) rfl ?_
        exact ⟨by rw [HXC.out, HAT.out, HP1.out, HP2.out]; rfl, by rw [HFIN.out, ← HOS.out]; exact SF.out.tail.tail.tail.tail⟩
     | true =>
      have HFIN := Lib.hid (show printL i j cols x0 true L = rowMod i (putC at_ x) (rowMod i (shiftN at_ cols x.width q) L) by
       unfold printL; rw [HXC.out, HAT.out, rowMod_is, rowMod_is, rowMod_is, lnMod_lnMod]; unfold prRow; rw [HXP.out]; rfl)
      have hp9 := (S13.out.box (k := 2) rfl).penAt
      have hp9z := (S13.out.box (k := 2) rfl).lt
      obtain ⟨hx7, hf7, hz7⟩ := (S13.out.box (k := 3) rfl).facts
      have hc18 := (S13.out.box (k := 0) rfl).cellAt
      have hw18 := (S13.out.box (k := 0) rfl).width4
      go_wp2_with fail
      clear hp9 hp9z hx7 hf7 hz7 hc18 hw18
      refine (ShiftG (i := i) (j := at_) x.width q HT.out S13.out (k := k + 4) HK.out hcm HR.out hi HQ.out hat (by have := HXN.out; omega)).mono ?_
      rintro e w6 ⟨rfl, hS⟩
      obtain ⟨L1, hL1⟩ : ∃ L1, L1 = rowMod i (shiftN at_ cols x.width q) L := ⟨_, rfl⟩
      have HR1 := Lib.hid (show Rect cols L1 by rw [hL1]; exact HR.out.rowMod i (fun cs h => shiftN_length h hat))
      have hi1 : i < L1.length := by rw [hL1, rowMod_length]; exact hi
      rw [← hL1] at hS HFIN
      obtain ⟨os1, hos1⟩ : ∃ os1, os1 = os.set k (.grid p 58 cols L1) := ⟨_, rfl⟩
      have HK1 := Lib.hid (show os1[k]? = some (.grid p 58 cols L1) by rw [hos1]; exact set_at HK.out)
      have HOS1 := Lib.hid (show ∀ o, os1.set k o = os.set k o from fun o => by rw [hos1, List.set_set])
      have S14 := Lib.hid (show Objs w0 w6 (.box b18 71 (cv x) :: .box b12 48 #[.int .i64 0, .int .i64 0, .bool false] :: .box b9 54 (pv q) :: .box b7 48 #[.int .i64 ↑i, .int .i64 ↑j, .bool pend] :: os1) from by rw [hos1]; exact hS)
      clear hS S13 hL1 hos1
      have hp9 := (S14.out.box (k := 2) rfl).penAt
      have hp9z := (S14.out.box (k := 2) rfl).lt
      obtain ⟨hx7, hf7, hz7⟩ := (S14.out.box (k := 3) rfl).facts
      have hc18 := (S14.out.box (k := 0) rfl).cellAt
      have hw18 := (S14.out.box (k := 0) rfl).width4
      go_wp2_with fail
      clear hp9 hp9z hx7 hf7 hz7 hc18 hw18
      refine (PutG (i := i) (j := at_) x HT.out S14.out (k := k + 4) HK1.out hcm HR1.out hi1 HXO.out HXZ.out HFT.out).mono ?_
      rintro e w7 ⟨rfl, hS⟩
      have S15 := Lib.hid (show Objs w0 w7 (.box b18 71 (cv x) :: .box b12 48 #[.int .i64 0, .int .i64 0, .bool false] :: .box b9 54 (pv q) :: .box b7 48 #[.int .i64 ↑i, .int .i64 ↑j, .bool pend] :: os.set k (.grid p 58 cols (rowMod i (putC at_ x) L1))) from by rw [← HOS1.out]; exact hS)
      clear hS S14
      obtain ⟨os2, hos2⟩ : ∃ os2, os2 = os.set k (.grid p 58 cols (rowMod i (putC at_ x) L1)) := ⟨_, rfl⟩
      have HK2 := Lib.hid (show os2[k]? = some (.grid p 58 cols (rowMod i (putC at_ x) L1)) by rw [hos2]; exact set_at HK.out)
      have HOS := Lib.hid hos2
      have S19 := Lib.hid (show Objs w0 _ (.box b18 71 (cv x) :: .box b12 48 #[.int .i64 0, .int .i64 0, .bool false] :: .box b9 54 (pv q) :: .box b7 48 #[.int .i64 ↑i, .int .i64 ↑j, .bool pend] :: os2) from by rw [hos2]; exact S15.out)
      clear hos2 S15
      have hw18 := (S19.out.box (k := 0) rfl).width4
      have hwa := HWA.out
      go_wp2_with fail
      clear hw18 hwa
      refine (Cols_any S19.out (k := k + 4) HK2.out).mono ?_
      rintro e w8 ⟨rfl, hS⟩
      have S20 := Lib.hid hS
      clear hS S19
      by_cases hend : (at_ : Int) + x.width < cols
      ·have d1 : decide ((at_ : Int) + x.width < (cols : Int)) = true := decide_eq_true hend
       have HP1 := Lib.hid (show ((prCol cols at_ x : Nat) : Int) = (at_ : Int) + x.width by unfold prCol; rw [if_pos (by have := HXN.out; omega)]; have := HXN.out; omega)
       have HP2 := Lib.hid (show prPend cols at_ x auto = false by unfold prPend; rw [if_pos (by have := HXN.out; omega)])
       obtain ⟨hx7, hf7, hz7⟩ := (S20.out.box (k := 3) rfl).facts
       obtain ⟨hx12, hf12, hz12⟩ := (S20.out.box (k := 1) rfl).facts
       have SF := Lib.hid (S20.out.setCur 1 (r := ↑i) (c := ↑at_ + x.width) (b := false) rfl)
       clear hend
       go_wp2_with fail
       refine bodyPost_ret (results_ct Tryd.results38 _ _ b12 _ _ rfl (SF.out.box (k := 1) rfl) Tryd.underlying48 rfl pcursor_size) rfl ?_
       exact ⟨by rw [HXC.out, HAT.out, HP1.out, HP2.out]; rfl, by rw [HFIN.out, ← HOS.out]; exact SF.out.tail.tail.tail.tail⟩
      ·have d1 : decide ((at_ : Int) + x.width < (cols : Int)) = false := decide_eq_false hend
       have HP1 := Lib.hid (show ((prCol cols at_ x : Nat) : Int) = (cols : Int) - 1 by unfold prCol; rw [if_neg (by have := HXN.out; omega)]; omega)
       have HP2 := Lib.hid (show prPend cols at_ x auto = auto by unfold prPend; rw [if_neg (by have := HXN.out; omega)])
       clear hend
       go_upto_region 26 with (fail)
       refine wp_region_stage (w0 := w0) (os := os2) (by kernel_rfl) (by kernel_rfl) (by kernel_rfl) [(1, 7, [], fun vs => .box b12 48 #[.int .i64 ↑i, .int .i64 (↑cols - 1), .bool auto])] [[], [3], [], [], [], [], [], [1], []] [.box b18 71 (cv x), .box b12 48 #[.int .i64 0, .int .i64 0, .bool false], .box b9 54 (pv q), .box b7 48 #[.int .i64 ↑i, .int .i64 ↑j, .bool pend]] (fun opn u => match opn with | 0 => u = .pointer (some ⟨b7, 0, none⟩) | 1 => u = .int .i64 ↑i | 2 => u = .pointer (some ⟨p, 0, none⟩) | 3 => u = .int .i64 ↑cols | 4 => u = .int .i64 (↑cols - 1) | 5 => u = .bool auto | 6 => u = .agg #[.int .i64 ↑i, .int .i64 (↑cols - 1), .bool auto] | 7 => True | 8 => u = .int .i64 0 | _ => True) (fun vs => [.box b18 71 (cv x), .box b12 48 #[.int .i64 ↑i, .int .i64 (↑cols - 1), .bool auto], .box b9 54 (pv q), .box b7 48 #[.int .i64 ↑i, .int .i64 ↑j, .bool pend]]) (by kernel_rfl) (fun vs => by rfl) S20.out ?_ ?_
       ·apply sc
        ·intro a w' vs σ hS hl hs hk
         have f7 : a.tmps[7]?.getD undef = .pointer (some ⟨b7, 0, none⟩) := sof hk
         exact rp (pt b7 0) (by simp [execOp, Act.eval, f7, go_sem]) hl hs hS
        apply sc
        ·intro a w' vs σ hS hl hs hk
         have f111 : a.tmps[111]?.getD undef = .pointer (some ⟨b7, 0, none⟩) := svf hk 0
         have hx := (hS.box (sg (hs 3 (by decide)))).cell
         exact rp (.int .i64 ↑i) (by simp [execOp, Act.eval, f111, go_sem, hx]) hl hs hS
        apply sc
        ·intro a w' vs σ hS hl hs hk
         have f0 : a.tmps[0]?.getD undef = .pointer (some ⟨p, 0, none⟩) := sof hk
         exact rp (pt p 0) (by simp [execOp, Act.eval, f0, go_sem]) hl hs hS
        apply sc
        ·intro a w' vs σ hS hl hs hk
         have e113 : a.tmps.getD 113 undef = .pointer (some ⟨p, 0, none⟩) := svv hk 2
         exact ro_call (f := 18) (wanted_none rfl) rfl (by simp only [List.map_toArray, List.map_cons, List.map_nil, Act.eval, e113] <;> rfl) (fun _ _ => by kernel_rfl) ((Cols_any hS (k := k + 4) (by simpa using tg4b hl HK2.out)).mono fun e w2 ⟨h1, h2⟩ => ⟨_, h1, sp_same (by kernel_rfl) hl hs h2 rfl, trivial⟩)
        apply sc
        ·intro a w' vs σ hS hl hs hk
         have f114 : a.tmps[114]?.getD undef = .int .i64 ↑cols := svf hk 3
         exact rp (.int .i64 (↑cols - 1)) (by simp [execOp, Act.eval, f114, go_sem, HWC.out]) hl hs hS
        apply sc
        ·intro a w' vs σ hS hl hs hk
         have f4 : a.tmps[4]?.getD undef = .bool auto := sof hk
         exact rp (.bool auto) (by simp [execOp, Act.eval, f4, go_sem]) hl hs hS
        apply sc
        ·intro a w' vs σ hS hl hs hk
         have f112 : a.tmps[112]?.getD undef = .int .i64 ↑i := svf hk 1
         have f115 : a.tmps[115]?.getD undef = .int .i64 (↑cols - 1) := svf hk 4
         have f116 : a.tmps[116]?.getD undef = .bool auto := svf hk 5
         exact rp (.agg #[.int .i64 ↑i, .int .i64 (↑cols - 1), .bool auto]) (by simp [execOp, Act.eval, f112, f115, f116, go_sem]) hl hs hS
        apply sc
        ·intro a w' vs σ hS hl hs hk
         have f12 : a.tmps[12]?.getD undef = .pointer (some ⟨b12, 0, none⟩) := sof hk
         have f117 : a.tmps[117]?.getD undef = .agg #[.int .i64 ↑i, .int .i64 (↑cols - 1), .bool auto] := svf hk 6
         have h1 : σ[1]? = some (.box b12 48 #[.int .i64 0, .int .i64 0, .bool false]) := hs 1 (by decide)
         obtain ⟨hx, hf, hz⟩ := (hS.box (sg h1)).facts
         exact rstep_store (w2 := ((w'.setCell ⟨b12, 0, none⟩ (.int .i64 ↑i)).setCell ⟨b12, 1, none⟩ (.int .i64 (↑cols - 1))).setCell ⟨b12, 2, none⟩ (.bool auto)) (wanted_none rfl) rfl (by simp [execOp, Act.eval, f12, f117, hx, hf, hz, go_sem]) (sp_set 1 (.box b12 48 #[.int .i64 ↑i, .int .i64 (↑cols - 1), .bool auto]) (by kernel_rfl) (by simp) (by decide) hl hs (by rfl) (hS.setCur 1 (sg h1)) trivial) trivial
        apply sc
        ·intro a w' vs σ hS hl hs hk
         exact rp (.int .i64 0) (by simp [execOp, Act.eval, go_sem]) hl hs hS
        exact SSteps.nil
       ·intro vs w' hS hv
        have q0 : vs 0 = _ := hv 0 (by decide)
        have q1 : vs 1 = _ := hv 1 (by decide)
        have q2 : vs 2 = _ := hv 2 (by decide)
        have q3 : vs 3 = _ := hv 3 (by decide)
        have q4 : vs 4 = _ := hv 4 (by decide)
        have q5 : vs 5 = _ := hv 5 (by decide)
        have q6 : vs 6 = _ := hv 6 (by decide)
        have q8 : vs 8 = _ := hv 8 (by decide)
        have S2 := Lib.hid hS
        simp only [putL, Act.put, Nat.zero_add, Nat.reduceAdd, List.setIfInBounds_toArray, List.set_cons_succ, List.set_cons_zero, q0, q1, q2, q3, q4, q5, q6, q8]
        clear hS hv q0 q1 q2 q3 q4 q5 q6 q8
        have SF := S2
        clear S2
        go_wp2_with fail
        refine bodyPost_ret (results_ct Tryd.results38 _ _ b12 _ _ rfl (SF.out.box (k := 1) rfl) Tryd.underlying48 rfl pcursor_size) rfl ?_
        exact ⟨by rw [HXC.out, HAT.out, HP1.out, HP2.out]; rfl, by rw [HFIN.out, ← HOS.out]; exact SF.out.tail.tail.tail.tail⟩
   | false =>
    have HXB := Lib.hid (show x = x0 by rw [← HXC.out]; unfold prCell; rw [if_neg (of_decide_eq_false hbw.symm)])
    clear hbw
    have S12 := Lib.hid (show Objs w0 _ (.box b18 71 (cv x) :: .box b12 48 #[.int .i64 0, .int .i64 0, .bool false] :: .box b9 54 (pv q) :: .box b7 48 #[.int .i64 ↑i, .int .i64 ↑j, .bool pend] :: os) from by rw [HXB.out]; exact S10.out)
    clear S10
    go_upto_region 15 with (fail)
    refine wp_region_stage (w0 := w0) (os := (.box b12 48 #[.int .i64 0, .int .i64 0, .bool false] :: .box b9 54 (pv q) :: .box b7 48 #[.int .i64 ↑i, .int .i64 ↑j, .bool pend] :: os)) (by kernel_rfl) (by kernel_rfl) (by kernel_rfl) [] [[], [], [], [], [0], [], [], []] [.box b18 71 (cv x)] (fun opn u => match opn with | 0 => u = .int .i64 ↑j | 1 => u = .pointer (some ⟨p, 0, none⟩) | 2 => u = .int .i64 ↑cols | 3 => u = .pointer (some ⟨b18, 4, none⟩) | 4 => u = .int .i64 x.width | 5 => u = .int .i64 (↑cols - x.width) | 6 => u = .int .i64 ↑at_ | 7 => u = .int .i64 ↑at_ | _ => True) (fun vs => [.box b18 71 (cv x)]) (by kernel_rfl) (fun vs => by rfl) S12.out ?_ ?_
    ·apply sc
     ·intro a w' vs σ hS hl hs hk
      have e19 : a.tmps.getD 19 undef = .int .i64 ↑j := (sk_later hk 7 (by kernel_rfl) rfl rfl).trans rfl
      have f19 := gd e19
      exact rp (.int .i64 ↑j) (by simp [execOp, Act.eval, e19, f19, go_sem]) hl hs hS
     apply sc
     ·intro a w' vs σ hS hl hs hk
      have f0 : a.tmps[0]?.getD undef = .pointer (some ⟨p, 0, none⟩) := sof hk
      exact rp (pt p 0) (by simp [execOp, Act.eval, f0, go_sem]) hl hs hS
     apply sc
     ·intro a w' vs σ hS hl hs hk
      have e69 : a.tmps.getD 69 undef = .pointer (some ⟨p, 0, none⟩) := svv hk 1
      exact ro_call (f := 18) (wanted_none rfl) rfl (by simp only [List.map_toArray, List.map_cons, List.map_nil, Act.eval, e69] <;> rfl) (fun _ _ => by kernel_rfl) ((Cols_any hS (k := k + 4) (by simpa using tg4 hl HK.out)).mono fun e w2 ⟨h1, h2⟩ => ⟨_, h1, sp_same (by kernel_rfl) hl hs h2 rfl, trivial⟩)
     apply sc
     ·intro a w' vs σ hS hl hs hk
      have f18 : a.tmps[18]?.getD undef = .pointer (some ⟨b18, 0, none⟩) := sof hk
      exact rp (pt b18 4) (by simp [execOp, Act.eval, f18, go_sem]) hl hs hS
     apply sc
     ·intro a w' vs σ hS hl hs hk
      have f71 : a.tmps[71]?.getD undef = .pointer (some ⟨b18, 4, none⟩) := svf hk 3
      have hx := (hS.box (sg (hs 0 (by decide)))).cell
      exact rp (.int .i64 x.width) (by simp [execOp, Act.eval, f71, go_sem, hx]) hl hs hS
     apply sc
     ·intro a w' vs σ hS hl hs hk
      have f70 : a.tmps[70]?.getD undef = .int .i64 ↑cols := svf hk 2
      have f72 : a.tmps[72]?.getD undef = .int .i64 x.width := svf hk 4
      exact rp (.int .i64 (↑cols - x.width)) (by simp [execOp, Act.eval, f70, f72, go_sem, HWS.out]) hl hs hS
     apply sc
     ·intro a w' vs σ hS hl hs hk
      have f68 : a.tmps[68]?.getD undef = .int .i64 ↑j := svf hk 0
      have f73 : a.tmps[73]?.getD undef = .int .i64 (↑cols - x.width) := svf hk 5
      have hmin := HMIN.out
      exact rp (.int .i64 ↑at_) (by simp [execOp, Act.eval, f68, f73, go_sem, hmin]) hl hs hS
     apply sc
     ·intro a w' vs σ hS hl hs hk
      have f74 : a.tmps[74]?.getD undef = .int .i64 ↑at_ := svf hk 6
      exact rp (.int .i64 ↑at_) (by simp [execOp, Act.eval, f74, go_sem]) hl hs hS
     exact SSteps.nil
    ·intro vs w' hS hv
     have q0 : vs 0 = _ := hv 0 (by decide)
     have q1 : vs 1 = _ := hv 1 (by decide)
     have q2 : vs 2 = _ := hv 2 (by decide)
     have q3 : vs 3 = _ := hv 3 (by decide)
     have q4 : vs 4 = _ := hv 4 (by decide)
     have q5 : vs 5 = _ := hv 5 (by decide)
     have q6 : vs 6 = _ := hv 6 (by decide)
     have q7 : vs 7 = _ := hv 7 (by decide)
     have S2 := Lib.hid hS
     simp only [putL, Act.put, Nat.zero_add, Nat.reduceAdd, List.setIfInBounds_toArray, List.set_cons_succ, List.set_cons_zero, q0, q1, q2, q3, q4, q5, q6, q7]
     clear hS hv q0 q1 q2 q3 q4 q5 q6 q7
     have S13 := S2
     clear S2 S12
     cases ins with
     | false =>
      have HFIN := Lib.hid (show printL i j cols x0 false L = rowMod i (putC at_ x) L by unfold printL; rw [HXC.out, HAT.out]; rfl)
      have hp9 := (S13.out.box (k := 2) rfl).penAt
      have hp9z := (S13.out.box (k := 2) rfl).lt
      obtain ⟨hx7, hf7, hz7⟩ := (S13.out.box (k := 3) rfl).facts
      have hc18 := (S13.out.box (k := 0) rfl).cellAt
      have hw18 := (S13.out.box (k := 0) rfl).width4
      go_wp2_with fail
      clear hp9 hp9z hx7 hf7 hz7 hc18 hw18
      refine (PutG (i := i) (j := at_) x HT.out S13.out (k := k + 4) HK.out hcm HR.out hi HXO.out HXZ.out HFT.out).mono ?_
      rintro e w7 ⟨rfl, hS⟩
      have S14 := Lib.hid hS
      clear hS S13
      obtain ⟨os2, hos2⟩ : ∃ os2, os2 = os.set k (.grid p 58 cols (rowMod i (putC at_ x) L)) := ⟨_, rfl⟩
      have HK2 := Lib.hid (show os2[k]? = some (.grid p 58 cols (rowMod i (putC at_ x) L)) by rw [hos2]; exact set_at HK.out)
      have HOS := Lib.hid hos2
      have S19 := Lib.hid (show Objs w0 _ (.box b18 71 (cv x) :: .box b12 48 #[.int .i64 0, .int .i64 0, .bool false] :: .box b9 54 (pv q) :: .box b7 48 #[.int .i64 ↑i, .int .i64 ↑j, .bool pend] :: os2) from by rw [hos2]; exact S14.out)
      clear hos2 S14
      have hw18 := (S19.out.box (k := 0) rfl).width4
      have hwa := HWA.out
      go_wp2_with fail
      clear hw18 hwa
      refine (Cols_any S19.out (k := k + 4) HK2.out).mono ?_
      rintro e w8 ⟨rfl, hS⟩
      have S20 := Lib.hid hS
      clear hS S19
      by_cases hend : (at_ : Int) + x.width < cols
      ·have d1 : decide ((at_ : Int) + x.width < (cols : Int)) = true := decide_eq_true hend
       have HP1 := Lib.hid (show ((prCol cols at_ x : Nat) : Int) = (at_ : Int) + x.width by unfold prCol; rw [if_pos (by have := HXN.out; omega)]; have := HXN.out; omega)
       have HP2 := Lib.hid (show prPend cols at_ x auto = false by unfold prPend; rw [if_pos (by have := HXN.out; omega)])
       obtain ⟨hx7, hf7, hz7⟩ := (S20.out.box (k := 3) rfl).facts
       obtain ⟨hx12, hf12, hz12⟩ := (S20.out.box (k := 1) rfl).facts
       have SF := Lib.hid (S20.out.setCur 1 (r := ↑i) (c := ↑at_ + x.width) (b := false) rfl)
       clear hend
       go_wp2_with fail
       refine bodyPost_ret (results_ct Tryd.results38 _ _ b12 _ _ rfl (SF.out.box (k := 1) rfl) Tryd.underlying48 rfl pcursor_size) rfl ?_
       exact ⟨by rw [HXC.out, HAT.out, HP1.out, HP2.out]; rfl, by rw [HFIN.out, ← HOS.out]; exact SF.out.tail.tail.tail.tail⟩
      ·have d1 : decide ((at_ : Int) + x.width < (cols : Int)) = false := decide_eq_false hend
       have HP1 := Lib.hid (show ((prCol cols at_ x : Nat) : Int) = (cols : Int) - 1 by unfold prCol; rw [if_neg (by have := HXN.out; omega)]; omega)
       have HP2 := Lib.hid (show prPend cols at_ x auto = auto by unfold prPend; rw [if_neg (by have := HXN.out; omega)])
       clear hend
       go_upto_region 26 with (fail)
       refine wp_region_stage (w0 := w0) (os := os2) (by kernel_rfl) (by kernel_rfl) (by kernel_rfl) [(1, 7, [], fun vs => .box b12 48 #[.int .i64 ↑i, .int .i64 (↑cols - 1), .bool auto])] [[], [3], [], [], [], [], [], [1], []] [.box b18 71 (cv x), .box b12 48 #[.int .i64 0, .int .i64 0, .bool false], .box b9 54 (pv q), .box b7 48 #[.int .i64 ↑i, .int .i64 ↑j, .bool pend]] (fun opn u => match opn with | 0 => u = .pointer (some ⟨b7, 0, none⟩) | 1 => u = .int .i64 ↑i | 2 => u = .pointer (some ⟨p, 0, none⟩) | 3 => u = .int .i64 ↑cols | 4 => u = .int .i64 (↑cols - 1) | 5 => u = .bool auto | 6 => u = .agg #[.int .i64 ↑i, .int .i64 (↑cols - 1), .bool auto] | 7 => True | 8 => u = .int .i64 0 | _ => True) (fun vs => [.box b18 71 (cv x), .box b12 48 #[.int .i64 ↑i, .int .i64 (↑cols - 1), .bool auto], .box b9 54 (pv q), .box b7 48 #[.int .i64 ↑i, .int .i64 ↑j, .bool pend]]) (by kernel_rfl) (fun vs => by rfl) S20.out ?_ ?_
       ·apply sc
        ·intro a w' vs σ hS hl hs hk
         have f7 : a.tmps[7]?.getD undef = .pointer (some ⟨b7, 0, none⟩) := sof hk
         exact rp (pt b7 0) (by simp [execOp, Act.eval, f7, go_sem]) hl hs hS
        apply sc
        ·intro a w' vs σ hS hl hs hk
         have f111 : a.tmps[111]?.getD undef = .pointer (some ⟨b7, 0, none⟩) := svf hk 0
         have hx := (hS.box (sg (hs 3 (by decide)))).cell
         exact rp (.int .i64 ↑i) (by simp [execOp, Act.eval, f111, go_sem, hx]) hl hs hS
        apply sc
        ·intro a w' vs σ hS hl hs hk
         have f0 : a.tmps[0]?.getD undef = .pointer (some ⟨p, 0, none⟩) := sof hk
         exact rp (pt p 0) (by simp [execOp, Act.eval, f0, go_sem]) hl hs hS
        apply sc
        ·intro a w' vs σ hS hl hs hk
         have e113 : a.tmps.getD 113 undef = .pointer (some ⟨p, 0, none⟩) := svv hk 2
         exact ro_call (f := 18) (wanted_none rfl) rfl (by simp only [List.map_toArray, List.map_cons, List.map_nil, Act.eval, e113] <;> rfl) (fun _ _ => by kernel_rfl) ((Cols_any hS (k := k + 4) (by simpa using tg4b hl HK2.out)).mono fun e w2 ⟨h1, h2⟩ => ⟨_, h1, sp_same (by kernel_rfl) hl hs h2 rfl, trivial⟩)
        apply sc
        ·intro a w' vs σ hS hl hs hk
         have f114 : a.tmps[114]?.getD undef = .int .i64 ↑cols := svf hk 3
         exact rp (.int .i64 (↑cols - 1)) (by simp [execOp, Act.eval, f114, go_sem, HWC.out]) hl hs hS
        apply sc
        ·intro a w' vs σ hS hl hs hk
         have f4 : a.tmps[4]?.getD undef = .bool auto := sof hk
         exact rp (.bool auto) (by simp [execOp, Act.eval, f4, go_sem]) hl hs hS
        apply sc
        ·intro a w' vs σ hS hl hs hk
         have f112 : a.tmps[112]?.getD undef = .int .i64 ↑i := svf hk 1
         have f115 : a.tmps[115]?.getD undef = .int .i64 (↑cols - 1) := svf hk 4
         have f116 : a.tmps[116]?.getD undef = .bool auto := svf hk 5
         exact rp (.agg #[.int .i64 ↑i, .int .i64 (↑cols - 1), .bool auto]) (by simp [execOp, Act.eval, f112, f115, f116, go_sem]) hl hs hS
        apply sc
        ·intro a w' vs σ hS hl hs hk
         have f12 : a.tmps[12]?.getD undef = .pointer (some ⟨b12, 0, none⟩) := sof hk
         have f117 : a.tmps[117]?.getD undef = .agg #[.int .i64 ↑i, .int .i64 (↑cols - 1), .bool auto] := svf hk 6
         have h1 : σ[1]? = some (.box b12 48 #[.int .i64 0, .int .i64 0, .bool false]) := hs 1 (by decide)
         obtain ⟨hx, hf, hz⟩ := (hS.box (sg h1)).facts
         exact rstep_store (w2 := ((w'.setCell ⟨b12, 0, none⟩ (.int .i64 ↑i)).setCell ⟨b12, 1, none⟩ (.int .i64 (↑cols - 1))).setCell ⟨b12, 2, none⟩ (.bool auto)) (wanted_none rfl) rfl (by simp [execOp, Act.eval, f12, f117, hx, hf, hz, go_sem]) (sp_set 1 (.box b12 48 #[.int .i64 ↑i, .int .i64 (↑cols - 1), .bool auto]) (by kernel_rfl) (by simp) (by decide) hl hs (by rfl) (hS.setCur 1 (sg h1)) trivial) trivial
        apply sc
        ·intro a w' vs σ hS hl hs hk
         exact rp (.int .i64 0) (by simp [execOp, Act.eval, go_sem]) hl hs hS
        exact SSteps.nil
       ·intro vs w' hS hv
        have q0 : vs 0 = _ := hv 0 (by decide)
        have q1 : vs 1 = _ := hv 1 (by decide)
        have q2 : vs 2 = _ := hv 2 (by decide)
        have q3 : vs 3 = _ := hv 3 (by decide)
        have q4 : vs 4 = _ := hv 4 (by decide)
        have q5 : vs 5 = _ := hv 5 (by decide)
        have q6 : vs 6 = _ := hv 6 (by decide)
        have q8 : vs 8 = _ := hv 8 (by decide)
        have S2 := Lib.hid hS
        simp only [putL, Act.put, Nat.zero_add, Nat.reduceAdd, List.setIfInBounds_toArray, List.set_cons_succ, List.set_cons_zero, q0, q1, q2, q3, q4, q5, q6, q8]
        clear hS hv q0 q1 q2 q3 q4 q5 q6 q8
        have SF := S2
        clear S2
        go_wp2_with fail
        refine bodyPost_ret (results_ct Tryd.results38 _ _ b12 _ _ rfl (SF.out.box (k := 1) rfl) Tryd.underlying48 rfl pcursor_size) rfl ?_
        exact ⟨by rw [HXC.out, HAT.out, HP1.out, HP2.out]; rfl, by rw [HFIN.out, ← HOS.out]; exact SF.out.tail.tail.tail.tail⟩
     | true =>
      have HFIN := Lib.hid (show printL i j cols x0 true L = rowMod i (putC at_ x) (rowMod i (shiftN at_ cols x.width q) L) by
       unfold printL; rw [HXC.out, HAT.out, rowMod_is, rowMod_is, rowMod_is, lnMod_lnMod]; unfold prRow; rw [HXP.out]; rfl)
      have hp9 := (S13.out.box (k := 2) rfl).penAt
      have hp9z := (S13.out.box (k := 2) rfl).lt
      obtain ⟨hx7, hf7, hz7⟩ := (S13.out.box (k := 3) rfl).facts
      have hc18 := (S13.out.box (k := 0) rfl).cellAt
      have hw18 := (S13.out.box (k := 0) rfl).width4
      go_wp2_with fail
      clear hp9 hp9z hx7 hf7 hz7 hc18 hw18
      refine (ShiftG (i := i) (j := at_) x.width q HT.out S13.out (k := k + 4) HK.out hcm HR.out hi HQ.out hat (by have := HXN.out; omega)).mono ?_
      rintro e w6 ⟨rfl, hS⟩
      obtain ⟨L1, hL1⟩ : ∃ L1, L1 = rowMod i (shiftN at_ cols x.width q) L := ⟨_, rfl⟩
      have HR1 := Lib.hid (show Rect cols L1 by rw [hL1]; exact HR.out.rowMod i (fun cs h => shiftN_length h hat))
      have hi1 : i < L1.length := by rw [hL1, rowMod_length]; exact hi
      rw [← hL1] at hS HFIN
      obtain ⟨os1, hos1⟩ : ∃ os1, os1 = os.set k (.grid p 58 cols L1) := ⟨_, rfl⟩
      have HK1 := Lib.hid (show os1[k]? = some (.grid p 58 cols L1) by rw [hos1]; exact set_at HK.out)
      have HOS1 := Lib.hid (show ∀ o, os1.set k o = os.set k o from fun o => by rw [hos1, List.set_set])
      have S14 := Lib.hid (show Objs w0 w6 (.box b18 71 (cv x) :: .box b12 48 #[.int .i64 0, .int .i64 0, .bool false] :: .box b9 54 (pv q) :: .box b7 48 #[.int .i64 ↑i, .int .i64 ↑j, .bool pend] :: os1) from by rw [hos1]; exact hS)
      clear hS S13 hL1 hos1
      have hp9 := (S14.out.box (k := 2) rfl).penAt
      have hp9z := (S14.out.box (k := 2) rfl).lt
      obtain ⟨hx7, hf7, hz7⟩ := (S14.out.box (k := 3) rfl).facts
      have hc18 := (S14.out.box (k := 0) rfl).cellAt
      have hw18 := (S14.out.box (k := 0) rfl).width4
      go_wp2_with fail
      clear hp9 hp9z hx7 hf7 hz7 hc18 hw18
      refine (PutG (i := i) (j := at_) x HT.out S14.out (k := k + 4) HK1.out hcm HR1.out hi1 HXO.out HXZ.out HFT.out).mono ?_
      rintro e w7 ⟨rfl, hS⟩
      have S15 := Lib.hid (show Objs w0 w7 (.box b18 71 (cv x) :: .box b12 48 #[.int .i64 0, .int .i64 0, .bool false] :: .box b9 54 (pv q) :: .box b7 48 #[.int .i64 ↑i, .int .i64 ↑j, .bool pend] :: os.set k (.grid p 58 cols (rowMod i (putC at_ x) L1))) from by rw [← HOS1.out]; exact hS)
      clear hS S14
      obtain ⟨os2, hos2⟩ : ∃ os2, os2 = os.set k (.grid p 58 cols (rowMod i (putC at_ x) L1)) := ⟨_, rfl⟩
      have HK2 := Lib.hid (show os2[k]? = some (.grid p 58 cols (rowMod i (putC at_ x) L1)) by rw [hos2]; exact set_at HK.out)
      have HOS := Lib.hid hos2
      have S19 := Lib.hid (show Objs w0 _ (.box b18 71 (cv x) :: .box b12 48 #[.int .i64 0, .int .i64 0, .bool false] :: .box b9 54 (pv q) :: .box b7 48 #[.int .i64 ↑i, .int .i64 ↑j, .bool pend] :: os2) from by rw [hos2]; exact S15.out)
      clear hos2 S15
      have hw18 := (S19.out.box (k := 0) rfl).width4
      have hwa := HWA.out
      go_wp2_with fail
      clear hw18 hwa
      refine (Cols_any S19.out (k := k + 4) HK2.out).mono ?_
      rintro e w8 ⟨rfl, hS⟩
      have S20 := Lib.hid hS
      clear hS S19
      by_cases hend : (at_ : Int) + x.width < cols
      ·have d1 : decide ((at_ : Int) + x.width < (cols : Int)) = true := decide_eq_true hend
       have HP1 := Lib.hid (show ((prCol cols at_ x : Nat) : Int) = (at_ : Int) + x.width by unfold prCol; rw [if_pos (by have := HXN.out; omega)]; have := HXN.out; omega)
       have HP2 := Lib.hid (show prPend cols at_ x auto = false by unfold prPend; rw [if_pos (by have := HXN.out; omega)])
       obtain ⟨hx7, hf7, hz7⟩ := (S20.out.box (k := 3) rfl).facts
       obtain ⟨hx12, hf12, hz12⟩ := (S20.out.box (k := 1) rfl).facts
       have SF := Lib.hid (S20.out.setCur 1 (r := ↑i) (c := ↑at_ + x.width) (b := false) rfl)
       clear hend
       go_wp2_with fail
       refine bodyPost_ret (results_ct Tryd.results38 _ _ b12 _ _ rfl (SF.out.box (k := 1) rfl) Tryd.underlying48 rfl pcursor_size) rfl ?_
       exact ⟨by rw [HXC.out, HAT.out, HP1.out, HP2.out]; rfl, by rw [HFIN.out, ← HOS.out]; exact SF.out.tail.tail.tail.tail⟩
      ·have d1 : decide ((at_ : Int) + x.width < (cols : Int)) = false := decide_eq_false hend
       have HP1 := Lib.hid (show ((prCol cols at_ x : Nat) : Int) = (cols : Int) - 1 by unfold prCol; rw [if_neg (by have := HXN.out; omega)]; omega)
       have HP2 := Lib.hid (show prPend cols at_ x auto = auto by unfold prPend; rw [if_neg (by have := HXN.out; omega)])
       clear hend
       go_upto_region 26 with (fail)
       refine wp_region_stage (w0 := w0) (os := os2) (by kernel_rfl) (by kernel_rfl) (by kernel_rfl) [(1, 7, [], fun vs => .box b12 48 #[.int .i64 ↑i, .int .i64 (↑cols - 1), .bool auto])] [[], [3], [], [], [], [], [], [1], []] [.box b18 71 (cv x), .box b12 48 #[.int .i64 0, .int .i64 0, .bool false], .box b9 54 (pv q), .box b7 48 #[.int .i64 ↑i, .int .i64 ↑j, .bool pend]] (fun opn u => match opn with | 0 => u = .pointer (some ⟨b7, 0, none⟩) | 1 => u = .int .i64 ↑i | 2 => u = .pointer (some ⟨p, 0, none⟩) | 3 => u = .int .i64 ↑cols | 4 => u = .int .i64 (↑cols - 1) | 5 => u = .bool auto | 6 => u = .agg #[.int .i64 ↑i, .int .i64 (↑cols - 1), .bool auto] | 7 => True | 8 => u = .int .i64 0 | _ => True) (fun vs => [.box b18 71 (cv x), .box b12 48 #[.int .i64 ↑i, .int .i64 (↑cols - 1), .bool auto], .box b9 54 (pv q), .box b7 48 #[.int .i64 ↑i, .int .i64 ↑j, .bool pend]]) (by kernel_rfl) (fun vs => by rfl) S20.out ?_ ?_
       ·apply sc
        ·intro a w' vs σ hS hl hs hk
         have f7 : a.tmps[7]?.getD undef = .pointer (some ⟨b7, 0, none⟩) := sof hk
         exact rp (pt b7 0) (by simp [execOp, Act.eval, f7, go_sem]) hl hs hS
        apply sc
        ·intro a w' vs σ hS hl hs hk
         have f111 : a.tmps[111]?.getD undef = .pointer (some ⟨b7, 0, none⟩) := svf hk 0
         have hx := (hS.box (sg (hs 3 (by decide)))).cell
         exact rp (.int .i64 ↑i) (by simp [execOp, Act.eval, f111, go_sem, hx]) hl hs hS
        apply sc
        ·intro a w' vs σ hS hl hs hk
         have f0 : a.tmps[0]?.getD undef = .pointer (some ⟨p, 0, none⟩) := sof hk
         exact rp (pt p 0) (by simp [execOp, Act.eval, f0, go_sem]) hl hs hS
        apply sc
        ·intro a w' vs σ hS hl hs hk
         have e113 : a.tmps.getD 113 undef = .pointer (some ⟨p, 0, none⟩) := svv hk 2
         exact ro_call (f := 18) (wanted_none rfl) rfl (by simp only [List.map_toArray, List.map_cons, List.map_nil, Act.eval, e113] <;> rfl) (fun _ _ => by kernel_rfl) ((Cols_any hS (k := k + 4) (by simpa using tg4b hl HK2.out)).mono fun e w2 ⟨h1, h2⟩ => ⟨_, h1, sp_same (by kernel_rfl) hl hs h2 rfl, trivial⟩)
        apply sc
        ·intro a w' vs σ hS hl hs hk
         have f114 : a.tmps[114]?.getD undef = .int .i64 ↑cols := svf hk 3
         exact rp (.int .i64 (↑cols - 1)) (by simp [execOp, Act.eval, f114, go_sem, HWC.out]) hl hs hS
        apply sc
        ·intro a w' vs σ hS hl hs hk
         have f4 : a.tmps[4]?.getD undef = .bool auto := sof hk
         exact rp (.bool auto) (by simp [execOp, Act.eval, f4, go_sem]) hl hs hS
        apply sc
        ·intro a w' vs σ hS hl hs hk
         have f112 : a.tmps[112]?.getD undef = .int .i64 ↑i := svf hk 1
         have f115 : a.tmps[115]?.getD undef = .int .i64 (↑cols - 1) := svf hk 4
         have f116 : a.tmps[116]?.getD undef = .bool auto := svf hk 5
         exact rp (.agg #[.int .i64 ↑i, .int .i64 (↑cols - 1), .bool auto]) (by simp [execOp, Act.eval, f112, f115, f116, go_sem]) hl hs hS
        apply sc
        ·intro a w' vs σ hS hl hs hk
         have f12 : a.tmps[12]?.getD undef = .pointer (some ⟨b12, 0, none⟩) := sof hk
         have f117 : a.tmps[117]?.getD undef = .agg #[.int .i64 ↑i, .int .i64 (↑cols - 1), .bool auto] := svf hk 6
         have h1 : σ[1]? = some (.box b12 48 #[.int .i64 0, .int .i64 0, .bool false]) := hs 1 (by decide)
         obtain ⟨hx, hf, hz⟩ := (hS.box (sg h1)).facts
         exact rstep_store (w2 := ((w'.setCell ⟨b12, 0, none⟩ (.int .i64 ↑i)).setCell ⟨b12, 1, none⟩ (.int .i64 (↑cols - 1))).setCell ⟨b12, 2, none⟩ (.bool auto)) (wanted_none rfl) rfl (by simp [execOp, Act.eval, f12, f117, hx, hf, hz, go_sem]) (sp_set 1 (.box b12 48 #[.int .i64 ↑i, .int .i64 (↑cols - 1), .bool auto]) (by kernel_rfl) (by simp) (by decide) hl hs (by rfl) (hS.setCur 1 (sg h1)) trivial) trivial
        apply sc
        ·intro a w' vs σ hS hl hs hk
         exact rp (.int .i64 0) (by simp [execOp, Act.eval, go_sem]) hl hs hS
        exact SSteps.nil
       ·intro vs w' hS hv
        have q0 : vs 0 = _ := hv 0 (by decide)
        have q1 : vs 1 = _ := hv 1 (by decide)
        have q2 : vs 2 = _ := hv 2 (by decide)
        have q3 : vs 3 = _ := hv 3 (by decide)
        have q4 : vs 4 = _ := hv 4 (by decide)
        have q5 : vs 5 = _ := hv 5 (by decide)
        have q6 : vs 6 = _ := hv 6 (by decide)
        have q8 : vs 8 = _ := hv 8 (by decide)
        have S2 := Lib.hid hS
        simp only [putL, Act.put, Nat.zero_add, Nat.reduceAdd, List.setIfInBounds_toArray, List.set_cons_succ, List.set_cons_zero, q0, q1, q2, q3, q4, q5, q6, q8]
        clear hS hv q0 q1 q2 q3 q4 q5 q6 q8
        have SF := S2
        clear S2
        go_wp2_with fail
        refine bodyPost_ret (results_ct Tryd.results38 _ _ b12 _ _ rfl (SF.out.box (k := 1) rfl) Tryd.underlying48 rfl pcursor_size) rfl ?_
        exact ⟨by rw [HXC.out, HAT.out, HP1.out, HP2.out]; rfl, by rw [HFIN.out, ← HOS.out]; exact SF.out.tail.tail.tail.tail⟩
end
end Go.Proofs.YtppijfjigcoifaaDoor

namespace Go.Proofs.YtppijfjigcoifaaDoor
open Go.RowKit

section
variable {w0 w : World} {os : List Ob} {k p cols : Nat} {L : List Ln}
end
end Go.Proofs.YtppijfjigcoifaaDoor

namespace Go.Proofs.YtppijfjigcoifaaDoor
open Go.RowKit

def befN (cs : List Cell) (c : Nat) : Nat := if 1 ≤ c ∧ (cAt cs c).width = 0 then c - 1 else c
def mkB (cs : List Cell) (c : Nat) (r : Int) : Bool := !decide ((cAt cs (befN cs c)).rune = 0) && decide ((markOf (cAt cs (befN cs c)) r).2 = 0)
def mkRow (c : Nat) (r : Int) (cs : List Cell) : List Cell := if mkB cs c r = true then cs.set (befN cs c) (markOf (cAt cs (befN cs c)) r).1 else cs
theorem mkRow_length {c : Nat} {r : Int} {cs : List Cell} : (mkRow c r cs).length = cs.length := by unfold mkRow; split <;> simp
theorem wr_no {c : Cell} (h : c.rune = 0) (w : World) : Calls Tryd.prog 79 #[.agg (cv c)] w fun e w' => e = .returned (.bool false) ∧ Below w.heap.size w w' := by
 have := cellWritten_any c w
 rwa [show (!decide (c.rune = 0)) = false by simp [h]] at this
theorem wr_yes {c : Cell} (h : ¬ c.rune = 0) (w : World) : Calls Tryd.prog 79 #[.agg (cv c)] w fun e w' => e = .returned (.bool true) ∧ Below w.heap.size w w' := by
 have := cellWritten_any c w
 rwa [show (!decide (c.rune = 0)) = true by simp [h]] at this
theorem or2 {P Q G : Prop} (h : P ∨ Q) (a2 : P → G) (b2 : Q → G) : G := h.elim a2 b2
section
variable {cs : List Cell} {c : Nat} {r : Int} {y : Cell}
theorem mark_keeps {x : Cell} (h : markOf x r = (y, 0)) : y.width = x.width ∧ y.pen = x.pen ∧ x.ok = true := by
 unfold markOf at h
 split at h
 ·cases h
 ·next hn =>
  have ho : x.ok = true := by cases hx : x.ok; exact absurd (.inl hx) hn; rfl
  split at h
  ·cases h
  ·split at h
   ·obtain ⟨rfl, -⟩ := Prod.mk.inj h; exact ⟨rfl, rfl, ho⟩
   ·split at h
    ·obtain ⟨rfl, -⟩ := Prod.mk.inj h; exact ⟨rfl, rfl, ho⟩
    ·split at h
     ·obtain ⟨rfl, -⟩ := Prod.mk.inj h; exact ⟨rfl, rfl, ho⟩
     ·cases h
theorem bef_facts (h : RowV cs) (hc : c < cs.length) : befN cs c < cs.length ∧ ¬ (cAt cs (befN cs c)).width = 0 ∧ ((befN cs c : Nat) : Int) + (cAt cs (befN cs c)).width ≤ cs.length := by
 have key : ∀ k, k < cs.length → ¬ (cAt cs k).width = 0 → (k : Int) + (cAt cs k).width ≤ cs.length := fun k hk hw => by
  rcases ok_width (h k hk).ok with e | e | e
  ·exact absurd e hw
  ·rw [e]; omega
  ·have := (h k hk).last e; rw [e]; omega
 unfold befN
 by_cases h1 : 1 ≤ c ∧ (cAt cs c).width = 0
 ·rw [if_pos h1]
  have h2 := (h c hc).zero.1 h1.2
  exact ⟨by omega, by omega, key _ (by omega) (by omega)⟩
 ·rw [if_neg h1]
  have h2 : ¬ (cAt cs c).width = 0 := fun e => by
   have := (h c hc).zero.1 e
   exact h1 ⟨this.1, e⟩
  exact ⟨hc, h2, key c hc h2⟩
theorem bef_zero (h : RowV cs) (hc : c < cs.length) (h0 : (cAt cs c).width = 0) : 1 ≤ c ∧ befN cs c = c - 1 := by
 have := (h c hc).zero.1 h0
 exact ⟨this.1, by unfold befN; rw [if_pos ⟨this.1, h0⟩]⟩
theorem bef_not (h0 : ¬ (cAt cs c).width = 0) : befN cs c = c := by unfold befN; rw [if_neg (fun h => h0 h.2)]
theorem mark_put (h : RowV cs) (hj : c < cs.length) (h0 : ¬ (cAt cs c).width = 0) (hm : markOf (cAt cs c) r = (y, 0)) : putC c y cs = cs.set c y := by
 obtain ⟨h1, h2, h3⟩ := mark_keeps hm
 exact putC_same h hj h0 h1 h2 (fun i hi hz => zero_spacer (h i hi).ok hz)
theorem cAt_get (hc : c < cs.length) : cs[c]? = some (cAt cs c) := by rw [List.getElem?_eq_getElem hc, cAt_eq hc]
end
section
variable {w0 w : World} {os : List Ob} {k p cols : Nat} {L : List Ln}
set_option maxHeartbeats 4000000 in
theorem Mark_bad (row col : Int) (pend : Bool) (r : Int) (hT : Tabs w0) (hS : Objs w0 w os) (hk : os[k]? = some (.grid p 58 cols L)) (hc : 0 < cols) (hcm : cols ≤ 1000) (hL : 0 < L.length) (hin : inG row col pend L.length cols = true) (hw : ¬ wOf r = 0) :
  Calls Tryd.prog 40 #[.pointer (some ⟨p, 0, none⟩), .agg #[.int .i64 row, .int .i64 col, .bool pend], .int .i32 r] w fun e w' => e = .returned (.tuple #[.bool false, .int .i64 2]) ∧ Objs w0 w' os := by
 have S0 := Lib.hid hS
 have HK := Lib.hid hk
 clear hS hk
 have HT := Lib.hid hT
 have HE := Lib.hid (show chkE row col pend L.length cols = 0 by unfold chkE; rw [hin]; rfl)
 obtain ⟨n, hn⟩ : ∃ n, wOf r = n := ⟨_, rfl⟩
 have HW := Lib.hid hn
 rw [hn] at hw
 have hbn := bne_yes hw
 clear hin hT hn hw
 go_enter Tryd.func40, Tryd.ntmps40
 go_upto_region 1 with (fail)
 refine at_objsC (S0.out.alloc1 (c1 := #[.int .i64 row, .int .i64 col, .bool pend]) (t1 := 48)) (fun W hW => ?_)
 generalize w.heap.size = b4 at hW ⊢
 have S1 := Lib.hid hW
 clear hW S0
 obtain ⟨hx4, hf4, hz4⟩ := (S1.out.box (k := 0) rfl).facts
 go_wp2_with fail
 clear hx4 hf4 hz4
 have hcon := prcheck_any row col pend S1.out (k := k + 1) HK.out hc hcm hL
 rw [HE.out] at hcon
 refine hcon.mono ?_
 rintro e w1 ⟨rfl, hS⟩
 have S2 := Lib.hid hS
 clear hS hcon S1
 go_wp2_with fail
 refine (width_is HW.out _ (S2.out.tabs HT.out)).mono ?_
 rintro e w2 ⟨rfl, hb⟩
 have S3 := Lib.hid (S2.out.bel hb)
 clear hb S2
 go_wp2_with fail
 go_ret2
 exact ⟨rfl, S3.out.tail⟩
set_option maxHeartbeats 4000000 in
theorem Mark_front (row : Int) (r : Int) (hT : Tabs w0) (hS : Objs w0 w os) (hk : os[k]? = some (.grid p 58 cols L)) (hc : 0 < cols) (hcm : cols ≤ 1000) (hL : 0 < L.length) (hin : inG row 0 false L.length cols = true) (hw : wOf r = 0) :
  Calls Tryd.prog 40 #[.pointer (some ⟨p, 0, none⟩), .agg #[.int .i64 row, .int .i64 0, .bool false], .int .i32 r] w fun e w' => e = .returned (.tuple #[.bool false, .int .i64 0]) ∧ Objs w0 w' os := by
 have S0 := Lib.hid hS
 have HK := Lib.hid hk
 clear hS hk
 have HT := Lib.hid hT
 have HE := Lib.hid (show chkE row 0 false L.length cols = 0 by unfold chkE; rw [hin]; rfl)
 have HW := Lib.hid hw
 clear hin hT hw
 go_enter Tryd.func40, Tryd.ntmps40
 go_upto_region 1 with (fail)
 refine at_objsC (S0.out.alloc1 (c1 := #[.int .i64 row, .int .i64 0, .bool false]) (t1 := 48)) (fun W hW => ?_)
 generalize w.heap.size = b4 at hW ⊢
 have S1 := Lib.hid hW
 clear hW S0
 obtain ⟨hx4, hf4, hz4⟩ := (S1.out.box (k := 0) rfl).facts
 go_wp2_with fail
 clear hx4 hf4 hz4
 have hcon := prcheck_any row 0 false S1.out (k := k + 1) HK.out hc hcm hL
 rw [HE.out] at hcon
 refine hcon.mono ?_
 rintro e w1 ⟨rfl, hS⟩
 have S2 := Lib.hid hS
 clear hS hcon S1
 go_wp2_with fail
 refine (width_is HW.out _ (S2.out.tabs HT.out)).mono ?_
 rintro e w2 ⟨rfl, hb⟩
 have S3 := Lib.hid (S2.out.bel hb)
 clear hb S2
 obtain ⟨hx4, hf4, hz4⟩ := (S3.out.box (k := 0) rfl).facts
 go_wp2_with fail
 go_ret2
 exact ⟨rfl, S3.out.tail⟩
set_option maxRecDepth 100000 in
set_option maxHeartbeats 8000000 in
theorem Mark_at {i c0 : Nat} {l : Ln} (col : Int) (pend : Bool) (r : Int) (hT : Tabs w0) (hS : Objs w0 w os) (hk : os[k]? = some (.grid p 58 cols L)) (hc : 0 < cols) (hcm : cols ≤ 1000) (hL : 0 < L.length) (hR : Rect cols L) (hin : inG i col pend L.length cols = true) (hw : wOf r = 0) (hcol : (pend = true ∧ col = (c0 : Int)) ∨ (pend = false ∧ col = (c0 : Int) + 1)) (hl : L[i]? = some l) (hV : RowV l.1) :
  Calls Tryd.prog 40 #[.pointer (some ⟨p, 0, none⟩), .agg #[.int .i64 ↑i, .int .i64 col, .bool pend], .int .i32 r] w fun e w' => e = .returned (.tuple #[.bool (mkB l.1 c0 r), .int .i64 0]) ∧ Objs w0 w' (os.set k (.grid p 58 cols (rowMod i (mkRow c0 r) L))) := by
 have S0 := Lib.hid hS
 have HK := Lib.hid hk
 clear hS hk
 have HT := Lib.hid hT
 have HR := Lib.hid hR
 have HE := Lib.hid (show chkE i col pend L.length cols = 0 by unfold chkE; rw [hin]; rfl)
 have HW := Lib.hid hw
 have HL := Lib.hid hl
 have hing := ingrid_iff.1 hin
 have hll : l.1.length = cols := hR.at_ hl
 have hj0 : c0 < cols := by rcases hcol with h | h <;> omega
 have hi : i < L.length := by omega
 obtain ⟨c1, hc1⟩ : ∃ c1, befN l.1 c0 = c1 := ⟨_, rfl⟩
 obtain ⟨x0, hx0⟩ : ∃ x0, cAt l.1 c0 = x0 := ⟨_, rfl⟩
 obtain ⟨x1, hx1⟩ : ∃ x1, cAt l.1 c1 = x1 := ⟨_, rfl⟩
 obtain ⟨hj1, hw1, hf1⟩ := bef_facts hV (c := c0) (by omega)
 rw [hc1] at hj1 hw1 hf1
 rw [hx1] at hw1 hf1
 rw [hll] at hj1 hf1
 have HX0 := Lib.hid (show l.1[c0]? = some x0 by rw [← hx0]; exact cAt_get (by omega))
 have HX1 := Lib.hid (show l.1[c1]? = some x1 by rw [← hx1]; exact cAt_get (by omega))
 have HZ := Lib.hid (show x0.width = 0 → c0 = c1 + 1 from fun h => by have := bef_zero hV (c := c0) (by omega) (by rw [hx0]; exact h); omega)
 have HN := Lib.hid (show ¬ x0.width = 0 → c1 = c0 ∧ x1 = x0 by
  intro h
  have h2 := bef_not (cs := l.1) (c := c0) (by rw [hx0]; exact h)
  have e : c1 = c0 := by omega
  exact ⟨e, by rw [← hx1, ← hx0, e]⟩)
 have HP := Lib.hid (show ∀ y, markOf x1 r = (y, 0) → putC c1 y l.1 = l.1.set c1 y from fun y hy => mark_put hV (by omega) (by rw [hx1]; exact hw1) (by rw [hx1]; exact hy))
 have HB := Lib.hid (show mkB l.1 c0 r = (!decide (x1.rune = 0) && decide ((markOf x1 r).2 = 0)) by unfold mkB; rw [hc1, hx1])
 have HM := Lib.hid (show mkRow c0 r l.1 = if mkB l.1 c0 r = true then l.1.set c1 (markOf x1 r).1 else l.1 by unfold mkRow; rw [hc1, hx1])
 have HW1 := Lib.hid hw1
 have HF1 := Lib.hid hf1
 have HOK := Lib.hid (show x1.ok = true by rw [← hx1]; exact (hV c1 (by omega)).ok)
 have hng : decide ((c0 : Int) < 0) = false := decide_eq_false (by omega)
 clear hT hR hin hw hing hc1 hx0 hx1 hw1 hf1 hV hl
 refine or2 hcol (fun h7 => ?q1) (fun h7 => ?q2)
 case' q1 =>
  clear hcol
  obtain ⟨rfl, rfl⟩ := h7
  go_enter Tryd.func40, Tryd.ntmps40
  go_upto_region 1 with (fail)
  refine at_objsC (S0.out.alloc1 (c1 := #[.int .i64 ↑i, .int .i64 ↑c0, .bool true]) (t1 := 48)) (fun W hW => ?_)
  generalize w.heap.size = b4 at hW ⊢
  have S1 := Lib.hid hW
  clear hW S0
  obtain ⟨hx4, hf4, hz4⟩ := (S1.out.box (k := 0) rfl).facts
  go_wp2_with fail
  clear hx4 hf4 hz4
  have hcon := prcheck_any ↑i ↑c0 true S1.out (k := k + 1) HK.out hc hcm hL
  rw [HE.out] at hcon
  refine hcon.mono ?_
  rintro e w1 ⟨rfl, hS⟩
  have S2 := Lib.hid hS
  clear hS hcon S1
  go_wp2_with fail
  refine (width_is HW.out _ (S2.out.tabs HT.out)).mono ?_
  rintro e w2 ⟨rfl, hb⟩
  have S3 := Lib.hid (S2.out.bel hb)
  clear hb S2
  obtain ⟨hx4, hf4, hz4⟩ := (S3.out.box (k := 0) rfl).facts
  go_upto_region 11 with (fail)
  clear hx4 hf4 hz4
 case' q2 =>
  clear hcol
  obtain ⟨rfl, h7⟩ := h7
  have HJ := Lib.hid (show IntKind.i64.wrap (col - 1) = (c0 : Int) by rw [IntWalk.i64_in _ (by omega)]; omega)
  clear h7
  go_enter Tryd.func40, Tryd.ntmps40
  go_upto_region 1 with (fail)
  refine at_objsC (S0.out.alloc1 (c1 := #[.int .i64 ↑i, .int .i64 col, .bool false]) (t1 := 48)) (fun W hW => ?_)
  generalize w.heap.size = b4 at hW ⊢
  have S1 := Lib.hid hW
  clear hW S0
  obtain ⟨hx4, hf4, hz4⟩ := (S1.out.box (k := 0) rfl).facts
  go_wp2_with fail
  clear hx4 hf4 hz4
  have hcon := prcheck_any ↑i col false S1.out (k := k + 1) HK.out hc hcm hL
  rw [HE.out] at hcon
  refine hcon.mono ?_
  rintro e w1 ⟨rfl, hS⟩
  have S2 := Lib.hid hS
  clear hS hcon S1
  go_wp2_with fail
  refine (width_is HW.out _ (S2.out.tabs HT.out)).mono ?_
  rintro e w2 ⟨rfl, hb⟩
  have S3 := Lib.hid (S2.out.bel hb)
  clear hb S2
  obtain ⟨hx4, hf4, hz4⟩ := (S3.out.box (k := 0) rfl).facts
  have hwj := HJ.out
  go_upto_region 11 with (fail)
  clear hwj
  clear hx4 hf4 hz4
 all_goals
  clear hng
  obtain ⟨cj, pd, S4⟩ : ∃ (cj : Int) (pd : Bool), Hid (Objs w0 _ (.box b4 48 #[.int .i64 ↑i, .int .i64 cj, .bool pd] :: os)) := ⟨_, _, S3⟩
  clear S3
  obtain ⟨hx4, hf4, hz4⟩ := (S4.out.box (k := 0) rfl).facts
  go_wp2_with fail
  clear hx4 hf4 hz4
  refine (Cell_yes (i := i) (j := c0) (x := x0) S4.out (k := k + 1) HK.out hc hj0 HL.out HX0.out).mono ?_
  rintro e w5 ⟨rfl, hS⟩
  have S5 := Lib.hid hS
  clear hS S4
  go_upto_region 12 with (fail)
  refine at_objsC (S5.out.alloc1 (c1 := cv x0) (t1 := 71)) (fun W hW => ?_)
  generalize w5.heap.size = b10 at hW ⊢
  have S6 := Lib.hid hW
  clear hW S5
  obtain ⟨hx4, hf4, hz4⟩ := (S6.out.box (k := 1) rfl).facts
  have hw10 := (S6.out.box (k := 0) rfl).width4
  obtain ⟨-, hf10, hz10⟩ := (S6.out.box (k := 0) rfl).facts
  apply or2 (Classical.em (x0.width = 0))
  case' a2 =>
   intro h0
   obtain rfl := HZ.out h0
   have hb0 := beq_yes h0
   have hwj : IntKind.i64.wrap (((c1 + 1 : Nat) : Int) - 1) = (c1 : Int) := by rw [IntWalk.i64_in _ (by omega)]; omega
   clear h0
   go_wp2_with fail
   clear hb0 hwj hx4 hf4 hz4 hw10 hf10 hz10
   refine (Cell_yes (i := i) (j := c1) (x := x1) S6.out (k := k + 2) HK.out hc hj1 HL.out HX1.out).mono ?_
   rintro e w6 ⟨rfl, hS⟩
   have hst := store_cv_row w6 b10 (cv x0) x1 (hS.box (k := 0) rfl) (cv_size _)
   have S7 := Lib.hid (show Objs w0 (w6.setRow b10 (cv x1)) (.box b10 71 (cv x1) :: .box b4 48 #[.int .i64 ↑i, .int .i64 cj, .bool pd] :: os) from hS.rowBox 0 (ds := cv x1) rfl)
   clear hS S6
   go_upto_region 15 with (fail)
   clear hst
  case' b2 =>
   intro h0
   obtain ⟨rfl, rfl⟩ := HN.out h0
   have hb0 := beq_no h0
   clear h0
   go_upto_region 15 with (fail)
   clear hb0 hx4 hf4 hz4 hw10 hf10 hz10
   have S7 := S6
   clear S6
  all_goals
   as_aux_lemma =>
    have hc10 := (S7.out.box (k := 0) rfl).cellAt
    have hz10 := (S7.out.box (k := 0) rfl).lt
    go_wp2_with fail
    clear hc10 hz10
    by_cases hr : x1.rune = 0
    ·have HF := Lib.hid (show mkB l.1 _ r = false by rw [HB.out]; simp [hr])
     refine (wr_no hr _).mono ?_
     rintro e w8 ⟨rfl, hb⟩
     have S8 := Lib.hid (S7.out.bel hb)
     clear hb S7 hr
     go_wp2_with fail
     go_ret2
     exact ⟨by rw [HF.out]; rfl, by rw [rowMod_some HL.out, HM.out, HF.out, if_neg (by simp), show ((l.1, l.2) : Ln) = l from rfl, set_self HL.out, set_self HK.out]; exact S8.out.tail.tail⟩
    ·refine (wr_yes hr _).mono ?_
     rintro e w8 ⟨rfl, hb⟩
     have S8 := Lib.hid (S7.out.bel hb)
     clear hb S7
     obtain ⟨y, er, hm⟩ : ∃ y er, markOf x1 r = (y, er) := ⟨_, _, rfl⟩
     have HMK := Lib.hid hm
     have HB2 := Lib.hid (show mkB l.1 _ r = decide (er = 0) by rw [HB.out, hm]; simp [hr])
     clear hr hm
     have hc10 := (S8.out.box (k := 0) rfl).cellAt
     have hz10 := (S8.out.box (k := 0) rfl).lt
     go_wp2_with fail
     clear hc10 hz10
     have hcon := cellMark_any x1 r _ (S8.out.tabs HT.out)
     unfold MarkEnd at hcon
     rw [HMK.out] at hcon
     refine hcon.mono ?_
     rintro e w9 ⟨rfl, hb⟩
     have S9 := Lib.hid (S8.out.bel hb)
     clear hb S8 hcon
     go_upto_region 20 with (fail)
     refine at_objsC (S9.out.alloc1 (c1 := cv y) (t1 := 71)) (fun W2 hW2 => ?_)
     generalize w9.heap.size = b12 at hW2 ⊢
     have SA := Lib.hid hW2
     clear hW2 S9
     by_cases he : er = 0
     ·subst he
      have HT1 := Lib.hid (show mkB l.1 _ r = true by rw [HB2.out]; rfl)
      obtain ⟨hk1, hk2, -⟩ := mark_keeps HMK.out
      have HYO := Lib.hid (mark_holds HOK.out HMK.out).1
      have HYW := Lib.hid (show ¬ y.width = 0 by rw [hk1]; exact HW1.out)
      have HYF := Lib.hid (show (c1 : Int) + y.width ≤ cols by rw [hk1]; exact HF1.out)
      clear hk1 hk2
      obtain ⟨hx4, hf4, hz4⟩ := (SA.out.box (k := 2) rfl).facts
      have hc12 := (SA.out.box (k := 0) rfl).cellAt
      have hz12 := (SA.out.box (k := 0) rfl).lt
      go_wp2_with fail
      clear hx4 hf4 hz4 hc12 hz12
      refine (PutG (i := i) (j := c1) y HT.out SA.out (k := k + 3) HK.out hcm HR.out hi HYO.out HYW.out HYF.out).mono ?_
      rintro e wA ⟨rfl, hS⟩
      have SB := Lib.hid hS
      clear hS SA
      go_wp2_with fail
      go_ret2
      refine ⟨by rw [HT1.out]; rfl, ?_⟩
      have hfin := SB.out.tail.tail.tail
      rw [rowMod_some HL.out, HP.out y HMK.out] at hfin
      rw [rowMod_some HL.out, HM.out, HT1.out, if_pos rfl, HMK.out]
      exact hfin
     ·have HF := Lib.hid (show mkB l.1 _ r = false by rw [HB2.out]; exact decide_eq_false he)
      have hbe := bne_yes he
      clear he
      go_wp2_with fail
      go_ret2
      exact ⟨by rw [HF.out]; rfl, by rw [rowMod_some HL.out, HM.out, HF.out, if_neg (by simp), show ((l.1, l.2) : Ln) = l from rfl, set_self HL.out, set_self HK.out]; exact SA.out.tail.tail.tail⟩
end
end Go.Proofs.YtppijfjigcoifaaDoor

namespace Go.Proofs.YtppijfjigcoifaaDoor
open Go.RowKit

section
variable {w0 w : World} {os : List Ob} {k p cols : Nat} {L : List Ln}
end
end Go.Proofs.YtppijfjigcoifaaDoor

namespace Go.Proofs.YtppijfjigcoifaaDoor
open Go.RowKit

section
variable {w0 w : World} {os os2 : List Ob} {gp : Value}
set_option maxHeartbeats 4000000 in
theorem l16prints_true {row col r1 c1 r er : Int} {pend auto ins b1 : Bool} {q : Pen} (hS : Objs w0 w os)
  (hcon : ∀ (bs : List Ob) (W : World), bs.length = 3 → Objs w0 W (bs ++ os) → Calls Tryd.prog 38 #[gp, .agg #[.int .i64 row, .int .i64 col, .bool pend], .int .i32 r, .agg (pv q), .bool auto, .bool ins] W fun e w' => e = .returned (.tuple #[.agg #[.int .i64 r1, .int .i64 c1, .bool b1], .int .i64 er]) ∧ Objs w0 w' (bs ++ os2)) :
  Calls Tryd.prog 27 #[gp, .agg #[.int .i64 row, .int .i64 col, .bool pend], .int .i32 r, .agg (pv q), .bool auto, .bool ins, .agg #[.int .i64 r1, .int .i64 c1, .bool b1], .int .i64 er] w fun e w' => e = .returned (.bool true) ∧ Objs w0 w' os2 := by
 have S0 := Lib.hid hS
 have HC := Lib.hid hcon
 clear hS hcon
 go_enter Tryd.func27, Tryd.ntmps27
 go_upto_region 1 with (fail)
 refine at_objsC (S0.out.alloc3 (c1 := #[.int .i64 row, .int .i64 col, .bool pend]) (t1 := 48) (c2 := pv q) (t2 := 54) (c3 := #[.int .i64 r1, .int .i64 c1, .bool b1]) (t3 := 48)) (fun W hW => ?_)
 generalize w.heap.size + 1 + 1 = b14 at hW ⊢
 generalize w.heap.size + 1 = b11 at hW ⊢
 generalize w.heap.size = b9 at hW ⊢
 have S1 := Lib.hid hW
 clear hW S0
 obtain ⟨hx9, hf9, hz9⟩ := (S1.out.box (k := 2) rfl).facts
 have hp11 := (S1.out.box (k := 1) rfl).penAt
 have hp11z := (S1.out.box (k := 1) rfl).lt
 go_wp2_with fail
 clear hx9 hf9 hz9 hp11 hp11z
 refine (HC.out [_, _, _] _ rfl S1.out).mono ?_
 rintro e w1 ⟨rfl, hS⟩
 have S2 := Lib.hid (show Objs w0 w1 (.box b14 48 #[.int .i64 r1, .int .i64 c1, .bool b1] :: .box b11 54 (pv q) :: .box b9 48 #[.int .i64 row, .int .i64 col, .bool pend] :: os2) from hS)
 clear hS S1
 go_upto_region 2 with (fail)
 refine at_objsC (S2.out.alloc1 (c1 := #[.int .i64 r1, .int .i64 c1, .bool b1]) (t1 := 48)) (fun W2 hW2 => ?_)
 generalize w1.heap.size = b17 at hW2 ⊢
 have S3 := Lib.hid hW2
 clear hW2 S2
 obtain ⟨hx17, hf17, hz17⟩ := (S3.out.box (k := 0) rfl).facts
 obtain ⟨hx14, hf14, hz14⟩ := (S3.out.box (k := 1) rfl).facts
 go_wp2_with fail
 go_ret
 exact ⟨rfl, S3.out.tail.tail.tail.tail⟩
set_option maxHeartbeats 4000000 in
theorem l16wraps_true {row col r er : Int} {pend auto b1 : Bool} (hS : Objs w0 w os)
  (hcon : ∀ (bs : List Ob) (W : World), bs.length = 1 → Objs w0 W (bs ++ os) → Calls Tryd.prog 37 #[gp, .agg #[.int .i64 row, .int .i64 col, .bool pend], .int .i32 r, .bool auto] W fun e w' => e = .returned (.tuple #[.bool b1, .int .i64 er]) ∧ Objs w0 w' (bs ++ os2)) :
  Calls Tryd.prog 28 #[gp, .agg #[.int .i64 row, .int .i64 col, .bool pend], .int .i32 r, .bool auto, .bool b1, .int .i64 er] w fun e w' => e = .returned (.bool true) ∧ Objs w0 w' os2 := by
 have S0 := Lib.hid hS
 have HC := Lib.hid hcon
 clear hS hcon
 go_enter Tryd.func28, Tryd.ntmps28
 go_upto_region 1 with (fail)
 refine at_objsC (S0.out.alloc1 (c1 := #[.int .i64 row, .int .i64 col, .bool pend]) (t1 := 48)) (fun W hW => ?_)
 generalize w.heap.size = b9 at hW ⊢
 have S1 := Lib.hid hW
 clear hW S0
 obtain ⟨hx9, hf9, hz9⟩ := (S1.out.box (k := 0) rfl).facts
 go_wp2_with fail
 clear hx9 hf9 hz9
 refine (HC.out [_] _ rfl S1.out).mono ?_
 rintro e w1 ⟨rfl, hS⟩
 have S2 := Lib.hid (show Objs w0 w1 (.box b9 48 #[.int .i64 row, .int .i64 col, .bool pend] :: os2) from hS)
 clear hS S1
 go_wp2_with fail
 go_ret
 exact ⟨rfl, S2.out.tail⟩
set_option maxHeartbeats 4000000 in
theorem l16marks_true {row col r er : Int} {pend b1 : Bool} (hS : Objs w0 w os)
  (hcon : ∀ (bs : List Ob) (W : World), bs.length = 1 → Objs w0 W (bs ++ os) → Calls Tryd.prog 40 #[gp, .agg #[.int .i64 row, .int .i64 col, .bool pend], .int .i32 r] W fun e w' => e = .returned (.tuple #[.bool b1, .int .i64 er]) ∧ Objs w0 w' (bs ++ os2)) :
  Calls Tryd.prog 29 #[gp, .agg #[.int .i64 row, .int .i64 col, .bool pend], .int .i32 r, .bool b1, .int .i64 er] w fun e w' => e = .returned (.bool true) ∧ Objs w0 w' os2 := by
 have S0 := Lib.hid hS
 have HC := Lib.hid hcon
 clear hS hcon
 go_enter Tryd.func29, Tryd.ntmps29
 go_upto_region 1 with (fail)
 refine at_objsC (S0.out.alloc1 (c1 := #[.int .i64 row, .int .i64 col, .bool pend]) (t1 := 48)) (fun W hW => ?_)
 generalize w.heap.size = b9 at hW ⊢
 have S1 := Lib.hid hW
 clear hW S0
 obtain ⟨hx9, hf9, hz9⟩ := (S1.out.box (k := 0) rfl).facts
 go_wp2_with fail
 clear hx9 hf9 hz9
 refine (HC.out [_] _ rfl S1.out).mono ?_
 rintro e w1 ⟨rfl, hS⟩
 have S2 := Lib.hid (show Objs w0 w1 (.box b9 48 #[.int .i64 row, .int .i64 col, .bool pend] :: os2) from hS)
 clear hS S1
 go_wp2_with fail
 go_ret
 exact ⟨rfl, S2.out.tail⟩
set_option maxHeartbeats 4000000 in
theorem l16valid_any (q : Pen) (hT : Tabs w0) (hS : Objs w0 w os) : Calls Tryd.prog 36 #[.agg (pv q)] w fun e w' => e = .returned (.bool q.ok) ∧ Objs w0 w' os := by
 have S := Lib.hid hS
 have HT := Lib.hid hT
 clear hS hT
 go_enter Tryd.func36, Tryd.ntmps36
 go_wp2_with fail
 refine (pure_call (r14Blank_any _ _) S.out.alloc1).mono ?_
 rintro e w1 ⟨rfl, hS⟩
 have S1 := Lib.hid hS
 clear hS
 go_wp2_with fail
 refine (pure_call (cellValid_any _ _ (S1.out.tabs HT.out)) S1.out).mono ?_
 rw [ok_blank]
 rintro e w2 ⟨rfl, hS⟩
 have S2 := Lib.hid hS
 clear hS
 go_wp2_with fail
 go_ret
 exact ⟨rfl, S2.out.tail⟩
set_option maxHeartbeats 4000000 in
theorem l16at_any (col : Int) (pend : Bool) (hS : Objs w0 w os) : Calls Tryd.prog 64 #[.int .i64 col, .bool pend] w fun e w' => e = .returned (.agg #[.int .i64 0, .int .i64 col, .bool pend]) ∧ Objs w0 w' os := by
 have S0 := Lib.hid hS
 clear hS
 go_enter Tryd.func64, Tryd.ntmps64
 go_wp2_with fail
 have SF := Lib.hid (S0.out.alloc1 (c1 := #[.int .i64 0, .int .i64 col, .bool pend]) (t1 := 48))
 refine bodyPost_ret (results_cell1 Tryd.results64 _ _ w.heap.size 48 _ _ rfl (SF.out.box (k := 0) rfl) Tryd.underlying48 rfl pcursor_size) rfl ?_
 exact ⟨rfl, SF.out.tail⟩
end
end Go.Proofs.YtppijfjigcoifaaDoor

namespace Go.Proofs.YtppijfjigcoifaaDoor
open Go.RowKit

theorem gk {bs os : List Ob} {a k : Nat} {o : Ob} (hb : bs.length = a) (hk : os[k]? = some o) : (bs ++ os)[a + k]? = some o := by
 rw [List.getElem?_append_right (by omega), show a + k - bs.length = k by omega]; exact hk
theorem gset {bs os : List Ob} {a k : Nat} {o : Ob} (hb : bs.length = a) : (bs ++ os).set (a + k) o = bs ++ os.set k o := by
 rw [List.set_append_right _ _ (by omega), show a + k - bs.length = k by omega]
section
variable {w0 w : World} {os : List Ob} {k p cols : Nat} {L : List Ln} {row col : Int} {pend auto ins : Bool} {r : Int} {q : Pen}
theorem prints_wrap (hT : Tabs w0) (hS : Objs w0 w os) (hk : os[k]? = some (.grid p 58 cols L)) (hc : 0 < cols) (hcm : cols ≤ 1000) (hL : 0 < L.length) (hin : inG row col pend L.length cols = true) (hw : 1 ≤ wOf r) (hq : q.ok = true) (hwr : wrapB cols col pend auto (wOf r) = true) :
  Calls Tryd.prog 27 #[.pointer (some ⟨p, 0, none⟩), .agg #[.int .i64 row, .int .i64 col, .bool pend], .int .i32 r, .agg (pv q), .bool auto, .bool ins, .agg #[.int .i64 0, .int .i64 0, .bool false], .int .i64 8] w fun e w' => e = .returned (.bool true) ∧ Objs w0 w' os :=
 l16prints_true hS fun bs W hb hW => (Print_wrap row col pend auto ins r q hT hW (k := 3 + k) (gk hb hk) hc hcm hL hin hw hq hwr).mono fun e w' ⟨h1, h2⟩ => ⟨h1, h2⟩
theorem prints_yes {i j : Nat} (hT : Tabs w0) (hS : Objs w0 w os) (hk : os[k]? = some (.grid p 58 cols L)) (hc : 0 < cols) (hcm : cols ≤ 1000) (hL : 0 < L.length) (hR : Rect cols L) (hin : inG i j pend L.length cols = true) (hw : 1 ≤ wOf r) (hq : q.ok = true) (hwr : wrapB cols j pend auto (wOf r) = false) (x0 : Cell) (hx0 : x0 = ⟨r, 0, 0, 0, wOf r, q⟩) :
  Calls Tryd.prog 27 #[.pointer (some ⟨p, 0, none⟩), .agg #[.int .i64 ↑i, .int .i64 ↑j, .bool pend], .int .i32 r, .agg (pv q), .bool auto, .bool ins, .agg #[.int .i64 ↑i, .int .i64 ↑(prCol cols (prAt cols j (prCell cols x0)) (prCell cols x0)), .bool (prPend cols (prAt cols j (prCell cols x0)) (prCell cols x0) auto)], .int .i64 0] w fun e w' => e = .returned (.bool true) ∧ Objs w0 w' (os.set k (.grid p 58 cols (printL i j cols x0 ins L))) :=
 l16prints_true hS fun bs W hb hW => (Print_yes pend auto ins r q hT hW (k := 3 + k) (gk hb hk) hc hcm hL hR hin hw hq hwr x0 hx0).mono fun e w' ⟨h1, h2⟩ => ⟨h1, by rw [gset hb] at h2; exact h2⟩
theorem wraps_yes (hT : Tabs w0) (hS : Objs w0 w os) (hk : os[k]? = some (.grid p 58 cols L)) (hc : 0 < cols) (hcm : cols ≤ 1000) (hL : 0 < L.length) (hin : inG row col pend L.length cols = true) (hw : 1 ≤ wOf r) :
  Calls Tryd.prog 28 #[.pointer (some ⟨p, 0, none⟩), .agg #[.int .i64 row, .int .i64 col, .bool pend], .int .i32 r, .bool auto, .bool (wrapB cols col pend auto (wOf r)), .int .i64 0] w fun e w' => e = .returned (.bool true) ∧ Objs w0 w' os :=
 l16wraps_true hS fun bs W hb hW => (prWraps_yes row col pend auto r hT hW (k := 1 + k) (gk hb hk) hc hcm hL hin).mono fun e w' ⟨h1, h2⟩ => ⟨by rw [h1, if_neg (by omega)], h2⟩
theorem marks_bad (hT : Tabs w0) (hS : Objs w0 w os) (hk : os[k]? = some (.grid p 58 cols L)) (hc : 0 < cols) (hcm : cols ≤ 1000) (hL : 0 < L.length) (hin : inG row col pend L.length cols = true) (hw : ¬ wOf r = 0) :
  Calls Tryd.prog 29 #[.pointer (some ⟨p, 0, none⟩), .agg #[.int .i64 row, .int .i64 col, .bool pend], .int .i32 r, .bool false, .int .i64 2] w fun e w' => e = .returned (.bool true) ∧ Objs w0 w' os :=
 l16marks_true hS fun bs W hb hW => Mark_bad row col pend r hT hW (k := 1 + k) (gk hb hk) hc hcm hL hin hw
theorem marks_front (hT : Tabs w0) (hS : Objs w0 w os) (hk : os[k]? = some (.grid p 58 cols L)) (hc : 0 < cols) (hcm : cols ≤ 1000) (hL : 0 < L.length) (hin : inG row 0 false L.length cols = true) (hw : wOf r = 0) :
  Calls Tryd.prog 29 #[.pointer (some ⟨p, 0, none⟩), .agg #[.int .i64 row, .int .i64 0, .bool false], .int .i32 r, .bool false, .int .i64 0] w fun e w' => e = .returned (.bool true) ∧ Objs w0 w' os :=
 l16marks_true hS fun bs W hb hW => Mark_front row r hT hW (k := 1 + k) (gk hb hk) hc hcm hL hin hw
theorem marks_at {i c0 : Nat} {l : Ln} (hT : Tabs w0) (hS : Objs w0 w os) (hk : os[k]? = some (.grid p 58 cols L)) (hc : 0 < cols) (hcm : cols ≤ 1000) (hL : 0 < L.length) (hR : Rect cols L) (hin : inG i col pend L.length cols = true) (hw : wOf r = 0) (hcol : (pend = true ∧ col = (c0 : Int)) ∨ (pend = false ∧ col = (c0 : Int) + 1)) (hl : L[i]? = some l) (hV : RowV l.1) :
  Calls Tryd.prog 29 #[.pointer (some ⟨p, 0, none⟩), .agg #[.int .i64 ↑i, .int .i64 col, .bool pend], .int .i32 r, .bool (mkB l.1 c0 r), .int .i64 0] w fun e w' => e = .returned (.bool true) ∧ Objs w0 w' (os.set k (.grid p 58 cols (rowMod i (mkRow c0 r) L))) :=
 l16marks_true hS fun bs W hb hW => (Mark_at col pend r hT hW (k := 1 + k) (gk hb hk) hc hcm hL hR hin hw hcol hl hV).mono fun e w' ⟨h1, h2⟩ => ⟨h1, by rw [gset hb] at h2; exact h2⟩
end
end Go.Proofs.YtppijfjigcoifaaDoor

namespace Go.Proofs.YtppijfjigcoifaaDoor
open Go.RowKit

structure Act16 where
 what : Int
 n : Int
 r : Int
 q : Pen
 auto : Bool
 ins : Bool
def av16 (a : Act16) : Array Value := #[.int .i64 a.what, .int .i64 a.n, .int .i32 a.r, .int .i64 a.q.fk, .int .u8 a.q.fi, .int .u8 a.q.fr, .int .u8 a.q.fg, .int .u8 a.q.fb, .int .i64 a.q.bk, .int .u8 a.q.bi, .int .u8 a.q.br, .int .u8 a.q.bg, .int .u8 a.q.bb, .int .u8 a.q.fl, .bool a.auto, .bool a.ins]
@[go_sem] theorem av16_size (a : Act16) : (av16 a).size = 16 := by simp [av16]
@[simp high, go_sem high] theorem av16_get0 (a : Act16) : (av16 a)[0]? = some (.int .i64 a.what) := by simp [av16]
@[simp high, go_sem high] theorem av16_get1 (a : Act16) : (av16 a)[1]? = some (.int .i64 a.n) := by simp [av16]
@[simp high, go_sem high] theorem av16_get2 (a : Act16) : (av16 a)[2]? = some (.int .i32 a.r) := by simp [av16]
@[simp high, go_sem high] theorem av16_get14 (a : Act16) : (av16 a)[14]? = some (.bool a.auto) := by simp [av16]
@[simp high, go_sem high] theorem av16_get15 (a : Act16) : (av16 a)[15]? = some (.bool a.ins) := by simp [av16]
theorem av16_pen {w : World} {b o : Nat} {a : Act16} (h : w.rangeAt b o (av16 a).toList) : penAt w b (o + 3) = some a.q := penAt_of fun j v hv => by
 have hj : j < 11 := by have := (List.getElem?_eq_some_iff.1 hv).1; simpa [pv] using this
 have := h (3 + j) v (by rw [← hv, ← List.getElem?_drop]; rw [show ((av16 a).toList.drop 3)[j]? = (((av16 a).toList.drop 3).take 11)[j]? from by rw [List.getElem?_take, if_pos hj]]; rfl)
 rw [show o + 3 + j = o + (3 + j) by omega]; exact this
theorem Blk.act16 {w : World} {g : Nat} {t : TypeId} {a : Act16} (h : Blk w g t (av16 a)) : (∀ i, w.cell? ⟨g, i, none⟩ = (av16 a)[i]?) ∧ (∀ i, w.frozen? ⟨g, i, none⟩ = false) ∧ g < w.heap.size ∧ Proofs.YtppijfjigcoifaaDoor.recAt w g 0 16 = some (av16 a) ∧ Proofs.YtppijfjigcoifaaDoor.penAt w g 3 = some a.q :=
 ⟨h.cell, h.frozen, h.lt, h.recAt 16 (av16_size a), by have := av16_pen h.range; simpa using this⟩
end Go.Proofs.YtppijfjigcoifaaDoor

namespace Go.Proofs.YtppijfjigcoifaaDoor
open Go.RowKit

section
variable {w0 w : World} {rest : List Ob} {p p2 cols : Nat} {L : List Ln} {n r : Int} {q : Pen} {auto ins pend : Bool} {i j : Nat}
end
end Go.Proofs.YtppijfjigcoifaaDoor

namespace Go.Proofs.YtppijfjigcoifaaDoor
open Go.RowKit

theorem printL_keeps {cols i j : Nat} {x0 : Cell} {ins : Bool} {L : List Ln} (hR : Rect cols L) (hV : AllV L) (hc : 0 < cols) (hj : j < cols) (hw12 : x0.width = 1 ∨ x0.width = 2) (hok : x0.ok = true) : (printL i j cols x0 ins L).length = L.length ∧ Rect cols (printL i j cols x0 ins L) ∧ AllV (printL i j cols x0 ins L) := by
 obtain ⟨hxw, hxc⟩ := prCell_width (x := x0) hc hw12
 obtain ⟨hfit, hat, -, -⟩ := prAt_fits (x := prCell cols x0) (j := j) hj hxw hxc
 have hko : (prCell cols x0).ok = true := by
  unfold prCell
  split
  ·rw [ok_blank]; exact ok_penV hok
  ·exact hok
 unfold printL
 exact ⟨rowMod_length _ _ _, hR.rowMod i (fun cs h => prRow_length h hat), hV.rowMod i (fun l hl => (hV l hl).print hko hxw (hR l hl) hfit)⟩
section
variable {w0 w : World} {rest : List Ob} {p p2 cols : Nat} {L : List Ln} {n r : Int} {q : Pen} {auto ins pend : Bool} {i j : Nat}
end
end Go.Proofs.YtppijfjigcoifaaDoor

namespace Go.Proofs.YtppijfjigcoifaaDoor
open Go.RowKit

theorem mkRow_V {cs : List Cell} {c0 : Nat} {r : Int} (h : RowV cs) (hc : c0 < cs.length) : RowV (mkRow c0 r cs) := by
 unfold mkRow
 split
 ·next hb =>
  unfold mkB at hb
  rw [Bool.and_eq_true, decide_eq_true_eq] at hb
  obtain ⟨hb1, hb2, hb3⟩ := bef_facts h hc
  have hm : markOf (cAt cs (befN cs c0)) r = ((markOf (cAt cs (befN cs c0)) r).1, 0) := by rw [← hb.2]
  obtain ⟨k1, k2, k3⟩ := mark_keeps hm
  rw [← mark_put h hb1 hb2 hm]
  refine h.put (mark_holds k3 hm).1 ?_ (by rw [k1]; exact hb3)
  rw [k1]
  rcases ok_width k3 with e | e | e
  ·exact absurd e hb2
  ·exact .inl e
  ·exact .inr e
 ·exact h
theorem rune_of {w : World} {b o : Nat} {c : Cell} (h : cellAt w b o = some c) : w.cell? ⟨b, o, none⟩ = some (.int .i32 c.rune) := by
 have := range_of_cellAt h 0 _ (show (cv c).toList[0]? = some (.int .i32 c.rune) from by simp [cv])
 simpa using this
section
variable {w0 w : World} {rest : List Ob} {p p2 cols : Nat} {L : List Ln} {n r : Int} {q : Pen} {auto ins pend : Bool} {i j : Nat}
end
end Go.Proofs.YtppijfjigcoifaaDoor

namespace Go.Proofs.YtppijfjigcoifaaDoor
open Go.RowKit

section
variable {w0 : World} {p p2 cols : Nat} {L : List Ln} {pend : Bool} {i j : Nat}
theorem print_in {x0 : Cell} {auto : Bool} (hc : 0 < cols) (hi : i < L.length) : inG i (prCol cols (prAt cols j (prCell cols x0)) (prCell cols x0)) (prPend cols (prAt cols j (prCell cols x0)) (prCell cols x0) auto) L.length cols = true :=
 ingrid_iff.2 ⟨by omega, ⟨by omega, by have := prCol_lt (j := prAt cols j (prCell cols x0)) (x := prCell cols x0) hc; omega⟩, fun h => by
  have := prPend_at h
  rw [this]; omega⟩
end
end Go.Proofs.YtppijfjigcoifaaDoor

namespace Go.Proofs.YtppijfjigcoifaaDoor
open Go.RowKit

section
variable {w0 w : World} {os : List Ob} {k p cols : Nat} {L : List Ln}
end
end Go.Proofs.YtppijfjigcoifaaDoor

namespace Go.Proofs.YtppijfjigcoifaaDoor
open Go.RowKit

end Go.Proofs.YtppijfjigcoifaaDoor
