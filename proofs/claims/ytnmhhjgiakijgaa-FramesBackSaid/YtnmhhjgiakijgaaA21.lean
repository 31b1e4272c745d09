/- The reference's sum: the chapter's long division. -/
import Derived.Test.YtnmhhjgiakijgaaA17
namespace Go.Proofs.Ytnmhhjgiakijgaa
open Go.RowKit
set_option linter.unusedVariables false

/-- truths as values -/
def FB (f : Nat → Bool) (n : Nat) : List Value := (List.range n).map fun j => .bool (f j)
theorem FB_length (f : Nat → Bool) (n : Nat) : (FB f n).length = n := by simp [FB]
theorem FB_get (f : Nat → Bool) (n j : Nat) (h : j < n) : (FB f n)[j]? = some (.bool (f j)) := by simp [FB, h]
theorem FB_snoc (f : Nat → Bool) (n : Nat) : FB f n ++ [.bool (f n)] = FB f (n + 1) := by simp [FB, List.range_succ]
theorem FB_congr {f g : Nat → Bool} {n : Nat} (h : ∀ j, j < n → f j = g j) : FB f n = FB g n := by
  unfold FB
  refine List.map_congr_left fun j hj => ?_
  rw [h j (List.mem_range.1 hj)]
theorem FB_set (f g : Nat → Bool) (n j : Nat) (b : Bool) (hj : j < n) (hg : ∀ q, q < n → g q = if q = j then b else f q) : (FB f n).set j (.bool b) = FB g n := by
  refine List.ext_getElem? fun q => ?_
  rw [List.getElem?_set]
  by_cases hq : q < n
  · rw [FB_get g n q hq, hg q hq]
    by_cases e : j = q
    · subst e
      rw [if_pos rfl, if_pos (by rw [FB_length]; exact hq), if_pos rfl]
    · rw [if_neg e, FB_get f n q hq, if_neg (Ne.symm e)]
  · rw [List.getElem?_eq_none (by rw [FB_length]; omega), List.getElem?_eq_none (by rw [FB_length]; omega)]
    split <;> simp_all
theorem FB_one (f : Nat → Bool) (n : Nat) : ∀ u ∈ FB f n, u.oneCell' = true := by
  intro u hu
  simp only [FB, List.mem_map] at hu
  obtain ⟨q, _, rfl⟩ := hu
  rfl

theorem Mn.cellV {w : World} {B : Nat} {e : TypeId} {n c g : Nat} {cs : List Value} (h : Mn w B e 1 (.slice (some ⟨g, 0, none⟩) n c) n cs) (j : Nat) (u : Value) (hj : cs[j]? = some u) :
    w.cell? ⟨g, j, none⟩ = some u ∧ w.frozen? ⟨g, j, none⟩ = false := by
  have hl : cs.length = n := by have := h.1; rwa [Nat.mul_one] at this
  have hjn : j < n := by rw [← hl]; exact (List.getElem?_eq_some_iff.1 hj).1
  constructor
  · obtain ⟨b, o, e1, hc⟩ := h.reads.2 (by omega)
    injection e1 with e1
    injection e1 with e1 e2
    subst e1
    subst e2
    have := hc j u hj
    rwa [Nat.zero_add] at this
  · rcases h.2 with ⟨hv, _⟩ | ⟨g', cap, cur, hv, hb, hh, _⟩
    · cases hv
    · injection hv with h1 h2 h3
      injection h1 with h1
      injection h1 with h1 h4
      subst h1
      simp [World.frozen?, hh]
theorem Mn.setV {w : World} {B : Nat} {e : TypeId} {n c g : Nat} {cs ds : List Value} (h : Mn w B e 1 (.slice (some ⟨g, 0, none⟩) n c) n cs) (j : Nat) (v : Value) (hd : cs.set j v = ds) :
    Mn (w.setCell ⟨g, j, none⟩ v) B e 1 (.slice (some ⟨g, 0, none⟩) n c) n ds := by
  subst hd
  refine ⟨by rw [List.length_set]; exact h.1, ?_⟩
  rcases h.2 with ⟨hv, _⟩ | ⟨g', cap, cur, hv, hb, hh, hc, hm, hs, ht⟩
  · cases hv
  · injection hv with h1 h2 h3
    injection h1 with h1
    injection h1 with h1 h4
    subst h1
    refine .inr ⟨g, cap, cur.setIfInBounds j v, by rw [h3], hb, ?_, hc, hm, by simpa using hs, ?_⟩
    · simp [World.setCell, Array.getElem?_modify, hh]
    · rw [Nat.mul_one] at ht ⊢
      simp only [Array.toList_setIfInBounds]
      rw [List.take_set, ht]

def tapsN : List Nat := [26, 23, 22, 16, 12, 11, 10, 8, 7, 5, 4, 2, 1, 0]
def taps : List Int := [26, 23, 22, 16, 12, 11, 10, 8, 7, 5, 4, 2, 1, 0]
theorem taps_at (k : Nat) (hk : k < 14) : ∃ t : Nat, t ≤ 26 ∧ gt taps k = t ∧ tapsN.take (k + 1) = tapsN.take k ++ [t] ∧ t ∉ tapsN.take k := by
  have : ∀ k : Fin 14, ∃ t : Fin 27, gt taps k = ((t : Nat) : Int) ∧ tapsN.take (k + 1) = tapsN.take k ++ [(t : Nat)] ∧ (t : Nat) ∉ tapsN.take k := by decide
  obtain ⟨t, h1, h2, h3⟩ := this ⟨k, hk⟩
  exact ⟨t, by omega, h1, h2, h3⟩
theorem poly_taps (t : Nat) (ht : t < 32) : poly32.testBit t = tapsN.contains t := by
  have : ∀ t : Fin 32, poly32.testBit t = tapsN.contains (t : Nat) := by decide
  exact this ⟨t, ht⟩
theorem tapsN_le (t : Nat) (h : t ∈ tapsN) : t ≤ 26 := by
  have : ∀ t ∈ tapsN, t ≤ 26 := by decide
  exact this t h
/-- the list behind k of the taps at place i -/
def tapAt (bs : List Int) (i k j : Nat) : Bool := (if j = i then false else divAt bs i j) ^^ (tapsN.take k).any fun t => decide (j + t = i + 32)
theorem tapAt_step (bs : List Int) (i k t : Nat) (ht : t ≤ 26) (h : tapsN.take (k + 1) = tapsN.take k ++ [t]) (hn : t ∉ tapsN.take k) (j : Nat) :
    tapAt bs i (k + 1) j = if j = i + 32 - t then !tapAt bs i k (i + 32 - t) else tapAt bs i k j := by
  unfold tapAt
  rw [h, List.any_append]
  by_cases hj : j = i + 32 - t
  · subst hj
    rw [if_pos rfl]
    have h1 : ([t].any fun t_1 => decide (i + 32 - t + t_1 = i + 32)) = true := by simp; omega
    have h2 : ((tapsN.take k).any fun t_1 => decide (i + 32 - t + t_1 = i + 32)) = false := by
      rw [List.any_eq_false]
      intro q hq e
      have : q = t := by have := of_decide_eq_true e; omega
      subst this
      exact hn hq
    rw [h1, h2]
    simp
  · rw [if_neg hj]
    have h1 : ([t].any fun t_1 => decide (j + t_1 = i + 32)) = false := by simp; omega
    rw [h1, Bool.or_false]
theorem tapAt_done (bs : List Int) (i j : Nat) (hd : divAt bs i i = true) : tapAt bs i 14 j = divAt bs (i + 1) j := by
  show _ = (if divAt bs i i = true then (if j = i then false else divAt bs i j ^^ (decide (i + 1 ≤ j ∧ j ≤ i + 32) && poly32.testBit (i + 32 - j))) else divAt bs i j)
  rw [if_pos hd]
  unfold tapAt
  rw [show tapsN.take 14 = tapsN from rfl]
  have hany : (tapsN.any fun t => decide (j + t = i + 32)) = (decide (i + 1 ≤ j ∧ j ≤ i + 32) && poly32.testBit (i + 32 - j)) := by
    rw [Bool.eq_iff_iff, List.any_eq_true, Bool.and_eq_true, decide_eq_true_eq]
    constructor
    · rintro ⟨t, ht, e⟩
      have e := of_decide_eq_true e
      have := tapsN_le t ht
      refine ⟨by omega, ?_⟩
      rw [poly_taps _ (by omega), show i + 32 - j = t from by omega]
      simpa using ht
    · rintro ⟨h1, h2⟩
      rw [poly_taps _ (by omega)] at h2
      exact ⟨i + 32 - j, by simpa using h2, decide_eq_true (by omega)⟩
  rw [hany]
  by_cases hj : j = i
  · subst hj
    rw [if_pos rfl, if_pos rfl, decide_eq_false (by omega)]
    rfl
  · rw [if_neg hj, if_neg hj]
/-- the first p bits of the sum as a number -/
theorem top_step (s p : Nat) (hp : p < 32) : s / 2 ^ (31 - p) = 2 * (s / 2 ^ (32 - p)) + (if s.testBit (31 - p) = true then 1 else 0) := by
  have h1 : s / 2 ^ (32 - p) = s / 2 ^ (31 - p) / 2 := by rw [show 32 - p = (31 - p) + 1 from by omega, Nat.pow_succ, Nat.div_div_eq_div_mul]
  have h2 : s.testBit (31 - p) = decide (s / 2 ^ (31 - p) % 2 = 1) := Nat.testBit_eq_decide_div_mod_eq
  rw [h1, h2]
  by_cases h : s / 2 ^ (31 - p) % 2 = 1
  · rw [if_pos (decide_eq_true h)]; omega
  · rw [if_neg (by simp [h])]; omega
end Go.Proofs.Ytnmhhjgiakijgaa
