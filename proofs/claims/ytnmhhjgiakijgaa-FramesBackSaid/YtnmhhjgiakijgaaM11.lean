/- Symbols of a frame read back, and turned within 32 places, plainly. -/
import Derived.Test.YtnmhhjgiakijgaaM10
import Derived.Test.YtnmhhjgiakijgaaA34
namespace Go.Proofs.Ytnmhhjgiakijgaa
set_option linter.unusedVariables false

theorem wholeL_append {xs ys : List Int} (h1 : wholeL xs = true) (h2 : wholeL ys = true) : wholeL (xs ++ ys) = true := by
  unfold wholeL at *
  rw [List.all_append, h1, h2]
  rfl
theorem wholeL_tail (a b : Bool) : wholeL (tailL a b) = true := by cases a <;> cases b <;> decide
theorem syP_eq {o : Int} {k s q v : Nat} {a b : Bool} (h : mayB o k = true) : syP o k s q v a b = ofL (frP o k s q v) ++ tailL a b := by unfold syP; rw [if_pos h]
theorem rdOk_sy {o : Int} {k s q v : Nat} {a b : Bool} (h : mayB o k = true) : rdOk (syP o k s q v a b) = true := by
  simp only [rdOk, Bool.and_eq_true, decide_eq_true_eq]
  refine ⟨syP_length _ _ _ _ _ _ _ h, ?_⟩
  rw [syP_eq h]
  exact wholeL_append (wholeL_of _) (wholeL_tail _ _)
theorem sy_take {o : Int} {k s q v : Nat} {a b : Bool} (h : mayB o k = true) : (syP o k s q v a b).take 112 = ofL (frP o k s q v) := by
  rw [syP_eq h, List.take_append_of_le_length (by rw [ofL_length, frP_length _ _ _ _ _ h]; exact Nat.le_refl _), List.take_of_length_le (by rw [ofL_length, frP_length _ _ _ _ _ h]; exact Nat.le_refl _)]
theorem rdB_sy {o : Int} {k s q v : Nat} {a b : Bool} (h : mayB o k = true) (hs : s ≤ 255) : rdB (syP o k s q v a b) = frP o k s q v := by
  unfold rdB
  rw [sy_take h]
  exact (byV_of _ (frP_ok o k s q v hs)).2
theorem sy_112 {o : Int} {k s q v : Nat} {a b : Bool} (h : mayB o k = true) : gt (syP o k s q v a b) 112 = sy a ∧ gt (syP o k s q v a b) 113 = sy b := by
  have hl : (ofL (frP o k s q v)).length = 112 := by rw [ofL_length, frP_length _ _ _ _ _ h]
  rw [syP_eq h]
  constructor
  · rw [gt_append_right _ _ _ (by omega), hl]; rfl
  · rw [gt_append_right _ _ _ (by omega), hl]; rfl
/-- what is put as symbols is read -/
theorem read_sy {o : Int} {k s q v : Nat} {a b : Bool} (h : mayB o k = true) (hs : s ≤ 255) (hq : q < 4294967296) (hv : v < 4294967296) :
    (rO (syP o k s q v a b) : Int) = o ∧ rK (syP o k s q v a b) = k ∧ rS (syP o k s q v a b) = s ∧ rQ (syP o k s q v a b) = q ∧ rV (syP o k s q v a b) = v ∧ rA (syP o k s q v a b) = a ∧ rC (syP o k s q v a b) = b ∧ rE (syP o k s q v a b) = 0 := by
  obtain ⟨z1, z2, z3, z4, z5, z6, z7, z8⟩ := fullR (rdOk_sy (a := a) (b := b) (s := s) (q := q) (v := v) h)
  obtain ⟨g0, g1, g2, g3, g4, g5⟩ := got_put o k s q v h hs hq hv
  obtain ⟨y1, y2, y3, y4, y5⟩ := fullG g0
  obtain ⟨t1, t2⟩ := sy_112 (a := a) (b := b) (s := s) (q := q) (v := v) h
  rw [rdB_sy h hs] at z1 z2 z3 z4 z5 z8
  refine ⟨by rw [z1, y1, g1], by rw [z2, y2, g2], by rw [z3, y3, g3], by rw [z4, y4, g4], by rw [z5, y5, g5], ?_, ?_, by rw [z8]; exact errG_ok g0⟩
  · rw [z6, t1]; cases a <;> rfl
  · rw [z7, t2]; cases b <;> rfl
/-- frames have the same bytes just if they are the same -/
theorem frP_inj {o o' : Int} {k s q v k' s' q' v' : Nat} (h : mayB o k = true) (h' : mayB o' k' = true) (hs : s ≤ 255) (hq : q < 4294967296) (hv : v < 4294967296) (hs' : s' ≤ 255) (hq' : q' < 4294967296) (hv' : v' < 4294967296)
    (e : frP o k s q v = frP o' k' s' q' v') : o = o' ∧ k = k' ∧ s = s' ∧ q = q' ∧ v = v' := by
  obtain ⟨-, g1, g2, g3, g4, g5⟩ := got_put o k s q v h hs hq hv
  obtain ⟨-, y1, y2, y3, y4, y5⟩ := got_put o' k' s' q' v' h' hs' hq' hv'
  rw [e] at g1 g2 g3 g4 g5
  exact ⟨g1.symm.trans y1, g2.symm.trans y2, g3.symm.trans y3, g4.symm.trans y4, g5.symm.trans y5⟩

/-- the places a + i, i a bit of z -/
def atL (a z : Nat) : Nat → List Int
  | 0 => []
  | i + 1 => atL a z i ++ (if z.testBit i = true then [((a + i : Nat) : Int)] else [])
theorem times_atL (a z : Nat) : ∀ n j, times (atL a z n) j = if a ≤ j ∧ j < a + n ∧ z.testBit (j - a) = true then 1 else 0 := by
  intro n
  induction n with
  | zero => intro j; rw [if_neg (by omega)]; rfl
  | succ n ih =>
    intro j
    show times (atL a z n ++ (if z.testBit n = true then [((a + n : Nat) : Int)] else [])) j = _
    by_cases hb : z.testBit n = true
    · rw [if_pos hb, times_snoc, ih]
      by_cases hj : j = a + n
      · subst hj
        rw [if_neg (by omega), if_pos rfl, if_pos ⟨by omega, by omega, by rw [show a + n - a = n from by omega]; exact hb⟩]
      · rw [if_neg (show ¬ (((a + n : Nat) : Int) = (j : Int)) by omega), Nat.add_zero]
        by_cases hc : a ≤ j ∧ j < a + n ∧ z.testBit (j - a) = true
        · rw [if_pos hc, if_pos ⟨hc.1, by omega, hc.2.2⟩]
        · rw [if_neg hc, if_neg (fun h => hc ⟨h.1, by omega, h.2.2⟩)]
    · rw [if_neg hb, List.append_nil, ih]
      by_cases hc : a ≤ j ∧ j < a + n ∧ z.testBit (j - a) = true
      · rw [if_pos hc, if_pos ⟨hc.1, by omega, hc.2.2⟩]
      · rw [if_neg hc, if_neg (fun h => hc ⟨h.1, by
          have : j ≠ a + n := fun e => hb (by rw [← h.2.2, e, show a + n - a = n from by omega])
          omega, h.2.2⟩)]
theorem atL_length (a z : Nat) : ∀ n, (atL a z n).length ≤ n := by
  intro n
  induction n with
  | zero => exact Nat.le_refl _
  | succ n ih =>
    show (atL a z n ++ (if z.testBit n = true then [((a + n : Nat) : Int)] else [])).length ≤ _
    rw [List.length_append]
    split <;> simp <;> omega
theorem atL_some (a z : Nat) : ∀ n, 0 < (atL a z n).length → ∃ i, i < n ∧ z.testBit i = true := by
  intro n
  induction n with
  | zero => intro h; exact absurd h (Nat.lt_irrefl 0)
  | succ n ih =>
    intro h
    by_cases hb : z.testBit n = true
    · exact ⟨n, by omega, hb⟩
    · have h' : 0 < (atL a z n ++ (if z.testBit n = true then [((a + n : Nat) : Int)] else [])).length := h
      rw [if_neg hb, List.append_nil] at h'
      obtain ⟨i, h1, h2⟩ := ih h'
      exact ⟨i, by omega, h2⟩
theorem wholeB_oddly (t : Nat) (x : Int) : wholeB (oddly t x) = wholeB x := by
  unfold oddly
  split
  · exact wholeB_flip x
  · rfl
theorem wholeL_turnL {xs at_ : List Int} (h : wholeL xs = true) : wholeL (turnL xs at_) = true := by
  rw [wholeL_iff] at h ⊢
  intro j hj
  rw [turnL_length] at hj
  rw [turnL_gt' xs at_ j hj, wholeB_oddly]
  exact h j hj

/-- a frame's symbols turned within 32 places of its body -/
theorem turned {o : Int} {k s q v : Nat} {a b : Bool} (h : mayB o k = true) (hs : s ≤ 255) (p z : Nat) (hp : p ≤ 80) :
    rdOk (turnL (syP o k s q v a b) (atL p z 32)) = true ∧ rA (turnL (syP o k s q v a b) (atL p z 32)) = a ∧ rC (turnL (syP o k s q v a b) (atL p z 32)) = b ∧
      (0 < (atL p z 32).length → okB (rdB (turnL (syP o k s q v a b) (atL p z 32))) = false ∧ rE (turnL (syP o k s q v a b) (atL p z 32)) = 5) := by
  obtain ⟨S, hS⟩ : ∃ S, S = syP o k s q v a b := ⟨_, rfl⟩
  obtain ⟨X, hX⟩ : ∃ X, X = turnL S (atL p z 32) := ⟨_, rfl⟩
  rw [← hS, ← hX]
  have hSl : S.length = 114 := by rw [hS]; exact syP_length _ _ _ _ _ _ _ h
  have hXl : X.length = 114 := by rw [hX, turnL_length, hSl]
  have hSok := rdOk_sy (s := s) (q := q) (v := v) (a := a) (b := b) h
  rw [← hS] at hSok
  have hSw : wholeL S = true := by simp only [rdOk, Bool.and_eq_true] at hSok; exact hSok.2
  have hXw : wholeL X = true := by rw [hX]; exact wholeL_turnL hSw
  have hXok : rdOk X = true := by simp only [rdOk, Bool.and_eq_true, decide_eq_true_eq]; exact ⟨hXl, hXw⟩
  have hg : ∀ j, j < 114 → gt X j = oddly (if p ≤ j ∧ j < p + 32 ∧ z.testBit (j - p) = true then 1 else 0) (gt S j) := fun j hj => by
    rw [hX, turnL_gt' S _ j (by omega), times_atL]
  obtain ⟨t1, t2⟩ := sy_112 (s := s) (q := q) (v := v) (a := a) (b := b) h
  rw [← hS] at t1 t2
  obtain ⟨z1, z2, z3, z4, z5, z6, z7, z8⟩ := fullR hXok
  refine ⟨hXok, ?_, ?_, fun hat => ?_⟩
  · rw [z6, hg 112 (by omega), if_neg (by omega), t1]; cases a <;> rfl
  · rw [z7, hg 113 (by omega), if_neg (by omega), t2]; cases b <;> rfl
  · obtain ⟨i, hi, hbit⟩ := atL_some p z 32 hat
    obtain ⟨-, hb1, hb2, hb3⟩ := rdB_facts hXok
    have hPok := frP_ok o k s q v hs
    have hPl := frP_length o k s q v h
    have hP : frP o k s q v = putS (frB o k s q v) := by unfold frP; rw [if_pos h]
    -- the bits
    have hX2 : ∀ j, j < 112 → gt X j = if rawBit (rdB X) j = true then 2 else 1 := fun j hj => by
      rw [← of_bit (rdB X) j (by rw [hb2]; omega), hb1, ofL_bytesN _ (wholeL_take hXw 112) 14 (by rw [List.length_take, hXl]; decide), gt_take _ _ _ (by omega), gt_take _ _ _ (by omega)]
    have hS2 : ∀ j, j < 112 → gt S j = if rawBit (frP o k s q v) j = true then 2 else 1 := fun j hj => by
      rw [← of_bit _ j (by rw [hPl]; omega), ← sy_take (a := a) (b := b) h, ← hS, gt_take _ _ _ (by omega)]
    have hchk : chkB (rdB X) = false := by
      cases hc : chkB (rdB X) with
      | false => rfl
      | true =>
        have e1 := chkB_eq hc
        have hl10 : ((rdB X).take 10).length = 10 := by rw [List.length_take, hb2]; rfl
        have e2 := sums_apart (frB o k s q v) ((rdB X).take 10) (frB_ok o k s q v h hs) (bytesOk_take hb3 10) (by rw [hl10, frB_length]) p (by rw [frB_length]; omega) (fun j hj hout => by
          rw [frB_length] at hj
          rw [← hP, e1]
          have h1 := hX2 j (by omega)
          have h2 := hS2 j (by omega)
          rw [hg j (by omega), if_neg (by omega)] at h1
          have h3 : oddly 0 (gt S j) = gt S j := rfl
          rw [h3, h2] at h1
          revert h1
          cases rawBit (frP o k s q v) j <;> cases rawBit (rdB X) j <;> simp)
        rw [← hP, e1] at e2
        have h1 := hX2 (p + i) (by omega)
        have h2 := hS2 (p + i) (by omega)
        rw [hg (p + i) (by omega), if_pos ⟨by omega, by omega, by rw [show p + i - p = i from by omega]; exact hbit⟩, ← e2, h2] at h1
        exfalso
        revert h1
        cases rawBit (frP o k s q v) (p + i) <;> decide
    refine ⟨by simp [okB, hchk], ?_⟩
    rw [z8]
    unfold errG
    rw [if_pos hb2, hchk]
    rfl
end Go.Proofs.Ytnmhhjgiakijgaa
