/- Frames put and got, plainly: what is put is got, and what is got is put. -/
import Derived.Test.YtnmhhjgiakijgaaA31
namespace Go.Proofs.Ytnmhhjgiakijgaa
set_option linter.unusedVariables false

/-- four bytes, from their number -/
theorem beTo_num (a b c d : Nat) (ha : a ≤ 255) (hb : b ≤ 255) (hc : c ≤ 255) (hd : d ≤ 255) : beTo (((a * 256 + b) * 256 + c) * 256 + d) 0 = [(a : Int), b, c, d] := by
  simp only [beTo, byAt, List.cons.injEq, and_true]
  refine ⟨?_, ?_, ?_, ?_⟩ <;> omega
/-- bytes that are got as a frame are those that are put of it -/
theorem put_got {l : List Int} (hb : bytesOk l) (h : okB l = true) : frP (gO l : Int) (gK l) (gS l) (numAt l 2 4) (numAt l 6 4) = l := by
  simp only [okB, Bool.and_eq_true, decide_eq_true_eq] at h
  obtain ⟨⟨h1, h2⟩, h3⟩ := h
  have e := chkB_eq h2
  have hx : ∀ j, j < 10 → ∃ n : Nat, gt l j = n ∧ n ≤ 255 := fun j hj => by
    have := bytesOk_gt hb (j := j) (by omega)
    exact ⟨(gt l j).toNat, by omega, by omega⟩
  obtain ⟨n0, g0, l0⟩ := hx 0 (by omega)
  obtain ⟨n1, g1, l1⟩ := hx 1 (by omega)
  obtain ⟨n2, g2, l2⟩ := hx 2 (by omega)
  obtain ⟨n3, g3, l3⟩ := hx 3 (by omega)
  obtain ⟨n4, g4, l4⟩ := hx 4 (by omega)
  obtain ⟨n5, g5, l5⟩ := hx 5 (by omega)
  obtain ⟨n6, g6, l6⟩ := hx 6 (by omega)
  obtain ⟨n7, g7, l7⟩ := hx 7 (by omega)
  obtain ⟨n8, g8, l8⟩ := hx 8 (by omega)
  obtain ⟨n9, g9, l9⟩ := hx 9 (by omega)
  unfold frP
  rw [if_pos h3]
  have e0 : gO l = n0 % 16 := by unfold gO; rw [g0]; rfl
  have e1 : gK l = n0 / 16 := by unfold gK; rw [g0]; rfl
  have e2 : gS l = n1 := by unfold gS; rw [g1]; rfl
  have e3 : numAt l 2 4 = ((n2 * 256 + n3) * 256 + n4) * 256 + n5 := by simp [numAt, g2, g3, g4, g5]
  have e4 : numAt l 6 4 = ((n6 * 256 + n7) * 256 + n8) * 256 + n9 := by simp [numAt, g6, g7, g8, g9]
  have hB : frB (gO l : Int) (gK l) (gS l) (numAt l 2 4) (numAt l 6 4) = l.take 10 := by
    rw [e0, e1, e2, e3, e4]
    unfold frB
    rw [beTo_num _ _ _ _ l2 l3 l4 l5, beTo_num _ _ _ _ l6 l7 l8 l9]
    refine gt_ext (by rw [List.length_take, h1]; rfl) fun j hj => ?_
    have hj10 : j < 10 := hj
    rw [gt_take _ _ _ hj10]
    have : j = 0 ∨ j = 1 ∨ j = 2 ∨ j = 3 ∨ j = 4 ∨ j = 5 ∨ j = 6 ∨ j = 7 ∨ j = 8 ∨ j = 9 := by omega
    rcases this with rfl | rfl | rfl | rfl | rfl | rfl | rfl | rfl | rfl | rfl
    · rw [g0]; show 16 * ((n0 / 16 : Nat) : Int) + ((n0 % 16 : Nat) : Int) = _; omega
    · rw [g1]; rfl
    · rw [g2]; rfl
    · rw [g3]; rfl
    · rw [g4]; rfl
    · rw [g5]; rfl
    · rw [g6]; rfl
    · rw [g7]; rfl
    · rw [g8]; rfl
    · rw [g9]; rfl
  rw [hB]
  exact e
theorem numAt_be (l : List Int) (off q : Nat) (hq : q < 4294967296) (h0 : gt l off = byAt q 3) (h1 : gt l (off + 1) = byAt q 2) (h2 : gt l (off + 2) = byAt q 1) (h3 : gt l (off + 3) = byAt q 0) : numAt l off 4 = q := by
  have e : numAt l off 4 = ((((0 * 256 + (gt l (off + 0)).toNat) * 256 + (gt l (off + 1)).toNat) * 256 + (gt l (off + 2)).toNat) * 256 + (gt l (off + 3)).toNat) := rfl
  rw [e, Nat.add_zero, h0, h1, h2, h3]
  simp only [byAt]
  omega
/-- what is put is got -/
theorem got_put (o : Int) (k s q v : Nat) (hm : mayB o k = true) (hs : s ≤ 255) (hq : q < 4294967296) (hv : v < 4294967296) :
    okB (frP o k s q v) = true ∧ (gO (frP o k s q v) : Int) = o ∧ gK (frP o k s q v) = k ∧ gS (frP o k s q v) = s ∧ numAt (frP o k s q v) 2 4 = q ∧ numAt (frP o k s q v) 6 4 = v := by
  obtain ⟨h1, h2, h3⟩ := mayB_true hm
  have hl := frP_length o k s q v hm
  have hP : frP o k s q v = putS (frB o k s q v) := by unfold frP; rw [if_pos hm]
  have hg : ∀ j, j < 10 → gt (frP o k s q v) j = gt (frB o k s q v) j := fun j hj => by
    rw [hP]; exact gt_append_left _ _ _ (by rw [frB_length]; exact hj)
  have g0 : gt (frP o k s q v) 0 = 16 * (k : Int) + o := (hg 0 (by omega)).trans rfl
  have g1 : gt (frP o k s q v) 1 = (s : Int) := (hg 1 (by omega)).trans rfl
  have eO : (gO (frP o k s q v) : Int) = o := by unfold gO; rw [g0]; omega
  have eK : gK (frP o k s q v) = k := by unfold gK; rw [g0]; omega
  have eS : gS (frP o k s q v) = s := by unfold gS; rw [g1]; rfl
  have eQ : numAt (frP o k s q v) 2 4 = q := numAt_be _ 2 q hq ((hg 2 (by omega)).trans rfl) ((hg 3 (by omega)).trans rfl) ((hg 4 (by omega)).trans rfl) ((hg 5 (by omega)).trans rfl)
  have eV : numAt (frP o k s q v) 6 4 = v := numAt_be _ 6 v hv ((hg 6 (by omega)).trans rfl) ((hg 7 (by omega)).trans rfl) ((hg 8 (by omega)).trans rfl) ((hg 9 (by omega)).trans rfl)
  refine ⟨?_, eO, eK, eS, eQ, eV⟩
  have hc : chkB (frP o k s q v) = true := by
    unfold chkB
    refine sameL_eq ?_
    rw [hP]
    congr 1
  simp only [okB, Bool.and_eq_true, decide_eq_true_eq]
  exact ⟨⟨hl, hc⟩, by rw [eO, eK]; exact hm⟩
theorem errG_ok {l : List Int} (h : okB l = true) : errG l = 0 := by
  simp only [okB, Bool.and_eq_true, decide_eq_true_eq] at h
  unfold errG
  rw [if_pos h.1.1, if_pos h.1.2, if_pos h.2]
theorem errG_bad {l : List Int} (h : okB l = false) : errG l = 4 ∨ errG l = 5 ∧ l.length = 14 := by
  unfold errG
  by_cases h1 : l.length = 14
  · rw [if_pos h1]
    by_cases h2 : chkB l = true
    · rw [if_pos h2]
      by_cases h3 : mayB (gO l : Int) (gK l) = true
      · simp [okB, h1, h2, h3] at h
      · rw [if_neg h3]; exact .inl rfl
    · rw [if_neg h2]; exact .inr ⟨rfl, h1⟩
  · rw [if_neg h1]; exact .inl rfl
end Go.Proofs.Ytnmhhjgiakijgaa
