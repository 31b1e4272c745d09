/- Catches, plainly: when a run is high, and what goes out then; cut runs; the chapter's examples. -/
import Derived.Test.YtnmhhjgiakijgaaM12
namespace Go.Proofs.Ytnmhhjgiakijgaa
set_option linter.unusedVariables false

theorem atN_in {xs : List Int} {j : Nat} (h : j < xs.length) : atN xs j = (gt xs j).toNat := by unfold atN atS; rw [if_pos h]
theorem knF_some {xs : List Int} (hb : bytesOk xs) {j : Nat} (h : j < xs.length) (hk : knF xs j ≠ 0) : gt xs j = (knF xs j : Int) ∧ wholeB (gt xs j) = true := by
  have h1 := bytesOk_gt hb h
  have h2 : knF xs j = knw (gt xs j).toNat := by unfold knF; rw [atN_in h]
  rw [h2] at hk ⊢
  unfold knw at hk ⊢
  by_cases hc : (gt xs j).toNat = 1 ∨ (gt xs j).toNat = 2
  · rw [if_pos hc]
    refine ⟨by omega, ?_⟩
    rcases (by omega : gt xs j = 1 ∨ gt xs j = 2) with e | e <;> rw [e] <;> rfl
  · rw [if_neg hc] at hk; exact absurd rfl hk
theorem knF_whole {xs : List Int} {j : Nat} (h : j < xs.length) (hw : wholeB (gt xs j) = true) : (knF xs j : Int) = gt xs j := by
  unfold knF knw
  rw [atN_in h]
  rcases wholeB_cases hw with e | e <;> rw [e] <;> rfl
theorem knF_ne {xs : List Int} {j : Nat} (h : j < xs.length) (hw : wholeB (gt xs j) = true) : knF xs j ≠ 0 := by
  have := knF_whole h hw
  rcases wholeB_cases hw with e | e <;> omega

section
variable {o : Int} {xs ys : List Int}
theorem hiL_eq (hx : xs.length = 114) (hy : ys.length = 114) : hiL o xs ys = hiF o (knF xs) (knF ys) := by
  unfold hiL
  rw [hx, hy]
  exact hiN (by omega)
theorem bd_take (hx : xs.length = 114) (h : ∀ j, j < 112 → (bdF (knF xs) (knF ys) j : Int) = gt xs j) : bdL (knF xs) (knF ys) 112 = xs.take 112 := by
  refine gt_ext (by rw [bdL_length, List.length_take, hx]; rfl) fun j hj => ?_
  rw [bdL_length] at hj
  rw [bdL_gt _ _ _ _ hj, gt_take _ _ _ hj]
  exact h j hj
/-- a run is high just if near and far were both the symbols of one frame of that owner, with a good tail -/
theorem high_iff (hx : xs.length = 114) (hy : ys.length = 114) (bx : bytesOk xs) (hby : bytesOk ys) :
    hiL o xs ys = (sameL xs ys && (rE xs == 0) && (rA xs && !rC xs) && ((rO xs : Int) == o)) := by
  rw [hiL_eq hx hy, Bool.eq_iff_iff]
  simp only [Bool.and_eq_true, beq_iff_eq]
  constructor
  · intro h
    obtain ⟨h1, h2, h3, h4, -⟩ := hiF_true h
    have hxe : ∀ j, j < 114 → gt xs j = (knF xs j : Int) ∧ wholeB (gt xs j) = true := fun j hj => knF_some bx (by omega) (h1 j hj).2
    have hye : ∀ j, j < 114 → gt ys j = (knF ys j : Int) := fun j hj => (knF_some hby (by omega) (by rw [← (h1 j hj).1]; exact (h1 j hj).2)).1
    have hsame : xs = ys := gt_ext (by omega) fun j hj => by rw [(hxe j (by omega)).1, hye j (by omega), (h1 j (by omega)).1]
    have hok : rdOk xs = true := by
      simp only [rdOk, Bool.and_eq_true, decide_eq_true_eq]
      exact ⟨hx, (wholeL_iff xs).2 fun j hj => (hxe j (by omega)).2⟩
    have hbt : bdL (knF xs) (knF ys) 112 = xs.take 112 := bd_take hx fun j hj => by
      unfold bdF
      rw [if_neg (h1 j (by omega)).2, (hxe j (by omega)).1]
    rw [hbt] at h2
    simp only [isB, Bool.and_eq_true, decide_eq_true_eq] at h2
    obtain ⟨z1, z2, z3, z4, z5, z6, z7, z8⟩ := fullR hok
    refine ⟨⟨⟨sameL_eq hsame, by rw [z8]; exact h2.1⟩, ?_, ?_⟩, by rw [z1]; exact h2.2⟩
    · rw [z6, (hxe 112 (by omega)).1, h3]; rfl
    · rw [z7, (hxe 113 (by omega)).1, h4]; rfl
  · rintro ⟨⟨⟨h1, h2⟩, h3, h4⟩, h5⟩
    have hsame : xs = ys := of_decide_eq_true h1
    subst hsame
    have hok : rdOk xs = true := by
      cases h : rdOk xs with
      | true => rfl
      | false =>
        have := (zeroR h).2.2.2.2.2.2.2
        omega
    obtain ⟨z1, z2, z3, z4, z5, z6, z7, z8⟩ := fullR hok
    simp only [rdOk, Bool.and_eq_true, decide_eq_true_eq] at hok
    have hw := (wholeL_iff xs).1 hok.2
    have hk : ∀ j, j < 114 → (knF xs j : Int) = gt xs j := fun j hj => knF_whole (by omega) (hw j (by omega))
    have hk0 : ∀ j, j < 114 → knF xs j ≠ 0 := fun j hj => knF_ne (by omega) (hw j (by omega))
    have hbt : bdL (knF xs) (knF xs) 112 = xs.take 112 := bd_take hx fun j hj => by
      unfold bdF
      rw [if_neg (hk0 j (by omega)), hk j (by omega)]
    rw [z6] at h3
    have h113 : gt xs 113 = 1 := by
      rw [z7] at h4
      rcases wholeB_cases (hw 113 (by omega)) with e | e
      · exact e
      · rw [e] at h4; cases h4
    have h112 : gt xs 112 = 2 := by simpa using h3
    refine hiF_of (fun j hj => ⟨rfl, hk0 j (by omega)⟩) ?_ ?_ ?_ ?_
    · rw [hbt]
      simp only [isB, Bool.and_eq_true, decide_eq_true_eq]
      rw [z8] at h2
      rw [z1] at h5
      exact ⟨h2, h5⟩
    · have := hk 112 (by omega); omega
    · have := hk 113 (by omega); omega
    · have := hk 113 (by omega); omega
/-- then what goes out is what came -/
theorem high_outs (hx : xs.length = 114) (hy : ys.length = 114) (bx : bytesOk xs) (h : hiL o xs ys = true) : outsL o xs ys = xs := by
  rw [hiL_eq hx hy] at h
  obtain ⟨h1, h2, h3, h4, h5⟩ := hiF_true h
  have hxe : ∀ j, j < 114 → gt xs j = (knF xs j : Int) := fun j hj => (knF_some bx (by omega) (h1 j hj).2).1
  refine gt_ext (by rw [outsL_length]; omega) fun j hj => ?_
  rw [outsL_length] at hj
  rw [outsL_gt _ _ _ _ hj, hxe j (by omega)]
  unfold outF
  rw [h5, if_neg (by simp)]
  by_cases hl : j < 112
  · rw [if_pos hl]
    unfold bdF
    rw [if_neg (h1 j (by omega)).2]
  · rw [if_neg hl]
    rcases (by omega : j = 112 ∨ j = 113) with rfl | rfl
    · have hw : whF o (knF xs) (knF ys) = true := by
        simp only [hiF, Bool.and_eq_true] at h
        exact h.1.1
      rw [if_pos rfl, hw, h3]; rfl
    · rw [if_neg (by omega), if_pos rfl, h, h4]; rfl
theorem high_body (hx : xs.length = 114) (hy : ys.length = 114) (bx : bytesOk xs) (h : hiL o xs ys = true) : byV (bdRun o xs ys) = rdB xs ∧ rdOk xs = true := by
  have h' := h
  rw [hiL_eq hx hy] at h'
  obtain ⟨h1, h2, h3, h4, h5⟩ := hiF_true h'
  have hxe : ∀ j, j < 114 → gt xs j = (knF xs j : Int) ∧ wholeB (gt xs j) = true := fun j hj => knF_some bx (by omega) (h1 j hj).2
  have hi := stN_inv o (atN xs) (atN ys) (max xs.length ys.length)
  have hb : bdRun o xs ys = bdL (knF xs) (knF ys) (min (max xs.length ys.length) 112) := hi.bd (h5 _)
  have hbt : bdL (knF xs) (knF ys) 112 = xs.take 112 := bd_take hx fun j hj => by
    unfold bdF
    rw [if_neg (h1 j (by omega)).2, (hxe j (by omega)).1]
  rw [hb, show min (max xs.length ys.length) 112 = 112 by omega, hbt]
  refine ⟨rfl, ?_⟩
  simp only [rdOk, Bool.and_eq_true, decide_eq_true_eq]
  exact ⟨hx, (wholeL_iff xs).2 fun j hj => (hxe j (by omega)).2⟩
/-- what goes out reads as a frame with a good tail just if it is high -/
theorem good_outs (hx : xs.length = 114) (hy : ys.length = 114) (bx : bytesOk xs) (hby : bytesOk ys) :
    ((rE (outsL o xs ys) == 0) && (rA (outsL o xs ys) && !rC (outsL o xs ys))) = hiL o xs ys := by
  cases h : hiL o xs ys with
  | true =>
    rw [high_outs hx hy bx h]
    rw [high_iff hx hy bx hby] at h
    simp only [Bool.and_eq_true] at h ⊢
    exact ⟨h.1.1.2, h.1.2⟩
  | false =>
    rw [hiL_eq hx hy] at h
    rw [Bool.eq_false_iff]
    intro hg
    simp only [Bool.and_eq_true, beq_iff_eq] at hg
    obtain ⟨hg1, hg2, hg3⟩ := hg
    have hok : rdOk (outsL o xs ys) = true := by
      cases h : rdOk (outsL o xs ys) with
      | true => rfl
      | false =>
        have := (zeroR h).2.2.2.2.2.2.2
        omega
    obtain ⟨z1, z2, z3, z4, z5, z6, z7, z8⟩ := fullR hok
    simp only [rdOk, Bool.and_eq_true, decide_eq_true_eq] at hok
    have hw := (wholeL_iff _).1 hok.2
    have h13 := hw 113 (by omega)
    rw [z7, outsL_gt _ _ _ _ (by omega)] at hg3
    rw [outsL_gt _ _ _ _ (by omega)] at h13
    unfold outF at hg3 h13
    cases hc : cuF (knF xs) (knF ys) (113 + 1) with
    | true => rw [if_pos hc] at h13; cases h13
    | false =>
      rw [if_neg (by rw [hc]; simp), if_neg (by omega), if_neg (by omega), if_pos rfl, h] at hg3
      cases hg3
theorem outs_bytes (hx : bytesOk xs) (hby : bytesOk ys) : bytesOk (outsL o xs ys) := by
  intro z hz
  simp only [outsL, List.mem_map] at hz
  obtain ⟨j, -, rfl⟩ := hz
  have hk : ∀ zs : List Int, knF zs j ≤ 2 := fun zs => knw_le _
  have h1 := hk xs
  have h2 := hk ys
  have hs : ∀ b : Bool, 0 ≤ sy b ∧ sy b ≤ 255 := fun b => by cases b <;> decide
  unfold outF
  split
  · omega
  · split
    · unfold bdF; split <;> omega
    · split
      · exact hs _
      · split
        · exact hs _
        · omega
end
/-- nothing near, a frame's symbols far -/
theorem far_only {o : Int} {ys : List Int} (hy : ys.length = 114) (hw : ∀ j, j < 112 → wholeB (gt ys j) = true) :
    hiL o [] ys = false ∧ (outsL o [] ys).take 112 = ys.take 112 ∧ gt (outsL o [] ys) 112 = 1 ∧ gt (outsL o [] ys) 113 = 2 := by
  have hx0 : ∀ j, knF [] j = 0 := fun j => rfl
  have hbd : ∀ j, bdF (knF []) (knF ys) j = knF ys j := fun j => by unfold bdF; rw [if_pos (hx0 j)]
  have hcu : ∀ n, cuF (knF []) (knF ys) n = false := fun n => (cuF_iff _ _ n).2 fun j _ h112 => by
    rw [hbd]; exact knF_ne (by omega) (hw j h112)
  have hhi : hiF o (knF []) (knF ys) = false := by
    cases h : hiF o (knF []) (knF ys) with
    | false => rfl
    | true => exact absurd (hx0 0) ((hiF_true h).1 0 (by omega)).2
  have hwh : whF o (knF []) (knF ys) = false := by
    unfold whF
    have : ((knF [] 112 : Int) == 2) = false := by rw [hx0]; rfl
    rw [this]
    simp
  have hl : max ([] : List Int).length ys.length = 114 := by simp [hy]
  refine ⟨?_, ?_, ?_, ?_⟩
  · unfold hiL
    rw [hl]
    exact (hiN (by omega)).trans hhi
  · refine gt_ext (by rw [List.length_take, List.length_take, outsL_length, hl, hy]) fun j hj => ?_
    rw [List.length_take, outsL_length, hl] at hj
    rw [gt_take _ _ _ (by omega), gt_take _ _ _ (by omega), outsL_gt _ _ _ _ (by omega)]
    unfold outF
    rw [hcu, if_neg (by simp), if_pos (by omega), hbd]
    exact knF_whole (by omega) (hw j (by omega))
  · rw [outsL_gt _ _ _ _ (by omega)]
    unfold outF
    rw [hcu, if_neg (by simp), if_neg (by omega), if_pos rfl, hwh]
    rfl
  · rw [outsL_gt _ _ _ _ (by omega)]
    unfold outF
    rw [hcu, if_neg (by simp), if_neg (by omega), if_neg (by omega), if_pos rfl, hhi]
    rfl
/-- a frame's good symbols, near and far -/
theorem both_good {o : Int} {k s q v : Nat} (h : mayB o k = true) (hs : s ≤ 255) (hq : q < 4294967296) (hv : v < 4294967296) :
    hiL o (syP o k s q v true false) (syP o k s q v true false) = true := by
  have hl := syP_length o k s q v true false h
  have hb : bytesOk (syP o k s q v true false) := by
    rw [syP_eq h]
    exact bytesOk_append (ofL_ok _) (sy_ok _ _)
  obtain ⟨z1, z2, z3, z4, z5, z6, z7, z8⟩ := read_sy (a := true) (b := false) h hs hq hv
  rw [high_iff hl hl hb hb, z6, z7, z8, z1, sameL_self]
  simp
/-- where both inputs are none at one place of the body, and one at another -/
theorem cut_runs {o : Int} {S xs ys : List Int} {one both : Nat} (hS : S.length = 114) (hw : ∀ j, j < 114 → wholeB (gt S j) = true) (h1 : one < 112) (h2 : both < 112)
    (hx : xs.length = 114) (hy : ys.length = 114) (gx : ∀ j, j < 114 → gt xs j = if j = both then 7 else if j = one then 0 else gt S j) (gy : ∀ j, j < 114 → gt ys j = if j = both then 0 else gt S j) :
    (∀ i, i < both → outF o (knF xs) (knF ys) i = gt S i) ∧ (∀ i, both ≤ i → outF o (knF xs) (knF ys) i = 0) ∧ unF (knF xs) (knF ys) 114 = ((min one both : Nat) : Int) ∧ hiF o (knF xs) (knF ys) = false := by
  have kx : ∀ j, j < 114 → j ≠ both → j ≠ one → (knF xs j : Int) = gt S j ∧ knF xs j ≠ 0 := fun j hj a b => by
    have e : gt xs j = gt S j := by rw [gx j hj, if_neg a, if_neg b]
    rw [← e]
    exact ⟨knF_whole (by omega) (by rw [e]; exact hw j hj), knF_ne (by omega) (by rw [e]; exact hw j hj)⟩
  have ky : ∀ j, j < 114 → j ≠ both → (knF ys j : Int) = gt S j ∧ knF ys j ≠ 0 := fun j hj a => by
    have e : gt ys j = gt S j := by rw [gy j hj, if_neg a]
    rw [← e]
    exact ⟨knF_whole (by omega) (by rw [e]; exact hw j hj), knF_ne (by omega) (by rw [e]; exact hw j hj)⟩
  have bx0 : knF xs both = 0 := by
    unfold knF knw
    rw [atN_in (by omega), gx both (by omega), if_pos rfl]; rfl
  have by0 : knF ys both = 0 := by
    unfold knF knw
    rw [atN_in (by omega), gy both (by omega), if_pos rfl]; rfl
  have ox0 : knF xs one = 0 := by
    by_cases h : one = both
    · rw [h]; exact bx0
    · unfold knF knw
      rw [atN_in (by omega), gx one (by omega), if_neg h, if_pos rfl]; rfl
  have hbd : ∀ j, j < 114 → j ≠ both → (bdF (knF xs) (knF ys) j : Int) = gt S j := fun j hj a => by
    unfold bdF
    by_cases h : knF xs j = 0
    · rw [if_pos h]; exact (ky j hj a).1
    · rw [if_neg h]
      by_cases h3 : j = one
      · rw [h3, ox0] at h; exact absurd rfl h
      · exact (kx j hj a h3).1
  have hbd0 : bdF (knF xs) (knF ys) both = 0 := by unfold bdF; rw [if_pos bx0]; exact by0
  have hbdn : ∀ j, j < 114 → j ≠ both → bdF (knF xs) (knF ys) j ≠ 0 := fun j hj a e => by
    have := hbd j hj a
    rcases wholeB_cases (hw j hj) with e2 | e2 <;> omega
  refine ⟨fun i hi => ?_, fun i hi => ?_, ?_, ?_⟩
  · unfold outF
    have hc : cuF (knF xs) (knF ys) (i + 1) = false := (cuF_iff _ _ _).2 fun j hj h112 => hbdn j (by omega) (by omega)
    rw [hc, if_neg (by simp), if_pos (by omega)]
    exact hbd i (by omega) (by omega)
  · unfold outF
    have hc : cuF (knF xs) (knF ys) (i + 1) = true := by
      cases h : cuF (knF xs) (knF ys) (i + 1) with
      | true => rfl
      | false => exact absurd hbd0 ((cuF_iff _ _ _).1 h both (by omega) h2)
    rw [if_pos hc]
  · have hpre : ∀ n, n ≤ min one both → unF (knF xs) (knF ys) n = -1 := fun n hn => (unF_iff _ _ n).2 fun j hj => by
      have a := kx j (by omega) (by omega) (by omega)
      have b := ky j (by omega) (by omega)
      exact ⟨by omega, a.2⟩
    have hat : ∀ n, min one both < n → n ≤ 114 → unF (knF xs) (knF ys) n = ((min one both : Nat) : Int) := by
      intro n
      induction n with
      | zero => intro h; omega
      | succ n ih =>
        intro h h'
        show (if _ then (n : Int) else unF (knF xs) (knF ys) n) = _
        by_cases hn : n = min one both
        · have hx0 : knF xs n = 0 := by
            rcases (by omega : n = one ∨ n = both) with e | e
            · rw [e]; exact ox0
            · rw [e]; exact bx0
          rw [if_pos (by rw [hpre n (by omega), hx0]; simp), hn]
        · have := ih (by omega) (by omega)
          rw [if_neg (by rw [this]; simp)]
          exact this
    exact hat 114 (by omega) (by omega)
  · cases h : hiF o (knF xs) (knF ys) with
    | false => rfl
    | true => exact absurd bx0 ((hiF_true h).1 both (by omega)).2
end Go.Proofs.Ytnmhhjgiakijgaa
