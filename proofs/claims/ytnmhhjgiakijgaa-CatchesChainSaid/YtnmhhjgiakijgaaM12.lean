/- Catches, plainly: the state behind n pairs, and what goes out at each. -/
import Derived.Test.YtnmhhjgiakijgaaK3
import Derived.Test.YtnmhhjgiakijgaaD7
namespace Go.Proofs.Ytnmhhjgiakijgaa
set_option linter.unusedVariables false

/-- the body's symbol of a pair -/
def bdF (x y : Nat → Nat) (i : Nat) : Nat := if x i = 0 then y i else x i
/-- the first pair that was unlike, of n -/
def unF (x y : Nat → Nat) : Nat → Int
  | 0 => -1
  | n + 1 => if ((unF x y n == -1) && (((x n : Int) != (y n : Int)) || ((x n : Int) == 0))) = true then (n : Int) else unF x y n
/-- is it cut off by a pair of the body, of n? -/
def cuF (x y : Nat → Nat) : Nat → Bool
  | 0 => false
  | n + 1 => cuF x y n || (decide (n < 112) && decide (bdF x y n = 0))
/-- the first n symbols of the body -/
def bdL (x y : Nat → Nat) (n : Nat) : List Int := (List.range n).map fun i => (bdF x y i : Int)
theorem bdL_length (x y : Nat → Nat) (n : Nat) : (bdL x y n).length = n := by simp [bdL]
theorem bdL_succ (x y : Nat → Nat) (n : Nat) : bdL x y (n + 1) = bdL x y n ++ [(bdF x y n : Int)] := by simp [bdL, List.range_succ]
theorem bdL_gt (x y : Nat → Nat) (n j : Nat) (h : j < n) : gt (bdL x y n) j = bdF x y j := by
  unfold gt bdL
  rw [List.getD_eq_getElem?_getD, List.getElem?_map, List.getElem?_range h]
  rfl
/-- are these a body of a frame of that owner? -/
def isB (o : Int) (l : List Int) : Bool := decide (errG (byV l) = 0) && decide ((fO (byV l) : Int) = o)
/-- whole: with the first 113 pairs -/
def whF (o : Int) (x y : Nat → Nat) : Bool := isB o (bdL x y 112) && (unF x y 113 == -1) && ((x 112 : Int) == 2) && ((y 112 : Int) == 2)
def hiF (o : Int) (x y : Nat → Nat) : Bool := whF o x y && ((x 113 : Int) == 1) && ((y 113 : Int) == 1)
/-- what goes out at pair n -/
def outF (o : Int) (x y : Nat → Nat) (n : Nat) : Int :=
  if cuF x y (n + 1) = true then 0 else if n < 112 then (bdF x y n : Int) else if n = 112 then sy (whF o x y) else if n = 113 then sy (!hiF o x y) else 0
/-- the state behind n pairs -/
structure Inv (o : Int) (x y : Nat → Nat) (n : Nat) (s : Ct) : Prop where
  had : s.had = min n 114
  un : s.un = unF x y (min n 114)
  ow : s.o = o
  cu : s.cu = cuF x y n
  nx : cuF x y n = false → s.nx = if n < 112 then 0 else min n 114 - 111
  bd : cuF x y n = false → s.bd = bdL x y (min n 112)
  wh : cuF x y n = false → s.wh = (decide (113 ≤ n) && whF o x y)
  hi : cuF x y n = false → s.hi = (decide (114 ≤ n) && hiF o x y)
  dead : cuF x y n = true → s.hi = false
  len : s.bd.length ≤ 112

theorem Inv.zero (o : Int) (x y : Nat → Nat) : Inv o x y 0 (ct0 o) := ⟨rfl, rfl, rfl, rfl, fun _ => rfl, fun _ => rfl, fun _ => rfl, fun _ => rfl, fun h => (by cases h), by simp [ct0]⟩
theorem cuF_late (x y : Nat → Nat) (n : Nat) (h : 112 ≤ n) : cuF x y (n + 1) = cuF x y n := by
  show (cuF x y n || (decide (n < 112) && decide (bdF x y n = 0))) = _
  rw [decide_eq_false (by omega : ¬ n < 112), Bool.false_and, Bool.or_false]

theorem Inv.step {o : Int} {x y : Nat → Nat} {n : Nat} {s : Ct} (h : Inv o x y n s) (X Y : Nat) (hX : knw X = x n) (hY : knw Y = y n) :
    Inv o x y (n + 1) (stepC s X Y).1 ∧ (stepC s X Y).2 = outF o x y n := by
  obtain ⟨h1, h2, h3, h4, h5, h6, h7, h8, h9, h10⟩ := h
  unfold stepC
  rw [hX, hY]
  by_cases hn : 114 ≤ n
  · have hcl := cuF_late x y n (by omega)
    have hm : min n 114 = 114 := by omega
    have hm' : min (n + 1) 114 = 114 := by omega
    have hmb : min (n + 1) 112 = min n 112 := by omega
    rw [hm] at h1 h2
    rw [if_pos (by rw [h1]; rfl)]
    refine ⟨⟨by rw [h1, hm'], by rw [h2, hm'], h3, by rw [h4, hcl], fun hc => ?_, fun hc => ?_, fun hc => ?_, fun hc => ?_, fun hc => h9 (by rw [← hcl]; exact hc), h10⟩, ?_⟩
    · rw [hcl] at hc; rw [h5 hc, if_neg (by omega), if_neg (by omega), hm, hm']
    · rw [hcl] at hc; rw [h6 hc, hmb]
    · rw [hcl] at hc; rw [h7 hc, decide_eq_true (by omega : 113 ≤ n), decide_eq_true (by omega : 113 ≤ n + 1)]
    · rw [hcl] at hc; rw [h8 hc, decide_eq_true (by omega : 114 ≤ n), decide_eq_true (by omega : 114 ≤ n + 1)]
    · unfold outF
      rw [if_neg (show ¬ n < 112 by omega), if_neg (show ¬ n = 112 by omega), if_neg (show ¬ n = 113 by omega)]
      split <;> rfl
  · have hm : min n 114 = n := by omega
    have hm' : min (n + 1) 114 = n + 1 := by omega
    rw [hm] at h1 h2
    have hmk : (mkC s (x n) (y n)).un = unF x y (n + 1) := by
      show (if _ then _ else _) = (if _ then _ else _)
      rw [h1, h2]
    cases hcu : cuF x y n with
    | true =>
      rw [hcu] at h4
      have hc1 : cuF x y (n + 1) = true := by
        show (cuF x y n || _) = true
        rw [hcu]; rfl
      rw [if_neg (by rw [h1, h4]; simp; omega), if_pos h4]
      refine ⟨⟨by show s.had + 1 = _; rw [h1, hm'], by rw [hm']; exact hmk, h3, by rw [hc1]; exact h4, fun hc => (by rw [hc1] at hc; cases hc), fun hc => (by rw [hc1] at hc; cases hc), fun hc => (by rw [hc1] at hc; cases hc), fun hc => (by rw [hc1] at hc; cases hc), fun _ => h9 hcu, h10⟩, ?_⟩
      unfold outF
      rw [if_pos hc1]
    | false =>
      rw [hcu] at h4
      have h5 := h5 hcu
      have h6 := h6 hcu
      have h7 := h7 hcu
      have h8 := h8 hcu
      have hnx3 : s.nx < 3 := by rw [h5]; split <;> omega
      rw [if_neg (by rw [h1, h4]; simp; omega), if_neg (by rw [h4]; simp)]
      by_cases hlow : n < 112
      · have hc1 : cuF x y (n + 1) = decide (bdF x y n = 0) := by
          show (cuF x y n || (decide (n < 112) && decide (bdF x y n = 0))) = _
          rw [hcu, decide_eq_true hlow, Bool.false_or, Bool.true_and]
        rw [if_pos hlow] at h5
        have hl : s.bd.length = n := by rw [h6, bdL_length]; omega
        rw [h5]
        show Inv o x y (n + 1) (fstC (mkC s (x n) (y n)) (bdF x y n)) ∧ ((bdF x y n : Nat) : Int) = _
        refine ⟨⟨by show s.had + 1 = _; rw [h1, hm'], by rw [hm']; exact hmk, h3, by rw [hc1]; rfl, fun hc => ?_, fun hc => ?_, fun hc => ?_, fun hc => ?_, fun hc => ?_, ?_⟩, ?_⟩
        · show (if s.bd.length + 1 = 112 then 1 else 0) = _
          rw [hl]
          by_cases h112 : n + 1 = 112
          · rw [if_pos h112, if_neg (by omega)]; omega
          · rw [if_neg h112, if_pos (by omega)]
        · show s.bd ++ [(bdF x y n : Int)] = _
          rw [h6, show min n 112 = n by omega, show min (n + 1) 112 = n + 1 by omega, bdL_succ]
        · show s.wh = _
          rw [h7, decide_eq_false (by omega : ¬ 113 ≤ n), decide_eq_false (by omega : ¬ 113 ≤ n + 1)]
        · show s.hi = _
          rw [h8, decide_eq_false (by omega : ¬ 114 ≤ n), decide_eq_false (by omega : ¬ 114 ≤ n + 1)]
        · show s.hi = _
          rw [h8, decide_eq_false (by omega : ¬ 114 ≤ n)]; rfl
        · show (s.bd ++ [(bdF x y n : Int)]).length ≤ 112
          rw [List.length_append, hl]; exact hlow
        · unfold outF
          by_cases h0 : bdF x y n = 0
          · rw [if_pos (by rw [hc1, decide_eq_true h0]), h0]; rfl
          · rw [if_neg (by rw [hc1, decide_eq_false h0]; simp), if_pos hlow]
      · have hc1 : cuF x y (n + 1) = false := by rw [cuF_late x y n (by omega)]; exact hcu
        rw [if_neg hlow, hm] at h5
        have hbd : s.bd = bdL x y 112 := by rw [h6, show min n 112 = 112 by omega]
        rcases (by omega : n = 112 ∨ n = 113) with hn2 | hn3
        · have e1 : s.nx = 1 := by rw [h5, hn2]
          rw [e1]
          have hw : (tlC (mkC s (x n) (y n)) (x n) (y n)).wh = whF o x y := by
            show (isF (mkC s (x n) (y n)) && ((mkC s (x n) (y n)).un == -1) && ((x n : Int) == 2) && ((y n : Int) == 2)) = _
            rw [hmk]
            show (decide (errG (byV s.bd) = 0) && decide ((fO (byV s.bd) : Int) = s.o) && (unF x y (n + 1) == -1) && ((x n : Int) == 2) && ((y n : Int) == 2)) = _
            rw [hbd, h3, hn2]
            rfl
          refine ⟨⟨by show s.had + 1 = _; rw [h1, hm'], by rw [hm']; exact hmk, h3, by rw [hc1]; exact h4, fun hc => ?_, fun hc => ?_, fun hc => ?_, fun hc => ?_, fun hc => ?_, h10⟩, ?_⟩
          · show 2 = _
            rw [hn2]; rfl
          · show s.bd = _
            rw [hbd, hn2]
            rfl
          · rw [decide_eq_true (by omega : 113 ≤ n + 1)]; exact hw
          · show s.hi = _
            rw [h8, decide_eq_false (by omega : ¬ 114 ≤ n), decide_eq_false (by omega : ¬ 114 ≤ n + 1)]
          · rw [hc1] at hc; cases hc
          · show sy (tlC (mkC s (x n) (y n)) (x n) (y n)).wh = _
            rw [hw]
            unfold outF
            rw [hc1, hn2]
            rfl
        · have e1 : s.nx = 2 := by rw [h5, hn3]
          rw [e1]
          have hw : s.wh = whF o x y := by rw [h7, decide_eq_true (by omega : 113 ≤ n)]; rfl
          have hh : (laC (mkC s (x n) (y n)) (x n) (y n)).hi = hiF o x y := by
            show (s.wh && ((x n : Int) == 1) && ((y n : Int) == 1)) = _
            rw [hw, hn3]
            rfl
          refine ⟨⟨by show s.had + 1 = _; rw [h1, hm'], by rw [hm']; exact hmk, h3, by rw [hc1]; exact h4, fun hc => ?_, fun hc => ?_, fun hc => ?_, fun hc => ?_, fun hc => ?_, h10⟩, ?_⟩
          · show 3 = _
            rw [hn3]; rfl
          · show s.bd = _
            rw [hbd, hn3]
            rfl
          · show s.wh = _
            rw [hw, decide_eq_true (by omega : 113 ≤ n + 1)]; rfl
          · rw [decide_eq_true (by omega : 114 ≤ n + 1)]; exact hh
          · rw [hc1] at hc; cases hc
          · show sy (!(laC (mkC s (x n) (y n)) (x n) (y n)).hi) = _
            rw [hh]
            unfold outF
            rw [hc1, hn3]
            rfl

/-! ### runs -/
/-- the state behind n pairs of symbols, as they come -/
def stN (o : Int) (X Y : Nat → Nat) : Nat → Ct
  | 0 => ct0 o
  | n + 1 => (stepC (stN o X Y n) (X n) (Y n)).1
theorem stN_inv (o : Int) (X Y : Nat → Nat) : ∀ n, Inv o (fun i => knw (X i)) (fun i => knw (Y i)) n (stN o X Y n)
  | 0 => Inv.zero _ _ _
  | n + 1 => ((stN_inv o X Y n).step (X n) (Y n) rfl rfl).1
theorem stN_out (o : Int) (X Y : Nat → Nat) (n : Nat) : (stepC (stN o X Y n) (X n) (Y n)).2 = outF o (fun i => knw (X i)) (fun i => knw (Y i)) n :=
  ((stN_inv o X Y n).step (X n) (Y n) rfl rfl).2
theorem stN_gd (o : Int) (X Y : Nat → Nat) : ∀ n, Gd (stN o X Y n)
  | 0 => Gd.new o
  | n + 1 => stepC_gd (stN_gd o X Y n) _ _
/-- a list's symbols, known ones -/
def atN (xs : List Int) (i : Nat) : Nat := (atS xs i).toNat
def knF (xs : List Int) (i : Nat) : Nat := knw (atN xs i)
/-- what a run gives, whether it is high, and of which frame -/
def outsL (o : Int) (xs ys : List Int) : List Int := (List.range (max xs.length ys.length)).map (outF o (knF xs) (knF ys))
def hiL (o : Int) (xs ys : List Int) : Bool := (stN o (atN xs) (atN ys) (max xs.length ys.length)).hi
def bdRun (o : Int) (xs ys : List Int) : List Int := (stN o (atN xs) (atN ys) (max xs.length ys.length)).bd
theorem outsL_length (o : Int) (xs ys : List Int) : (outsL o xs ys).length = max xs.length ys.length := by simp [outsL]
theorem outsL_gt (o : Int) (xs ys : List Int) (j : Nat) (h : j < max xs.length ys.length) : gt (outsL o xs ys) j = outF o (knF xs) (knF ys) j := by
  unfold gt outsL
  rw [List.getD_eq_getElem?_getD, List.getElem?_map, List.getElem?_range h]
  rfl

theorem unF_iff (x y : Nat → Nat) : ∀ n, unF x y n = -1 ↔ ∀ j, j < n → x j = y j ∧ x j ≠ 0 := by
  intro n
  induction n with
  | zero => exact ⟨fun _ j hj => absurd hj (Nat.not_lt_zero j), fun _ => rfl⟩
  | succ n ih =>
    show (if _ then (n : Int) else unF x y n) = -1 ↔ _
    constructor
    · intro h j hj
      split at h
      · omega
      · rename_i hc
        have h0 := ih.1 h
        rcases (by omega : j < n ∨ j = n) with hj | rfl
        · exact h0 j hj
        · rw [h] at hc
          simp at hc
          exact ⟨by omega, hc.2⟩
    · intro h
      have h1 := ih.2 fun j hj => h j (by omega)
      obtain ⟨h2, h3⟩ := h n (by omega)
      rw [if_neg (by rw [h1]; simp; exact ⟨by omega, h3⟩)]
      exact h1
theorem cuF_iff (x y : Nat → Nat) : ∀ n, cuF x y n = false ↔ ∀ j, j < n → j < 112 → bdF x y j ≠ 0 := by
  intro n
  induction n with
  | zero => exact ⟨fun _ j hj => absurd hj (Nat.not_lt_zero j), fun _ => rfl⟩
  | succ n ih =>
    show (cuF x y n || (decide (n < 112) && decide (bdF x y n = 0))) = false ↔ _
    rw [Bool.or_eq_false_iff, ih, Bool.and_eq_false_iff, decide_eq_false_iff_not, decide_eq_false_iff_not]
    constructor
    · rintro ⟨h1, h2⟩ j hj h112
      rcases (by omega : j < n ∨ j = n) with hj | rfl
      · exact h1 j hj h112
      · rcases h2 with h2 | h2
        · omega
        · exact h2
    · intro h
      refine ⟨fun j hj h112 => h j (by omega) h112, ?_⟩
      by_cases hn : n < 112
      · exact .inr (h n (by omega) hn)
      · exact .inl hn
/-- high only if all were alike, and there -/
theorem hiF_true {o : Int} {x y : Nat → Nat} (h : hiF o x y = true) : (∀ j, j < 114 → x j = y j ∧ x j ≠ 0) ∧ isB o (bdL x y 112) = true ∧ x 112 = 2 ∧ x 113 = 1 ∧ ∀ n, cuF x y n = false := by
  simp only [hiF, whF, Bool.and_eq_true, beq_iff_eq] at h
  obtain ⟨⟨⟨⟨⟨h1, h2⟩, h3⟩, h4⟩, h5⟩, h6⟩ := h
  have h7 := (unF_iff x y 113).1 h2
  refine ⟨fun j hj => ?_, h1, by omega, by omega, fun n => (cuF_iff x y n).2 fun j hj h112 => ?_⟩
  · rcases (by omega : j < 113 ∨ j = 113) with hj | rfl
    · exact h7 j hj
    · exact ⟨by omega, by omega⟩
  · have := h7 j (by omega)
    unfold bdF
    rw [if_neg this.2]
    exact this.2
theorem hiF_of {o : Int} {x y : Nat → Nat} (h : ∀ j, j < 113 → x j = y j ∧ x j ≠ 0) (hb : isB o (bdL x y 112) = true) (h2 : x 112 = 2) (h3 : x 113 = 1) (h4 : y 113 = 1) : hiF o x y = true := by
  simp only [hiF, whF, Bool.and_eq_true, beq_iff_eq]
  refine ⟨⟨⟨⟨⟨hb, (unF_iff x y 113).2 h⟩, by omega⟩, ?_⟩, by omega⟩, by omega⟩
  have := (h 112 (by omega)).1
  omega
theorem hiN {o : Int} {X Y : Nat → Nat} {n : Nat} (hn : 114 ≤ n) : (stN o X Y n).hi = hiF o (fun i => knw (X i)) (fun i => knw (Y i)) := by
  have h := stN_inv o X Y n
  cases hc : cuF (fun i => knw (X i)) (fun i => knw (Y i)) n with
  | false => rw [h.hi hc, decide_eq_true hn]; rfl
  | true =>
    rw [h.dead hc]
    cases hh : hiF o (fun i => knw (X i)) (fun i => knw (Y i)) with
    | false => rfl
    | true => rw [(hiF_true hh).2.2.2.2 n] at hc; cases hc
end Go.Proofs.Ytnmhhjgiakijgaa
