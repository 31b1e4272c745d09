/- Catches, the document's: whole, Unlike, High. -/
import Derived.Test.YtnmhhjgiakijgaaE3
namespace Go.Proofs.Ytnmhhjgiakijgaa
open Go.RowKit
set_option linter.unusedVariables false
set_option linter.unusedSimpArgs false

theorem unF_first {x y : Nat → Nat} {k : Nat} (h : ∀ j, j < k → x j = y j ∧ x j ≠ 0) (hk : x k ≠ y k ∨ x k = 0) : ∀ n, k < n → unF x y n = (k : Int) := by
  intro n
  induction n with
  | zero => intro h; omega
  | succ n ih =>
    intro hn
    show (if _ then (n : Int) else unF x y n) = _
    by_cases he : n = k
    · subst he
      have h1 := (unF_iff x y n).2 h
      rw [if_pos (by rw [h1]; simp; rcases hk with h2 | h2 <;> omega)]
    · have h1 := ih (by omega)
      rw [h1, if_neg (by simp)]
theorem whF_early {o : Int} {x y : Nat → Nat} {k : Nat} (h : ∀ j, j < k → x j = y j ∧ x j ≠ 0) (hk : x k ≠ y k ∨ x k = 0) (hlt : k < 112) : whF o x y = false := by
  unfold whF
  rw [unF_first h hk 113 (by omega), show ((k : Int) == -1) = false by simp]
  simp
theorem whF_end {o : Int} {x y : Nat → Nat} (h : ∀ j, j < 112 → x j = y j ∧ x j ≠ 0) : whF o x y = (isB o (bdL x y 112) && ((x 112 : Int) == 2) && ((y 112 : Int) == 2)) := by
  unfold whF
  by_cases h2 : x 112 = 2 ∧ y 112 = 2
  · have h3 : unF x y 113 = -1 := (unF_iff x y 113).2 fun j hj => by
      rcases (by omega : j < 112 ∨ j = 112) with hj | rfl
      · exact h j hj
      · omega
    rw [h3]
    simp
  · have : (((x 112 : Int) == 2) && ((y 112 : Int) == 2)) = false := by
      rw [Bool.and_eq_false_iff]
      by_cases h3 : x 112 = 2
      · right; simp; omega
      · left; simp; omega
    simp only [Bool.and_assoc, this, Bool.and_false]
theorem like_snoc {x y : Nat → Nat} {k : Nat} (h : ∀ j, j < k → x j = y j ∧ x j ≠ 0) (h1 : x k = y k) (h2 : x k ≠ 0) : ∀ j, j < k + 1 → x j = y j ∧ x j ≠ 0 := fun j hj => by
  rcases (by omega : j < k ∨ j = k) with hj | rfl
  · exact h j hj
  · exact ⟨h1, h2⟩
theorem pair_cases (a b : Nat) : (((a : Int) != (b : Int)) = true ∧ a ≠ b) ∨ (a = b ∧ a = 0) ∨ (a = b ∧ a ≠ 0 ∧ ((a : Int) == 0) = false) := by
  by_cases h : a = b
  · by_cases h0 : a = 0
    · exact .inr (.inl ⟨h, h0⟩)
    · exact .inr (.inr ⟨h, h0, by simp; exact h0⟩)
  · exact .inl ⟨by simp; omega, h⟩

set_option maxHeartbeats 3200000 in
set_option maxRecDepth 20000 in
theorem runlike_calls {w : World} {g : Nat} {o : Int} {A1 A2 : Option Addr} {c1 c2 n : Nat} {x y : Nat → Nat} (h : RC w g o A1 A2 c1 c2 n x y) :
    Calls Try.prog 86 #[.pointer (some ⟨g, 0, none⟩)] w fun e w' => e = .returned (.int .i64 (unF x y n)) ∧ Below w.heap.size w w' := by
  have HC := Lib.hid h
  have hn := h.hn
  have d1 := h.blk.cell 1 (.slice A1 n c1) rfl
  have d2 := h.blk.cell 2 (.slice A2 n c2) rfl
  clear h
  go_enter Try.func86, Try.ntmps86
  go_wp2
  go_loopg [3] n (fun g v w' => ∃ k q : Nat, g + k = n ∧ v = .int .i64 k ∧ Hid (∀ j, j < k → x j = y j ∧ x j ≠ 0) ∧ w' = w.drewN q)
  case atStart => exact ⟨0, 0, rfl, rfl, Lib.hid (fun j hj => absurd hj (by omega)), rfl⟩
  case round =>
    obtain ⟨k, q, hk, rfl, HE, rfl⟩ := hrel
    by_cases hlt : k < n
    · obtain ⟨b1, o1, rfl, e1⟩ := HC.out.r1.at_ k hlt
      obtain ⟨b2, o2, rfl, e2⟩ := HC.out.r2.at_ k hlt
      rw [kl_gt x hlt] at e1
      rw [kl_gt y hlt] at e2
      rcases pair_cases (x k) (y k) with ⟨h1, h2⟩ | ⟨h1, h2⟩ | ⟨h1, h2, h3⟩
      · have HF := Lib.hid (unF_first HE.out (.inl h2) n hlt)
        clear h2
        generalize x k = X at *
        generalize y k = Y at *
        go_wp2
        go_quiet (fail)
        go_wp2
        go_ret
        exact ⟨by rw [HF.out]; rfl, (by repeat (first | exact Below.refl _ _ | apply Bw.alloc | apply Bw.drewN | apply Bw.drew | (refine Bw.step ?_ (by assumption))))⟩
      · have HF := Lib.hid (unF_first HE.out (.inr h2) n hlt)
        rw [← h1, h2] at e2
        rw [h2] at e1
        clear h1 h2
        go_wp2
        go_quiet (fail)
        go_wp2
        go_ret
        exact ⟨by rw [HF.out]; rfl, (by repeat (first | exact Below.refl _ _ | apply Bw.alloc | apply Bw.drewN | apply Bw.drew | (refine Bw.step ?_ (by assumption))))⟩
      · have HL := Lib.hid (like_snoc HE.out h1 h2)
        rw [← h1] at e2
        have HK := Lib.hid hk
        clear h1 h2 hk
        generalize x k = X at *
        go_wp2
        go_quiet (fail)
        go_wp2
        obtain ⟨g', rfl⟩ : ∃ g', gk = g' + 1 := ⟨gk - 1, by have := HK.out; omega⟩
        go_roundg g'
        case measure => omega
        case rel => exact ⟨k + 1, _, by have := HK.out; omega, by go_num, HL, rfl⟩
    · have e : k = n := by omega
      subst e
      have HF := Lib.hid ((unF_iff x y k).2 HE.out)
      go_wp2
      go_ret
      exact ⟨by rw [HF.out]; rfl, (by repeat (first | exact Below.refl _ _ | apply Bw.alloc | apply Bw.drewN | apply Bw.drew | (refine Bw.step ?_ (by assumption))))⟩

set_option maxHeartbeats 6400000 in
set_option maxRecDepth 20000 in
theorem rwhole_calls {w : World} {g : Nat} {o : Int} {A1 A2 : Option Addr} {c1 c2 n : Nat} {x y : Nat → Nat} (h : RC w g o A1 A2 c1 c2 n x y) (h113 : 113 ≤ n) :
    Calls Try.prog 137 #[.pointer (some ⟨g, 0, none⟩)] w fun e w' => e = .returned (.bool (whF o x y)) ∧ Below w.heap.size w w' := by
  have HC := Lib.hid h
  have hn := h.hn
  have d1 := h.blk.cell 1 (.slice A1 n c1) rfl
  have d2 := h.blk.cell 2 (.slice A2 n c2) rfl
  clear h
  go_enter Try.func137, Try.ntmps137
  go_wp2
  go_loopg [3] 112 (fun g v w' => ∃ k q : Nat, g + k = 112 ∧ v = .int .i64 k ∧ Hid (∀ j, j < k → x j = y j ∧ x j ≠ 0) ∧ w' = w.drewN q)
  case atStart => exact ⟨0, 0, rfl, rfl, Lib.hid (fun j hj => absurd hj (by omega)), rfl⟩
  case round =>
    obtain ⟨k, q, hk, rfl, HE, rfl⟩ := hrel
    by_cases hlt : k < 112
    · have hkn : k < n := by omega
      obtain ⟨b1, o1, rfl, e1⟩ := HC.out.r1.at_ k hkn
      obtain ⟨b2, o2, rfl, e2⟩ := HC.out.r2.at_ k hkn
      rw [kl_gt x hkn] at e1
      rw [kl_gt y hkn] at e2
      rcases pair_cases (x k) (y k) with ⟨h1, h2⟩ | ⟨h1, h2⟩ | ⟨h1, h2, h3⟩
      · have HF := Lib.hid (whF_early (o := o) HE.out (.inl h2) hlt)
        clear h2
        generalize x k = X at *
        generalize y k = Y at *
        go_wp2
        go_quiet (fail)
        go_wp2
        go_ret
        exact ⟨by rw [HF.out]; rfl, (by repeat (first | exact Below.refl _ _ | apply Bw.alloc | apply Bw.drewN | apply Bw.drew | (refine Bw.step ?_ (by assumption))))⟩
      · have HF := Lib.hid (whF_early (o := o) HE.out (.inr h2) hlt)
        rw [← h1, h2] at e2
        rw [h2] at e1
        clear h1 h2
        go_wp2
        go_quiet (fail)
        go_wp2
        go_ret
        exact ⟨by rw [HF.out]; rfl, (by repeat (first | exact Below.refl _ _ | apply Bw.alloc | apply Bw.drewN | apply Bw.drew | (refine Bw.step ?_ (by assumption))))⟩
      · have HL := Lib.hid (like_snoc HE.out h1 h2)
        rw [← h1] at e2
        have HK := Lib.hid hk
        clear h1 h2 hk
        generalize x k = X at *
        go_wp2
        go_quiet (fail)
        go_wp2
        obtain ⟨g', rfl⟩ : ∃ g', gk = g' + 1 := ⟨gk - 1, by have := HK.out; omega⟩
        go_roundg g'
        case measure => omega
        case rel => exact ⟨k + 1, _, by have := HK.out; omega, by go_num, HL, rfl⟩
    · have e : k = 112 := by omega
      subst e
      have HF := Lib.hid (whF_end (o := o) HE.out)
      obtain ⟨b1, o1, rfl, e1⟩ := HC.out.r1.at_ 112 (by omega)
      obtain ⟨b2, o2, rfl, e2⟩ := HC.out.r2.at_ 112 (by omega)
      rw [kl_gt x (by omega)] at e1
      rw [kl_gt y (by omega)] at e2
      obtain ⟨X, hX⟩ : ∃ X, x 112 = X := ⟨_, rfl⟩
      obtain ⟨Y, hY⟩ : ∃ Y, y 112 = Y := ⟨_, rfl⟩
      rw [hX, hY] at HF
      rw [hX] at e1
      rw [hY] at e2
      clear hX hY
      obtain ⟨iv, hiv⟩ : ∃ iv, isB o (bdL x y 112) = iv := ⟨_, rfl⟩
      obtain ⟨L, hL⟩ : ∃ L, byV (bdL x y 112) = L := ⟨_, rfl⟩
      have HFR : Hid (∀ w', Below w.heap.size w w' → Calls Try.prog 139 #[.pointer (some ⟨g, 0, none⟩)] w' fun e w'' => e = .returned (.tuple #[.agg (f5 L), .bool iv]) ∧ Below w'.heap.size w' w'') := fun w' hb => by
        have := rframe_calls (HC.out.below hb) 112 (by omega)
        rw [hL, hiv] at this
        exact this
      rw [hiv] at HF
      have HDD : Hid (∀ w', Below w.heap.size w w' → w'.cell? ⟨g, 1, none⟩ = some (.slice (some ⟨b1, o1, none⟩) n c1) ∧ w'.cell? ⟨g, 2, none⟩ = some (.slice (some ⟨b2, o2, none⟩) n c2) ∧ w'.cell? ⟨b1, o1 + 112, none⟩ = some (.int .u8 X) ∧ w'.cell? ⟨b2, o2 + 112, none⟩ = some (.int .u8 Y)) := fun w' hb =>
        ⟨(hb.cell (p := ⟨g, 1, none⟩) HC.out.blk.lt).trans d1, (hb.cell (p := ⟨g, 2, none⟩) HC.out.blk.lt).trans d2,
          (hb.cell (p := ⟨b1, o1 + 112, none⟩) (World.block_lt_of_cell? w ⟨b1, o1 + 112, none⟩ e1)).trans e1, (hb.cell (p := ⟨b2, o2 + 112, none⟩) (World.block_lt_of_cell? w ⟨b2, o2 + 112, none⟩ e2)).trans e2⟩
      clear hiv hL d1 d2 e1 e2
      go_wp2_with fail
      refine (HFR.out _ (by repeat (first | exact Below.refl _ _ | apply Bw.alloc | apply Bw.drewN | apply Bw.drew | (refine Bw.step ?_ (by assumption))))).mono ?_; rintro e w1 ⟨rfl, hb1⟩
      unfold f5
      have HB1 := Lib.hid (show Below w.heap.size w (w1.alloc (.cells #[.int .i64 (fO L), .int .u8 (fK L), .int .u8 (fS L), .int .u32 (fQ L), .int .u32 (fV L)] 85)) from (by repeat (first | exact Below.refl _ _ | apply Bw.alloc | apply Bw.drewN | apply Bw.drew | (refine Bw.step ?_ (by assumption)))))
      obtain ⟨d1, d2, e1, e2⟩ := HDD.out _ HB1.out
      clear hb1
      obtain ⟨p1, hp1⟩ : ∃ p, ((X : Int) == 2) = p := ⟨_, rfl⟩
      obtain ⟨p2, hp2⟩ : ∃ p, ((Y : Int) == 2) = p := ⟨_, rfl⟩
      rw [hp1, hp2] at HF
      cases iv <;> cases p1 <;> cases p2
      all_goals
        go_wp2
        go_ret
        exact ⟨by rw [HF.out]; rfl, HB1.out⟩
end Go.Proofs.Ytnmhhjgiakijgaa
