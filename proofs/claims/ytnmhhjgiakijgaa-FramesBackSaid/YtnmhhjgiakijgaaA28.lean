/- Layer 5's examples: sennitlaw05.lives returns true. -/
import Derived.Test.YtnmhhjgiakijgaaA27
namespace Go.Proofs.Ytnmhhjgiakijgaa
open Go.RowKit
set_option linter.unusedVariables false

theorem ok10 : bytesOk [33, 2, 0, 0, 0, 3, 0, 0, 0, 4] := by
  intro x hx
  simp only [List.mem_cons, List.not_mem_nil, or_false] at hx
  omega
set_option maxHeartbeats 3200000 in
set_option maxRecDepth 20000 in
theorem lives05 (w : World) : Calls Try.prog 66 #[] w fun e w' => e = .returned (.bool true) ∧ Below w.heap.size w w' := by
  have HL := Lib.hid (frP_length 1 2 2 3 4 rfl)
  have HE := Lib.hid (show errP 1 2 = 0 from rfl)
  have S1 := Lib.hid (show sameL ((frP 1 2 2 3 4).take 10) [33, 2, 0, 0, 0, 3, 0, 0, 0, 4] = true from sameL_eq (by
    rw [show frP 1 2 2 3 4 = putS (frB 1 2 2 3 4) from rfl]
    unfold putS
    rw [List.take_append_of_le_length (by rw [frB_length]; exact Nat.le_refl _), List.take_of_length_le (by rw [frB_length]; exact Nat.le_refl _)]
    decide))
  have S2 := Lib.hid (show sameL (tailL true false) [2, 1] = true from rfl)
  have HOK := Lib.hid (frP_ok 1 2 2 3 4 (by omega))
  have HP := Lib.hid (fun w => put5_calls 1 2 2 3 4 w (by omega) (by omega) (by omega))
  have H58 := Lib.hid (fun w => of58_calls 1 2 2 3 4 w)
  go_enter Try.func66, Try.ntmps66
  go_wp2_with fail
  refine (H58.out _).mono ?_; rintro e w1 ⟨rfl, hb1⟩
  go_wp2_with fail
  refine (HP.out _).mono ?_; rintro e w2 ⟨A1, he, hm1, hb2⟩
  rw [HE.out, HL.out] at he
  rw [HL.out] at hm1
  subst he
  have HK : Hid (∀ w', Below (w2.alloc (.cells #[.bool true, .bool false] 93)).heap.size (w2.alloc (.cells #[.bool true, .bool false] 93)) w' → w'.cell? ⟨w2.heap.size, 0, none⟩ = some (.bool true) ∧ w'.cell? ⟨w2.heap.size, 1, none⟩ = some (.bool false)) := fun w' h =>
    ⟨(h.cell (p := ⟨w2.heap.size, 0, none⟩) (by simp)).trans (by simp [go_sem]), (h.cell (p := ⟨w2.heap.size, 1, none⟩) (by simp)).trans (by simp [go_sem])⟩
  go_wp2_with fail
  refine (samebytes_calls _ _ _ _ _ _ ((frP 1 2 2 3 4).take 10) [33, 2, 0, 0, 0, 3, 0, 0, 0, 4] _ ((hm1.rd.take 10 (by omega)).below (by repeat (first | exact Below.refl _ _ | apply Bw.alloc | apply Bw.drewN | apply Bw.drew | (refine Bw.step ?_ (by assumption))))) (rd_cells (by simp) [33, 2, 0, 0, 0, 3, 0, 0, 0, 4]) (fun x hx => HOK.out x (List.mem_of_mem_take hx)) ok10).mono ?_; rintro e w' ⟨rfl, rfl⟩; rewrite [S1.out]
  go_wp2_with fail
  refine (good_calls true false _).mono ?_; rintro e w3 ⟨rfl, hb3⟩
  obtain ⟨hk0, hk1⟩ := HK.out w3 (by repeat (first | exact Below.refl _ _ | apply Bw.alloc | apply Bw.drewN | apply Bw.drew | (refine Bw.step ?_ (by assumption))))
  go_wp2_with fail
  refine (tail_calls true false _).mono ?_; rintro e w4 ⟨A4, rfl, hm4, hb4⟩
  go_wp2_with fail
  refine (samesyms_calls _ _ _ _ _ _ (tailL true false) [2, 1] _ (hm4.rd.below (by repeat (first | exact Below.refl _ _ | apply Bw.alloc | apply Bw.drewN | apply Bw.drew | (refine Bw.step ?_ (by assumption))))) (rd_cells (by simp) [2, 1]) (by omega) (by decide) (by omega)).mono ?_; rintro e w' ⟨rfl, q1, rfl⟩; rewrite [S2.out]
  go_wp2
  go_ret
  exact ⟨rfl, (by repeat (first | exact Below.refl _ _ | apply Bw.alloc | apply Bw.drewN | apply Bw.drew | (refine Bw.step ?_ (by assumption))))⟩
end Go.Proofs.Ytnmhhjgiakijgaa
