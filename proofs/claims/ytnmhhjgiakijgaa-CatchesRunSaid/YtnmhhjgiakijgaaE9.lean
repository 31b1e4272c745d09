/- Catches, the document's: Step: its contract. -/
import Derived.Test.YtnmhhjgiakijgaaE6
namespace Go.Proofs.Ytnmhhjgiakijgaa
open Go.RowKit
set_option linter.unusedVariables false
set_option linter.unusedSimpArgs false

theorem own_map' (A : Option Addr) (n c : Nat) : (Value.slice A n c).ownBlock = A.map (·.block) := by cases A <;> rfl
/-- what the document's Step answers -/
def RStepPost (B g : Nat) (a b : Option Nat) (o : Int) (n : Nat) (x y : Nat → Nat) (w : World) (e : Ending) (w' : World) : Prop :=
  e = .returned (.int .u8 (outF o x y n)) ∧ ∃ a' b', RS w' B g a' b' o (min (n + 1) 114) x y ∧ KeepR w w' g a b a' b' ∧ Below B w w'

set_option maxHeartbeats 12800000 in
set_option maxRecDepth 20000 in
theorem rstep_calls {w : World} {B g : Nat} {a b : Option Nat} {o : Int} {n : Nat} {x y : Nat → Nat} (h : RS w B g a b o n x y) (near far : Nat) (hX : knw near = x n) (hY : knw far = y n) :
    Calls Try.prog 81 #[.pointer (some ⟨g, 0, none⟩), .int .u8 near, .int .u8 far] w (RStepPost B g a b o n x y w) := by
  have HRS := Lib.hid h
  obtain ⟨hBg, A1, c1, A2, c2, hb, hm1, hm2, hc1, hc2, hn, ha, hbb, hd⟩ := h
  have HBL := Lib.hid hb
  have HM1 := Lib.hid hm1
  have HM2 := Lib.hid hm2
  have HD := Lib.hid (show ∀ k, (Value.slice A1 n c1).ownBlock = some k → (Value.slice A2 n c2).ownBlock ≠ some k by rw [ha, hbb]; exact hd)
  have HA := Lib.hid ha
  have HBB := Lib.hid hbb
  have d1 := hb.cell 1 (.slice A1 n c1) rfl
  have hBg' := Lib.hid hBg
  have HLT := Lib.hid hb.lt
  by_cases h114 : n = 114
  · have HO := Lib.hid (show outF o x y 114 = 0 by
      unfold outF
      rw [if_neg (show ¬ 114 < 112 by omega), if_neg (show ¬ (114 : Nat) = 112 by omega), if_neg (show ¬ (114 : Nat) = 113 by omega)]
      split <;> rfl)
    subst h114
    clear hb hm1 hm2 hd ha hbb
    go_enter Try.func81, Try.ntmps81
    go_wp2
    go_ret
    exact ⟨by rw [HO.out]; rfl, a, b, HRS.out, ⟨fun _ _ _ _ _ => rfl, .inl rfl, .inl rfl⟩, Below.refl _ _⟩
  · have hlt : n < 114 := by omega
    have HK1 : Hid (∀ w, Calls Try.prog 134 #[.int .u8 near] w fun e w' => e = .returned (.int .u8 (x n)) ∧ w = w') := fun w => by rw [← hX]; exact refknown_calls near w
    have HK2 : Hid (∀ w, Calls Try.prog 134 #[.int .u8 far] w fun e w' => e = .returned (.int .u8 (y n)) ∧ w = w') := fun w => by rw [← hY]; exact refknown_calls far w
    have d2 := hb.cell 2 (.slice A2 n c2) rfl
    clear hX hY hb hm1 hm2 hd ha hbb
    go_enter Try.func81, Try.ntmps81
    go_wp2_with fail
    refine wp_region_noPanic ?_
    refine wp_region_held_drew (S := fun _ => True) (by kernel_rfl) trivial (fun hHeld => ?_)
    refine wpAnyH_take (i := 0) (v := .pointer (some ⟨g, 0, none⟩)) (by simp only [List.getElem?_toArray, List.getElem?_cons_zero, List.getElem?_cons_succ]; rfl) (by kernel_rfl) (by kernel_rfl) (by kernel_rfl) (fun _ _ _ h => h) (Or.inl ⟨by rfl, ?_⟩) (by assumption) ?_
    · intro w hSw
      try dsimp only at hSw
      go_simp
    try simp only [Act.put, List.setIfInBounds_toArray, List.set_cons_zero, List.set_cons_succ]
    refine wpAnyH_take (i := 1) (v := .pointer (some ⟨g, 0, none⟩)) (by simp only [List.getElem?_toArray, List.getElem?_cons_zero, List.getElem?_cons_succ]; rfl) (by kernel_rfl) (by kernel_rfl) (by kernel_rfl) (fun _ _ _ h => h) (Or.inl ⟨by rfl, ?_⟩) (by assumption) ?_
    · intro w hSw
      try dsimp only at hSw
      go_simp
    try simp only [Act.put, List.setIfInBounds_toArray, List.set_cons_zero, List.set_cons_succ]
    refine wpAnyH_take (i := 2) (v := .pointer (some ⟨g, 0, none⟩)) (by simp only [List.getElem?_toArray, List.getElem?_cons_zero, List.getElem?_cons_succ]; rfl) (by kernel_rfl) (by kernel_rfl) (by kernel_rfl) (fun _ _ _ h => h) (Or.inl ⟨by rfl, ?_⟩) (by assumption) ?_
    · intro w hSw
      try dsimp only at hSw
      go_simp
    try simp only [Act.put, List.setIfInBounds_toArray, List.set_cons_zero, List.set_cons_succ]
    refine wpAnyH_take (i := 3) (v := .pointer (some ⟨g, 1, none⟩)) (by simp only [List.getElem?_toArray, List.getElem?_cons_zero, List.getElem?_cons_succ]; rfl) (by kernel_rfl) (by kernel_rfl) (by kernel_rfl) (fun _ _ _ h => h) (Or.inl ⟨by rfl, ?_⟩) (by assumption) ?_
    · intro w hSw
      try dsimp only at hSw
      go_simp
    try simp only [Act.put, List.setIfInBounds_toArray, List.set_cons_zero, List.set_cons_succ]
    refine wpAnyH_take (i := 5) (v := .int .u8 near) (by simp only [List.getElem?_toArray, List.getElem?_cons_zero, List.getElem?_cons_succ]; rfl) (by kernel_rfl) (by kernel_rfl) (by kernel_rfl) (fun _ _ _ h => h) (Or.inl ⟨by rfl, ?_⟩) (by assumption) ?_
    · intro w hSw
      try dsimp only at hSw
      go_simp
    try simp only [Act.put, List.setIfInBounds_toArray, List.set_cons_zero, List.set_cons_succ]
    refine wpAnyH_ready (rs := [4, 6]) (by kernel_rfl) (by simp) ?_
    refine AllReadyH.cons (by simp only [List.getElem?_toArray, List.getElem?_cons_zero, List.getElem?_cons_succ]; rfl) (fun K hK => ?_) (AllReadyH.cons (by simp only [List.getElem?_toArray, List.getElem?_cons_zero, List.getElem?_cons_succ]; rfl) (fun K hK => ?_) AllReadyH.nil)
    · go_simp
      refine hK.out _ _ trivial (fun hHeld => ?_)
      clear hK K
      try simp only [Act.put, List.setIfInBounds_toArray, List.set_cons_zero, List.set_cons_succ]
      refine wpAnyH_ready (rs := [6]) (by kernel_rfl) (by simp) ?_
      refine AllReadyH.cons (by simp only [List.getElem?_toArray, List.getElem?_cons_zero, List.getElem?_cons_succ]; rfl) (fun K hK => ?_) AllReadyH.nil
      go_simp
      go_at_call 134
      refine (HK1.out _).mono ?_; rintro e w' ⟨rfl, rfl⟩
      refine hK.out _ _ trivial (fun hHeld => ?_)
      clear hK K
      try simp only [Act.put, List.setIfInBounds_toArray, List.set_cons_zero, List.set_cons_succ]
      refine wpAnyH_ready (rs := [7]) (by kernel_rfl) (by simp) ?_
      refine AllReadyH.cons (by simp only [List.getElem?_toArray, List.getElem?_cons_zero, List.getElem?_cons_succ]; rfl) (fun K hK => ?_) AllReadyH.nil
      go_simp
      refine hK.out _ _ trivial (fun hHeld => ?_)
      clear hK K
      try simp only [Act.put, List.setIfInBounds_toArray, List.set_cons_zero, List.set_cons_succ]
      refine wpAnyH_ready (rs := [8]) (by kernel_rfl) (by simp) ?_
      refine AllReadyH.cons (by simp only [List.getElem?_toArray, List.getElem?_cons_zero, List.getElem?_cons_succ]; rfl) (fun K hK => ?_) AllReadyH.nil
      refine step_append_mn rfl _ _ _ rfl (g + 1) 50 _ 1 1 Try.underlying22 info50 rfl (by omega) (.slice A1 n c1) n (nums .u8 (kl x n)) rfl (HM1.out.below (by repeat (first | exact Below.refl _ _ | apply Bw.alloc | apply Bw.drewN | apply Bw.drew | (refine Bw.step ?_ (by assumption))))) _ 1 1 (nums .u8 [(x n : Int)]) rfl (by first | exact rv_one | exact Rv.drew rv_one | exact Rv.drewN rv_one _) (nums_one _ _) (by omega) (by omega) (by have := HLT.out; simp; omega) ?_
      intro A3 c3 w3 hc3 hm3 hg3 hat3
      obtain ⟨t1, t2, t3, t4, t5, t6⟩ := half (V1' := .slice A3 (n + 1) c3) hBg'.out HBL.out HM2.out HM1.out (by repeat (first | exact Below.refl _ _ | apply Bw.alloc | apply Bw.drewN | apply Bw.drew | (refine Bw.step ?_ (by assumption)))) hg3 (by rw [own_map']; exact hat3) HD.out
      have d1 := t1.cell 1 (.slice A1 n c1) rfl
      have j1 := t1.frozen 1
      have T1 := Lib.hid (t1.set 1 (.slice A3 (n + 1) c3))
      have T2 := Lib.hid (t2.setOther (B := B) (j := 1) (u := .slice A3 (n + 1) c3))
      have T3 := Lib.hid t3
      have T4 := Lib.hid t4
      have T5 := Lib.hid t5
      have T6 := Lib.hid (t6.setCell (p := ⟨g, 1, none⟩) hBg'.out (.slice A3 (n + 1) c3))
      have HM3 := Lib.hid (hm3.setOther (B := B) (j := 1) (u := .slice A3 (n + 1) c3))
      have HC3 := Lib.hid hc3
      clear t1 t2 t3 t4 t5 t6 hm3 hg3 hat3 hc3
      refine hK.out _ _ trivial (fun hHeld => ?_)
      clear hK K
      try simp only [Act.put, List.setIfInBounds_toArray, List.set_cons_zero, List.set_cons_succ]
      refine wpAnyH_take (i := 9) (v := .pointer (some ⟨g, 0, none⟩)) (by simp only [List.getElem?_toArray, List.getElem?_cons_zero, List.getElem?_cons_succ]; rfl) (by kernel_rfl) (by kernel_rfl) (by kernel_rfl) (fun _ _ _ h => h) (Or.inl ⟨by rfl, ?_⟩) (by assumption) ?_
      · intro w hSw
        try dsimp only at hSw
        go_simp
      try simp only [Act.put, List.setIfInBounds_toArray, List.set_cons_zero, List.set_cons_succ]
      refine wpAnyH_take (i := 10) (v := .pointer (some ⟨g, 1, none⟩)) (by simp only [List.getElem?_toArray, List.getElem?_cons_zero, List.getElem?_cons_succ]; rfl) (by kernel_rfl) (by kernel_rfl) (by kernel_rfl) (fun _ _ _ h => h) (Or.inl ⟨by rfl, ?_⟩) (by assumption) ?_
      · intro w hSw
        try dsimp only at hSw
        go_simp
      try simp only [Act.put, List.setIfInBounds_toArray, List.set_cons_zero, List.set_cons_succ]
      refine wpAnyH_ready (rs := [11]) (by kernel_rfl) (by simp) ?_
      refine AllReadyH.cons (by simp only [List.getElem?_toArray, List.getElem?_cons_zero, List.getElem?_cons_succ]; rfl) (fun K hK => ?_) AllReadyH.nil
      go_simp
      refine hK.out _ _ trivial (fun hHeld => ?_)
      clear hK K
      try simp only [Act.put, List.setIfInBounds_toArray, List.set_cons_zero, List.set_cons_succ]
      refine wpAnyH_done (by kernel_rfl) ?_ _
      refine NoPanic.normal ?_
      have T7 := Lib.hid (show ∀ k, k < w.heap.size → k ≠ g → (Value.slice A1 n c1).ownBlock ≠ some k → (w3.setCell ⟨g, 1, none⟩ (.slice A3 (n + 1) c3)).heap[k]? = w.heap[k]? from fun k h1 h2 h3 => by rw [setCell_other _ _ _ _ _ h2, T4.out k h1 h3])
      clear T4
      generalize (w3.setCell ⟨g, 1, none⟩ (.slice A3 (n + 1) c3)) = w4 at *
      clear d1 j1
      have d2 := T1.out.cell 2 (.slice A2 n c2) rfl
      go_wp2_with fail
      refine wp_region_noPanic ?_
      refine wp_region_held_drew (S := fun _ => True) (by kernel_rfl) trivial (fun hHeld => ?_)
      refine wpAnyH_take (i := 0) (v := .pointer (some ⟨g, 0, none⟩)) (by simp only [List.getElem?_toArray, List.getElem?_cons_zero, List.getElem?_cons_succ]; rfl) (by kernel_rfl) (by kernel_rfl) (by kernel_rfl) (fun _ _ _ h => h) (Or.inl ⟨by rfl, ?_⟩) (by assumption) ?_
      · intro w hSw
        try dsimp only at hSw
        go_simp
      try simp only [Act.put, List.setIfInBounds_toArray, List.set_cons_zero, List.set_cons_succ]
      refine wpAnyH_take (i := 1) (v := .pointer (some ⟨g, 0, none⟩)) (by simp only [List.getElem?_toArray, List.getElem?_cons_zero, List.getElem?_cons_succ]; rfl) (by kernel_rfl) (by kernel_rfl) (by kernel_rfl) (fun _ _ _ h => h) (Or.inl ⟨by rfl, ?_⟩) (by assumption) ?_
      · intro w hSw
        try dsimp only at hSw
        go_simp
      try simp only [Act.put, List.setIfInBounds_toArray, List.set_cons_zero, List.set_cons_succ]
      refine wpAnyH_take (i := 2) (v := .pointer (some ⟨g, 0, none⟩)) (by simp only [List.getElem?_toArray, List.getElem?_cons_zero, List.getElem?_cons_succ]; rfl) (by kernel_rfl) (by kernel_rfl) (by kernel_rfl) (fun _ _ _ h => h) (Or.inl ⟨by rfl, ?_⟩) (by assumption) ?_
      · intro w hSw
        try dsimp only at hSw
        go_simp
      try simp only [Act.put, List.setIfInBounds_toArray, List.set_cons_zero, List.set_cons_succ]
      refine wpAnyH_take (i := 3) (v := .pointer (some ⟨g, 2, none⟩)) (by simp only [List.getElem?_toArray, List.getElem?_cons_zero, List.getElem?_cons_succ]; rfl) (by kernel_rfl) (by kernel_rfl) (by kernel_rfl) (fun _ _ _ h => h) (Or.inl ⟨by rfl, ?_⟩) (by assumption) ?_
      · intro w hSw
        try dsimp only at hSw
        go_simp
      try simp only [Act.put, List.setIfInBounds_toArray, List.set_cons_zero, List.set_cons_succ]
      refine wpAnyH_take (i := 5) (v := .int .u8 far) (by simp only [List.getElem?_toArray, List.getElem?_cons_zero, List.getElem?_cons_succ]; rfl) (by kernel_rfl) (by kernel_rfl) (by kernel_rfl) (fun _ _ _ h => h) (Or.inl ⟨by rfl, ?_⟩) (by assumption) ?_
      · intro w hSw
        try dsimp only at hSw
        go_simp
      try simp only [Act.put, List.setIfInBounds_toArray, List.set_cons_zero, List.set_cons_succ]
      refine wpAnyH_ready (rs := [4, 6]) (by kernel_rfl) (by simp) ?_
      refine AllReadyH.cons (by simp only [List.getElem?_toArray, List.getElem?_cons_zero, List.getElem?_cons_succ]; rfl) (fun K hK => ?_) (AllReadyH.cons (by simp only [List.getElem?_toArray, List.getElem?_cons_zero, List.getElem?_cons_succ]; rfl) (fun K hK => ?_) AllReadyH.nil)
      · go_simp
        refine hK.out _ _ trivial (fun hHeld => ?_)
        clear hK K
        try simp only [Act.put, List.setIfInBounds_toArray, List.set_cons_zero, List.set_cons_succ]
        refine wpAnyH_ready (rs := [6]) (by kernel_rfl) (by simp) ?_
        refine AllReadyH.cons (by simp only [List.getElem?_toArray, List.getElem?_cons_zero, List.getElem?_cons_succ]; rfl) (fun K hK => ?_) AllReadyH.nil
        go_simp
        go_at_call 134
        refine (HK2.out _).mono ?_; rintro e w' ⟨rfl, rfl⟩
        refine hK.out _ _ trivial (fun hHeld => ?_)
        clear hK K
        try simp only [Act.put, List.setIfInBounds_toArray, List.set_cons_zero, List.set_cons_succ]
        refine wpAnyH_ready (rs := [7]) (by kernel_rfl) (by simp) ?_
        refine AllReadyH.cons (by simp only [List.getElem?_toArray, List.getElem?_cons_zero, List.getElem?_cons_succ]; rfl) (fun K hK => ?_) AllReadyH.nil
        go_simp
        refine hK.out _ _ trivial (fun hHeld => ?_)
        clear hK K
        try simp only [Act.put, List.setIfInBounds_toArray, List.set_cons_zero, List.set_cons_succ]
        refine wpAnyH_ready (rs := [8]) (by kernel_rfl) (by simp) ?_
        refine AllReadyH.cons (by simp only [List.getElem?_toArray, List.getElem?_cons_zero, List.getElem?_cons_succ]; rfl) (fun K hK => ?_) AllReadyH.nil
        refine step_append_mn rfl _ _ _ rfl (g + 1) 50 _ 1 1 Try.underlying22 info50 rfl (by omega) (.slice A2 n c2) n (nums .u8 (kl y n)) rfl (T2.out.below (by repeat (first | exact Below.refl _ _ | apply Bw.alloc | apply Bw.drewN | apply Bw.drew | (refine Bw.step ?_ (by assumption))))) _ 1 1 (nums .u8 [(y n : Int)]) rfl (by first | exact rv_one | exact Rv.drew rv_one | exact Rv.drewN rv_one _) (nums_one _ _) (by omega) (by omega) (by have := T1.out.lt; simp; omega) ?_
        intro A5 c5 w5 hc5 hm5 hg5 hat5
        obtain ⟨t1, t2, t3, t4, t5, t6⟩ := half (V1' := .slice A5 (n + 1) c5) hBg'.out T1.out HM3.out T2.out (by repeat (first | exact Below.refl _ _ | apply Bw.alloc | apply Bw.drewN | apply Bw.drew | (refine Bw.step ?_ (by assumption)))) hg5 (by rw [own_map']; exact hat5) (fun k hk e => T3.out k e hk)
        have d2 := t1.cell 2 (.slice A2 n c2) rfl
        have j2 := t1.frozen 2
        have U1 := Lib.hid (t1.set 2 (.slice A5 (n + 1) c5))
        have U2 := Lib.hid (t2.setOther (B := B) (j := 2) (u := .slice A5 (n + 1) c5))
        have U3 := Lib.hid t3
        have U4 := Lib.hid t4
        have U5 := Lib.hid t5
        have U6 := Lib.hid (t6.setCell (p := ⟨g, 2, none⟩) hBg'.out (.slice A5 (n + 1) c5))
        have HM5 := Lib.hid (hm5.setOther (B := B) (j := 2) (u := .slice A5 (n + 1) c5))
        have HC5 := Lib.hid hc5
        have HKP := Lib.hid (show ∀ k, k < w.heap.size → k ≠ g → (Value.slice A1 n c1).ownBlock ≠ some k → (Value.slice A2 n c2).ownBlock ≠ some k → (w5.setCell ⟨g, 2, none⟩ (.slice A5 (n + 1) c5)).heap[k]? = w.heap[k]? from fun k h1 h2 h3 h4 => by rw [setCell_other _ _ _ _ _ h2, t4 k (by have := T6.out.size; omega) h4]; exact T7.out k h1 h2 h3)
        clear t1 t2 t3 t4 t5 t6 hm5 hg5 hat5 hc5
        refine hK.out _ _ trivial (fun hHeld => ?_)
        clear hK K
        try simp only [Act.put, List.setIfInBounds_toArray, List.set_cons_zero, List.set_cons_succ]
        refine wpAnyH_take (i := 9) (v := .pointer (some ⟨g, 0, none⟩)) (by simp only [List.getElem?_toArray, List.getElem?_cons_zero, List.getElem?_cons_succ]; rfl) (by kernel_rfl) (by kernel_rfl) (by kernel_rfl) (fun _ _ _ h => h) (Or.inl ⟨by rfl, ?_⟩) (by assumption) ?_
        · intro w hSw
          try dsimp only at hSw
          go_simp
        try simp only [Act.put, List.setIfInBounds_toArray, List.set_cons_zero, List.set_cons_succ]
        refine wpAnyH_take (i := 10) (v := .pointer (some ⟨g, 2, none⟩)) (by simp only [List.getElem?_toArray, List.getElem?_cons_zero, List.getElem?_cons_succ]; rfl) (by kernel_rfl) (by kernel_rfl) (by kernel_rfl) (fun _ _ _ h => h) (Or.inl ⟨by rfl, ?_⟩) (by assumption) ?_
        · intro w hSw
          try dsimp only at hSw
          go_simp
        try simp only [Act.put, List.setIfInBounds_toArray, List.set_cons_zero, List.set_cons_succ]
        refine wpAnyH_ready (rs := [11]) (by kernel_rfl) (by simp) ?_
        refine AllReadyH.cons (by simp only [List.getElem?_toArray, List.getElem?_cons_zero, List.getElem?_cons_succ]; rfl) (fun K hK => ?_) AllReadyH.nil
        go_simp
        refine hK.out _ _ trivial (fun hHeld => ?_)
        clear hK K
        try simp only [Act.put, List.setIfInBounds_toArray, List.set_cons_zero, List.set_cons_succ]
        refine wpAnyH_done (by kernel_rfl) ?_ _
        refine NoPanic.normal ?_
        generalize (w5.setCell ⟨g, 2, none⟩ (.slice A5 (n + 1) c5)) = w6 at *
        have HRSN := Lib.hid (show RS w6 B g (Value.slice A3 (n + 1) c3).ownBlock (Value.slice A5 (n + 1) c5).ownBlock o (n + 1) x y from ⟨hBg'.out, A3, c3, A5, c5, U1.out, by rw [kl_succ, nums_append]; exact U2.out, by rw [kl_succ, nums_append]; exact HM5.out, HC3.out, HC5.out, by omega, rfl, rfl, fun k h1 h2 => U3.out k h2 h1⟩)
        have HRC := Lib.hid (show RC w6 g o A3 A5 c3 c5 (n + 1) x y from ⟨U1.out, by rw [kl_succ]; exact Mn.rd (by rw [nums_append]; exact U2.out), by rw [kl_succ]; exact Mn.rd (by rw [nums_append]; exact HM5.out), HC3.out, HC5.out, by omega⟩)
        have HSZ := Lib.hid (show w.heap.size ≤ w4.heap.size ∧ w4.heap.size ≤ w6.heap.size from ⟨T6.out.size, U6.out.size⟩)
        have HFIN : Hid (∀ w', Below w6.heap.size w6 w' → ∃ a' b', RS w' B g a' b' o (min (n + 1) 114) x y ∧ KeepR w w' g a b a' b' ∧ Below B w w') := fun w' hb' => by
          rw [show min (n + 1) 114 = n + 1 by omega]
          obtain ⟨hz1, hz2⟩ := HSZ.out
          refine ⟨_, _, HRSN.out.below hb', ⟨fun k h1 h2 h3 h4 => ?_, ?_, ?_⟩, T6.out.trans (U6.out.trans (hb'.mono (by have := HRSN.out.lt; have := hBg'.out; omega)))⟩
          · exact (hb'.block k (by omega)).trans (HKP.out k h1 h2 (by rw [HA.out]; exact h3) (by rw [HBB.out]; exact h4))
          · rcases T5.out with e | e
            · exact .inl (e.trans HA.out)
            · exact .inr e
          · rcases U5.out with e | ⟨q, e, hq⟩
            · exact .inl (e.trans HBB.out)
            · exact .inr ⟨q, e, by omega⟩
        clear d2 j2
        obtain ⟨cu, hcu⟩ : ∃ cu, cuF x y (n + 1) = cu := ⟨_, rfl⟩
        have HCUT : Hid (Calls Try.prog 135 #[.pointer (some ⟨g, 0, none⟩), .int .i64 ((n : Int) + 1)] w6 fun e w' => e = .returned (.bool cu) ∧ w6 = w') := by
          have := cut_calls HRC.out (n + 1) (Nat.le_refl _)
          rw [hcu, show ((n + 1 : Nat) : Int) = (n : Int) + 1 by omega] at this
          exact this
        have HCU := Lib.hid hcu
        clear hcu
        cases cu with
        | true =>
          have HO := Lib.hid (show outF o x y n = 0 by unfold outF; rw [if_pos HCU.out])
          go_wp2_with fail
          refine HCUT.out.mono ?_; rintro e w' ⟨rfl, rfl⟩
          go_wp2
          go_ret
          exact ⟨by rw [HO.out]; rfl, HFIN.out _ (Below.refl _ _)⟩
        | false =>
          by_cases h112 : n < 112
          · have HO := Lib.hid (show outF o x y n = bdF x y n by unfold outF; rw [if_neg (by rw [HCU.out]; simp), if_pos h112])
            have HBD := Lib.hid (body_calls HRC.out n (Nat.lt_succ_self n))
            go_wp2_with fail
            refine HCUT.out.mono ?_; rintro e w' ⟨rfl, rfl⟩
            go_wp2_with fail
            refine HBD.out.mono ?_; rintro e w' ⟨rfl, rfl⟩
            go_wp2
            go_ret
            exact ⟨by rw [HO.out]; rfl, HFIN.out _ (Below.refl _ _)⟩
          · by_cases h112' : n = 112
            · subst h112'
              obtain ⟨wh, hwh⟩ : ∃ wh, whF o x y = wh := ⟨_, rfl⟩
              have HO := Lib.hid (show outF o x y 112 = sy wh by unfold outF; rw [if_neg (by rw [HCU.out]; simp), if_neg (by omega), if_pos rfl, hwh])
              have HWH := Lib.hid (rwhole_calls HRC.out (by omega))
              rw [hwh] at HWH
              clear hwh
              cases wh
              all_goals
                go_wp2_with fail
                refine HCUT.out.mono ?_; rintro e w' ⟨rfl, rfl⟩
                go_wp2_with fail
                refine HWH.out.mono ?_; rintro e w7 ⟨rfl, hb7⟩
                go_wp2
                go_ret
                exact ⟨by rw [HO.out]; rfl, HFIN.out _ hb7⟩
            · have h113 : n = 113 := by omega
              subst h113
              obtain ⟨hi, hhi⟩ : ∃ hi, hiF o x y = hi := ⟨_, rfl⟩
              have HO := Lib.hid (show outF o x y 113 = sy (!hi) by unfold outF; rw [if_neg (by rw [HCU.out]; simp), if_neg (by omega), if_neg (by omega), if_pos rfl, hhi])
              have HRH := Lib.hid (rhigh_calls HRC.out)
              obtain ⟨L, hL⟩ : ∃ L, hiB o x y (113 + 1) = L := ⟨_, rfl⟩
              rw [hL, show hiP o x y (113 + 1) = hiF o x y from rfl, hhi] at HRH
              clear hhi hL
              cases hi
              all_goals
                go_wp2_with fail
                refine HCUT.out.mono ?_; rintro e w' ⟨rfl, rfl⟩
                go_wp2_with fail
                refine HRH.out.mono ?_; rintro e w7 ⟨rfl, hb7⟩
                unfold f5
                go_wp2
                go_ret
                exact ⟨by rw [HO.out]; rfl, HFIN.out _ (Bw.alloc hb7 _)⟩
      · go_simp
        go_at_call 134
        refine (HK2.out _).mono ?_; rintro e w' ⟨rfl, rfl⟩
        refine hK.out _ _ trivial (fun hHeld => ?_)
        clear hK K
        try simp only [Act.put, List.setIfInBounds_toArray, List.set_cons_zero, List.set_cons_succ]
        refine wpAnyH_ready (rs := [4, 7]) (by kernel_rfl) (by simp) ?_
        refine AllReadyH.cons (by simp only [List.getElem?_toArray, List.getElem?_cons_zero, List.getElem?_cons_succ]; rfl) (fun K hK => ?_) (AllReadyH.cons (by simp only [List.getElem?_toArray, List.getElem?_cons_zero, List.getElem?_cons_succ]; rfl) (fun K hK => ?_) AllReadyH.nil)
        · go_simp
          refine hK.out _ _ trivial (fun hHeld => ?_)
          clear hK K
          try simp only [Act.put, List.setIfInBounds_toArray, List.set_cons_zero, List.set_cons_succ]
          refine wpAnyH_ready (rs := [7]) (by kernel_rfl) (by simp) ?_
          refine AllReadyH.cons (by simp only [List.getElem?_toArray, List.getElem?_cons_zero, List.getElem?_cons_succ]; rfl) (fun K hK => ?_) AllReadyH.nil
          go_simp
          refine hK.out _ _ trivial (fun hHeld => ?_)
          clear hK K
          try simp only [Act.put, List.setIfInBounds_toArray, List.set_cons_zero, List.set_cons_succ]
          refine wpAnyH_ready (rs := [8]) (by kernel_rfl) (by simp) ?_
          refine AllReadyH.cons (by simp only [List.getElem?_toArray, List.getElem?_cons_zero, List.getElem?_cons_succ]; rfl) (fun K hK => ?_) AllReadyH.nil
          refine step_append_mn rfl _ _ _ rfl (g + 1) 50 _ 1 1 Try.underlying22 info50 rfl (by omega) (.slice A2 n c2) n (nums .u8 (kl y n)) rfl (T2.out.below (by repeat (first | exact Below.refl _ _ | apply Bw.alloc | apply Bw.drewN | apply Bw.drew | (refine Bw.step ?_ (by assumption))))) _ 1 1 (nums .u8 [(y n : Int)]) rfl (by first | exact rv_one | exact Rv.drew rv_one | exact Rv.drewN rv_one _) (nums_one _ _) (by omega) (by omega) (by have := T1.out.lt; simp; omega) ?_
          intro A5 c5 w5 hc5 hm5 hg5 hat5
          obtain ⟨t1, t2, t3, t4, t5, t6⟩ := half (V1' := .slice A5 (n + 1) c5) hBg'.out T1.out HM3.out T2.out (by repeat (first | exact Below.refl _ _ | apply Bw.alloc | apply Bw.drewN | apply Bw.drew | (refine Bw.step ?_ (by assumption)))) hg5 (by rw [own_map']; exact hat5) (fun k hk e => T3.out k e hk)
          have d2 := t1.cell 2 (.slice A2 n c2) rfl
          have j2 := t1.frozen 2
          have U1 := Lib.hid (t1.set 2 (.slice A5 (n + 1) c5))
          have U2 := Lib.hid (t2.setOther (B := B) (j := 2) (u := .slice A5 (n + 1) c5))
          have U3 := Lib.hid t3
          have U4 := Lib.hid t4
          have U5 := Lib.hid t5
          have U6 := Lib.hid (t6.setCell (p := ⟨g, 2, none⟩) hBg'.out (.slice A5 (n + 1) c5))
          have HM5 := Lib.hid (hm5.setOther (B := B) (j := 2) (u := .slice A5 (n + 1) c5))
          have HC5 := Lib.hid hc5
          have HKP := Lib.hid (show ∀ k, k < w.heap.size → k ≠ g → (Value.slice A1 n c1).ownBlock ≠ some k → (Value.slice A2 n c2).ownBlock ≠ some k → (w5.setCell ⟨g, 2, none⟩ (.slice A5 (n + 1) c5)).heap[k]? = w.heap[k]? from fun k h1 h2 h3 h4 => by rw [setCell_other _ _ _ _ _ h2, t4 k (by have := T6.out.size; omega) h4]; exact T7.out k h1 h2 h3)
          clear t1 t2 t3 t4 t5 t6 hm5 hg5 hat5 hc5
          refine hK.out _ _ trivial (fun hHeld => ?_)
          clear hK K
          try simp only [Act.put, List.setIfInBounds_toArray, List.set_cons_zero, List.set_cons_succ]
          refine wpAnyH_take (i := 9) (v := .pointer (some ⟨g, 0, none⟩)) (by simp only [List.getElem?_toArray, List.getElem?_cons_zero, List.getElem?_cons_succ]; rfl) (by kernel_rfl) (by kernel_rfl) (by kernel_rfl) (fun _ _ _ h => h) (Or.inl ⟨by rfl, ?_⟩) (by assumption) ?_
          · intro w hSw
            try dsimp only at hSw
            go_simp
          try simp only [Act.put, List.setIfInBounds_toArray, List.set_cons_zero, List.set_cons_succ]
          refine wpAnyH_take (i := 10) (v := .pointer (some ⟨g, 2, none⟩)) (by simp only [List.getElem?_toArray, List.getElem?_cons_zero, List.getElem?_cons_succ]; rfl) (by kernel_rfl) (by kernel_rfl) (by kernel_rfl) (fun _ _ _ h => h) (Or.inl ⟨by rfl, ?_⟩) (by assumption) ?_
          · intro w hSw
            try dsimp only at hSw
            go_simp
          try simp only [Act.put, List.setIfInBounds_toArray, List.set_cons_zero, List.set_cons_succ]
          refine wpAnyH_ready (rs := [11]) (by kernel_rfl) (by simp) ?_
          refine AllReadyH.cons (by simp only [List.getElem?_toArray, List.getElem?_cons_zero, List.getElem?_cons_succ]; rfl) (fun K hK => ?_) AllReadyH.nil
          go_simp
          refine hK.out _ _ trivial (fun hHeld => ?_)
          clear hK K
          try simp only [Act.put, List.setIfInBounds_toArray, List.set_cons_zero, List.set_cons_succ]
          refine wpAnyH_done (by kernel_rfl) ?_ _
          refine NoPanic.normal ?_
          generalize (w5.setCell ⟨g, 2, none⟩ (.slice A5 (n + 1) c5)) = w6 at *
          have HRSN := Lib.hid (show RS w6 B g (Value.slice A3 (n + 1) c3).ownBlock (Value.slice A5 (n + 1) c5).ownBlock o (n + 1) x y from ⟨hBg'.out, A3, c3, A5, c5, U1.out, by rw [kl_succ, nums_append]; exact U2.out, by rw [kl_succ, nums_append]; exact HM5.out, HC3.out, HC5.out, by omega, rfl, rfl, fun k h1 h2 => U3.out k h2 h1⟩)
          have HRC := Lib.hid (show RC w6 g o A3 A5 c3 c5 (n + 1) x y from ⟨U1.out, by rw [kl_succ]; exact Mn.rd (by rw [nums_append]; exact U2.out), by rw [kl_succ]; exact Mn.rd (by rw [nums_append]; exact HM5.out), HC3.out, HC5.out, by omega⟩)
          have HSZ := Lib.hid (show w.heap.size ≤ w4.heap.size ∧ w4.heap.size ≤ w6.heap.size from ⟨T6.out.size, U6.out.size⟩)
          have HFIN : Hid (∀ w', Below w6.heap.size w6 w' → ∃ a' b', RS w' B g a' b' o (min (n + 1) 114) x y ∧ KeepR w w' g a b a' b' ∧ Below B w w') := fun w' hb' => by
            rw [show min (n + 1) 114 = n + 1 by omega]
            obtain ⟨hz1, hz2⟩ := HSZ.out
            refine ⟨_, _, HRSN.out.below hb', ⟨fun k h1 h2 h3 h4 => ?_, ?_, ?_⟩, T6.out.trans (U6.out.trans (hb'.mono (by have := HRSN.out.lt; have := hBg'.out; omega)))⟩
            · exact (hb'.block k (by omega)).trans (HKP.out k h1 h2 (by rw [HA.out]; exact h3) (by rw [HBB.out]; exact h4))
            · rcases T5.out with e | e
              · exact .inl (e.trans HA.out)
              · exact .inr e
            · rcases U5.out with e | ⟨q, e, hq⟩
              · exact .inl (e.trans HBB.out)
              · exact .inr ⟨q, e, by omega⟩
          clear d2 j2
          obtain ⟨cu, hcu⟩ : ∃ cu, cuF x y (n + 1) = cu := ⟨_, rfl⟩
          have HCUT : Hid (Calls Try.prog 135 #[.pointer (some ⟨g, 0, none⟩), .int .i64 ((n : Int) + 1)] w6 fun e w' => e = .returned (.bool cu) ∧ w6 = w') := by
            have := cut_calls HRC.out (n + 1) (Nat.le_refl _)
            rw [hcu, show ((n + 1 : Nat) : Int) = (n : Int) + 1 by omega] at this
            exact this
          have HCU := Lib.hid hcu
          clear hcu
          cases cu with
          | true =>
            have HO := Lib.hid (show outF o x y n = 0 by unfold outF; rw [if_pos HCU.out])
            go_wp2_with fail
            refine HCUT.out.mono ?_; rintro e w' ⟨rfl, rfl⟩
            go_wp2
            go_ret
            exact ⟨by rw [HO.out]; rfl, HFIN.out _ (Below.refl _ _)⟩
          | false =>
            by_cases h112 : n < 112
            · have HO := Lib.hid (show outF o x y n = bdF x y n by unfold outF; rw [if_neg (by rw [HCU.out]; simp), if_pos h112])
              have HBD := Lib.hid (body_calls HRC.out n (Nat.lt_succ_self n))
              go_wp2_with fail
              refine HCUT.out.mono ?_; rintro e w' ⟨rfl, rfl⟩
              go_wp2_with fail
              refine HBD.out.mono ?_; rintro e w' ⟨rfl, rfl⟩
              go_wp2
              go_ret
              exact ⟨by rw [HO.out]; rfl, HFIN.out _ (Below.refl _ _)⟩
            · by_cases h112' : n = 112
              · subst h112'
                obtain ⟨wh, hwh⟩ : ∃ wh, whF o x y = wh := ⟨_, rfl⟩
                have HO := Lib.hid (show outF o x y 112 = sy wh by unfold outF; rw [if_neg (by rw [HCU.out]; simp), if_neg (by omega), if_pos rfl, hwh])
                have HWH := Lib.hid (rwhole_calls HRC.out (by omega))
                rw [hwh] at HWH
                clear hwh
                cases wh
                all_goals
                  go_wp2_with fail
                  refine HCUT.out.mono ?_; rintro e w' ⟨rfl, rfl⟩
                  go_wp2_with fail
                  refine HWH.out.mono ?_; rintro e w7 ⟨rfl, hb7⟩
                  go_wp2
                  go_ret
                  exact ⟨by rw [HO.out]; rfl, HFIN.out _ hb7⟩
              · have h113 : n = 113 := by omega
                subst h113
                obtain ⟨hi, hhi⟩ : ∃ hi, hiF o x y = hi := ⟨_, rfl⟩
                have HO := Lib.hid (show outF o x y 113 = sy (!hi) by unfold outF; rw [if_neg (by rw [HCU.out]; simp), if_neg (by omega), if_neg (by omega), if_pos rfl, hhi])
                have HRH := Lib.hid (rhigh_calls HRC.out)
                obtain ⟨L, hL⟩ : ∃ L, hiB o x y (113 + 1) = L := ⟨_, rfl⟩
                rw [hL, show hiP o x y (113 + 1) = hiF o x y from rfl, hhi] at HRH
                clear hhi hL
                cases hi
                all_goals
                  go_wp2_with fail
                  refine HCUT.out.mono ?_; rintro e w' ⟨rfl, rfl⟩
                  go_wp2_with fail
                  refine HRH.out.mono ?_; rintro e w7 ⟨rfl, hb7⟩
                  unfold f5
                  go_wp2
                  go_ret
                  exact ⟨by rw [HO.out]; rfl, HFIN.out _ (Bw.alloc hb7 _)⟩
        · go_simp
          refine hK.out _ _ trivial (fun hHeld => ?_)
          clear hK K
          try simp only [Act.put, List.setIfInBounds_toArray, List.set_cons_zero, List.set_cons_succ]
          have d2z := (T1.out.below (show Below w4.heap.size w4 (w4.alloc (.cells #[.int .u8 (y n)] 50)) from (by repeat (first | exact Below.refl _ _ | apply Bw.alloc | apply Bw.drewN | apply Bw.drew | (refine Bw.step ?_ (by assumption)))))).cell 2 (.slice A2 n c2) rfl
          refine wpAnyH_ready (rs := [4]) (by kernel_rfl) (by simp) ?_
          refine AllReadyH.cons (by simp only [List.getElem?_toArray, List.getElem?_cons_zero, List.getElem?_cons_succ]; rfl) (fun K hK => ?_) AllReadyH.nil
          go_simp
          refine hK.out _ _ trivial (fun hHeld => ?_)
          clear hK K
          try simp only [Act.put, List.setIfInBounds_toArray, List.set_cons_zero, List.set_cons_succ]
          refine wpAnyH_ready (rs := [8]) (by kernel_rfl) (by simp) ?_
          refine AllReadyH.cons (by simp only [List.getElem?_toArray, List.getElem?_cons_zero, List.getElem?_cons_succ]; rfl) (fun K hK => ?_) AllReadyH.nil
          refine step_append_mn rfl _ _ _ rfl (g + 1) 50 _ 1 1 Try.underlying22 info50 rfl (by omega) (.slice A2 n c2) n (nums .u8 (kl y n)) rfl (T2.out.below (by repeat (first | exact Below.refl _ _ | apply Bw.alloc | apply Bw.drewN | apply Bw.drew | (refine Bw.step ?_ (by assumption))))) _ 1 1 (nums .u8 [(y n : Int)]) rfl (by first | exact rv_one | exact Rv.drew rv_one | exact Rv.drewN rv_one _) (nums_one _ _) (by omega) (by omega) (by have := T1.out.lt; simp; omega) ?_
          intro A5 c5 w5 hc5 hm5 hg5 hat5
          obtain ⟨t1, t2, t3, t4, t5, t6⟩ := half (V1' := .slice A5 (n + 1) c5) hBg'.out T1.out HM3.out T2.out (by repeat (first | exact Below.refl _ _ | apply Bw.alloc | apply Bw.drewN | apply Bw.drew | (refine Bw.step ?_ (by assumption)))) hg5 (by rw [own_map']; exact hat5) (fun k hk e => T3.out k e hk)
          have d2 := t1.cell 2 (.slice A2 n c2) rfl
          have j2 := t1.frozen 2
          have U1 := Lib.hid (t1.set 2 (.slice A5 (n + 1) c5))
          have U2 := Lib.hid (t2.setOther (B := B) (j := 2) (u := .slice A5 (n + 1) c5))
          have U3 := Lib.hid t3
          have U4 := Lib.hid t4
          have U5 := Lib.hid t5
          have U6 := Lib.hid (t6.setCell (p := ⟨g, 2, none⟩) hBg'.out (.slice A5 (n + 1) c5))
          have HM5 := Lib.hid (hm5.setOther (B := B) (j := 2) (u := .slice A5 (n + 1) c5))
          have HC5 := Lib.hid hc5
          have HKP := Lib.hid (show ∀ k, k < w.heap.size → k ≠ g → (Value.slice A1 n c1).ownBlock ≠ some k → (Value.slice A2 n c2).ownBlock ≠ some k → (w5.setCell ⟨g, 2, none⟩ (.slice A5 (n + 1) c5)).heap[k]? = w.heap[k]? from fun k h1 h2 h3 h4 => by rw [setCell_other _ _ _ _ _ h2, t4 k (by have := T6.out.size; omega) h4]; exact T7.out k h1 h2 h3)
          clear t1 t2 t3 t4 t5 t6 hm5 hg5 hat5 hc5
          refine hK.out _ _ trivial (fun hHeld => ?_)
          clear hK K
          try simp only [Act.put, List.setIfInBounds_toArray, List.set_cons_zero, List.set_cons_succ]
          refine wpAnyH_take (i := 9) (v := .pointer (some ⟨g, 0, none⟩)) (by simp only [List.getElem?_toArray, List.getElem?_cons_zero, List.getElem?_cons_succ]; rfl) (by kernel_rfl) (by kernel_rfl) (by kernel_rfl) (fun _ _ _ h => h) (Or.inl ⟨by rfl, ?_⟩) (by assumption) ?_
          · intro w hSw
            try dsimp only at hSw
            go_simp
          try simp only [Act.put, List.setIfInBounds_toArray, List.set_cons_zero, List.set_cons_succ]
          refine wpAnyH_take (i := 10) (v := .pointer (some ⟨g, 2, none⟩)) (by simp only [List.getElem?_toArray, List.getElem?_cons_zero, List.getElem?_cons_succ]; rfl) (by kernel_rfl) (by kernel_rfl) (by kernel_rfl) (fun _ _ _ h => h) (Or.inl ⟨by rfl, ?_⟩) (by assumption) ?_
          · intro w hSw
            try dsimp only at hSw
            go_simp
          try simp only [Act.put, List.setIfInBounds_toArray, List.set_cons_zero, List.set_cons_succ]
          refine wpAnyH_ready (rs := [11]) (by kernel_rfl) (by simp) ?_
          refine AllReadyH.cons (by simp only [List.getElem?_toArray, List.getElem?_cons_zero, List.getElem?_cons_succ]; rfl) (fun K hK => ?_) AllReadyH.nil
          go_simp
          refine hK.out _ _ trivial (fun hHeld => ?_)
          clear hK K
          try simp only [Act.put, List.setIfInBounds_toArray, List.set_cons_zero, List.set_cons_succ]
          refine wpAnyH_done (by kernel_rfl) ?_ _
          refine NoPanic.normal ?_
          generalize (w5.setCell ⟨g, 2, none⟩ (.slice A5 (n + 1) c5)) = w6 at *
          have HRSN := Lib.hid (show RS w6 B g (Value.slice A3 (n + 1) c3).ownBlock (Value.slice A5 (n + 1) c5).ownBlock o (n + 1) x y from ⟨hBg'.out, A3, c3, A5, c5, U1.out, by rw [kl_succ, nums_append]; exact U2.out, by rw [kl_succ, nums_append]; exact HM5.out, HC3.out, HC5.out, by omega, rfl, rfl, fun k h1 h2 => U3.out k h2 h1⟩)
          have HRC := Lib.hid (show RC w6 g o A3 A5 c3 c5 (n + 1) x y from ⟨U1.out, by rw [kl_succ]; exact Mn.rd (by rw [nums_append]; exact U2.out), by rw [kl_succ]; exact Mn.rd (by rw [nums_append]; exact HM5.out), HC3.out, HC5.out, by omega⟩)
          have HSZ := Lib.hid (show w.heap.size ≤ w4.heap.size ∧ w4.heap.size ≤ w6.heap.size from ⟨T6.out.size, U6.out.size⟩)
          have HFIN : Hid (∀ w', Below w6.heap.size w6 w' → ∃ a' b', RS w' B g a' b' o (min (n + 1) 114) x y ∧ KeepR w w' g a b a' b' ∧ Below B w w') := fun w' hb' => by
            rw [show min (n + 1) 114 = n + 1 by omega]
            obtain ⟨hz1, hz2⟩ := HSZ.out
            refine ⟨_, _, HRSN.out.below hb', ⟨fun k h1 h2 h3 h4 => ?_, ?_, ?_⟩, T6.out.trans (U6.out.trans (hb'.mono (by have := HRSN.out.lt; have := hBg'.out; omega)))⟩
            · exact (hb'.block k (by omega)).trans (HKP.out k h1 h2 (by rw [HA.out]; exact h3) (by rw [HBB.out]; exact h4))
            · rcases T5.out with e | e
              · exact .inl (e.trans HA.out)
              · exact .inr e
            · rcases U5.out with e | ⟨q, e, hq⟩
              · exact .inl (e.trans HBB.out)
              · exact .inr ⟨q, e, by omega⟩
          clear d2 j2
          obtain ⟨cu, hcu⟩ : ∃ cu, cuF x y (n + 1) = cu := ⟨_, rfl⟩
          have HCUT : Hid (Calls Try.prog 135 #[.pointer (some ⟨g, 0, none⟩), .int .i64 ((n : Int) + 1)] w6 fun e w' => e = .returned (.bool cu) ∧ w6 = w') := by
            have := cut_calls HRC.out (n + 1) (Nat.le_refl _)
            rw [hcu, show ((n + 1 : Nat) : Int) = (n : Int) + 1 by omega] at this
            exact this
          have HCU := Lib.hid hcu
          clear hcu
          cases cu with
          | true =>
            have HO := Lib.hid (show outF o x y n = 0 by unfold outF; rw [if_pos HCU.out])
            go_wp2_with fail
            refine HCUT.out.mono ?_; rintro e w' ⟨rfl, rfl⟩
            go_wp2
            go_ret
            exact ⟨by rw [HO.out]; rfl, HFIN.out _ (Below.refl _ _)⟩
          | false =>
            by_cases h112 : n < 112
            · have HO := Lib.hid (show outF o x y n = bdF x y n by unfold outF; rw [if_neg (by rw [HCU.out]; simp), if_pos h112])
              have HBD := Lib.hid (body_calls HRC.out n (Nat.lt_succ_self n))
              go_wp2_with fail
              refine HCUT.out.mono ?_; rintro e w' ⟨rfl, rfl⟩
              go_wp2_with fail
              refine HBD.out.mono ?_; rintro e w' ⟨rfl, rfl⟩
              go_wp2
              go_ret
              exact ⟨by rw [HO.out]; rfl, HFIN.out _ (Below.refl _ _)⟩
            · by_cases h112' : n = 112
              · subst h112'
                obtain ⟨wh, hwh⟩ : ∃ wh, whF o x y = wh := ⟨_, rfl⟩
                have HO := Lib.hid (show outF o x y 112 = sy wh by unfold outF; rw [if_neg (by rw [HCU.out]; simp), if_neg (by omega), if_pos rfl, hwh])
                have HWH := Lib.hid (rwhole_calls HRC.out (by omega))
                rw [hwh] at HWH
                clear hwh
                cases wh
                all_goals
                  go_wp2_with fail
                  refine HCUT.out.mono ?_; rintro e w' ⟨rfl, rfl⟩
                  go_wp2_with fail
                  refine HWH.out.mono ?_; rintro e w7 ⟨rfl, hb7⟩
                  go_wp2
                  go_ret
                  exact ⟨by rw [HO.out]; rfl, HFIN.out _ hb7⟩
              · have h113 : n = 113 := by omega
                subst h113
                obtain ⟨hi, hhi⟩ : ∃ hi, hiF o x y = hi := ⟨_, rfl⟩
                have HO := Lib.hid (show outF o x y 113 = sy (!hi) by unfold outF; rw [if_neg (by rw [HCU.out]; simp), if_neg (by omega), if_neg (by omega), if_pos rfl, hhi])
                have HRH := Lib.hid (rhigh_calls HRC.out)
                obtain ⟨L, hL⟩ : ∃ L, hiB o x y (113 + 1) = L := ⟨_, rfl⟩
                rw [hL, show hiP o x y (113 + 1) = hiF o x y from rfl, hhi] at HRH
                clear hhi hL
                cases hi
                all_goals
                  go_wp2_with fail
                  refine HCUT.out.mono ?_; rintro e w' ⟨rfl, rfl⟩
                  go_wp2_with fail
                  refine HRH.out.mono ?_; rintro e w7 ⟨rfl, hb7⟩
                  unfold f5
                  go_wp2
                  go_ret
                  exact ⟨by rw [HO.out]; rfl, HFIN.out _ (Bw.alloc hb7 _)⟩
    · go_simp
      go_at_call 134
      refine (HK1.out _).mono ?_; rintro e w' ⟨rfl, rfl⟩
      refine hK.out _ _ trivial (fun hHeld => ?_)
      clear hK K
      try simp only [Act.put, List.setIfInBounds_toArray, List.set_cons_zero, List.set_cons_succ]
      refine wpAnyH_ready (rs := [4, 7]) (by kernel_rfl) (by simp) ?_
      refine AllReadyH.cons (by simp only [List.getElem?_toArray, List.getElem?_cons_zero, List.getElem?_cons_succ]; rfl) (fun K hK => ?_) (AllReadyH.cons (by simp only [List.getElem?_toArray, List.getElem?_cons_zero, List.getElem?_cons_succ]; rfl) (fun K hK => ?_) AllReadyH.nil)
      · go_simp
        refine hK.out _ _ trivial (fun hHeld => ?_)
        clear hK K
        try simp only [Act.put, List.setIfInBounds_toArray, List.set_cons_zero, List.set_cons_succ]
        refine wpAnyH_ready (rs := [7]) (by kernel_rfl) (by simp) ?_
        refine AllReadyH.cons (by simp only [List.getElem?_toArray, List.getElem?_cons_zero, List.getElem?_cons_succ]; rfl) (fun K hK => ?_) AllReadyH.nil
        go_simp
        refine hK.out _ _ trivial (fun hHeld => ?_)
        clear hK K
        try simp only [Act.put, List.setIfInBounds_toArray, List.set_cons_zero, List.set_cons_succ]
        refine wpAnyH_ready (rs := [8]) (by kernel_rfl) (by simp) ?_
        refine AllReadyH.cons (by simp only [List.getElem?_toArray, List.getElem?_cons_zero, List.getElem?_cons_succ]; rfl) (fun K hK => ?_) AllReadyH.nil
        refine step_append_mn rfl _ _ _ rfl (g + 1) 50 _ 1 1 Try.underlying22 info50 rfl (by omega) (.slice A1 n c1) n (nums .u8 (kl x n)) rfl (HM1.out.below (by repeat (first | exact Below.refl _ _ | apply Bw.alloc | apply Bw.drewN | apply Bw.drew | (refine Bw.step ?_ (by assumption))))) _ 1 1 (nums .u8 [(x n : Int)]) rfl (by first | exact rv_one | exact Rv.drew rv_one | exact Rv.drewN rv_one _) (nums_one _ _) (by omega) (by omega) (by have := HLT.out; simp; omega) ?_
        intro A3 c3 w3 hc3 hm3 hg3 hat3
        obtain ⟨t1, t2, t3, t4, t5, t6⟩ := half (V1' := .slice A3 (n + 1) c3) hBg'.out HBL.out HM2.out HM1.out (by repeat (first | exact Below.refl _ _ | apply Bw.alloc | apply Bw.drewN | apply Bw.drew | (refine Bw.step ?_ (by assumption)))) hg3 (by rw [own_map']; exact hat3) HD.out
        have d1 := t1.cell 1 (.slice A1 n c1) rfl
        have j1 := t1.frozen 1
        have T1 := Lib.hid (t1.set 1 (.slice A3 (n + 1) c3))
        have T2 := Lib.hid (t2.setOther (B := B) (j := 1) (u := .slice A3 (n + 1) c3))
        have T3 := Lib.hid t3
        have T4 := Lib.hid t4
        have T5 := Lib.hid t5
        have T6 := Lib.hid (t6.setCell (p := ⟨g, 1, none⟩) hBg'.out (.slice A3 (n + 1) c3))
        have HM3 := Lib.hid (hm3.setOther (B := B) (j := 1) (u := .slice A3 (n + 1) c3))
        have HC3 := Lib.hid hc3
        clear t1 t2 t3 t4 t5 t6 hm3 hg3 hat3 hc3
        refine hK.out _ _ trivial (fun hHeld => ?_)
        clear hK K
        try simp only [Act.put, List.setIfInBounds_toArray, List.set_cons_zero, List.set_cons_succ]
        refine wpAnyH_take (i := 9) (v := .pointer (some ⟨g, 0, none⟩)) (by simp only [List.getElem?_toArray, List.getElem?_cons_zero, List.getElem?_cons_succ]; rfl) (by kernel_rfl) (by kernel_rfl) (by kernel_rfl) (fun _ _ _ h => h) (Or.inl ⟨by rfl, ?_⟩) (by assumption) ?_
        · intro w hSw
          try dsimp only at hSw
          go_simp
        try simp only [Act.put, List.setIfInBounds_toArray, List.set_cons_zero, List.set_cons_succ]
        refine wpAnyH_take (i := 10) (v := .pointer (some ⟨g, 1, none⟩)) (by simp only [List.getElem?_toArray, List.getElem?_cons_zero, List.getElem?_cons_succ]; rfl) (by kernel_rfl) (by kernel_rfl) (by kernel_rfl) (fun _ _ _ h => h) (Or.inl ⟨by rfl, ?_⟩) (by assumption) ?_
        · intro w hSw
          try dsimp only at hSw
          go_simp
        try simp only [Act.put, List.setIfInBounds_toArray, List.set_cons_zero, List.set_cons_succ]
        refine wpAnyH_ready (rs := [11]) (by kernel_rfl) (by simp) ?_
        refine AllReadyH.cons (by simp only [List.getElem?_toArray, List.getElem?_cons_zero, List.getElem?_cons_succ]; rfl) (fun K hK => ?_) AllReadyH.nil
        go_simp
        refine hK.out _ _ trivial (fun hHeld => ?_)
        clear hK K
        try simp only [Act.put, List.setIfInBounds_toArray, List.set_cons_zero, List.set_cons_succ]
        refine wpAnyH_done (by kernel_rfl) ?_ _
        refine NoPanic.normal ?_
        have T7 := Lib.hid (show ∀ k, k < w.heap.size → k ≠ g → (Value.slice A1 n c1).ownBlock ≠ some k → (w3.setCell ⟨g, 1, none⟩ (.slice A3 (n + 1) c3)).heap[k]? = w.heap[k]? from fun k h1 h2 h3 => by rw [setCell_other _ _ _ _ _ h2, T4.out k h1 h3])
        clear T4
        generalize (w3.setCell ⟨g, 1, none⟩ (.slice A3 (n + 1) c3)) = w4 at *
        clear d1 j1
        have d2 := T1.out.cell 2 (.slice A2 n c2) rfl
        go_wp2_with fail
        refine wp_region_noPanic ?_
        refine wp_region_held_drew (S := fun _ => True) (by kernel_rfl) trivial (fun hHeld => ?_)
        refine wpAnyH_take (i := 0) (v := .pointer (some ⟨g, 0, none⟩)) (by simp only [List.getElem?_toArray, List.getElem?_cons_zero, List.getElem?_cons_succ]; rfl) (by kernel_rfl) (by kernel_rfl) (by kernel_rfl) (fun _ _ _ h => h) (Or.inl ⟨by rfl, ?_⟩) (by assumption) ?_
        · intro w hSw
          try dsimp only at hSw
          go_simp
        try simp only [Act.put, List.setIfInBounds_toArray, List.set_cons_zero, List.set_cons_succ]
        refine wpAnyH_take (i := 1) (v := .pointer (some ⟨g, 0, none⟩)) (by simp only [List.getElem?_toArray, List.getElem?_cons_zero, List.getElem?_cons_succ]; rfl) (by kernel_rfl) (by kernel_rfl) (by kernel_rfl) (fun _ _ _ h => h) (Or.inl ⟨by rfl, ?_⟩) (by assumption) ?_
        · intro w hSw
          try dsimp only at hSw
          go_simp
        try simp only [Act.put, List.setIfInBounds_toArray, List.set_cons_zero, List.set_cons_succ]
        refine wpAnyH_take (i := 2) (v := .pointer (some ⟨g, 0, none⟩)) (by simp only [List.getElem?_toArray, List.getElem?_cons_zero, List.getElem?_cons_succ]; rfl) (by kernel_rfl) (by kernel_rfl) (by kernel_rfl) (fun _ _ _ h => h) (Or.inl ⟨by rfl, ?_⟩) (by assumption) ?_
        · intro w hSw
          try dsimp only at hSw
          go_simp
        try simp only [Act.put, List.setIfInBounds_toArray, List.set_cons_zero, List.set_cons_succ]
        refine wpAnyH_take (i := 3) (v := .pointer (some ⟨g, 2, none⟩)) (by simp only [List.getElem?_toArray, List.getElem?_cons_zero, List.getElem?_cons_succ]; rfl) (by kernel_rfl) (by kernel_rfl) (by kernel_rfl) (fun _ _ _ h => h) (Or.inl ⟨by rfl, ?_⟩) (by assumption) ?_
        · intro w hSw
          try dsimp only at hSw
          go_simp
        try simp only [Act.put, List.setIfInBounds_toArray, List.set_cons_zero, List.set_cons_succ]
        refine wpAnyH_take (i := 5) (v := .int .u8 far) (by simp only [List.getElem?_toArray, List.getElem?_cons_zero, List.getElem?_cons_succ]; rfl) (by kernel_rfl) (by kernel_rfl) (by kernel_rfl) (fun _ _ _ h => h) (Or.inl ⟨by rfl, ?_⟩) (by assumption) ?_
        · intro w hSw
          try dsimp only at hSw
          go_simp
        try simp only [Act.put, List.setIfInBounds_toArray, List.set_cons_zero, List.set_cons_succ]
        refine wpAnyH_ready (rs := [4, 6]) (by kernel_rfl) (by simp) ?_
        refine AllReadyH.cons (by simp only [List.getElem?_toArray, List.getElem?_cons_zero, List.getElem?_cons_succ]; rfl) (fun K hK => ?_) (AllReadyH.cons (by simp only [List.getElem?_toArray, List.getElem?_cons_zero, List.getElem?_cons_succ]; rfl) (fun K hK => ?_) AllReadyH.nil)
        · go_simp
          refine hK.out _ _ trivial (fun hHeld => ?_)
          clear hK K
          try simp only [Act.put, List.setIfInBounds_toArray, List.set_cons_zero, List.set_cons_succ]
          refine wpAnyH_ready (rs := [6]) (by kernel_rfl) (by simp) ?_
          refine AllReadyH.cons (by simp only [List.getElem?_toArray, List.getElem?_cons_zero, List.getElem?_cons_succ]; rfl) (fun K hK => ?_) AllReadyH.nil
          go_simp
          go_at_call 134
          refine (HK2.out _).mono ?_; rintro e w' ⟨rfl, rfl⟩
          refine hK.out _ _ trivial (fun hHeld => ?_)
          clear hK K
          try simp only [Act.put, List.setIfInBounds_toArray, List.set_cons_zero, List.set_cons_succ]
          refine wpAnyH_ready (rs := [7]) (by kernel_rfl) (by simp) ?_
          refine AllReadyH.cons (by simp only [List.getElem?_toArray, List.getElem?_cons_zero, List.getElem?_cons_succ]; rfl) (fun K hK => ?_) AllReadyH.nil
          go_simp
          refine hK.out _ _ trivial (fun hHeld => ?_)
          clear hK K
          try simp only [Act.put, List.setIfInBounds_toArray, List.set_cons_zero, List.set_cons_succ]
          refine wpAnyH_ready (rs := [8]) (by kernel_rfl) (by simp) ?_
          refine AllReadyH.cons (by simp only [List.getElem?_toArray, List.getElem?_cons_zero, List.getElem?_cons_succ]; rfl) (fun K hK => ?_) AllReadyH.nil
          refine step_append_mn rfl _ _ _ rfl (g + 1) 50 _ 1 1 Try.underlying22 info50 rfl (by omega) (.slice A2 n c2) n (nums .u8 (kl y n)) rfl (T2.out.below (by repeat (first | exact Below.refl _ _ | apply Bw.alloc | apply Bw.drewN | apply Bw.drew | (refine Bw.step ?_ (by assumption))))) _ 1 1 (nums .u8 [(y n : Int)]) rfl (by first | exact rv_one | exact Rv.drew rv_one | exact Rv.drewN rv_one _) (nums_one _ _) (by omega) (by omega) (by have := T1.out.lt; simp; omega) ?_
          intro A5 c5 w5 hc5 hm5 hg5 hat5
          obtain ⟨t1, t2, t3, t4, t5, t6⟩ := half (V1' := .slice A5 (n + 1) c5) hBg'.out T1.out HM3.out T2.out (by repeat (first | exact Below.refl _ _ | apply Bw.alloc | apply Bw.drewN | apply Bw.drew | (refine Bw.step ?_ (by assumption)))) hg5 (by rw [own_map']; exact hat5) (fun k hk e => T3.out k e hk)
          have d2 := t1.cell 2 (.slice A2 n c2) rfl
          have j2 := t1.frozen 2
          have U1 := Lib.hid (t1.set 2 (.slice A5 (n + 1) c5))
          have U2 := Lib.hid (t2.setOther (B := B) (j := 2) (u := .slice A5 (n + 1) c5))
          have U3 := Lib.hid t3
          have U4 := Lib.hid t4
          have U5 := Lib.hid t5
          have U6 := Lib.hid (t6.setCell (p := ⟨g, 2, none⟩) hBg'.out (.slice A5 (n + 1) c5))
          have HM5 := Lib.hid (hm5.setOther (B := B) (j := 2) (u := .slice A5 (n + 1) c5))
          have HC5 := Lib.hid hc5
          have HKP := Lib.hid (show ∀ k, k < w.heap.size → k ≠ g → (Value.slice A1 n c1).ownBlock ≠ some k → (Value.slice A2 n c2).ownBlock ≠ some k → (w5.setCell ⟨g, 2, none⟩ (.slice A5 (n + 1) c5)).heap[k]? = w.heap[k]? from fun k h1 h2 h3 h4 => by rw [setCell_other _ _ _ _ _ h2, t4 k (by have := T6.out.size; omega) h4]; exact T7.out k h1 h2 h3)
          clear t1 t2 t3 t4 t5 t6 hm5 hg5 hat5 hc5
          refine hK.out _ _ trivial (fun hHeld => ?_)
          clear hK K
          try simp only [Act.put, List.setIfInBounds_toArray, List.set_cons_zero, List.set_cons_succ]
          refine wpAnyH_take (i := 9) (v := .pointer (some ⟨g, 0, none⟩)) (by simp only [List.getElem?_toArray, List.getElem?_cons_zero, List.getElem?_cons_succ]; rfl) (by kernel_rfl) (by kernel_rfl) (by kernel_rfl) (fun _ _ _ h => h) (Or.inl ⟨by rfl, ?_⟩) (by assumption) ?_
          · intro w hSw
            try dsimp only at hSw
            go_simp
          try simp only [Act.put, List.setIfInBounds_toArray, List.set_cons_zero, List.set_cons_succ]
          refine wpAnyH_take (i := 10) (v := .pointer (some ⟨g, 2, none⟩)) (by simp only [List.getElem?_toArray, List.getElem?_cons_zero, List.getElem?_cons_succ]; rfl) (by kernel_rfl) (by kernel_rfl) (by kernel_rfl) (fun _ _ _ h => h) (Or.inl ⟨by rfl, ?_⟩) (by assumption) ?_
          · intro w hSw
            try dsimp only at hSw
            go_simp
          try simp only [Act.put, List.setIfInBounds_toArray, List.set_cons_zero, List.set_cons_succ]
          refine wpAnyH_ready (rs := [11]) (by kernel_rfl) (by simp) ?_
          refine AllReadyH.cons (by simp only [List.getElem?_toArray, List.getElem?_cons_zero, List.getElem?_cons_succ]; rfl) (fun K hK => ?_) AllReadyH.nil
          go_simp
          refine hK.out _ _ trivial (fun hHeld => ?_)
          clear hK K
          try simp only [Act.put, List.setIfInBounds_toArray, List.set_cons_zero, List.set_cons_succ]
          refine wpAnyH_done (by kernel_rfl) ?_ _
          refine NoPanic.normal ?_
          generalize (w5.setCell ⟨g, 2, none⟩ (.slice A5 (n + 1) c5)) = w6 at *
          have HRSN := Lib.hid (show RS w6 B g (Value.slice A3 (n + 1) c3).ownBlock (Value.slice A5 (n + 1) c5).ownBlock o (n + 1) x y from ⟨hBg'.out, A3, c3, A5, c5, U1.out, by rw [kl_succ, nums_append]; exact U2.out, by rw [kl_succ, nums_append]; exact HM5.out, HC3.out, HC5.out, by omega, rfl, rfl, fun k h1 h2 => U3.out k h2 h1⟩)
          have HRC := Lib.hid (show RC w6 g o A3 A5 c3 c5 (n + 1) x y from ⟨U1.out, by rw [kl_succ]; exact Mn.rd (by rw [nums_append]; exact U2.out), by rw [kl_succ]; exact Mn.rd (by rw [nums_append]; exact HM5.out), HC3.out, HC5.out, by omega⟩)
          have HSZ := Lib.hid (show w.heap.size ≤ w4.heap.size ∧ w4.heap.size ≤ w6.heap.size from ⟨T6.out.size, U6.out.size⟩)
          have HFIN : Hid (∀ w', Below w6.heap.size w6 w' → ∃ a' b', RS w' B g a' b' o (min (n + 1) 114) x y ∧ KeepR w w' g a b a' b' ∧ Below B w w') := fun w' hb' => by
            rw [show min (n + 1) 114 = n + 1 by omega]
            obtain ⟨hz1, hz2⟩ := HSZ.out
            refine ⟨_, _, HRSN.out.below hb', ⟨fun k h1 h2 h3 h4 => ?_, ?_, ?_⟩, T6.out.trans (U6.out.trans (hb'.mono (by have := HRSN.out.lt; have := hBg'.out; omega)))⟩
            · exact (hb'.block k (by omega)).trans (HKP.out k h1 h2 (by rw [HA.out]; exact h3) (by rw [HBB.out]; exact h4))
            · rcases T5.out with e | e
              · exact .inl (e.trans HA.out)
              · exact .inr e
            · rcases U5.out with e | ⟨q, e, hq⟩
              · exact .inl (e.trans HBB.out)
              · exact .inr ⟨q, e, by omega⟩
          clear d2 j2
          obtain ⟨cu, hcu⟩ : ∃ cu, cuF x y (n + 1) = cu := ⟨_, rfl⟩
          have HCUT : Hid (Calls Try.prog 135 #[.pointer (some ⟨g, 0, none⟩), .int .i64 ((n : Int) + 1)] w6 fun e w' => e = .returned (.bool cu) ∧ w6 = w') := by
            have := cut_calls HRC.out (n + 1) (Nat.le_refl _)
            rw [hcu, show ((n + 1 : Nat) : Int) = (n : Int) + 1 by omega] at this
            exact this
          have HCU := Lib.hid hcu
          clear hcu
          cases cu with
          | true =>
            have HO := Lib.hid (show outF o x y n = 0 by unfold outF; rw [if_pos HCU.out])
            go_wp2_with fail
            refine HCUT.out.mono ?_; rintro e w' ⟨rfl, rfl⟩
            go_wp2
            go_ret
            exact ⟨by rw [HO.out]; rfl, HFIN.out _ (Below.refl _ _)⟩
          | false =>
            by_cases h112 : n < 112
            · have HO := Lib.hid (show outF o x y n = bdF x y n by unfold outF; rw [if_neg (by rw [HCU.out]; simp), if_pos h112])
              have HBD := Lib.hid (body_calls HRC.out n (Nat.lt_succ_self n))
              go_wp2_with fail
              refine HCUT.out.mono ?_; rintro e w' ⟨rfl, rfl⟩
              go_wp2_with fail
              refine HBD.out.mono ?_; rintro e w' ⟨rfl, rfl⟩
              go_wp2
              go_ret
              exact ⟨by rw [HO.out]; rfl, HFIN.out _ (Below.refl _ _)⟩
            · by_cases h112' : n = 112
              · subst h112'
                obtain ⟨wh, hwh⟩ : ∃ wh, whF o x y = wh := ⟨_, rfl⟩
                have HO := Lib.hid (show outF o x y 112 = sy wh by unfold outF; rw [if_neg (by rw [HCU.out]; simp), if_neg (by omega), if_pos rfl, hwh])
                have HWH := Lib.hid (rwhole_calls HRC.out (by omega))
                rw [hwh] at HWH
                clear hwh
                cases wh
                all_goals
                  go_wp2_with fail
                  refine HCUT.out.mono ?_; rintro e w' ⟨rfl, rfl⟩
                  go_wp2_with fail
                  refine HWH.out.mono ?_; rintro e w7 ⟨rfl, hb7⟩
                  go_wp2
                  go_ret
                  exact ⟨by rw [HO.out]; rfl, HFIN.out _ hb7⟩
              · have h113 : n = 113 := by omega
                subst h113
                obtain ⟨hi, hhi⟩ : ∃ hi, hiF o x y = hi := ⟨_, rfl⟩
                have HO := Lib.hid (show outF o x y 113 = sy (!hi) by unfold outF; rw [if_neg (by rw [HCU.out]; simp), if_neg (by omega), if_neg (by omega), if_pos rfl, hhi])
                have HRH := Lib.hid (rhigh_calls HRC.out)
                obtain ⟨L, hL⟩ : ∃ L, hiB o x y (113 + 1) = L := ⟨_, rfl⟩
                rw [hL, show hiP o x y (113 + 1) = hiF o x y from rfl, hhi] at HRH
                clear hhi hL
                cases hi
                all_goals
                  go_wp2_with fail
                  refine HCUT.out.mono ?_; rintro e w' ⟨rfl, rfl⟩
                  go_wp2_with fail
                  refine HRH.out.mono ?_; rintro e w7 ⟨rfl, hb7⟩
                  unfold f5
                  go_wp2
                  go_ret
                  exact ⟨by rw [HO.out]; rfl, HFIN.out _ (Bw.alloc hb7 _)⟩
        · go_simp
          go_at_call 134
          refine (HK2.out _).mono ?_; rintro e w' ⟨rfl, rfl⟩
          refine hK.out _ _ trivial (fun hHeld => ?_)
          clear hK K
          try simp only [Act.put, List.setIfInBounds_toArray, List.set_cons_zero, List.set_cons_succ]
          refine wpAnyH_ready (rs := [4, 7]) (by kernel_rfl) (by simp) ?_
          refine AllReadyH.cons (by simp only [List.getElem?_toArray, List.getElem?_cons_zero, List.getElem?_cons_succ]; rfl) (fun K hK => ?_) (AllReadyH.cons (by simp only [List.getElem?_toArray, List.getElem?_cons_zero, List.getElem?_cons_succ]; rfl) (fun K hK => ?_) AllReadyH.nil)
          · go_simp
            refine hK.out _ _ trivial (fun hHeld => ?_)
            clear hK K
            try simp only [Act.put, List.setIfInBounds_toArray, List.set_cons_zero, List.set_cons_succ]
            refine wpAnyH_ready (rs := [7]) (by kernel_rfl) (by simp) ?_
            refine AllReadyH.cons (by simp only [List.getElem?_toArray, List.getElem?_cons_zero, List.getElem?_cons_succ]; rfl) (fun K hK => ?_) AllReadyH.nil
            go_simp
            refine hK.out _ _ trivial (fun hHeld => ?_)
            clear hK K
            try simp only [Act.put, List.setIfInBounds_toArray, List.set_cons_zero, List.set_cons_succ]
            refine wpAnyH_ready (rs := [8]) (by kernel_rfl) (by simp) ?_
            refine AllReadyH.cons (by simp only [List.getElem?_toArray, List.getElem?_cons_zero, List.getElem?_cons_succ]; rfl) (fun K hK => ?_) AllReadyH.nil
            refine step_append_mn rfl _ _ _ rfl (g + 1) 50 _ 1 1 Try.underlying22 info50 rfl (by omega) (.slice A2 n c2) n (nums .u8 (kl y n)) rfl (T2.out.below (by repeat (first | exact Below.refl _ _ | apply Bw.alloc | apply Bw.drewN | apply Bw.drew | (refine Bw.step ?_ (by assumption))))) _ 1 1 (nums .u8 [(y n : Int)]) rfl (by first | exact rv_one | exact Rv.drew rv_one | exact Rv.drewN rv_one _) (nums_one _ _) (by omega) (by omega) (by have := T1.out.lt; simp; omega) ?_
            intro A5 c5 w5 hc5 hm5 hg5 hat5
            obtain ⟨t1, t2, t3, t4, t5, t6⟩ := half (V1' := .slice A5 (n + 1) c5) hBg'.out T1.out HM3.out T2.out (by repeat (first | exact Below.refl _ _ | apply Bw.alloc | apply Bw.drewN | apply Bw.drew | (refine Bw.step ?_ (by assumption)))) hg5 (by rw [own_map']; exact hat5) (fun k hk e => T3.out k e hk)
            have d2 := t1.cell 2 (.slice A2 n c2) rfl
            have j2 := t1.frozen 2
            have U1 := Lib.hid (t1.set 2 (.slice A5 (n + 1) c5))
            have U2 := Lib.hid (t2.setOther (B := B) (j := 2) (u := .slice A5 (n + 1) c5))
            have U3 := Lib.hid t3
            have U4 := Lib.hid t4
            have U5 := Lib.hid t5
            have U6 := Lib.hid (t6.setCell (p := ⟨g, 2, none⟩) hBg'.out (.slice A5 (n + 1) c5))
            have HM5 := Lib.hid (hm5.setOther (B := B) (j := 2) (u := .slice A5 (n + 1) c5))
            have HC5 := Lib.hid hc5
            have HKP := Lib.hid (show ∀ k, k < w.heap.size → k ≠ g → (Value.slice A1 n c1).ownBlock ≠ some k → (Value.slice A2 n c2).ownBlock ≠ some k → (w5.setCell ⟨g, 2, none⟩ (.slice A5 (n + 1) c5)).heap[k]? = w.heap[k]? from fun k h1 h2 h3 h4 => by rw [setCell_other _ _ _ _ _ h2, t4 k (by have := T6.out.size; omega) h4]; exact T7.out k h1 h2 h3)
            clear t1 t2 t3 t4 t5 t6 hm5 hg5 hat5 hc5
            refine hK.out _ _ trivial (fun hHeld => ?_)
            clear hK K
            try simp only [Act.put, List.setIfInBounds_toArray, List.set_cons_zero, List.set_cons_succ]
            refine wpAnyH_take (i := 9) (v := .pointer (some ⟨g, 0, none⟩)) (by simp only [List.getElem?_toArray, List.getElem?_cons_zero, List.getElem?_cons_succ]; rfl) (by kernel_rfl) (by kernel_rfl) (by kernel_rfl) (fun _ _ _ h => h) (Or.inl ⟨by rfl, ?_⟩) (by assumption) ?_
            · intro w hSw
              try dsimp only at hSw
              go_simp
            try simp only [Act.put, List.setIfInBounds_toArray, List.set_cons_zero, List.set_cons_succ]
            refine wpAnyH_take (i := 10) (v := .pointer (some ⟨g, 2, none⟩)) (by simp only [List.getElem?_toArray, List.getElem?_cons_zero, List.getElem?_cons_succ]; rfl) (by kernel_rfl) (by kernel_rfl) (by kernel_rfl) (fun _ _ _ h => h) (Or.inl ⟨by rfl, ?_⟩) (by assumption) ?_
            · intro w hSw
              try dsimp only at hSw
              go_simp
            try simp only [Act.put, List.setIfInBounds_toArray, List.set_cons_zero, List.set_cons_succ]
            refine wpAnyH_ready (rs := [11]) (by kernel_rfl) (by simp) ?_
            refine AllReadyH.cons (by simp only [List.getElem?_toArray, List.getElem?_cons_zero, List.getElem?_cons_succ]; rfl) (fun K hK => ?_) AllReadyH.nil
            go_simp
            refine hK.out _ _ trivial (fun hHeld => ?_)
            clear hK K
            try simp only [Act.put, List.setIfInBounds_toArray, List.set_cons_zero, List.set_cons_succ]
            refine wpAnyH_done (by kernel_rfl) ?_ _
            refine NoPanic.normal ?_
            generalize (w5.setCell ⟨g, 2, none⟩ (.slice A5 (n + 1) c5)) = w6 at *
            have HRSN := Lib.hid (show RS w6 B g (Value.slice A3 (n + 1) c3).ownBlock (Value.slice A5 (n + 1) c5).ownBlock o (n + 1) x y from ⟨hBg'.out, A3, c3, A5, c5, U1.out, by rw [kl_succ, nums_append]; exact U2.out, by rw [kl_succ, nums_append]; exact HM5.out, HC3.out, HC5.out, by omega, rfl, rfl, fun k h1 h2 => U3.out k h2 h1⟩)
            have HRC := Lib.hid (show RC w6 g o A3 A5 c3 c5 (n + 1) x y from ⟨U1.out, by rw [kl_succ]; exact Mn.rd (by rw [nums_append]; exact U2.out), by rw [kl_succ]; exact Mn.rd (by rw [nums_append]; exact HM5.out), HC3.out, HC5.out, by omega⟩)
            have HSZ := Lib.hid (show w.heap.size ≤ w4.heap.size ∧ w4.heap.size ≤ w6.heap.size from ⟨T6.out.size, U6.out.size⟩)
            have HFIN : Hid (∀ w', Below w6.heap.size w6 w' → ∃ a' b', RS w' B g a' b' o (min (n + 1) 114) x y ∧ KeepR w w' g a b a' b' ∧ Below B w w') := fun w' hb' => by
              rw [show min (n + 1) 114 = n + 1 by omega]
              obtain ⟨hz1, hz2⟩ := HSZ.out
              refine ⟨_, _, HRSN.out.below hb', ⟨fun k h1 h2 h3 h4 => ?_, ?_, ?_⟩, T6.out.trans (U6.out.trans (hb'.mono (by have := HRSN.out.lt; have := hBg'.out; omega)))⟩
              · exact (hb'.block k (by omega)).trans (HKP.out k h1 h2 (by rw [HA.out]; exact h3) (by rw [HBB.out]; exact h4))
              · rcases T5.out with e | e
                · exact .inl (e.trans HA.out)
                · exact .inr e
              · rcases U5.out with e | ⟨q, e, hq⟩
                · exact .inl (e.trans HBB.out)
                · exact .inr ⟨q, e, by omega⟩
            clear d2 j2
            obtain ⟨cu, hcu⟩ : ∃ cu, cuF x y (n + 1) = cu := ⟨_, rfl⟩
            have HCUT : Hid (Calls Try.prog 135 #[.pointer (some ⟨g, 0, none⟩), .int .i64 ((n : Int) + 1)] w6 fun e w' => e = .returned (.bool cu) ∧ w6 = w') := by
              have := cut_calls HRC.out (n + 1) (Nat.le_refl _)
              rw [hcu, show ((n + 1 : Nat) : Int) = (n : Int) + 1 by omega] at this
              exact this
            have HCU := Lib.hid hcu
            clear hcu
            cases cu with
            | true =>
              have HO := Lib.hid (show outF o x y n = 0 by unfold outF; rw [if_pos HCU.out])
              go_wp2_with fail
              refine HCUT.out.mono ?_; rintro e w' ⟨rfl, rfl⟩
              go_wp2
              go_ret
              exact ⟨by rw [HO.out]; rfl, HFIN.out _ (Below.refl _ _)⟩
            | false =>
              by_cases h112 : n < 112
              · have HO := Lib.hid (show outF o x y n = bdF x y n by unfold outF; rw [if_neg (by rw [HCU.out]; simp), if_pos h112])
                have HBD := Lib.hid (body_calls HRC.out n (Nat.lt_succ_self n))
                go_wp2_with fail
                refine HCUT.out.mono ?_; rintro e w' ⟨rfl, rfl⟩
                go_wp2_with fail
                refine HBD.out.mono ?_; rintro e w' ⟨rfl, rfl⟩
                go_wp2
                go_ret
                exact ⟨by rw [HO.out]; rfl, HFIN.out _ (Below.refl _ _)⟩
              · by_cases h112' : n = 112
                · subst h112'
                  obtain ⟨wh, hwh⟩ : ∃ wh, whF o x y = wh := ⟨_, rfl⟩
                  have HO := Lib.hid (show outF o x y 112 = sy wh by unfold outF; rw [if_neg (by rw [HCU.out]; simp), if_neg (by omega), if_pos rfl, hwh])
                  have HWH := Lib.hid (rwhole_calls HRC.out (by omega))
                  rw [hwh] at HWH
                  clear hwh
                  cases wh
                  all_goals
                    go_wp2_with fail
                    refine HCUT.out.mono ?_; rintro e w' ⟨rfl, rfl⟩
                    go_wp2_with fail
                    refine HWH.out.mono ?_; rintro e w7 ⟨rfl, hb7⟩
                    go_wp2
                    go_ret
                    exact ⟨by rw [HO.out]; rfl, HFIN.out _ hb7⟩
                · have h113 : n = 113 := by omega
                  subst h113
                  obtain ⟨hi, hhi⟩ : ∃ hi, hiF o x y = hi := ⟨_, rfl⟩
                  have HO := Lib.hid (show outF o x y 113 = sy (!hi) by unfold outF; rw [if_neg (by rw [HCU.out]; simp), if_neg (by omega), if_neg (by omega), if_pos rfl, hhi])
                  have HRH := Lib.hid (rhigh_calls HRC.out)
                  obtain ⟨L, hL⟩ : ∃ L, hiB o x y (113 + 1) = L := ⟨_, rfl⟩
                  rw [hL, show hiP o x y (113 + 1) = hiF o x y from rfl, hhi] at HRH
                  clear hhi hL
                  cases hi
                  all_goals
                    go_wp2_with fail
                    refine HCUT.out.mono ?_; rintro e w' ⟨rfl, rfl⟩
                    go_wp2_with fail
                    refine HRH.out.mono ?_; rintro e w7 ⟨rfl, hb7⟩
                    unfold f5
                    go_wp2
                    go_ret
                    exact ⟨by rw [HO.out]; rfl, HFIN.out _ (Bw.alloc hb7 _)⟩
          · go_simp
            refine hK.out _ _ trivial (fun hHeld => ?_)
            clear hK K
            try simp only [Act.put, List.setIfInBounds_toArray, List.set_cons_zero, List.set_cons_succ]
            have d2z := (T1.out.below (show Below w4.heap.size w4 (w4.alloc (.cells #[.int .u8 (y n)] 50)) from (by repeat (first | exact Below.refl _ _ | apply Bw.alloc | apply Bw.drewN | apply Bw.drew | (refine Bw.step ?_ (by assumption)))))).cell 2 (.slice A2 n c2) rfl
            refine wpAnyH_ready (rs := [4]) (by kernel_rfl) (by simp) ?_
            refine AllReadyH.cons (by simp only [List.getElem?_toArray, List.getElem?_cons_zero, List.getElem?_cons_succ]; rfl) (fun K hK => ?_) AllReadyH.nil
            go_simp
            refine hK.out _ _ trivial (fun hHeld => ?_)
            clear hK K
            try simp only [Act.put, List.setIfInBounds_toArray, List.set_cons_zero, List.set_cons_succ]
            refine wpAnyH_ready (rs := [8]) (by kernel_rfl) (by simp) ?_
            refine AllReadyH.cons (by simp only [List.getElem?_toArray, List.getElem?_cons_zero, List.getElem?_cons_succ]; rfl) (fun K hK => ?_) AllReadyH.nil
            refine step_append_mn rfl _ _ _ rfl (g + 1) 50 _ 1 1 Try.underlying22 info50 rfl (by omega) (.slice A2 n c2) n (nums .u8 (kl y n)) rfl (T2.out.below (by repeat (first | exact Below.refl _ _ | apply Bw.alloc | apply Bw.drewN | apply Bw.drew | (refine Bw.step ?_ (by assumption))))) _ 1 1 (nums .u8 [(y n : Int)]) rfl (by first | exact rv_one | exact Rv.drew rv_one | exact Rv.drewN rv_one _) (nums_one _ _) (by omega) (by omega) (by have := T1.out.lt; simp; omega) ?_
            intro A5 c5 w5 hc5 hm5 hg5 hat5
            obtain ⟨t1, t2, t3, t4, t5, t6⟩ := half (V1' := .slice A5 (n + 1) c5) hBg'.out T1.out HM3.out T2.out (by repeat (first | exact Below.refl _ _ | apply Bw.alloc | apply Bw.drewN | apply Bw.drew | (refine Bw.step ?_ (by assumption)))) hg5 (by rw [own_map']; exact hat5) (fun k hk e => T3.out k e hk)
            have d2 := t1.cell 2 (.slice A2 n c2) rfl
            have j2 := t1.frozen 2
            have U1 := Lib.hid (t1.set 2 (.slice A5 (n + 1) c5))
            have U2 := Lib.hid (t2.setOther (B := B) (j := 2) (u := .slice A5 (n + 1) c5))
            have U3 := Lib.hid t3
            have U4 := Lib.hid t4
            have U5 := Lib.hid t5
            have U6 := Lib.hid (t6.setCell (p := ⟨g, 2, none⟩) hBg'.out (.slice A5 (n + 1) c5))
            have HM5 := Lib.hid (hm5.setOther (B := B) (j := 2) (u := .slice A5 (n + 1) c5))
            have HC5 := Lib.hid hc5
            have HKP := Lib.hid (show ∀ k, k < w.heap.size → k ≠ g → (Value.slice A1 n c1).ownBlock ≠ some k → (Value.slice A2 n c2).ownBlock ≠ some k → (w5.setCell ⟨g, 2, none⟩ (.slice A5 (n + 1) c5)).heap[k]? = w.heap[k]? from fun k h1 h2 h3 h4 => by rw [setCell_other _ _ _ _ _ h2, t4 k (by have := T6.out.size; omega) h4]; exact T7.out k h1 h2 h3)
            clear t1 t2 t3 t4 t5 t6 hm5 hg5 hat5 hc5
            refine hK.out _ _ trivial (fun hHeld => ?_)
            clear hK K
            try simp only [Act.put, List.setIfInBounds_toArray, List.set_cons_zero, List.set_cons_succ]
            refine wpAnyH_take (i := 9) (v := .pointer (some ⟨g, 0, none⟩)) (by simp only [List.getElem?_toArray, List.getElem?_cons_zero, List.getElem?_cons_succ]; rfl) (by kernel_rfl) (by kernel_rfl) (by kernel_rfl) (fun _ _ _ h => h) (Or.inl ⟨by rfl, ?_⟩) (by assumption) ?_
            · intro w hSw
              try dsimp only at hSw
              go_simp
            try simp only [Act.put, List.setIfInBounds_toArray, List.set_cons_zero, List.set_cons_succ]
            refine wpAnyH_take (i := 10) (v := .pointer (some ⟨g, 2, none⟩)) (by simp only [List.getElem?_toArray, List.getElem?_cons_zero, List.getElem?_cons_succ]; rfl) (by kernel_rfl) (by kernel_rfl) (by kernel_rfl) (fun _ _ _ h => h) (Or.inl ⟨by rfl, ?_⟩) (by assumption) ?_
            · intro w hSw
              try dsimp only at hSw
              go_simp
            try simp only [Act.put, List.setIfInBounds_toArray, List.set_cons_zero, List.set_cons_succ]
            refine wpAnyH_ready (rs := [11]) (by kernel_rfl) (by simp) ?_
            refine AllReadyH.cons (by simp only [List.getElem?_toArray, List.getElem?_cons_zero, List.getElem?_cons_succ]; rfl) (fun K hK => ?_) AllReadyH.nil
            go_simp
            refine hK.out _ _ trivial (fun hHeld => ?_)
            clear hK K
            try simp only [Act.put, List.setIfInBounds_toArray, List.set_cons_zero, List.set_cons_succ]
            refine wpAnyH_done (by kernel_rfl) ?_ _
            refine NoPanic.normal ?_
            generalize (w5.setCell ⟨g, 2, none⟩ (.slice A5 (n + 1) c5)) = w6 at *
            have HRSN := Lib.hid (show RS w6 B g (Value.slice A3 (n + 1) c3).ownBlock (Value.slice A5 (n + 1) c5).ownBlock o (n + 1) x y from ⟨hBg'.out, A3, c3, A5, c5, U1.out, by rw [kl_succ, nums_append]; exact U2.out, by rw [kl_succ, nums_append]; exact HM5.out, HC3.out, HC5.out, by omega, rfl, rfl, fun k h1 h2 => U3.out k h2 h1⟩)
            have HRC := Lib.hid (show RC w6 g o A3 A5 c3 c5 (n + 1) x y from ⟨U1.out, by rw [kl_succ]; exact Mn.rd (by rw [nums_append]; exact U2.out), by rw [kl_succ]; exact Mn.rd (by rw [nums_append]; exact HM5.out), HC3.out, HC5.out, by omega⟩)
            have HSZ := Lib.hid (show w.heap.size ≤ w4.heap.size ∧ w4.heap.size ≤ w6.heap.size from ⟨T6.out.size, U6.out.size⟩)
            have HFIN : Hid (∀ w', Below w6.heap.size w6 w' → ∃ a' b', RS w' B g a' b' o (min (n + 1) 114) x y ∧ KeepR w w' g a b a' b' ∧ Below B w w') := fun w' hb' => by
              rw [show min (n + 1) 114 = n + 1 by omega]
              obtain ⟨hz1, hz2⟩ := HSZ.out
              refine ⟨_, _, HRSN.out.below hb', ⟨fun k h1 h2 h3 h4 => ?_, ?_, ?_⟩, T6.out.trans (U6.out.trans (hb'.mono (by have := HRSN.out.lt; have := hBg'.out; omega)))⟩
              · exact (hb'.block k (by omega)).trans (HKP.out k h1 h2 (by rw [HA.out]; exact h3) (by rw [HBB.out]; exact h4))
              · rcases T5.out with e | e
                · exact .inl (e.trans HA.out)
                · exact .inr e
              · rcases U5.out with e | ⟨q, e, hq⟩
                · exact .inl (e.trans HBB.out)
                · exact .inr ⟨q, e, by omega⟩
            clear d2 j2
            obtain ⟨cu, hcu⟩ : ∃ cu, cuF x y (n + 1) = cu := ⟨_, rfl⟩
            have HCUT : Hid (Calls Try.prog 135 #[.pointer (some ⟨g, 0, none⟩), .int .i64 ((n : Int) + 1)] w6 fun e w' => e = .returned (.bool cu) ∧ w6 = w') := by
              have := cut_calls HRC.out (n + 1) (Nat.le_refl _)
              rw [hcu, show ((n + 1 : Nat) : Int) = (n : Int) + 1 by omega] at this
              exact this
            have HCU := Lib.hid hcu
            clear hcu
            cases cu with
            | true =>
              have HO := Lib.hid (show outF o x y n = 0 by unfold outF; rw [if_pos HCU.out])
              go_wp2_with fail
              refine HCUT.out.mono ?_; rintro e w' ⟨rfl, rfl⟩
              go_wp2
              go_ret
              exact ⟨by rw [HO.out]; rfl, HFIN.out _ (Below.refl _ _)⟩
            | false =>
              by_cases h112 : n < 112
              · have HO := Lib.hid (show outF o x y n = bdF x y n by unfold outF; rw [if_neg (by rw [HCU.out]; simp), if_pos h112])
                have HBD := Lib.hid (body_calls HRC.out n (Nat.lt_succ_self n))
                go_wp2_with fail
                refine HCUT.out.mono ?_; rintro e w' ⟨rfl, rfl⟩
                go_wp2_with fail
                refine HBD.out.mono ?_; rintro e w' ⟨rfl, rfl⟩
                go_wp2
                go_ret
                exact ⟨by rw [HO.out]; rfl, HFIN.out _ (Below.refl _ _)⟩
              · by_cases h112' : n = 112
                · subst h112'
                  obtain ⟨wh, hwh⟩ : ∃ wh, whF o x y = wh := ⟨_, rfl⟩
                  have HO := Lib.hid (show outF o x y 112 = sy wh by unfold outF; rw [if_neg (by rw [HCU.out]; simp), if_neg (by omega), if_pos rfl, hwh])
                  have HWH := Lib.hid (rwhole_calls HRC.out (by omega))
                  rw [hwh] at HWH
                  clear hwh
                  cases wh
                  all_goals
                    go_wp2_with fail
                    refine HCUT.out.mono ?_; rintro e w' ⟨rfl, rfl⟩
                    go_wp2_with fail
                    refine HWH.out.mono ?_; rintro e w7 ⟨rfl, hb7⟩
                    go_wp2
                    go_ret
                    exact ⟨by rw [HO.out]; rfl, HFIN.out _ hb7⟩
                · have h113 : n = 113 := by omega
                  subst h113
                  obtain ⟨hi, hhi⟩ : ∃ hi, hiF o x y = hi := ⟨_, rfl⟩
                  have HO := Lib.hid (show outF o x y 113 = sy (!hi) by unfold outF; rw [if_neg (by rw [HCU.out]; simp), if_neg (by omega), if_neg (by omega), if_pos rfl, hhi])
                  have HRH := Lib.hid (rhigh_calls HRC.out)
                  obtain ⟨L, hL⟩ : ∃ L, hiB o x y (113 + 1) = L := ⟨_, rfl⟩
                  rw [hL, show hiP o x y (113 + 1) = hiF o x y from rfl, hhi] at HRH
                  clear hhi hL
                  cases hi
                  all_goals
                    go_wp2_with fail
                    refine HCUT.out.mono ?_; rintro e w' ⟨rfl, rfl⟩
                    go_wp2_with fail
                    refine HRH.out.mono ?_; rintro e w7 ⟨rfl, hb7⟩
                    unfold f5
                    go_wp2
                    go_ret
                    exact ⟨by rw [HO.out]; rfl, HFIN.out _ (Bw.alloc hb7 _)⟩
      · go_simp
        refine hK.out _ _ trivial (fun hHeld => ?_)
        clear hK K
        try simp only [Act.put, List.setIfInBounds_toArray, List.set_cons_zero, List.set_cons_succ]
        have d1z := (HBL.out.below (show Below w.heap.size w (w.alloc (.cells #[.int .u8 (x n)] 50)) from (by repeat (first | exact Below.refl _ _ | apply Bw.alloc | apply Bw.drewN | apply Bw.drew | (refine Bw.step ?_ (by assumption)))))).cell 1 (.slice A1 n c1) rfl
        refine wpAnyH_ready (rs := [4]) (by kernel_rfl) (by simp) ?_
        refine AllReadyH.cons (by simp only [List.getElem?_toArray, List.getElem?_cons_zero, List.getElem?_cons_succ]; rfl) (fun K hK => ?_) AllReadyH.nil
        go_simp
        refine hK.out _ _ trivial (fun hHeld => ?_)
        clear hK K
        try simp only [Act.put, List.setIfInBounds_toArray, List.set_cons_zero, List.set_cons_succ]
        refine wpAnyH_ready (rs := [8]) (by kernel_rfl) (by simp) ?_
        refine AllReadyH.cons (by simp only [List.getElem?_toArray, List.getElem?_cons_zero, List.getElem?_cons_succ]; rfl) (fun K hK => ?_) AllReadyH.nil
        refine step_append_mn rfl _ _ _ rfl (g + 1) 50 _ 1 1 Try.underlying22 info50 rfl (by omega) (.slice A1 n c1) n (nums .u8 (kl x n)) rfl (HM1.out.below (by repeat (first | exact Below.refl _ _ | apply Bw.alloc | apply Bw.drewN | apply Bw.drew | (refine Bw.step ?_ (by assumption))))) _ 1 1 (nums .u8 [(x n : Int)]) rfl (by first | exact rv_one | exact Rv.drew rv_one | exact Rv.drewN rv_one _) (nums_one _ _) (by omega) (by omega) (by have := HLT.out; simp; omega) ?_
        intro A3 c3 w3 hc3 hm3 hg3 hat3
        obtain ⟨t1, t2, t3, t4, t5, t6⟩ := half (V1' := .slice A3 (n + 1) c3) hBg'.out HBL.out HM2.out HM1.out (by repeat (first | exact Below.refl _ _ | apply Bw.alloc | apply Bw.drewN | apply Bw.drew | (refine Bw.step ?_ (by assumption)))) hg3 (by rw [own_map']; exact hat3) HD.out
        have d1 := t1.cell 1 (.slice A1 n c1) rfl
        have j1 := t1.frozen 1
        have T1 := Lib.hid (t1.set 1 (.slice A3 (n + 1) c3))
        have T2 := Lib.hid (t2.setOther (B := B) (j := 1) (u := .slice A3 (n + 1) c3))
        have T3 := Lib.hid t3
        have T4 := Lib.hid t4
        have T5 := Lib.hid t5
        have T6 := Lib.hid (t6.setCell (p := ⟨g, 1, none⟩) hBg'.out (.slice A3 (n + 1) c3))
        have HM3 := Lib.hid (hm3.setOther (B := B) (j := 1) (u := .slice A3 (n + 1) c3))
        have HC3 := Lib.hid hc3
        clear t1 t2 t3 t4 t5 t6 hm3 hg3 hat3 hc3
        refine hK.out _ _ trivial (fun hHeld => ?_)
        clear hK K
        try simp only [Act.put, List.setIfInBounds_toArray, List.set_cons_zero, List.set_cons_succ]
        refine wpAnyH_take (i := 9) (v := .pointer (some ⟨g, 0, none⟩)) (by simp only [List.getElem?_toArray, List.getElem?_cons_zero, List.getElem?_cons_succ]; rfl) (by kernel_rfl) (by kernel_rfl) (by kernel_rfl) (fun _ _ _ h => h) (Or.inl ⟨by rfl, ?_⟩) (by assumption) ?_
        · intro w hSw
          try dsimp only at hSw
          go_simp
        try simp only [Act.put, List.setIfInBounds_toArray, List.set_cons_zero, List.set_cons_succ]
        refine wpAnyH_take (i := 10) (v := .pointer (some ⟨g, 1, none⟩)) (by simp only [List.getElem?_toArray, List.getElem?_cons_zero, List.getElem?_cons_succ]; rfl) (by kernel_rfl) (by kernel_rfl) (by kernel_rfl) (fun _ _ _ h => h) (Or.inl ⟨by rfl, ?_⟩) (by assumption) ?_
        · intro w hSw
          try dsimp only at hSw
          go_simp
        try simp only [Act.put, List.setIfInBounds_toArray, List.set_cons_zero, List.set_cons_succ]
        refine wpAnyH_ready (rs := [11]) (by kernel_rfl) (by simp) ?_
        refine AllReadyH.cons (by simp only [List.getElem?_toArray, List.getElem?_cons_zero, List.getElem?_cons_succ]; rfl) (fun K hK => ?_) AllReadyH.nil
        go_simp
        refine hK.out _ _ trivial (fun hHeld => ?_)
        clear hK K
        try simp only [Act.put, List.setIfInBounds_toArray, List.set_cons_zero, List.set_cons_succ]
        refine wpAnyH_done (by kernel_rfl) ?_ _
        refine NoPanic.normal ?_
        have T7 := Lib.hid (show ∀ k, k < w.heap.size → k ≠ g → (Value.slice A1 n c1).ownBlock ≠ some k → (w3.setCell ⟨g, 1, none⟩ (.slice A3 (n + 1) c3)).heap[k]? = w.heap[k]? from fun k h1 h2 h3 => by rw [setCell_other _ _ _ _ _ h2, T4.out k h1 h3])
        clear T4
        generalize (w3.setCell ⟨g, 1, none⟩ (.slice A3 (n + 1) c3)) = w4 at *
        clear d1 j1
        have d2 := T1.out.cell 2 (.slice A2 n c2) rfl
        go_wp2_with fail
        refine wp_region_noPanic ?_
        refine wp_region_held_drew (S := fun _ => True) (by kernel_rfl) trivial (fun hHeld => ?_)
        refine wpAnyH_take (i := 0) (v := .pointer (some ⟨g, 0, none⟩)) (by simp only [List.getElem?_toArray, List.getElem?_cons_zero, List.getElem?_cons_succ]; rfl) (by kernel_rfl) (by kernel_rfl) (by kernel_rfl) (fun _ _ _ h => h) (Or.inl ⟨by rfl, ?_⟩) (by assumption) ?_
        · intro w hSw
          try dsimp only at hSw
          go_simp
        try simp only [Act.put, List.setIfInBounds_toArray, List.set_cons_zero, List.set_cons_succ]
        refine wpAnyH_take (i := 1) (v := .pointer (some ⟨g, 0, none⟩)) (by simp only [List.getElem?_toArray, List.getElem?_cons_zero, List.getElem?_cons_succ]; rfl) (by kernel_rfl) (by kernel_rfl) (by kernel_rfl) (fun _ _ _ h => h) (Or.inl ⟨by rfl, ?_⟩) (by assumption) ?_
        · intro w hSw
          try dsimp only at hSw
          go_simp
        try simp only [Act.put, List.setIfInBounds_toArray, List.set_cons_zero, List.set_cons_succ]
        refine wpAnyH_take (i := 2) (v := .pointer (some ⟨g, 0, none⟩)) (by simp only [List.getElem?_toArray, List.getElem?_cons_zero, List.getElem?_cons_succ]; rfl) (by kernel_rfl) (by kernel_rfl) (by kernel_rfl) (fun _ _ _ h => h) (Or.inl ⟨by rfl, ?_⟩) (by assumption) ?_
        · intro w hSw
          try dsimp only at hSw
          go_simp
        try simp only [Act.put, List.setIfInBounds_toArray, List.set_cons_zero, List.set_cons_succ]
        refine wpAnyH_take (i := 3) (v := .pointer (some ⟨g, 2, none⟩)) (by simp only [List.getElem?_toArray, List.getElem?_cons_zero, List.getElem?_cons_succ]; rfl) (by kernel_rfl) (by kernel_rfl) (by kernel_rfl) (fun _ _ _ h => h) (Or.inl ⟨by rfl, ?_⟩) (by assumption) ?_
        · intro w hSw
          try dsimp only at hSw
          go_simp
        try simp only [Act.put, List.setIfInBounds_toArray, List.set_cons_zero, List.set_cons_succ]
        refine wpAnyH_take (i := 5) (v := .int .u8 far) (by simp only [List.getElem?_toArray, List.getElem?_cons_zero, List.getElem?_cons_succ]; rfl) (by kernel_rfl) (by kernel_rfl) (by kernel_rfl) (fun _ _ _ h => h) (Or.inl ⟨by rfl, ?_⟩) (by assumption) ?_
        · intro w hSw
          try dsimp only at hSw
          go_simp
        try simp only [Act.put, List.setIfInBounds_toArray, List.set_cons_zero, List.set_cons_succ]
        refine wpAnyH_ready (rs := [4, 6]) (by kernel_rfl) (by simp) ?_
        refine AllReadyH.cons (by simp only [List.getElem?_toArray, List.getElem?_cons_zero, List.getElem?_cons_succ]; rfl) (fun K hK => ?_) (AllReadyH.cons (by simp only [List.getElem?_toArray, List.getElem?_cons_zero, List.getElem?_cons_succ]; rfl) (fun K hK => ?_) AllReadyH.nil)
        · go_simp
          refine hK.out _ _ trivial (fun hHeld => ?_)
          clear hK K
          try simp only [Act.put, List.setIfInBounds_toArray, List.set_cons_zero, List.set_cons_succ]
          refine wpAnyH_ready (rs := [6]) (by kernel_rfl) (by simp) ?_
          refine AllReadyH.cons (by simp only [List.getElem?_toArray, List.getElem?_cons_zero, List.getElem?_cons_succ]; rfl) (fun K hK => ?_) AllReadyH.nil
          go_simp
          go_at_call 134
          refine (HK2.out _).mono ?_; rintro e w' ⟨rfl, rfl⟩
          refine hK.out _ _ trivial (fun hHeld => ?_)
          clear hK K
          try simp only [Act.put, List.setIfInBounds_toArray, List.set_cons_zero, List.set_cons_succ]
          refine wpAnyH_ready (rs := [7]) (by kernel_rfl) (by simp) ?_
          refine AllReadyH.cons (by simp only [List.getElem?_toArray, List.getElem?_cons_zero, List.getElem?_cons_succ]; rfl) (fun K hK => ?_) AllReadyH.nil
          go_simp
          refine hK.out _ _ trivial (fun hHeld => ?_)
          clear hK K
          try simp only [Act.put, List.setIfInBounds_toArray, List.set_cons_zero, List.set_cons_succ]
          refine wpAnyH_ready (rs := [8]) (by kernel_rfl) (by simp) ?_
          refine AllReadyH.cons (by simp only [List.getElem?_toArray, List.getElem?_cons_zero, List.getElem?_cons_succ]; rfl) (fun K hK => ?_) AllReadyH.nil
          refine step_append_mn rfl _ _ _ rfl (g + 1) 50 _ 1 1 Try.underlying22 info50 rfl (by omega) (.slice A2 n c2) n (nums .u8 (kl y n)) rfl (T2.out.below (by repeat (first | exact Below.refl _ _ | apply Bw.alloc | apply Bw.drewN | apply Bw.drew | (refine Bw.step ?_ (by assumption))))) _ 1 1 (nums .u8 [(y n : Int)]) rfl (by first | exact rv_one | exact Rv.drew rv_one | exact Rv.drewN rv_one _) (nums_one _ _) (by omega) (by omega) (by have := T1.out.lt; simp; omega) ?_
          intro A5 c5 w5 hc5 hm5 hg5 hat5
          obtain ⟨t1, t2, t3, t4, t5, t6⟩ := half (V1' := .slice A5 (n + 1) c5) hBg'.out T1.out HM3.out T2.out (by repeat (first | exact Below.refl _ _ | apply Bw.alloc | apply Bw.drewN | apply Bw.drew | (refine Bw.step ?_ (by assumption)))) hg5 (by rw [own_map']; exact hat5) (fun k hk e => T3.out k e hk)
          have d2 := t1.cell 2 (.slice A2 n c2) rfl
          have j2 := t1.frozen 2
          have U1 := Lib.hid (t1.set 2 (.slice A5 (n + 1) c5))
          have U2 := Lib.hid (t2.setOther (B := B) (j := 2) (u := .slice A5 (n + 1) c5))
          have U3 := Lib.hid t3
          have U4 := Lib.hid t4
          have U5 := Lib.hid t5
          have U6 := Lib.hid (t6.setCell (p := ⟨g, 2, none⟩) hBg'.out (.slice A5 (n + 1) c5))
          have HM5 := Lib.hid (hm5.setOther (B := B) (j := 2) (u := .slice A5 (n + 1) c5))
          have HC5 := Lib.hid hc5
          have HKP := Lib.hid (show ∀ k, k < w.heap.size → k ≠ g → (Value.slice A1 n c1).ownBlock ≠ some k → (Value.slice A2 n c2).ownBlock ≠ some k → (w5.setCell ⟨g, 2, none⟩ (.slice A5 (n + 1) c5)).heap[k]? = w.heap[k]? from fun k h1 h2 h3 h4 => by rw [setCell_other _ _ _ _ _ h2, t4 k (by have := T6.out.size; omega) h4]; exact T7.out k h1 h2 h3)
          clear t1 t2 t3 t4 t5 t6 hm5 hg5 hat5 hc5
          refine hK.out _ _ trivial (fun hHeld => ?_)
          clear hK K
          try simp only [Act.put, List.setIfInBounds_toArray, List.set_cons_zero, List.set_cons_succ]
          refine wpAnyH_take (i := 9) (v := .pointer (some ⟨g, 0, none⟩)) (by simp only [List.getElem?_toArray, List.getElem?_cons_zero, List.getElem?_cons_succ]; rfl) (by kernel_rfl) (by kernel_rfl) (by kernel_rfl) (fun _ _ _ h => h) (Or.inl ⟨by rfl, ?_⟩) (by assumption) ?_
          · intro w hSw
            try dsimp only at hSw
            go_simp
          try simp only [Act.put, List.setIfInBounds_toArray, List.set_cons_zero, List.set_cons_succ]
          refine wpAnyH_take (i := 10) (v := .pointer (some ⟨g, 2, none⟩)) (by simp only [List.getElem?_toArray, List.getElem?_cons_zero, List.getElem?_cons_succ]; rfl) (by kernel_rfl) (by kernel_rfl) (by kernel_rfl) (fun _ _ _ h => h) (Or.inl ⟨by rfl, ?_⟩) (by assumption) ?_
          · intro w hSw
            try dsimp only at hSw
            go_simp
          try simp only [Act.put, List.setIfInBounds_toArray, List.set_cons_zero, List.set_cons_succ]
          refine wpAnyH_ready (rs := [11]) (by kernel_rfl) (by simp) ?_
          refine AllReadyH.cons (by simp only [List.getElem?_toArray, List.getElem?_cons_zero, List.getElem?_cons_succ]; rfl) (fun K hK => ?_) AllReadyH.nil
          go_simp
          refine hK.out _ _ trivial (fun hHeld => ?_)
          clear hK K
          try simp only [Act.put, List.setIfInBounds_toArray, List.set_cons_zero, List.set_cons_succ]
          refine wpAnyH_done (by kernel_rfl) ?_ _
          refine NoPanic.normal ?_
          generalize (w5.setCell ⟨g, 2, none⟩ (.slice A5 (n + 1) c5)) = w6 at *
          have HRSN := Lib.hid (show RS w6 B g (Value.slice A3 (n + 1) c3).ownBlock (Value.slice A5 (n + 1) c5).ownBlock o (n + 1) x y from ⟨hBg'.out, A3, c3, A5, c5, U1.out, by rw [kl_succ, nums_append]; exact U2.out, by rw [kl_succ, nums_append]; exact HM5.out, HC3.out, HC5.out, by omega, rfl, rfl, fun k h1 h2 => U3.out k h2 h1⟩)
          have HRC := Lib.hid (show RC w6 g o A3 A5 c3 c5 (n + 1) x y from ⟨U1.out, by rw [kl_succ]; exact Mn.rd (by rw [nums_append]; exact U2.out), by rw [kl_succ]; exact Mn.rd (by rw [nums_append]; exact HM5.out), HC3.out, HC5.out, by omega⟩)
          have HSZ := Lib.hid (show w.heap.size ≤ w4.heap.size ∧ w4.heap.size ≤ w6.heap.size from ⟨T6.out.size, U6.out.size⟩)
          have HFIN : Hid (∀ w', Below w6.heap.size w6 w' → ∃ a' b', RS w' B g a' b' o (min (n + 1) 114) x y ∧ KeepR w w' g a b a' b' ∧ Below B w w') := fun w' hb' => by
            rw [show min (n + 1) 114 = n + 1 by omega]
            obtain ⟨hz1, hz2⟩ := HSZ.out
            refine ⟨_, _, HRSN.out.below hb', ⟨fun k h1 h2 h3 h4 => ?_, ?_, ?_⟩, T6.out.trans (U6.out.trans (hb'.mono (by have := HRSN.out.lt; have := hBg'.out; omega)))⟩
            · exact (hb'.block k (by omega)).trans (HKP.out k h1 h2 (by rw [HA.out]; exact h3) (by rw [HBB.out]; exact h4))
            · rcases T5.out with e | e
              · exact .inl (e.trans HA.out)
              · exact .inr e
            · rcases U5.out with e | ⟨q, e, hq⟩
              · exact .inl (e.trans HBB.out)
              · exact .inr ⟨q, e, by omega⟩
          clear d2 j2
          obtain ⟨cu, hcu⟩ : ∃ cu, cuF x y (n + 1) = cu := ⟨_, rfl⟩
          have HCUT : Hid (Calls Try.prog 135 #[.pointer (some ⟨g, 0, none⟩), .int .i64 ((n : Int) + 1)] w6 fun e w' => e = .returned (.bool cu) ∧ w6 = w') := by
            have := cut_calls HRC.out (n + 1) (Nat.le_refl _)
            rw [hcu, show ((n + 1 : Nat) : Int) = (n : Int) + 1 by omega] at this
            exact this
          have HCU := Lib.hid hcu
          clear hcu
          cases cu with
          | true =>
            have HO := Lib.hid (show outF o x y n = 0 by unfold outF; rw [if_pos HCU.out])
            go_wp2_with fail
            refine HCUT.out.mono ?_; rintro e w' ⟨rfl, rfl⟩
            go_wp2
            go_ret
            exact ⟨by rw [HO.out]; rfl, HFIN.out _ (Below.refl _ _)⟩
          | false =>
            by_cases h112 : n < 112
            · have HO := Lib.hid (show outF o x y n = bdF x y n by unfold outF; rw [if_neg (by rw [HCU.out]; simp), if_pos h112])
              have HBD := Lib.hid (body_calls HRC.out n (Nat.lt_succ_self n))
              go_wp2_with fail
              refine HCUT.out.mono ?_; rintro e w' ⟨rfl, rfl⟩
              go_wp2_with fail
              refine HBD.out.mono ?_; rintro e w' ⟨rfl, rfl⟩
              go_wp2
              go_ret
              exact ⟨by rw [HO.out]; rfl, HFIN.out _ (Below.refl _ _)⟩
            · by_cases h112' : n = 112
              · subst h112'
                obtain ⟨wh, hwh⟩ : ∃ wh, whF o x y = wh := ⟨_, rfl⟩
                have HO := Lib.hid (show outF o x y 112 = sy wh by unfold outF; rw [if_neg (by rw [HCU.out]; simp), if_neg (by omega), if_pos rfl, hwh])
                have HWH := Lib.hid (rwhole_calls HRC.out (by omega))
                rw [hwh] at HWH
                clear hwh
                cases wh
                all_goals
                  go_wp2_with fail
                  refine HCUT.out.mono ?_; rintro e w' ⟨rfl, rfl⟩
                  go_wp2_with fail
                  refine HWH.out.mono ?_; rintro e w7 ⟨rfl, hb7⟩
                  go_wp2
                  go_ret
                  exact ⟨by rw [HO.out]; rfl, HFIN.out _ hb7⟩
              · have h113 : n = 113 := by omega
                subst h113
                obtain ⟨hi, hhi⟩ : ∃ hi, hiF o x y = hi := ⟨_, rfl⟩
                have HO := Lib.hid (show outF o x y 113 = sy (!hi) by unfold outF; rw [if_neg (by rw [HCU.out]; simp), if_neg (by omega), if_neg (by omega), if_pos rfl, hhi])
                have HRH := Lib.hid (rhigh_calls HRC.out)
                obtain ⟨L, hL⟩ : ∃ L, hiB o x y (113 + 1) = L := ⟨_, rfl⟩
                rw [hL, show hiP o x y (113 + 1) = hiF o x y from rfl, hhi] at HRH
                clear hhi hL
                cases hi
                all_goals
                  go_wp2_with fail
                  refine HCUT.out.mono ?_; rintro e w' ⟨rfl, rfl⟩
                  go_wp2_with fail
                  refine HRH.out.mono ?_; rintro e w7 ⟨rfl, hb7⟩
                  unfold f5
                  go_wp2
                  go_ret
                  exact ⟨by rw [HO.out]; rfl, HFIN.out _ (Bw.alloc hb7 _)⟩
        · go_simp
          go_at_call 134
          refine (HK2.out _).mono ?_; rintro e w' ⟨rfl, rfl⟩
          refine hK.out _ _ trivial (fun hHeld => ?_)
          clear hK K
          try simp only [Act.put, List.setIfInBounds_toArray, List.set_cons_zero, List.set_cons_succ]
          refine wpAnyH_ready (rs := [4, 7]) (by kernel_rfl) (by simp) ?_
          refine AllReadyH.cons (by simp only [List.getElem?_toArray, List.getElem?_cons_zero, List.getElem?_cons_succ]; rfl) (fun K hK => ?_) (AllReadyH.cons (by simp only [List.getElem?_toArray, List.getElem?_cons_zero, List.getElem?_cons_succ]; rfl) (fun K hK => ?_) AllReadyH.nil)
          · go_simp
            refine hK.out _ _ trivial (fun hHeld => ?_)
            clear hK K
            try simp only [Act.put, List.setIfInBounds_toArray, List.set_cons_zero, List.set_cons_succ]
            refine wpAnyH_ready (rs := [7]) (by kernel_rfl) (by simp) ?_
            refine AllReadyH.cons (by simp only [List.getElem?_toArray, List.getElem?_cons_zero, List.getElem?_cons_succ]; rfl) (fun K hK => ?_) AllReadyH.nil
            go_simp
            refine hK.out _ _ trivial (fun hHeld => ?_)
            clear hK K
            try simp only [Act.put, List.setIfInBounds_toArray, List.set_cons_zero, List.set_cons_succ]
            refine wpAnyH_ready (rs := [8]) (by kernel_rfl) (by simp) ?_
            refine AllReadyH.cons (by simp only [List.getElem?_toArray, List.getElem?_cons_zero, List.getElem?_cons_succ]; rfl) (fun K hK => ?_) AllReadyH.nil
            refine step_append_mn rfl _ _ _ rfl (g + 1) 50 _ 1 1 Try.underlying22 info50 rfl (by omega) (.slice A2 n c2) n (nums .u8 (kl y n)) rfl (T2.out.below (by repeat (first | exact Below.refl _ _ | apply Bw.alloc | apply Bw.drewN | apply Bw.drew | (refine Bw.step ?_ (by assumption))))) _ 1 1 (nums .u8 [(y n : Int)]) rfl (by first | exact rv_one | exact Rv.drew rv_one | exact Rv.drewN rv_one _) (nums_one _ _) (by omega) (by omega) (by have := T1.out.lt; simp; omega) ?_
            intro A5 c5 w5 hc5 hm5 hg5 hat5
            obtain ⟨t1, t2, t3, t4, t5, t6⟩ := half (V1' := .slice A5 (n + 1) c5) hBg'.out T1.out HM3.out T2.out (by repeat (first | exact Below.refl _ _ | apply Bw.alloc | apply Bw.drewN | apply Bw.drew | (refine Bw.step ?_ (by assumption)))) hg5 (by rw [own_map']; exact hat5) (fun k hk e => T3.out k e hk)
            have d2 := t1.cell 2 (.slice A2 n c2) rfl
            have j2 := t1.frozen 2
            have U1 := Lib.hid (t1.set 2 (.slice A5 (n + 1) c5))
            have U2 := Lib.hid (t2.setOther (B := B) (j := 2) (u := .slice A5 (n + 1) c5))
            have U3 := Lib.hid t3
            have U4 := Lib.hid t4
            have U5 := Lib.hid t5
            have U6 := Lib.hid (t6.setCell (p := ⟨g, 2, none⟩) hBg'.out (.slice A5 (n + 1) c5))
            have HM5 := Lib.hid (hm5.setOther (B := B) (j := 2) (u := .slice A5 (n + 1) c5))
            have HC5 := Lib.hid hc5
            have HKP := Lib.hid (show ∀ k, k < w.heap.size → k ≠ g → (Value.slice A1 n c1).ownBlock ≠ some k → (Value.slice A2 n c2).ownBlock ≠ some k → (w5.setCell ⟨g, 2, none⟩ (.slice A5 (n + 1) c5)).heap[k]? = w.heap[k]? from fun k h1 h2 h3 h4 => by rw [setCell_other _ _ _ _ _ h2, t4 k (by have := T6.out.size; omega) h4]; exact T7.out k h1 h2 h3)
            clear t1 t2 t3 t4 t5 t6 hm5 hg5 hat5 hc5
            refine hK.out _ _ trivial (fun hHeld => ?_)
            clear hK K
            try simp only [Act.put, List.setIfInBounds_toArray, List.set_cons_zero, List.set_cons_succ]
            refine wpAnyH_take (i := 9) (v := .pointer (some ⟨g, 0, none⟩)) (by simp only [List.getElem?_toArray, List.getElem?_cons_zero, List.getElem?_cons_succ]; rfl) (by kernel_rfl) (by kernel_rfl) (by kernel_rfl) (fun _ _ _ h => h) (Or.inl ⟨by rfl, ?_⟩) (by assumption) ?_
            · intro w hSw
              try dsimp only at hSw
              go_simp
            try simp only [Act.put, List.setIfInBounds_toArray, List.set_cons_zero, List.set_cons_succ]
            refine wpAnyH_take (i := 10) (v := .pointer (some ⟨g, 2, none⟩)) (by simp only [List.getElem?_toArray, List.getElem?_cons_zero, List.getElem?_cons_succ]; rfl) (by kernel_rfl) (by kernel_rfl) (by kernel_rfl) (fun _ _ _ h => h) (Or.inl ⟨by rfl, ?_⟩) (by assumption) ?_
            · intro w hSw
              try dsimp only at hSw
              go_simp
            try simp only [Act.put, List.setIfInBounds_toArray, List.set_cons_zero, List.set_cons_succ]
            refine wpAnyH_ready (rs := [11]) (by kernel_rfl) (by simp) ?_
            refine AllReadyH.cons (by simp only [List.getElem?_toArray, List.getElem?_cons_zero, List.getElem?_cons_succ]; rfl) (fun K hK => ?_) AllReadyH.nil
            go_simp
            refine hK.out _ _ trivial (fun hHeld => ?_)
            clear hK K
            try simp only [Act.put, List.setIfInBounds_toArray, List.set_cons_zero, List.set_cons_succ]
            refine wpAnyH_done (by kernel_rfl) ?_ _
            refine NoPanic.normal ?_
            generalize (w5.setCell ⟨g, 2, none⟩ (.slice A5 (n + 1) c5)) = w6 at *
            have HRSN := Lib.hid (show RS w6 B g (Value.slice A3 (n + 1) c3).ownBlock (Value.slice A5 (n + 1) c5).ownBlock o (n + 1) x y from ⟨hBg'.out, A3, c3, A5, c5, U1.out, by rw [kl_succ, nums_append]; exact U2.out, by rw [kl_succ, nums_append]; exact HM5.out, HC3.out, HC5.out, by omega, rfl, rfl, fun k h1 h2 => U3.out k h2 h1⟩)
            have HRC := Lib.hid (show RC w6 g o A3 A5 c3 c5 (n + 1) x y from ⟨U1.out, by rw [kl_succ]; exact Mn.rd (by rw [nums_append]; exact U2.out), by rw [kl_succ]; exact Mn.rd (by rw [nums_append]; exact HM5.out), HC3.out, HC5.out, by omega⟩)
            have HSZ := Lib.hid (show w.heap.size ≤ w4.heap.size ∧ w4.heap.size ≤ w6.heap.size from ⟨T6.out.size, U6.out.size⟩)
            have HFIN : Hid (∀ w', Below w6.heap.size w6 w' → ∃ a' b', RS w' B g a' b' o (min (n + 1) 114) x y ∧ KeepR w w' g a b a' b' ∧ Below B w w') := fun w' hb' => by
              rw [show min (n + 1) 114 = n + 1 by omega]
              obtain ⟨hz1, hz2⟩ := HSZ.out
              refine ⟨_, _, HRSN.out.below hb', ⟨fun k h1 h2 h3 h4 => ?_, ?_, ?_⟩, T6.out.trans (U6.out.trans (hb'.mono (by have := HRSN.out.lt; have := hBg'.out; omega)))⟩
              · exact (hb'.block k (by omega)).trans (HKP.out k h1 h2 (by rw [HA.out]; exact h3) (by rw [HBB.out]; exact h4))
              · rcases T5.out with e | e
                · exact .inl (e.trans HA.out)
                · exact .inr e
              · rcases U5.out with e | ⟨q, e, hq⟩
                · exact .inl (e.trans HBB.out)
                · exact .inr ⟨q, e, by omega⟩
            clear d2 j2
            obtain ⟨cu, hcu⟩ : ∃ cu, cuF x y (n + 1) = cu := ⟨_, rfl⟩
            have HCUT : Hid (Calls Try.prog 135 #[.pointer (some ⟨g, 0, none⟩), .int .i64 ((n : Int) + 1)] w6 fun e w' => e = .returned (.bool cu) ∧ w6 = w') := by
              have := cut_calls HRC.out (n + 1) (Nat.le_refl _)
              rw [hcu, show ((n + 1 : Nat) : Int) = (n : Int) + 1 by omega] at this
              exact this
            have HCU := Lib.hid hcu
            clear hcu
            cases cu with
            | true =>
              have HO := Lib.hid (show outF o x y n = 0 by unfold outF; rw [if_pos HCU.out])
              go_wp2_with fail
              refine HCUT.out.mono ?_; rintro e w' ⟨rfl, rfl⟩
              go_wp2
              go_ret
              exact ⟨by rw [HO.out]; rfl, HFIN.out _ (Below.refl _ _)⟩
            | false =>
              by_cases h112 : n < 112
              · have HO := Lib.hid (show outF o x y n = bdF x y n by unfold outF; rw [if_neg (by rw [HCU.out]; simp), if_pos h112])
                have HBD := Lib.hid (body_calls HRC.out n (Nat.lt_succ_self n))
                go_wp2_with fail
                refine HCUT.out.mono ?_; rintro e w' ⟨rfl, rfl⟩
                go_wp2_with fail
                refine HBD.out.mono ?_; rintro e w' ⟨rfl, rfl⟩
                go_wp2
                go_ret
                exact ⟨by rw [HO.out]; rfl, HFIN.out _ (Below.refl _ _)⟩
              · by_cases h112' : n = 112
                · subst h112'
                  obtain ⟨wh, hwh⟩ : ∃ wh, whF o x y = wh := ⟨_, rfl⟩
                  have HO := Lib.hid (show outF o x y 112 = sy wh by unfold outF; rw [if_neg (by rw [HCU.out]; simp), if_neg (by omega), if_pos rfl, hwh])
                  have HWH := Lib.hid (rwhole_calls HRC.out (by omega))
                  rw [hwh] at HWH
                  clear hwh
                  cases wh
                  all_goals
                    go_wp2_with fail
                    refine HCUT.out.mono ?_; rintro e w' ⟨rfl, rfl⟩
                    go_wp2_with fail
                    refine HWH.out.mono ?_; rintro e w7 ⟨rfl, hb7⟩
                    go_wp2
                    go_ret
                    exact ⟨by rw [HO.out]; rfl, HFIN.out _ hb7⟩
                · have h113 : n = 113 := by omega
                  subst h113
                  obtain ⟨hi, hhi⟩ : ∃ hi, hiF o x y = hi := ⟨_, rfl⟩
                  have HO := Lib.hid (show outF o x y 113 = sy (!hi) by unfold outF; rw [if_neg (by rw [HCU.out]; simp), if_neg (by omega), if_neg (by omega), if_pos rfl, hhi])
                  have HRH := Lib.hid (rhigh_calls HRC.out)
                  obtain ⟨L, hL⟩ : ∃ L, hiB o x y (113 + 1) = L := ⟨_, rfl⟩
                  rw [hL, show hiP o x y (113 + 1) = hiF o x y from rfl, hhi] at HRH
                  clear hhi hL
                  cases hi
                  all_goals
                    go_wp2_with fail
                    refine HCUT.out.mono ?_; rintro e w' ⟨rfl, rfl⟩
                    go_wp2_with fail
                    refine HRH.out.mono ?_; rintro e w7 ⟨rfl, hb7⟩
                    unfold f5
                    go_wp2
                    go_ret
                    exact ⟨by rw [HO.out]; rfl, HFIN.out _ (Bw.alloc hb7 _)⟩
          · go_simp
            refine hK.out _ _ trivial (fun hHeld => ?_)
            clear hK K
            try simp only [Act.put, List.setIfInBounds_toArray, List.set_cons_zero, List.set_cons_succ]
            have d2z := (T1.out.below (show Below w4.heap.size w4 (w4.alloc (.cells #[.int .u8 (y n)] 50)) from (by repeat (first | exact Below.refl _ _ | apply Bw.alloc | apply Bw.drewN | apply Bw.drew | (refine Bw.step ?_ (by assumption)))))).cell 2 (.slice A2 n c2) rfl
            refine wpAnyH_ready (rs := [4]) (by kernel_rfl) (by simp) ?_
            refine AllReadyH.cons (by simp only [List.getElem?_toArray, List.getElem?_cons_zero, List.getElem?_cons_succ]; rfl) (fun K hK => ?_) AllReadyH.nil
            go_simp
            refine hK.out _ _ trivial (fun hHeld => ?_)
            clear hK K
            try simp only [Act.put, List.setIfInBounds_toArray, List.set_cons_zero, List.set_cons_succ]
            refine wpAnyH_ready (rs := [8]) (by kernel_rfl) (by simp) ?_
            refine AllReadyH.cons (by simp only [List.getElem?_toArray, List.getElem?_cons_zero, List.getElem?_cons_succ]; rfl) (fun K hK => ?_) AllReadyH.nil
            refine step_append_mn rfl _ _ _ rfl (g + 1) 50 _ 1 1 Try.underlying22 info50 rfl (by omega) (.slice A2 n c2) n (nums .u8 (kl y n)) rfl (T2.out.below (by repeat (first | exact Below.refl _ _ | apply Bw.alloc | apply Bw.drewN | apply Bw.drew | (refine Bw.step ?_ (by assumption))))) _ 1 1 (nums .u8 [(y n : Int)]) rfl (by first | exact rv_one | exact Rv.drew rv_one | exact Rv.drewN rv_one _) (nums_one _ _) (by omega) (by omega) (by have := T1.out.lt; simp; omega) ?_
            intro A5 c5 w5 hc5 hm5 hg5 hat5
            obtain ⟨t1, t2, t3, t4, t5, t6⟩ := half (V1' := .slice A5 (n + 1) c5) hBg'.out T1.out HM3.out T2.out (by repeat (first | exact Below.refl _ _ | apply Bw.alloc | apply Bw.drewN | apply Bw.drew | (refine Bw.step ?_ (by assumption)))) hg5 (by rw [own_map']; exact hat5) (fun k hk e => T3.out k e hk)
            have d2 := t1.cell 2 (.slice A2 n c2) rfl
            have j2 := t1.frozen 2
            have U1 := Lib.hid (t1.set 2 (.slice A5 (n + 1) c5))
            have U2 := Lib.hid (t2.setOther (B := B) (j := 2) (u := .slice A5 (n + 1) c5))
            have U3 := Lib.hid t3
            have U4 := Lib.hid t4
            have U5 := Lib.hid t5
            have U6 := Lib.hid (t6.setCell (p := ⟨g, 2, none⟩) hBg'.out (.slice A5 (n + 1) c5))
            have HM5 := Lib.hid (hm5.setOther (B := B) (j := 2) (u := .slice A5 (n + 1) c5))
            have HC5 := Lib.hid hc5
            have HKP := Lib.hid (show ∀ k, k < w.heap.size → k ≠ g → (Value.slice A1 n c1).ownBlock ≠ some k → (Value.slice A2 n c2).ownBlock ≠ some k → (w5.setCell ⟨g, 2, none⟩ (.slice A5 (n + 1) c5)).heap[k]? = w.heap[k]? from fun k h1 h2 h3 h4 => by rw [setCell_other _ _ _ _ _ h2, t4 k (by have := T6.out.size; omega) h4]; exact T7.out k h1 h2 h3)
            clear t1 t2 t3 t4 t5 t6 hm5 hg5 hat5 hc5
            refine hK.out _ _ trivial (fun hHeld => ?_)
            clear hK K
            try simp only [Act.put, List.setIfInBounds_toArray, List.set_cons_zero, List.set_cons_succ]
            refine wpAnyH_take (i := 9) (v := .pointer (some ⟨g, 0, none⟩)) (by simp only [List.getElem?_toArray, List.getElem?_cons_zero, List.getElem?_cons_succ]; rfl) (by kernel_rfl) (by kernel_rfl) (by kernel_rfl) (fun _ _ _ h => h) (Or.inl ⟨by rfl, ?_⟩) (by assumption) ?_
            · intro w hSw
              try dsimp only at hSw
              go_simp
            try simp only [Act.put, List.setIfInBounds_toArray, List.set_cons_zero, List.set_cons_succ]
            refine wpAnyH_take (i := 10) (v := .pointer (some ⟨g, 2, none⟩)) (by simp only [List.getElem?_toArray, List.getElem?_cons_zero, List.getElem?_cons_succ]; rfl) (by kernel_rfl) (by kernel_rfl) (by kernel_rfl) (fun _ _ _ h => h) (Or.inl ⟨by rfl, ?_⟩) (by assumption) ?_
            · intro w hSw
              try dsimp only at hSw
              go_simp
            try simp only [Act.put, List.setIfInBounds_toArray, List.set_cons_zero, List.set_cons_succ]
            refine wpAnyH_ready (rs := [11]) (by kernel_rfl) (by simp) ?_
            refine AllReadyH.cons (by simp only [List.getElem?_toArray, List.getElem?_cons_zero, List.getElem?_cons_succ]; rfl) (fun K hK => ?_) AllReadyH.nil
            go_simp
            refine hK.out _ _ trivial (fun hHeld => ?_)
            clear hK K
            try simp only [Act.put, List.setIfInBounds_toArray, List.set_cons_zero, List.set_cons_succ]
            refine wpAnyH_done (by kernel_rfl) ?_ _
            refine NoPanic.normal ?_
            generalize (w5.setCell ⟨g, 2, none⟩ (.slice A5 (n + 1) c5)) = w6 at *
            have HRSN := Lib.hid (show RS w6 B g (Value.slice A3 (n + 1) c3).ownBlock (Value.slice A5 (n + 1) c5).ownBlock o (n + 1) x y from ⟨hBg'.out, A3, c3, A5, c5, U1.out, by rw [kl_succ, nums_append]; exact U2.out, by rw [kl_succ, nums_append]; exact HM5.out, HC3.out, HC5.out, by omega, rfl, rfl, fun k h1 h2 => U3.out k h2 h1⟩)
            have HRC := Lib.hid (show RC w6 g o A3 A5 c3 c5 (n + 1) x y from ⟨U1.out, by rw [kl_succ]; exact Mn.rd (by rw [nums_append]; exact U2.out), by rw [kl_succ]; exact Mn.rd (by rw [nums_append]; exact HM5.out), HC3.out, HC5.out, by omega⟩)
            have HSZ := Lib.hid (show w.heap.size ≤ w4.heap.size ∧ w4.heap.size ≤ w6.heap.size from ⟨T6.out.size, U6.out.size⟩)
            have HFIN : Hid (∀ w', Below w6.heap.size w6 w' → ∃ a' b', RS w' B g a' b' o (min (n + 1) 114) x y ∧ KeepR w w' g a b a' b' ∧ Below B w w') := fun w' hb' => by
              rw [show min (n + 1) 114 = n + 1 by omega]
              obtain ⟨hz1, hz2⟩ := HSZ.out
              refine ⟨_, _, HRSN.out.below hb', ⟨fun k h1 h2 h3 h4 => ?_, ?_, ?_⟩, T6.out.trans (U6.out.trans (hb'.mono (by have := HRSN.out.lt; have := hBg'.out; omega)))⟩
              · exact (hb'.block k (by omega)).trans (HKP.out k h1 h2 (by rw [HA.out]; exact h3) (by rw [HBB.out]; exact h4))
              · rcases T5.out with e | e
                · exact .inl (e.trans HA.out)
                · exact .inr e
              · rcases U5.out with e | ⟨q, e, hq⟩
                · exact .inl (e.trans HBB.out)
                · exact .inr ⟨q, e, by omega⟩
            clear d2 j2
            obtain ⟨cu, hcu⟩ : ∃ cu, cuF x y (n + 1) = cu := ⟨_, rfl⟩
            have HCUT : Hid (Calls Try.prog 135 #[.pointer (some ⟨g, 0, none⟩), .int .i64 ((n : Int) + 1)] w6 fun e w' => e = .returned (.bool cu) ∧ w6 = w') := by
              have := cut_calls HRC.out (n + 1) (Nat.le_refl _)
              rw [hcu, show ((n + 1 : Nat) : Int) = (n : Int) + 1 by omega] at this
              exact this
            have HCU := Lib.hid hcu
            clear hcu
            cases cu with
            | true =>
              have HO := Lib.hid (show outF o x y n = 0 by unfold outF; rw [if_pos HCU.out])
              go_wp2_with fail
              refine HCUT.out.mono ?_; rintro e w' ⟨rfl, rfl⟩
              go_wp2
              go_ret
              exact ⟨by rw [HO.out]; rfl, HFIN.out _ (Below.refl _ _)⟩
            | false =>
              by_cases h112 : n < 112
              · have HO := Lib.hid (show outF o x y n = bdF x y n by unfold outF; rw [if_neg (by rw [HCU.out]; simp), if_pos h112])
                have HBD := Lib.hid (body_calls HRC.out n (Nat.lt_succ_self n))
                go_wp2_with fail
                refine HCUT.out.mono ?_; rintro e w' ⟨rfl, rfl⟩
                go_wp2_with fail
                refine HBD.out.mono ?_; rintro e w' ⟨rfl, rfl⟩
                go_wp2
                go_ret
                exact ⟨by rw [HO.out]; rfl, HFIN.out _ (Below.refl _ _)⟩
              · by_cases h112' : n = 112
                · subst h112'
                  obtain ⟨wh, hwh⟩ : ∃ wh, whF o x y = wh := ⟨_, rfl⟩
                  have HO := Lib.hid (show outF o x y 112 = sy wh by unfold outF; rw [if_neg (by rw [HCU.out]; simp), if_neg (by omega), if_pos rfl, hwh])
                  have HWH := Lib.hid (rwhole_calls HRC.out (by omega))
                  rw [hwh] at HWH
                  clear hwh
                  cases wh
                  all_goals
                    go_wp2_with fail
                    refine HCUT.out.mono ?_; rintro e w' ⟨rfl, rfl⟩
                    go_wp2_with fail
                    refine HWH.out.mono ?_; rintro e w7 ⟨rfl, hb7⟩
                    go_wp2
                    go_ret
                    exact ⟨by rw [HO.out]; rfl, HFIN.out _ hb7⟩
                · have h113 : n = 113 := by omega
                  subst h113
                  obtain ⟨hi, hhi⟩ : ∃ hi, hiF o x y = hi := ⟨_, rfl⟩
                  have HO := Lib.hid (show outF o x y 113 = sy (!hi) by unfold outF; rw [if_neg (by rw [HCU.out]; simp), if_neg (by omega), if_neg (by omega), if_pos rfl, hhi])
                  have HRH := Lib.hid (rhigh_calls HRC.out)
                  obtain ⟨L, hL⟩ : ∃ L, hiB o x y (113 + 1) = L := ⟨_, rfl⟩
                  rw [hL, show hiP o x y (113 + 1) = hiF o x y from rfl, hhi] at HRH
                  clear hhi hL
                  cases hi
                  all_goals
                    go_wp2_with fail
                    refine HCUT.out.mono ?_; rintro e w' ⟨rfl, rfl⟩
                    go_wp2_with fail
                    refine HRH.out.mono ?_; rintro e w7 ⟨rfl, hb7⟩
                    unfold f5
                    go_wp2
                    go_ret
                    exact ⟨by rw [HO.out]; rfl, HFIN.out _ (Bw.alloc hb7 _)⟩
end Go.Proofs.Ytnmhhjgiakijgaa
