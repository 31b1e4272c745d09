/- Catches, the document's: High, Step. -/
import Derived.Test.YtnmhhjgiakijgaaE4
namespace Go.Proofs.Ytnmhhjgiakijgaa
open Go.RowKit
set_option linter.unusedVariables false
set_option linter.unusedSimpArgs false

/-- is it high, behind n pairs? -/
def hiP (o : Int) (x y : Nat → Nat) (n : Nat) : Bool := decide (114 ≤ n) && hiF o x y
/-- the bytes of its frame, if it is -/
def hiB (o : Int) (x y : Nat → Nat) (n : Nat) : List Int := if hiP o x y n = true then byV (bdL x y 112) else []

set_option maxHeartbeats 6400000 in
set_option maxRecDepth 20000 in
theorem rhigh_calls {w : World} {g : Nat} {o : Int} {A1 A2 : Option Addr} {c1 c2 n : Nat} {x y : Nat → Nat} (h : RC w g o A1 A2 c1 c2 n x y) :
    Calls Try.prog 84 #[.pointer (some ⟨g, 0, none⟩)] w fun e w' => e = .returned (.tuple #[.agg (f5 (hiB o x y n)), .bool (hiP o x y n)]) ∧ Below w.heap.size w w' := by
  have HC := Lib.hid h
  have hn := h.hn
  have hW : Below w.heap.size w (w.alloc (.cells #[.int .i64 0, .int .u8 0, .int .u8 0, .int .u32 0, .int .u32 0] 85)) := (by repeat (first | exact Below.refl _ _ | apply Bw.alloc | apply Bw.drewN | apply Bw.drew | (refine Bw.step ?_ (by assumption))))
  have HW := Lib.hid hW
  have HB1 := Lib.hid (show Blk (w.alloc (.cells #[.int .i64 0, .int .u8 0, .int .u8 0, .int .u32 0, .int .u32 0] 85)) w.heap.size #[.int .i64 0, .int .u8 0, .int .u8 0, .int .u32 0, .int .u32 0] 85 from Blk.new rfl)
  have HCW := Lib.hid (h.below hW)
  by_cases h114 : n = 114
  · subst h114
    have HWH : Hid (∀ w', Below w.heap.size w w' → Calls Try.prog 137 #[.pointer (some ⟨g, 0, none⟩)] w' fun e w'' => e = .returned (.bool (whF o x y)) ∧ Below w'.heap.size w' w'') := fun w' hb => rwhole_calls (HC.out.below hb) (by omega)
    have HP := Lib.hid (show hiP o x y 114 = (whF o x y && ((x 113 : Int) == 1) && ((y 113 : Int) == 1)) from rfl)
    have HIB := Lib.hid (show whF o x y = true → isB o (bdL x y 112) = true by intro h; simp only [whF, Bool.and_eq_true] at h; exact h.1.1.1)
    obtain ⟨b1, o1, rfl, e1⟩ := HC.out.r1.at_ 113 (by omega)
    obtain ⟨b2, o2, rfl, e2⟩ := HC.out.r2.at_ 113 (by omega)
    rw [kl_gt x (by omega)] at e1
    rw [kl_gt y (by omega)] at e2
    obtain ⟨X, hX⟩ : ∃ X, x 113 = X := ⟨_, rfl⟩
    obtain ⟨Y, hY⟩ : ∃ Y, y 113 = Y := ⟨_, rfl⟩
    rw [hX] at e1
    rw [hY] at e2
    have d1 := h.blk.cell 1 (.slice (some ⟨b1, o1, none⟩) 114 c1) rfl
    have d2 := h.blk.cell 2 (.slice (some ⟨b2, o2, none⟩) 114 c2) rfl
    have HDD : Hid (∀ w', Below w.heap.size w w' → w'.cell? ⟨g, 1, none⟩ = some (.slice (some ⟨b1, o1, none⟩) 114 c1) ∧ w'.cell? ⟨g, 2, none⟩ = some (.slice (some ⟨b2, o2, none⟩) 114 c2) ∧ w'.cell? ⟨b1, o1 + 113, none⟩ = some (.int .u8 X) ∧ w'.cell? ⟨b2, o2 + 113, none⟩ = some (.int .u8 Y)) := fun w' hb =>
      ⟨(hb.cell (p := ⟨g, 1, none⟩) HC.out.blk.lt).trans d1, (hb.cell (p := ⟨g, 2, none⟩) HC.out.blk.lt).trans d2,
        (hb.cell (p := ⟨b1, o1 + 113, none⟩) (World.block_lt_of_cell? w ⟨b1, o1 + 113, none⟩ e1)).trans e1, (hb.cell (p := ⟨b2, o2 + 113, none⟩) (World.block_lt_of_cell? w ⟨b2, o2 + 113, none⟩ e2)).trans e2⟩
    obtain ⟨p1, hp1⟩ : ∃ p, ((X : Int) == 1) = p := ⟨_, rfl⟩
    obtain ⟨p2, hp2⟩ : ∃ p, ((Y : Int) == 1) = p := ⟨_, rfl⟩
    have hn1 : ((X : Int) != 1) = !p1 := by rw [← hp1]; rfl
    have hn2 : ((Y : Int) != 1) = !p2 := by rw [← hp2]; rfl
    obtain ⟨wh, hwh⟩ : ∃ wh, whF o x y = wh := ⟨_, rfl⟩
    rw [hX, hY, hwh, hp1, hp2] at HP
    rw [hwh] at HWH HIB
    obtain ⟨L, hL⟩ : ∃ L, byV (bdL x y 112) = L := ⟨_, rfl⟩
    have HFR : Hid (wh = true → ∀ w', Below w.heap.size w w' → Calls Try.prog 139 #[.pointer (some ⟨g, 0, none⟩)] w' fun e w'' => e = .returned (.tuple #[.agg (f5 L), .bool true]) ∧ Below w'.heap.size w' w'') := fun hh w' hb => by
      have := rframe_calls (HC.out.below hb) 112 (by omega)
      rw [hL, HIB.out hh] at this
      exact this
    have HHB := Lib.hid (show hiB o x y 114 = if (wh && p1 && p2) = true then L else [] by unfold hiB; rw [HP.out, hL])
    rw [HHB.out, HP.out]
    have HHW := Lib.hid (HDD.out _ hW)
    clear h hW hX hY hp1 hp2 hwh hL HHB HP HIB d1 d2 e1 e2
    obtain ⟨d1, d2, e1, e2⟩ := HHW.out
    have hkk : (wh = true ∧ p1 = true ∧ p2 = true) ∨ ((wh && p1 && p2) = false ∧ (wh = false ∨ wh = true ∧ (p1 = false ∨ p1 = true ∧ p2 = false))) := by cases wh <;> cases p1 <;> cases p2 <;> simp
    rcases hkk with ⟨rfl, rfl, rfl⟩ | ⟨hno, hkk⟩
    · rw [if_pos (show (true && true && true) = true from rfl), show (true && true && true) = true from rfl]
      unfold f5
      go_enter Try.func84, Try.ntmps84
      go_wp2_with fail
      generalize (w.alloc (.cells #[.int .i64 0, .int .u8 0, .int .u8 0, .int .u32 0, .int .u32 0] 85)) = W at *
      clear d1 d2 e1 e2
      refine (HWH.out _ HW.out).mono ?_; rintro e w1 ⟨rfl, hb1⟩
      have HBW1 := Lib.hid (show Below w.heap.size w w1 from Bw.step HW.out hb1)
      obtain ⟨d1, d2, e1, e2⟩ := HDD.out _ HBW1.out
      have HBX := Lib.hid hb1
      clear hb1
      go_wp2_with fail
      refine (HFR.out trivial _ HBW1.out).mono ?_; rintro e w2 ⟨rfl, hb2⟩
      have hT := (HB1.out.below HBX.out).below hb2
      obtain ⟨z0, z1, z2, z3, z4⟩ := hT.c5
      have j0 := hT.frozen 0
      have j1 := hT.frozen 1
      have j2 := hT.frozen 2
      have j3 := hT.frozen 3
      have j4 := hT.frozen 4
      have HB3 := Lib.hid (Bk.set5 (show Below w.heap.size w w2 from Bw.step HBW1.out hb2) (Nat.le_refl _) (.int .i64 (fO L)) (.int .u8 (fK L)) (.int .u8 (fS L)) (.int .u32 (fQ L)) (.int .u32 (fV L)))
      clear hT hb2 d1 d2 e1 e2
      unfold f5
      go_wp2
      refine bodyPost_ret (v := .tuple #[.agg #[.int .i64 (fO L), .int .u8 (fK L), .int .u8 (fS L), .int .u32 (fQ L), .int .u32 (fV L)], .bool true]) (by simp [results, Try.results84, go_sem, *]) rfl ?_
      exact ⟨rfl, HB3.out⟩
    · rw [if_neg (by rw [hno]; simp), hno, f5_nil']
      clear hno
      rcases hkk with rfl | ⟨rfl, hkk⟩
      · go_enter Try.func84, Try.ntmps84
        go_wp2_with fail
        refine (HWH.out _ HW.out).mono ?_; rintro e w1 ⟨rfl, hb1⟩
        have hT := HB1.out.below hb1
        obtain ⟨z0, z1, z2, z3, z4⟩ := hT.c5
        have j0 := hT.frozen 0
        have j1 := hT.frozen 1
        have j2 := hT.frozen 2
        have j3 := hT.frozen 3
        have j4 := hT.frozen 4
        have HB3 := Lib.hid (Bk.set5 (show Below w.heap.size w w1 from Bw.step HW.out hb1) (Nat.le_refl _) (.int .i64 0) (.int .u8 0) (.int .u8 0) (.int .u32 0) (.int .u32 0))
        clear hT hb1 d1 d2 e1 e2
        go_wp2
        refine bodyPost_ret (v := .tuple #[.agg #[.int .i64 0, .int .u8 0, .int .u8 0, .int .u32 0, .int .u32 0], .bool false]) (by simp [results, Try.results84, go_sem, *]) rfl ?_
        exact ⟨rfl, HB3.out⟩
      · rcases hkk with rfl | ⟨rfl, rfl⟩
        all_goals
          go_enter Try.func84, Try.ntmps84
          go_wp2_with fail
          clear d1 d2 e1 e2
          refine (HWH.out _ HW.out).mono ?_; rintro e w1 ⟨rfl, hb1⟩
          have hbw1 : Below w.heap.size w w1 := Bw.step HW.out hb1
          have hT := HB1.out.below hb1
          obtain ⟨d1, d2, e1, e2⟩ := HDD.out _ hbw1
          obtain ⟨z0, z1, z2, z3, z4⟩ := hT.c5
          have j0 := hT.frozen 0
          have j1 := hT.frozen 1
          have j2 := hT.frozen 2
          have j3 := hT.frozen 3
          have j4 := hT.frozen 4
          have HB3 := Lib.hid (Bk.set5 hbw1 (Nat.le_refl _) (.int .i64 0) (.int .u8 0) (.int .u8 0) (.int .u32 0) (.int .u32 0))
          clear hT hb1 hbw1
          go_wp2
          refine bodyPost_ret (v := .tuple #[.agg #[.int .i64 0, .int .u8 0, .int .u8 0, .int .u32 0, .int .u32 0], .bool false]) (by simp [results, Try.results84, go_sem, *]) rfl ?_
          exact ⟨rfl, HB3.out⟩
  · have hlt : n < 114 := by omega
    have HPF := Lib.hid (show hiP o x y n = false by unfold hiP; rw [decide_eq_false (by omega)]; rfl)
    have HHB := Lib.hid (show hiB o x y n = [] by unfold hiB; rw [if_neg (by rw [HPF.out]; simp)])
    have d1 := HCW.out.blk.cell 1 (.slice A1 n c1) rfl
    rw [HPF.out, HHB.out, f5_nil']
    clear h hW
    go_enter Try.func84, Try.ntmps84
    go_wp2
    refine bodyPost_ret (v := .tuple #[.agg #[.int .i64 0, .int .u8 0, .int .u8 0, .int .u32 0, .int .u32 0], .bool false]) (by simp [results, Try.results84, go_sem]) rfl ?_
    exact ⟨rfl, (by repeat (first | exact Below.refl _ _ | apply Bw.alloc | apply Bw.drewN | apply Bw.drew | (refine Below.setCell ?_ (by first | exact Nat.le_refl _ | omega | (simp; omega)) _) | (refine Bw.step ?_ (by assumption))))⟩
end Go.Proofs.Ytnmhhjgiakijgaa
