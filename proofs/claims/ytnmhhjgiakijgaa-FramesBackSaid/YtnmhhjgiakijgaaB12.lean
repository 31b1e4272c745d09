/- FramesBack: what the call returns. -/
import Derived.Test.YtnmhhjgiakijgaaM11
import Derived.Test.YtnmhhjgiakijgaaA33
import Derived.Test.YtnmhhjgiakijgaaA28
namespace Go.Proofs.Ytnmhhjgiakijgaa
open Go.RowKit
set_option linter.unusedVariables false

theorem same_frames {o0 o1 : Int} {k0 s0 q0 v0 k1 s1 q1 v1 : Nat} (h0 : mayB o0 k0 = true) (h1 : mayB o1 k1 = true) (hs0 : s0 ≤ 255) (hq0 : q0 < 4294967296) (hv0 : v0 < 4294967296) (hs1 : s1 ≤ 255) (hq1 : q1 < 4294967296) (hv1 : v1 < 4294967296) :
    sameL (frP o0 k0 s0 q0 v0) (frP o1 k1 s1 q1 v1) = (o0 == o1 && ((k0 : Int) == (k1 : Int) && (s0 : Int) == (s1 : Int) && (q0 : Int) == (q1 : Int) && (v0 : Int) == (v1 : Int))) := by
  rw [Bool.eq_iff_iff]
  simp only [Bool.and_eq_true, beq_iff_eq, Int.ofNat_inj]
  constructor
  · intro h
    obtain ⟨g1, g2, g3, g4, g5⟩ := frP_inj h0 h1 hs0 hq0 hv0 hs1 hq1 hv1 (of_decide_eq_true h)
    exact ⟨g1, ⟨⟨g2, g3⟩, g4⟩, g5⟩
  · rintro ⟨rfl, ⟨⟨rfl, rfl⟩, rfl⟩, rfl⟩
    exact sameL_self _

set_option maxHeartbeats 6400000 in
set_option maxRecDepth 20000 in
theorem framesback_walk (o0 o1 : Int) (k0 s0 q0 v0 k1 s1 q1 v1 : Nat) (a b : Bool) (w : World) (hs0 : s0 ≤ 255) (hq0 : q0 < 4294967296) (hv0 : v0 < 4294967296) (hs1 : s1 ≤ 255) (hq1 : q1 < 4294967296) (hv1 : v1 < 4294967296) :
    Calls Try.prog 15 #[.agg #[.int .i64 o0, .int .i64 o1], .agg #[.int .u8 k0, .int .u8 s0, .int .u32 q0, .int .u32 v0, .int .u8 k1, .int .u8 s1, .int .u32 q1, .int .u32 v1], .agg #[.bool a, .bool b]] w fun e w' => e = .returned (.bool true) ∧ Below w.heap.size w w' := by
  have HC0 := Lib.hid (fun w => of58_calls o0 k0 s0 q0 v0 w)
  have HC1 := Lib.hid (fun w => of58_calls o1 k1 s1 q1 v1 w)
  have HP0 := Lib.hid (fun w => put5_calls o0 k0 s0 q0 v0 w hs0 hq0 hv0)
  have HP1 := Lib.hid (fun w => put5_calls o1 k1 s1 q1 v1 w hs1 hq1 hv1)
  obtain ⟨m1, hm1⟩ : ∃ m, (frP o1 k1 s1 q1 v1).length = m := ⟨_, rfl⟩
  obtain ⟨er1, her1⟩ : ∃ e, errP o1 k1 = e := ⟨_, rfl⟩
  have HM1 := Lib.hid hm1
  have HER1 := Lib.hid her1
  clear hm1 her1
  by_cases hbad : mayB o0 k0 = false
  · have HE := Lib.hid (show frP o0 k0 s0 q0 v0 = [] ∧ errP o0 k0 = 1 by simp [frP, errP, hbad])
    have hcase : ¬ (0 ≤ o0) ∨ (0 ≤ o0 ∧ ¬ (o0 < 8)) ∨ (0 ≤ o0 ∧ o0 < 8 ∧ ((k0 : Int) == 1) = false ∧ ((k0 : Int) == 2) = false) := by
      by_cases h1 : 0 ≤ o0
      · by_cases h2 : o0 < 8
        · refine .inr (.inr ⟨h1, h2, ?_, ?_⟩)
          · simp [mayB, h1, h2] at hbad; simp; omega
          · simp [mayB, h1, h2] at hbad; simp; omega
        · exact .inr (.inl ⟨h1, h2⟩)
      · exact .inl h1
    clear hbad
    rcases hcase with h1 | ⟨h1, h2⟩ | ⟨h1, h2, h3, h4⟩
    all_goals
      go_enter Try.func15, Try.ntmps15
      go_wp2_with fail
      refine (HC0.out _).mono ?_; rintro e w1 ⟨rfl, hb1⟩
      go_wp2_with fail
      refine (HP0.out _).mono ?_; rintro e w2 ⟨A2, he, hm2, hb2⟩
      rw [HE.out.1, HE.out.2] at he
      subst he
      have hb02 : Below (((w.alloc (.cells #[.int .i64 o0, .int .i64 o1] 118)).alloc (.cells #[.int .u8 k0, .int .u8 s0, .int .u32 q0, .int .u32 v0, .int .u8 k1, .int .u8 s1, .int .u32 q1, .int .u32 v1] 119)).alloc (.cells #[.bool a, .bool b] 83)).heap.size (((w.alloc (.cells #[.int .i64 o0, .int .i64 o1] 118)).alloc (.cells #[.int .u8 k0, .int .u8 s0, .int .u32 q0, .int .u32 v0, .int .u8 k1, .int .u8 s1, .int .u32 q1, .int .u32 v1] 119)).alloc (.cells #[.bool a, .bool b] 83)) w2 := (by repeat (first | exact Below.refl _ _ | apply Bw.alloc | apply Bw.drewN | apply Bw.drew | (refine Bw.step ?_ (by assumption))))
      have B3 := Lib.hid ((show Blk (((w.alloc (.cells #[.int .i64 o0, .int .i64 o1] 118)).alloc (.cells #[.int .u8 k0, .int .u8 s0, .int .u32 q0, .int .u32 v0, .int .u8 k1, .int .u8 s1, .int .u32 q1, .int .u32 v1] 119)).alloc (.cells #[.bool a, .bool b] 83)) w.heap.size #[.int .i64 o0, .int .i64 o1] 118 from (Blk.new (w := w) rfl).below (by repeat (first | exact Below.refl _ _ | apply Bw.alloc | apply Bw.drewN | apply Bw.drew | (refine Bw.step ?_ (by assumption))))).below hb02)
      have B4 := Lib.hid ((show Blk (((w.alloc (.cells #[.int .i64 o0, .int .i64 o1] 118)).alloc (.cells #[.int .u8 k0, .int .u8 s0, .int .u32 q0, .int .u32 v0, .int .u8 k1, .int .u8 s1, .int .u32 q1, .int .u32 v1] 119)).alloc (.cells #[.bool a, .bool b] 83)) (w.heap.size + 1) #[.int .u8 k0, .int .u8 s0, .int .u32 q0, .int .u32 v0, .int .u8 k1, .int .u8 s1, .int .u32 q1, .int .u32 v1] 119 from (show Blk ((w.alloc (.cells #[.int .i64 o0, .int .i64 o1] 118)).alloc (.cells #[.int .u8 k0, .int .u8 s0, .int .u32 q0, .int .u32 v0, .int .u8 k1, .int .u8 s1, .int .u32 q1, .int .u32 v1] 119)) (w.heap.size + 1) #[.int .u8 k0, .int .u8 s0, .int .u32 q0, .int .u32 v0, .int .u8 k1, .int .u8 s1, .int .u32 q1, .int .u32 v1] 119 from Blk.new (by simp)).below (by repeat (first | exact Below.refl _ _ | apply Bw.alloc | apply Bw.drewN | apply Bw.drew | (refine Bw.step ?_ (by assumption))))).below hb02)
      have hbw2 : Below w.heap.size w w2 := (by repeat (first | exact Below.refl _ _ | apply Bw.alloc | apply Bw.drewN | apply Bw.drew | (refine Bw.step ?_ (by assumption))))
      clear hb1 hb2 hb02 hm2
      have x0 := B3.out.cell 0 (.int .i64 o0) rfl
      have x1 := B3.out.cell 1 (.int .i64 o1) rfl
      have y0 := B4.out.cell 0 (.int .u8 k0) rfl
      have y1 := B4.out.cell 1 (.int .u8 s0) rfl
      have y2 := B4.out.cell 2 (.int .u32 q0) rfl
      have y3 := B4.out.cell 3 (.int .u32 v0) rfl
      have y4 := B4.out.cell 4 (.int .u8 k1) rfl
      have y5 := B4.out.cell 5 (.int .u8 s1) rfl
      have y6 := B4.out.cell 6 (.int .u32 q1) rfl
      have y7 := B4.out.cell 7 (.int .u32 v1) rfl
      go_wp2_with fail
      clear x0 x1 y0 y1 y2 y3 y4 y5 y6 y7
      refine (HC1.out _).mono ?_; rintro e w3 ⟨rfl, hb3⟩
      go_wp2_with fail
      refine (HP1.out _).mono ?_; rintro e w4 ⟨A4, rfl, hm4, hb4⟩
      rewrite [HM1.out, HER1.out]
      have hb24 : Below w2.heap.size w2 w4 := (by repeat (first | exact Below.refl _ _ | apply Bw.alloc | apply Bw.drewN | apply Bw.drew | (refine Bw.step ?_ (by assumption))))
      have hbw4 : Below w.heap.size w w4 := (by repeat (first | exact Below.refl _ _ | apply Bw.alloc | apply Bw.drewN | apply Bw.drew | (refine Bw.step ?_ (by assumption))))
      have D3 := B3.out.below hb24
      have D4 := B4.out.below hb24
      clear hm4 hb3 hb4 hb24
      have x0 := D3.cell 0 (.int .i64 o0) rfl
      have x1 := D3.cell 1 (.int .i64 o1) rfl
      have y0 := D4.cell 0 (.int .u8 k0) rfl
      have y1 := D4.cell 1 (.int .u8 s0) rfl
      have y2 := D4.cell 2 (.int .u32 q0) rfl
      have y3 := D4.cell 3 (.int .u32 v0) rfl
      have y4 := D4.cell 4 (.int .u8 k1) rfl
      have y5 := D4.cell 5 (.int .u8 s1) rfl
      have y6 := D4.cell 6 (.int .u32 q1) rfl
      have y7 := D4.cell 7 (.int .u32 v1) rfl
      go_wp2_with fail
      refine (lives05 _).mono ?_; rintro e w5 ⟨rfl, hb5⟩
      go_wp2
      go_ret
      exact ⟨rfl, (by repeat (first | exact Below.refl _ _ | apply Bw.alloc | apply Bw.drewN | apply Bw.drew | (refine Bw.step ?_ (by assumption))))⟩
  · have hmay : mayB o0 k0 = true := by cases h : mayB o0 k0 <;> simp_all
    obtain ⟨h1, h2, h12⟩ := mayB_true hmay
    have HL0 := Lib.hid (frP_length o0 k0 s0 q0 v0 hmay)
    have HE0 := Lib.hid (show errP o0 k0 = 0 by unfold errP; rw [if_pos hmay])
    have hOK0 := frP_ok o0 k0 s0 q0 v0 hs0
    obtain ⟨g0, g1, g2, g3, g4, g5⟩ := got_put o0 k0 s0 q0 v0 hmay hs0 hq0 hv0
    obtain ⟨y1, y2, y3, y4, y5⟩ := fullG g0
    have HG : Hid (∀ (D : Option Addr) (w : World), Rd w .u8 D 14 (frP o0 k0 s0 q0 v0) → Calls Try.prog 67 #[.slice D 14 14] w fun e w' => e = .returned (.tuple #[.agg #[.int .i64 o0, .int .u8 k0, .int .u8 s0, .int .u32 q0, .int .u32 v0], .int .i64 0]) ∧ Below w.heap.size w w') := fun D w hr => by
      have h := get_calls D 14 14 _ w hr (Nat.le_refl _) (by simp only [maxLen]; omega) hOK0
      unfold GetPost at h
      rw [y1, y2, y3, y4, y5, g1, g2, g3, g4, g5, errG_ok g0] at h
      exact h
    have hSL := syP_length o0 k0 s0 q0 v0 a b hmay
    have HS : Hid (∀ w, Calls Try.prog 60 #[.agg #[.int .i64 o0, .int .u8 k0, .int .u8 s0, .int .u32 q0, .int .u32 v0], .agg #[.bool a, .bool b]] w fun e w' => ∃ A, e = .returned (.tuple #[.slice A 114 114, .int .i64 0]) ∧ Mn w' w.heap.size 50 1 (.slice A 114 114) 114 (nums .u8 (syP o0 k0 s0 q0 v0 a b)) ∧ Below w.heap.size w w') := fun w => by
      have h := syms_calls o0 k0 s0 q0 v0 a b w hs0 hq0 hv0
      unfold SymsPost at h
      rw [hSL, HE0.out] at h
      exact h
    obtain ⟨z1, z2, z3, z4, z5, z6, z7, z8⟩ := read_sy (a := a) (b := b) hmay hs0 hq0 hv0
    have hSb : bytesOk (syP o0 k0 s0 q0 v0 a b) := by
      rw [syP_eq hmay]
      exact bytesOk_append (ofL_ok _) (sy_ok _ _)
    have HR : Hid (∀ (D : Option Addr) (w : World), Rd w .u8 D 114 (syP o0 k0 s0 q0 v0 a b) → Calls Try.prog 72 #[.slice D 114 114] w fun e w' => e = .returned (.tuple #[.agg #[.int .i64 o0, .int .u8 k0, .int .u8 s0, .int .u32 q0, .int .u32 v0], .agg #[.bool a, .bool b], .int .i64 0]) ∧ Below w.heap.size w w') := fun D w hr => by
      have h := read_calls D 114 114 _ w hr (Nat.le_refl _) (by omega) (by simp only [maxLen]; omega) hSb
      unfold ReadPost at h
      rw [z1, z2, z3, z4, z5, z6, z7, z8] at h
      exact h
    obtain ⟨pb, hpb⟩ : ∃ pb, ((k0 : Int) == (k1 : Int) && (s0 : Int) == (s1 : Int) && (q0 : Int) == (q1 : Int) && (v0 : Int) == (v1 : Int)) = pb := ⟨_, rfl⟩
    have HSM : Hid (mayB o1 k1 = true → sameL (frP o0 k0 s0 q0 v0) (frP o1 k1 s1 q1 v1) = (o0 == o1 && pb)) := fun h => by
      rw [same_frames hmay h hs0 hq0 hv0 hs1 hq1 hv1, hpb]
    have HOK0 := Lib.hid hOK0
    have HOK1 := Lib.hid (frP_ok o1 k1 s1 q1 v1 hs1)
    have HER2 := Lib.hid (show (mayB o1 k1 = true ∧ er1 = 0) ∨ (mayB o1 k1 = false ∧ er1 = 1) from by
      have := HER1.out
      unfold errP at this
      cases h : mayB o1 k1 <;> simp [h] at this <;> simp [← this])
    have hkk : ((k0 : Int) == 1) = true ∨ ((k0 : Int) == 1) = false ∧ ((k0 : Int) == 2) = true := by
      rcases h12 with h | h <;> simp [h]
    clear hmay hbad h12 g0 g1 g2 g3 g4 g5 y1 y2 y3 y4 y5 z1 z2 z3 z4 z5 z6 z7 z8 hSL hSb hOK0
    rcases hkk with hk1 | ⟨hk1, hk2⟩
    all_goals
      go_enter Try.func15, Try.ntmps15
      go_wp2_with fail
      refine (HC0.out _).mono ?_; rintro e w1 ⟨rfl, hb1⟩
      go_wp2_with fail
      refine (HP0.out _).mono ?_; rintro e w2 ⟨A2, he, hm2, hb2⟩
      rw [HL0.out, HE0.out] at he
      rw [HL0.out] at hm2
      subst he
      have hb02 : Below (((w.alloc (.cells #[.int .i64 o0, .int .i64 o1] 118)).alloc (.cells #[.int .u8 k0, .int .u8 s0, .int .u32 q0, .int .u32 v0, .int .u8 k1, .int .u8 s1, .int .u32 q1, .int .u32 v1] 119)).alloc (.cells #[.bool a, .bool b] 83)).heap.size (((w.alloc (.cells #[.int .i64 o0, .int .i64 o1] 118)).alloc (.cells #[.int .u8 k0, .int .u8 s0, .int .u32 q0, .int .u32 v0, .int .u8 k1, .int .u8 s1, .int .u32 q1, .int .u32 v1] 119)).alloc (.cells #[.bool a, .bool b] 83)) w2 := (by repeat (first | exact Below.refl _ _ | apply Bw.alloc | apply Bw.drewN | apply Bw.drew | (refine Bw.step ?_ (by assumption))))
      have B3 := Lib.hid ((show Blk (((w.alloc (.cells #[.int .i64 o0, .int .i64 o1] 118)).alloc (.cells #[.int .u8 k0, .int .u8 s0, .int .u32 q0, .int .u32 v0, .int .u8 k1, .int .u8 s1, .int .u32 q1, .int .u32 v1] 119)).alloc (.cells #[.bool a, .bool b] 83)) w.heap.size #[.int .i64 o0, .int .i64 o1] 118 from (Blk.new (w := w) rfl).below (by repeat (first | exact Below.refl _ _ | apply Bw.alloc | apply Bw.drewN | apply Bw.drew | (refine Bw.step ?_ (by assumption))))).below hb02)
      have B4 := Lib.hid ((show Blk (((w.alloc (.cells #[.int .i64 o0, .int .i64 o1] 118)).alloc (.cells #[.int .u8 k0, .int .u8 s0, .int .u32 q0, .int .u32 v0, .int .u8 k1, .int .u8 s1, .int .u32 q1, .int .u32 v1] 119)).alloc (.cells #[.bool a, .bool b] 83)) (w.heap.size + 1) #[.int .u8 k0, .int .u8 s0, .int .u32 q0, .int .u32 v0, .int .u8 k1, .int .u8 s1, .int .u32 q1, .int .u32 v1] 119 from (show Blk ((w.alloc (.cells #[.int .i64 o0, .int .i64 o1] 118)).alloc (.cells #[.int .u8 k0, .int .u8 s0, .int .u32 q0, .int .u32 v0, .int .u8 k1, .int .u8 s1, .int .u32 q1, .int .u32 v1] 119)) (w.heap.size + 1) #[.int .u8 k0, .int .u8 s0, .int .u32 q0, .int .u32 v0, .int .u8 k1, .int .u8 s1, .int .u32 q1, .int .u32 v1] 119 from Blk.new (by simp)).below (by repeat (first | exact Below.refl _ _ | apply Bw.alloc | apply Bw.drewN | apply Bw.drew | (refine Bw.step ?_ (by assumption))))).below hb02)
      have B5 := Lib.hid ((show Blk (((w.alloc (.cells #[.int .i64 o0, .int .i64 o1] 118)).alloc (.cells #[.int .u8 k0, .int .u8 s0, .int .u32 q0, .int .u32 v0, .int .u8 k1, .int .u8 s1, .int .u32 q1, .int .u32 v1] 119)).alloc (.cells #[.bool a, .bool b] 83)) (w.heap.size + 1 + 1) #[.bool a, .bool b] 83 from Blk.new (by simp)).below hb02)
      have HM2 := Lib.hid hm2
      have hbw2 : Below w.heap.size w w2 := (by repeat (first | exact Below.refl _ _ | apply Bw.alloc | apply Bw.drewN | apply Bw.drew | (refine Bw.step ?_ (by assumption))))
      clear hb1 hb2 hb02 hm2
      have x0 := B3.out.cell 0 (.int .i64 o0) rfl
      have x1 := B3.out.cell 1 (.int .i64 o1) rfl
      have y0 := B4.out.cell 0 (.int .u8 k0) rfl
      have y1 := B4.out.cell 1 (.int .u8 s0) rfl
      have y2 := B4.out.cell 2 (.int .u32 q0) rfl
      have y3 := B4.out.cell 3 (.int .u32 v0) rfl
      have y4 := B4.out.cell 4 (.int .u8 k1) rfl
      have y5 := B4.out.cell 5 (.int .u8 s1) rfl
      have y6 := B4.out.cell 6 (.int .u32 q1) rfl
      have y7 := B4.out.cell 7 (.int .u32 v1) rfl
      go_wp2_with fail
      clear x0 x1 y0 y1 y2 y3 y4 y5 y6 y7
      refine (HC1.out _).mono ?_; rintro e w3 ⟨rfl, hb3⟩
      go_wp2_with fail
      refine (HP1.out _).mono ?_; rintro e w4 ⟨A4, rfl, hm4, hb4⟩
      rewrite [HM1.out, HER1.out]
      rw [HM1.out] at hm4
      have hb24 : Below w2.heap.size w2 w4 := (by repeat (first | exact Below.refl _ _ | apply Bw.alloc | apply Bw.drewN | apply Bw.drew | (refine Bw.step ?_ (by assumption))))
      have hbw4 : Below w.heap.size w w4 := (by repeat (first | exact Below.refl _ _ | apply Bw.alloc | apply Bw.drewN | apply Bw.drew | (refine Bw.step ?_ (by assumption))))
      have D3 := B3.out.below hb24
      have D4 := B4.out.below hb24
      have D5 := B5.out.below hb24
      have HM4 := Lib.hid hm4
      have HM2' := Lib.hid (HM2.out.below hb24)
      have x0 := D3.cell 0 (.int .i64 o0) rfl
      have x1 := D3.cell 1 (.int .i64 o1) rfl
      have y0 := D4.cell 0 (.int .u8 k0) rfl
      have y1 := D4.cell 1 (.int .u8 s0) rfl
      have y2 := D4.cell 2 (.int .u32 q0) rfl
      have y3 := D4.cell 3 (.int .u32 v0) rfl
      have y4 := D4.cell 4 (.int .u8 k1) rfl
      have y5 := D4.cell 5 (.int .u8 s1) rfl
      have y6 := D4.cell 6 (.int .u32 q1) rfl
      have y7 := D4.cell 7 (.int .u32 v1) rfl
      have E3 := Lib.hid D3
      have E4 := Lib.hid D4
      have E5 := Lib.hid D5
      clear hm4 hb3 hb4 hb24 D3 D4 D5 B3 B4 B5 HM2 hbw2
      go_wp2_with fail
      clear x0 x1 y0 y1 y2 y3 y4 y5 y6 y7
      refine (HG.out _ _ HM2'.out.rd).mono ?_; rintro e w5 ⟨rfl, hb5⟩
      have E5a := (E5.out.below hb5).below (Bw.alloc (Below.refl w5.heap.size w5) (.cells #[.int .i64 o0, .int .u8 k0, .int .u8 s0, .int .u32 q0, .int .u32 v0] 89))
      have hx0 := E5a.cell 0 (.bool a) rfl
      have hx1 := E5a.cell 1 (.bool b) rfl
      have hbX : Below w4.heap.size w4 ((w5.alloc (.cells #[.int .i64 o0, .int .u8 k0, .int .u8 s0, .int .u32 q0, .int .u32 v0] 89)).alloc (.cells #[.bool a, .bool b] 93)) := (by repeat (first | exact Below.refl _ _ | apply Bw.alloc | apply Bw.drewN | apply Bw.drew | (refine Bw.step ?_ (by assumption))))
      have G3 := Lib.hid (E3.out.below hbX)
      have G4 := Lib.hid (E4.out.below hbX)
      have G12 := Lib.hid (show Blk ((w5.alloc (.cells #[.int .i64 o0, .int .u8 k0, .int .u8 s0, .int .u32 q0, .int .u32 v0] 89)).alloc (.cells #[.bool a, .bool b] 93)) w5.heap.size #[.int .i64 o0, .int .u8 k0, .int .u8 s0, .int .u32 q0, .int .u32 v0] 89 from (Blk.new (w := w5) rfl).below (by repeat (first | exact Below.refl _ _ | apply Bw.alloc | apply Bw.drewN | apply Bw.drew | (refine Bw.step ?_ (by assumption)))))
      have G14 := Lib.hid (show Blk ((w5.alloc (.cells #[.int .i64 o0, .int .u8 k0, .int .u8 s0, .int .u32 q0, .int .u32 v0] 89)).alloc (.cells #[.bool a, .bool b] 93)) (w5.heap.size + 1) #[.bool a, .bool b] 93 from Blk.new (by simp))
      have HM2x := Lib.hid (HM2'.out.below hbX)
      have HM4x := Lib.hid (HM4.out.below hbX)
      have hbwX : Below w.heap.size w ((w5.alloc (.cells #[.int .i64 o0, .int .u8 k0, .int .u8 s0, .int .u32 q0, .int .u32 v0] 89)).alloc (.cells #[.bool a, .bool b] 93)) := Bw.step hbw4 hbX
      clear E5a E3 E4 E5 HM2' HM4 hbX hbw4 hb5
      go_wp2_with fail
      clear hx0 hx1
      generalize ((w5.alloc (.cells #[.int .i64 o0, .int .u8 k0, .int .u8 s0, .int .u32 q0, .int .u32 v0] 89)).alloc (.cells #[.bool a, .bool b] 93)) = X at *
      generalize w5.heap.size = g12 at *
      have HK : Hid (∀ w', Below X.heap.size X w' → w'.cell? ⟨w.heap.size, 0, none⟩ = some (.int .i64 o0) ∧ w'.cell? ⟨w.heap.size + 1, 0, none⟩ = some (.int .u8 k0) ∧ w'.cell? ⟨w.heap.size + 1, 1, none⟩ = some (.int .u8 s0) ∧ w'.cell? ⟨w.heap.size + 1, 2, none⟩ = some (.int .u32 q0) ∧ w'.cell? ⟨w.heap.size + 1, 3, none⟩ = some (.int .u32 v0) ∧ w'.cell? ⟨g12 + 1, 0, none⟩ = some (.bool a) ∧ w'.cell? ⟨g12 + 1, 1, none⟩ = some (.bool b)) := fun w' h => by
        have x3 := G3.out.below h
        have x4 := G4.out.below h
        have x14 := G14.out.below h
        exact ⟨x3.cell 0 _ rfl, x4.cell 0 _ rfl, x4.cell 1 _ rfl, x4.cell 2 _ rfl, x4.cell 3 _ rfl, x14.cell 0 _ rfl, x14.cell 1 _ rfl⟩
      go_region_held3 (fun w' => w'.cell? ⟨w.heap.size, 0, none⟩ = some (.int .i64 o0) ∧ w'.cell? ⟨w.heap.size + 1, 0, none⟩ = some (.int .u8 k0) ∧ w'.cell? ⟨w.heap.size + 1, 1, none⟩ = some (.int .u8 s0) ∧ w'.cell? ⟨w.heap.size + 1, 2, none⟩ = some (.int .u32 q0) ∧ w'.cell? ⟨w.heap.size + 1, 3, none⟩ = some (.int .u32 v0) ∧ w'.cell? ⟨g12 + 1, 0, none⟩ = some (.bool a) ∧ w'.cell? ⟨g12 + 1, 1, none⟩ = some (.bool b)) (first | assumption | exact HK.out _ (by repeat (first | exact Below.refl _ _ | apply Bw.alloc | apply Bw.drewN | apply Bw.drew | (refine Bw.step ?_ (by assumption)))))
        (first
          | (go_at_call 58; refine (HC0.out _).mono ?_; rintro e w6 ⟨rfl, hb6⟩)
          | (go_at_call 60; refine (HS.out _).mono ?_; rintro e w7 ⟨A7, rfl, hm7, hb7⟩))
      have hbX7 : Below X.heap.size X w7 := (by repeat (first | exact Below.refl _ _ | apply Bw.alloc | apply Bw.drewN | apply Bw.drew | (refine Bw.step ?_ (by assumption))))
      clear hb6 hb7 HK
      go_wp2_with fail
      refine (HR.out _ _ hm7.rd).mono ?_; rintro e w8 ⟨rfl, hb8⟩
      have hbY : Below X.heap.size X ((w8.alloc (.cells #[.int .i64 o0, .int .u8 k0, .int .u8 s0, .int .u32 q0, .int .u32 v0] 89)).alloc (.cells #[.bool a, .bool b] 93)) := Bw.alloc (Bw.alloc (Bw.step hbX7 hb8) _) _
      have K3 := Lib.hid (G3.out.below hbY)
      have K4 := Lib.hid (G4.out.below hbY)
      have K12 := Lib.hid (G12.out.below hbY)
      have K14 := Lib.hid (G14.out.below hbY)
      have K17 := Lib.hid (show Blk ((w8.alloc (.cells #[.int .i64 o0, .int .u8 k0, .int .u8 s0, .int .u32 q0, .int .u32 v0] 89)).alloc (.cells #[.bool a, .bool b] 93)) w8.heap.size #[.int .i64 o0, .int .u8 k0, .int .u8 s0, .int .u32 q0, .int .u32 v0] 89 from (Blk.new (w := w8) rfl).below (by repeat (first | exact Below.refl _ _ | apply Bw.alloc | apply Bw.drewN | apply Bw.drew | (refine Bw.step ?_ (by assumption)))))
      have K18 := Lib.hid (show Blk ((w8.alloc (.cells #[.int .i64 o0, .int .u8 k0, .int .u8 s0, .int .u32 q0, .int .u32 v0] 89)).alloc (.cells #[.bool a, .bool b] 93)) (w8.heap.size + 1) #[.bool a, .bool b] 93 from Blk.new (by simp))
      have HM2y := Lib.hid (HM2x.out.below hbY)
      have HM4y := Lib.hid (HM4x.out.below hbY)
      have hbwY : Below w.heap.size w ((w8.alloc (.cells #[.int .i64 o0, .int .u8 k0, .int .u8 s0, .int .u32 q0, .int .u32 v0] 89)).alloc (.cells #[.bool a, .bool b] 93)) := Bw.step hbwX hbY
      clear hm7 hbX7 hb8 hbY hbwX G3 G4 G12 G14 HM2x HM4x
      go_wp2_with fail
      generalize ((w8.alloc (.cells #[.int .i64 o0, .int .u8 k0, .int .u8 s0, .int .u32 q0, .int .u32 v0] 89)).alloc (.cells #[.bool a, .bool b] 93)) = Y at *
      generalize w8.heap.size = g17 at *
      have HK : Hid (∀ w', Below Y.heap.size Y w' → w'.cell? ⟨w.heap.size, 0, none⟩ = some (.int .i64 o0) ∧ w'.cell? ⟨w.heap.size + 1, 0, none⟩ = some (.int .u8 k0) ∧ w'.cell? ⟨w.heap.size + 1, 1, none⟩ = some (.int .u8 s0) ∧ w'.cell? ⟨w.heap.size + 1, 2, none⟩ = some (.int .u32 q0) ∧ w'.cell? ⟨w.heap.size + 1, 3, none⟩ = some (.int .u32 v0) ∧ w'.cell? ⟨g12, 0, none⟩ = some (.int .i64 o0) ∧ w'.cell? ⟨g12, 1, none⟩ = some (.int .u8 k0) ∧ w'.cell? ⟨g12, 2, none⟩ = some (.int .u8 s0) ∧ w'.cell? ⟨g12, 3, none⟩ = some (.int .u32 q0) ∧ w'.cell? ⟨g12, 4, none⟩ = some (.int .u32 v0) ∧ w'.cell? ⟨g17, 0, none⟩ = some (.int .i64 o0) ∧ w'.cell? ⟨g17, 1, none⟩ = some (.int .u8 k0) ∧ w'.cell? ⟨g17, 2, none⟩ = some (.int .u8 s0) ∧ w'.cell? ⟨g17, 3, none⟩ = some (.int .u32 q0) ∧ w'.cell? ⟨g17, 4, none⟩ = some (.int .u32 v0) ∧ w'.cell? ⟨g12 + 1, 0, none⟩ = some (.bool a) ∧ w'.cell? ⟨g12 + 1, 1, none⟩ = some (.bool b) ∧ w'.cell? ⟨g17 + 1, 0, none⟩ = some (.bool a) ∧ w'.cell? ⟨g17 + 1, 1, none⟩ = some (.bool b)) := fun w' h => by
        have x3 := K3.out.below h
        have x4 := K4.out.below h
        have x12 := K12.out.below h
        have x14 := K14.out.below h
        have x17 := K17.out.below h
        have x18 := K18.out.below h
        exact ⟨x3.cell 0 _ rfl, x4.cell 0 _ rfl, x4.cell 1 _ rfl, x4.cell 2 _ rfl, x4.cell 3 _ rfl, x12.cell 0 _ rfl, x12.cell 1 _ rfl, x12.cell 2 _ rfl, x12.cell 3 _ rfl, x12.cell 4 _ rfl, x17.cell 0 _ rfl, x17.cell 1 _ rfl, x17.cell 2 _ rfl, x17.cell 3 _ rfl, x17.cell 4 _ rfl, x14.cell 0 _ rfl, x14.cell 1 _ rfl, x18.cell 0 _ rfl, x18.cell 1 _ rfl⟩
      go_region_held3 (fun w' => w'.cell? ⟨w.heap.size, 0, none⟩ = some (.int .i64 o0) ∧ w'.cell? ⟨w.heap.size + 1, 0, none⟩ = some (.int .u8 k0) ∧ w'.cell? ⟨w.heap.size + 1, 1, none⟩ = some (.int .u8 s0) ∧ w'.cell? ⟨w.heap.size + 1, 2, none⟩ = some (.int .u32 q0) ∧ w'.cell? ⟨w.heap.size + 1, 3, none⟩ = some (.int .u32 v0) ∧ w'.cell? ⟨g12, 0, none⟩ = some (.int .i64 o0) ∧ w'.cell? ⟨g12, 1, none⟩ = some (.int .u8 k0) ∧ w'.cell? ⟨g12, 2, none⟩ = some (.int .u8 s0) ∧ w'.cell? ⟨g12, 3, none⟩ = some (.int .u32 q0) ∧ w'.cell? ⟨g12, 4, none⟩ = some (.int .u32 v0) ∧ w'.cell? ⟨g17, 0, none⟩ = some (.int .i64 o0) ∧ w'.cell? ⟨g17, 1, none⟩ = some (.int .u8 k0) ∧ w'.cell? ⟨g17, 2, none⟩ = some (.int .u8 s0) ∧ w'.cell? ⟨g17, 3, none⟩ = some (.int .u32 q0) ∧ w'.cell? ⟨g17, 4, none⟩ = some (.int .u32 v0) ∧ w'.cell? ⟨g12 + 1, 0, none⟩ = some (.bool a) ∧ w'.cell? ⟨g12 + 1, 1, none⟩ = some (.bool b) ∧ w'.cell? ⟨g17 + 1, 0, none⟩ = some (.bool a) ∧ w'.cell? ⟨g17 + 1, 1, none⟩ = some (.bool b)) (first | assumption | exact HK.out _ (by repeat (first | exact Below.refl _ _ | apply Bw.alloc | apply Bw.drewN | apply Bw.drew | (refine Bw.step ?_ (by assumption)))))
        (first
          | (go_at_call 58; refine (HC0.out _).mono ?_; rintro e w9 ⟨rfl, hb9⟩))
      have D3 := K3.out.below (show Below Y.heap.size Y w9 from (by repeat (first | exact Below.refl _ _ | apply Bw.alloc | apply Bw.drewN | apply Bw.drew | (refine Bw.step ?_ (by assumption)))))
      have D4 := K4.out.below (show Below Y.heap.size Y w9 from (by repeat (first | exact Below.refl _ _ | apply Bw.alloc | apply Bw.drewN | apply Bw.drew | (refine Bw.step ?_ (by assumption)))))
      have HM2z := Lib.hid (HM2y.out.below (show Below Y.heap.size Y w9 from (by repeat (first | exact Below.refl _ _ | apply Bw.alloc | apply Bw.drewN | apply Bw.drew | (refine Bw.step ?_ (by assumption))))))
      have HM4z := Lib.hid (HM4y.out.below (show Below Y.heap.size Y w9 from (by repeat (first | exact Below.refl _ _ | apply Bw.alloc | apply Bw.drewN | apply Bw.drew | (refine Bw.step ?_ (by assumption))))))
      have hbw9 : Below w.heap.size w w9 := (by repeat (first | exact Below.refl _ _ | apply Bw.alloc | apply Bw.drewN | apply Bw.drew | (refine Bw.step ?_ (by assumption))))
      have x0 := D3.cell 0 (.int .i64 o0) rfl
      have x1 := D3.cell 1 (.int .i64 o1) rfl
      have y0 := D4.cell 0 (.int .u8 k0) rfl
      have y1 := D4.cell 1 (.int .u8 s0) rfl
      have y2 := D4.cell 2 (.int .u32 q0) rfl
      have y3 := D4.cell 3 (.int .u32 v0) rfl
      have y4 := D4.cell 4 (.int .u8 k1) rfl
      have y5 := D4.cell 5 (.int .u8 s1) rfl
      have y6 := D4.cell 6 (.int .u32 q1) rfl
      have y7 := D4.cell 7 (.int .u32 v1) rfl
      clear D3 D4 K3 K4 K12 K14 K17 K18 HM2y HM4y HK hb9 hbwY
      have HO := Lib.hid HSM.out
      cases hoo : (o0 == o1)
      · rcases HER2.out with ⟨hm1, rfl⟩ | ⟨-, rfl⟩
        · have HSE := Lib.hid (HO.out hm1)
          rw [hoo] at HSE
          clear hm1
          go_wp2_with fail
          refine (samebytes_calls _ _ _ _ _ _ (frP o0 k0 s0 q0 v0) (frP o1 k1 s1 q1 v1) _ HM2z.out.rd HM4z.out.rd HOK0.out HOK1.out).mono ?_; rintro e w' ⟨rfl, rfl⟩; rewrite [HSE.out]
          go_wp2_with fail
          refine (lives05 _).mono ?_; rintro e w10 ⟨rfl, hb10⟩
          go_wp2
          go_ret
          exact ⟨rfl, (by repeat (first | exact Below.refl _ _ | apply Bw.alloc | apply Bw.drewN | apply Bw.drew | (refine Bw.step ?_ (by assumption))))⟩
        · go_wp2_with fail
          refine (lives05 _).mono ?_; rintro e w10 ⟨rfl, hb10⟩
          go_wp2
          go_ret
          exact ⟨rfl, (by repeat (first | exact Below.refl _ _ | apply Bw.alloc | apply Bw.drewN | apply Bw.drew | (refine Bw.step ?_ (by assumption))))⟩
      · have hfive : (pb = true ∧ k0 = k1 ∧ s0 = s1 ∧ q0 = q1 ∧ v0 = v1) ∨ (pb = false ∧ ¬ (k0 = k1)) ∨ (pb = false ∧ k0 = k1 ∧ ¬ (s0 = s1)) ∨ (pb = false ∧ k0 = k1 ∧ s0 = s1 ∧ ¬ (q0 = q1)) ∨ (pb = false ∧ k0 = k1 ∧ s0 = s1 ∧ q0 = q1 ∧ ¬ (v0 = v1)) := by
          rw [← hpb]
          by_cases a1 : k0 = k1
          · by_cases a2 : s0 = s1
            · by_cases a3 : q0 = q1
              · by_cases a4 : v0 = v1
                · exact .inl (by simp [a1, a2, a3, a4])
                · exact .inr (.inr (.inr (.inr ⟨by simp; intro _ _ _; omega, a1, a2, a3, a4⟩)))
              · exact .inr (.inr (.inr (.inl ⟨by simp; intro _ _ h; omega, a1, a2, a3⟩)))
            · exact .inr (.inr (.inl ⟨by simp; intro _ h; omega, a1, a2⟩))
          · exact .inr (.inl ⟨by simp; intro h; omega, a1⟩)
        clear hpb
        rcases hfive with ⟨rfl, rfl, rfl, rfl, rfl⟩ | ⟨rfl, a1⟩ | ⟨rfl, rfl, a2⟩ | ⟨rfl, rfl, rfl, a3⟩ | ⟨rfl, rfl, rfl, rfl, a4⟩
        all_goals
          rcases HER2.out with ⟨hm1, rfl⟩ | ⟨-, rfl⟩
          · have HSE := Lib.hid (HO.out hm1)
            rw [hoo] at HSE
            clear hm1
            go_wp2_with fail
            refine (samebytes_calls _ _ _ _ _ _ (frP o0 _ _ _ _) (frP o1 _ _ _ _) _ HM2z.out.rd HM4z.out.rd HOK0.out HOK1.out).mono ?_; rintro e w' ⟨rfl, rfl⟩; rewrite [HSE.out]
            go_wp2_with fail
            refine (lives05 _).mono ?_; rintro e w10 ⟨rfl, hb10⟩
            go_wp2
            go_ret
            exact ⟨rfl, (by repeat (first | exact Below.refl _ _ | apply Bw.alloc | apply Bw.drewN | apply Bw.drew | (refine Bw.step ?_ (by assumption))))⟩
          · go_wp2_with fail
            refine (lives05 _).mono ?_; rintro e w10 ⟨rfl, hb10⟩
            go_wp2
            go_ret
            exact ⟨rfl, (by repeat (first | exact Below.refl _ _ | apply Bw.alloc | apply Bw.drewN | apply Bw.drew | (refine Bw.step ?_ (by assumption))))⟩
end Go.Proofs.Ytnmhhjgiakijgaa
