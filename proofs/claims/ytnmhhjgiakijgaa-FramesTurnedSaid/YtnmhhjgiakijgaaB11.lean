/- FramesTurned: what the call returns. -/
import Derived.Test.YtnmhhjgiakijgaaM11
import Derived.Test.YtnmhhjgiakijgaaA33
import Derived.Test.YtnmhhjgiakijgaaA28
namespace Go.Proofs.Ytnmhhjgiakijgaa
open Go.RowKit
set_option linter.unusedVariables false

theorem bit_u32 (x k : Nat) (hx : x < 4294967296) : (bits .and .u32 ((x : Int) / 2 ^ k) 1 == 1) = x.testBit k := by
  rw [ediv_shr, show (1 : Int) = ((1 : Nat) : Int) from rfl, bits_and_u32 _ _ (Nat.lt_of_le_of_lt (shr_le _ _) hx) (by omega), Nat.and_one_is_mod, Nat.testBit_eq_decide_div_mod_eq]
  unfold shr
  by_cases h : x / 2 ^ k % 2 = 1
  · rw [h, decide_eq_true rfl]; rfl
  · rw [show x / 2 ^ k % 2 = 0 from by omega]; rfl
/-- 'Read', of symbols that are no frame's -/
theorem read_bad (A : Option Addr) (n c : Nat) (xs : List Int) (w : World) (hr : Rd w .u8 A n xs) (hc : n ≤ c) (hn : n ≤ 60000) (hcm : c ≤ maxLen) (hx : bytesOk xs) (hb : rdOk xs = false) :
    Calls Try.prog 72 #[.slice A n c] w fun e w' => e = .returned (.tuple #[.agg #[.int .i64 0, .int .u8 0, .int .u8 0, .int .u32 0, .int .u32 0], .agg #[.bool false, .bool false], .int .i64 4]) ∧ Below w.heap.size w w' := by
  have h := read_calls A n c xs w hr hc hn hcm hx
  unfold ReadPost at h
  obtain ⟨z1, z2, z3, z4, z5, z6, z7, z8⟩ := zeroR hb
  rw [z1, z2, z3, z4, z5, z6, z7, z8] at h
  exact h

set_option maxHeartbeats 6400000 in
set_option maxRecDepth 20000 in
theorem framesturned_walk (ow k s q v z0 z1 : Nat) (w : World) (how : ow ≤ 255) (hk : k ≤ 255) (hs : s ≤ 255) (hq : q < 4294967296) (hv : v < 4294967296) (hz0 : z0 < 4294967296) (hz1 : z1 < 4294967296) :
    Calls Try.prog 16 #[.int .u8 ow, .agg #[.int .u8 k, .int .u8 s, .int .u32 q, .int .u32 v], .agg #[.int .u32 z0, .int .u32 z1]] w fun e w' => e = .returned (.bool true) ∧ Below w.heap.size w w' := by
  obtain ⟨o, ho⟩ : ∃ o, o = ow % 8 := ⟨_, rfl⟩
  obtain ⟨km, hkm⟩ : ∃ km, km = k % 2 := ⟨_, rfl⟩
  obtain ⟨f, hf⟩ : ∃ f, f = z1 % 81 := ⟨_, rfl⟩
  obtain ⟨p, hp⟩ : ∃ p, p = z1 % 114 := ⟨_, rfl⟩
  obtain ⟨kk, hkk⟩ : ∃ kk, kk = 1 + km := ⟨_, rfl⟩
  have e1 : (ow : Int) % 8 = (o : Int) := by omega
  have e1' : (ow : Int).tmod 8 = (o : Int) := by rw [Int.tmod_eq_emod_of_nonneg (by omega)]; exact e1
  have e2 : (k : Int) % 2 = (km : Int) := by omega
  have e2' : (k : Int).tmod 2 = (km : Int) := by rw [Int.tmod_eq_emod_of_nonneg (by omega)]; exact e2
  have e3 : (z1 : Int) % 81 = (f : Int) := by omega
  have e3' : (z1 : Int).tmod 81 = (f : Int) := by rw [Int.tmod_eq_emod_of_nonneg (by omega)]; exact e3
  have e4 : (z1 : Int) % 114 = (p : Int) := by omega
  have e4' : (z1 : Int).tmod 114 = (p : Int) := by rw [Int.tmod_eq_emod_of_nonneg (by omega)]; exact e4
  have e5 : 1 + (km : Int) = (kk : Int) := by omega
  have hol : o ≤ 7 := by omega
  have hkml : km ≤ 1 := by omega
  have hkkl : kk ≤ 2 := by omega
  have hfl : f ≤ 80 := by omega
  have hpl : p < 114 := by omega
  have hmay : mayB (o : Int) kk = true := by
    have h1 : kk = 1 ∨ kk = 2 := by omega
    rcases h1 with h1 | h1 <;> rw [h1] <;> simp [mayB] <;> omega
  have H58 := Lib.hid (fun w => of58_calls (o : Int) kk s q v w)
  have hSL := syP_length (o : Int) kk s q v true false hmay
  have HS : Hid (∀ w, Calls Try.prog 60 #[.agg #[.int .i64 o, .int .u8 kk, .int .u8 s, .int .u32 q, .int .u32 v], .agg #[.bool true, .bool false]] w fun e w' => ∃ A, e = .returned (.tuple #[.slice A 114 114, .int .i64 0]) ∧ Mn w' w.heap.size 50 1 (.slice A 114 114) 114 (nums .u8 (syP (o : Int) kk s q v true false)) ∧ Below w.heap.size w w') := fun w => by
    have h := syms_calls (o : Int) kk s q v true false w hs hq hv
    unfold SymsPost at h
    rw [hSL, show errP (o : Int) kk = 0 by unfold errP; rw [if_pos hmay]] at h
    exact h
  obtain ⟨hT1, hT2, hT3, hT4⟩ := turned (q := q) (v := v) (a := true) (b := false) hmay hs f z0 hfl
  have hSok := rdOk_sy (s := s) (q := q) (v := v) (a := true) (b := false) hmay
  have hSb : bytesOk (syP (o : Int) kk s q v true false) := by
    rw [syP_eq hmay]
    exact bytesOk_append (ofL_ok _) (sy_ok _ _)
  obtain ⟨S, hSe⟩ : ∃ S, S = syP (o : Int) kk s q v true false := ⟨_, rfl⟩
  rw [← hSe] at HS hT1 hT2 hT3 hT4 hSL hSok hSb
  have HSL := Lib.hid hSL
  have HSB := Lib.hid hSb
  have hSw : wholeL S = true := by simp only [rdOk, Bool.and_eq_true] at hSok; exact hSok.2
  obtain ⟨X, hX⟩ : ∃ X, X = turnL S (atL f z0 32) := ⟨_, rfl⟩
  rw [← hX] at hT1 hT2 hT3 hT4
  have hXl : X.length = 114 := by rw [hX, turnL_length, hSL]
  have hXb : bytesOk X := by
    have hw : wholeL X = true := by rw [hX]; exact wholeL_turnL hSw
    intro x hx
    have := wholeB_cases ((List.all_eq_true.1 hw) x hx)
    omega
  obtain ⟨L, hL⟩ : ∃ L, L = (atL f z0 32).length := ⟨_, rfl⟩
  rw [← hL] at hT4
  obtain ⟨O, hO⟩ : ∃ O, rO X = O := ⟨_, rfl⟩
  obtain ⟨K, hK⟩ : ∃ K, rK X = K := ⟨_, rfl⟩
  obtain ⟨SS, hSS⟩ : ∃ S, rS X = S := ⟨_, rfl⟩
  obtain ⟨Q, hQ⟩ : ∃ Q, rQ X = Q := ⟨_, rfl⟩
  obtain ⟨V, hV⟩ : ∃ V, rV X = V := ⟨_, rfl⟩
  obtain ⟨E, hE⟩ : ∃ E, rE X = E := ⟨_, rfl⟩
  have HE5 : Hid (0 < L → O = 0 ∧ K = 0 ∧ SS = 0 ∧ Q = 0 ∧ V = 0 ∧ E = 5) := fun hp => by
    obtain ⟨h1, h2⟩ := hT4 hp
    obtain ⟨z1, z2, z3, z4, z5, -⟩ := fullR hT1
    obtain ⟨y1, y2, y3, y4, y5⟩ := zeroG h1
    exact ⟨by rw [← hO, z1, y1], by rw [← hK, z2, y2], by rw [← hSS, z3, y3], by rw [← hQ, z4, y4], by rw [← hV, z5, y5], by rw [← hE, h2]⟩
  have HG : Hid (∀ (D : Option Addr) (w : World), Rd w .u8 D 114 X → Calls Try.prog 72 #[.slice D 114 114] w fun e w' => e = .returned (.tuple #[.agg #[.int .i64 O, .int .u8 K, .int .u8 SS, .int .u32 Q, .int .u32 V], .agg #[.bool true, .bool false], .int .i64 E]) ∧ Below w.heap.size w w') := fun D w h1 => by
    have h := read_calls D 114 114 X w h1 (Nat.le_refl _) (by omega) (by simp only [maxLen]; omega) hXb
    unfold ReadPost at h
    rw [hO, hK, hSS, hQ, hV, hE, hT2, hT3] at h
    exact h
  have HX := Lib.hid hX
  have HL := Lib.hid hL
  have H113 := Lib.hid (show rdOk (S.take 113) = false by simp [rdOk, hSL])
  have H115 := Lib.hid (show rdOk (S ++ [1]) = false by simp [rdOk, hSL])
  have H0 := Lib.hid (show rdOk (S.set p 0) = false by simp [rdOk, wholeL_set S p (by omega)])
  have HSB0 := Lib.hid (show bytesOk (S.set p 0) from fun x hx => by
    rcases List.mem_or_eq_of_mem_set hx with h | h
    · exact hSb x h
    · omega)
  have HSB1 := Lib.hid (show bytesOk (S ++ [1]) from bytesOk_append hSb (fun x hx => by rw [List.mem_singleton.1 hx]; omega))
  have HLl := Lib.hid (show L ≤ 32 from hL ▸ atL_length f z0 32)
  clear ho hkm hf hp hkk hmay hSL hSok hSb hSe hSw hX hXl hXb hL hO hK hSS hQ hV hE hT1 hT2 hT3 hT4
  go_enter Try.func16, Try.ntmps16
  go_wp2_with fail
  refine (H58.out _).mono ?_; rintro e w1 ⟨rfl, hb1⟩
  have BZ1 : Blk w1 (w.heap.size + 1) #[.int .u32 z0, .int .u32 z1] 121 := (show Blk ((w.alloc (.cells #[.int .u8 kk, .int .u8 s, .int .u32 q, .int .u32 v] 82)).alloc (.cells #[.int .u32 z0, .int .u32 z1] 121)) (w.heap.size + 1) #[.int .u32 z0, .int .u32 z1] 121 from Blk.new (by simp)).below hb1
  have hbw1 : Below w.heap.size w w1 := (by repeat (first | exact Below.refl _ _ | apply Bw.alloc | apply Bw.drewN | apply Bw.drew | (refine Bw.step ?_ (by assumption))))
  clear hb1
  go_wp2_with fail
  refine (HS.out _).mono ?_; rintro e w2 ⟨A1, rfl, hm2, hb2⟩
  obtain ⟨g1, rfl⟩ := hm2.ex (by omega)
  have hg1 := hm2.block (g := g1) rfl
  have BZ := Lib.hid (BZ1.below hb2)
  have hbw2 : Below w.heap.size w w2 := (by repeat (first | exact Below.refl _ _ | apply Bw.alloc | apply Bw.drewN | apply Bw.drew | (refine Bw.step ?_ (by assumption))))
  have HG1 := Lib.hid (And.intro (Nat.le_trans hbw1.size hg1.1) hg1.2)
  have HM2 := Lib.hid (hm2.mono (B' := w.heap.size) hbw1.size)
  clear BZ1 hbw1 hm2 hb2 hg1
  have c1 := BZ.out.cell 1 (.int .u32 z1) rfl
  go_wp2
  clear c1 e1 e1' e2 e2' e3 e3'
  go_loopw [10, 11] (fun lu lv w' => ∃ (i l : Nat) (A' : Option Addr) (c' : Nat), i ≤ 32 ∧ lv = .int .i64 i ∧ lu = .slice A' l c' ∧ l ≤ c' ∧ l ≤ 100 ∧ l ≤ i ∧ Hid (l = (atL f z0 i).length) ∧ Mn w' w2.heap.size 3 1 (.slice A' l c') l (nums .i64 (atL f z0 i)) ∧ Below w2.heap.size w2 w') (fun _ lv _ => 32 - (intOf lv).toNat)
  case atStart => exact ⟨0, 0, none, 0, Nat.zero_le _, rfl, rfl, Nat.le_refl _, Nat.zero_le _, Nat.le_refl _, Lib.hid rfl, Mn.nil _ _ _ _, Below.refl _ _⟩
  case round =>
    obtain ⟨i, l, A3, c3, hi, rfl, rfl, hlc, hl100, hli, HLI, hm3, hb3⟩ := hrel
    by_cases hlt : i < 32
    · have c0 := (BZ.out.below hb3).cell 0 (.int .u32 z0) rfl
      have hbit := bit_u32 z0 i hz0
      cases hzb : z0.testBit i with
      | false =>
        rw [hzb] at hbit
        have HST := Lib.hid (show atL f z0 (i + 1) = atL f z0 i by show atL f z0 i ++ _ = _; rw [hzb]; simp)
        have HM3 := Lib.hid hm3
        have HB3 := Lib.hid hb3
        clear hzb hm3 hb3
        go_wp2
        go_roundw
        case rel => exact ⟨i + 1, l, A3, c3, by omega, by go_num, rfl, hlc, hl100, by omega, by rw [HST.out]; exact HLI, by rw [HST.out]; exact HM3.out, HB3.out⟩
        case measure => simp [intOf]; omega
      | true =>
        rw [hzb] at hbit
        have HST := Lib.hid (show atL f z0 (i + 1) = atL f z0 i ++ [(f : Int) + (i : Int)] by show atL f z0 i ++ _ = _; rw [hzb, Int.natCast_add]; rfl)
        clear hzb
        go_wp2_with (at_builtin; refine wpList_append_mn _ rfl _ _ _ rfl w2.heap.size 3 _ 1 8 Try.underlying37 info3 rfl (by omega) (.slice A3 l c3) l (nums .i64 (atL f z0 i)) rfl (hm3.alloc _) _ 1 1 (nums .i64 [(f : Int) + (i : Int)]) rfl rv_one (nums_one _ _) (by omega) (by omega) (by simp; have := hb3.size; omega) ?_; intro A4 c4 w4 hc4 hm4 hg4 hat4; have hb4 : Below w2.heap.size w2 w4 := (hb3.alloc hb3.size _).grown hg4 (by simp; have := hb3.size; omega) (fun q hq => (hm3.block hq).1); clear hg4 hat4 hm3 hb3)
        go_roundw
        case rel => exact ⟨i + 1, l + 1, A4, c4, by omega, by go_num, rfl, hc4, by omega, by omega, Lib.hid (by rw [HST.out, List.length_append, HLI.out]; rfl), by rw [HST.out, nums_append]; exact hm4, hb4⟩
        case measure => simp [intOf]; omega
    · have hi32 : i = 32 := by omega
      subst hi32
      have hlL : l = L := by rw [HLI.out, HL.out]
      subst hlL
      clear HLI hlt hi
      go_wp2_with fail
      refine (turn_calls _ _ _ S _ _ _ (atL f z0 32) _ (HM2.out.rd.below hb3) (Nat.le_refl _) (by omega) hm3.rd hlc (by omega)).mono ?_; rintro e w4 ⟨A4, rfl, hm4, hb4⟩
      rw [← HX.out] at hm4
      have hbw4 : Below w2.heap.size w2 w4 := Bw.step hb3 hb4
      clear hm3 hb3 hb4
      go_wp2_with fail
      refine (HG.out _ _ hm4.rd).mono ?_; rintro e w5 ⟨rfl, hb5⟩
      have hbw5 : Below w2.heap.size w2 ((w5.alloc (.cells #[.int .i64 O, .int .u8 K, .int .u8 SS, .int .u32 Q, .int .u32 V] 89)).alloc (.cells #[.bool true, .bool false] 93)) := (by repeat (first | exact Below.refl _ _ | apply Bw.alloc | apply Bw.drewN | apply Bw.drew | (refine Bw.step ?_ (by assumption))))
      have D1 : Blk ((w5.alloc (.cells #[.int .i64 O, .int .u8 K, .int .u8 SS, .int .u32 Q, .int .u32 V] 89)).alloc (.cells #[.bool true, .bool false] 93)) w5.heap.size #[.int .i64 O, .int .u8 K, .int .u8 SS, .int .u32 Q, .int .u32 V] 89 := (Blk.new (w := w5) rfl).below (by repeat (first | exact Below.refl _ _ | apply Bw.alloc | apply Bw.drewN | apply Bw.drew | (refine Bw.step ?_ (by assumption))))
      have D2 : Blk ((w5.alloc (.cells #[.int .i64 O, .int .u8 K, .int .u8 SS, .int .u32 Q, .int .u32 V] 89)).alloc (.cells #[.bool true, .bool false] 93)) (w5.heap.size + 1) #[.bool true, .bool false] 93 := Blk.new (by simp)
      have d0 := D1.cell 0 (.int .i64 O) rfl
      have d1 := D1.cell 1 (.int .u8 K) rfl
      have d2 := D1.cell 2 (.int .u8 SS) rfl
      have d3 := D1.cell 3 (.int .u32 Q) rfl
      have d4 := D1.cell 4 (.int .u32 V) rfl
      have k0 := D2.cell 0 (.bool true) rfl
      have k1 := D2.cell 1 (.bool false) rfl
      clear hm4 hbw4 hb5 D1 D2
      have hbw : Below w.heap.size w ((w5.alloc (.cells #[.int .i64 O, .int .u8 K, .int .u8 SS, .int .u32 Q, .int .u32 V] 89)).alloc (.cells #[.bool true, .bool false] 93)) := Bw.step hbw2 hbw5
      have HBW5 := Lib.hid hbw5
      clear hbw5
      rcases Nat.eq_zero_or_pos l with hL0 | hL0
      · subst hL0
        go_wp2_with fail
        clear d0 d1 d2 d3 d4 k0 k1
        refine (good_calls true false _).mono ?_; rintro e w6 ⟨rfl, hb6⟩
        have hb26 : Below w2.heap.size w2 w6 := Bw.step HBW5.out hb6
        have hbw6 : Below w.heap.size w w6 := Bw.step hbw hb6
        clear hbw hb6
        go_wp2_with fail
        refine (read_bad _ 113 114 (S.take 113) _ ((HM2.out.rd.take 113 (by omega)).below hb26) (by omega) (by omega) (by simp only [maxLen]; omega) (bytesOk_take HSB.out 113) H113.out).mono ?_; rintro e w7 ⟨rfl, hb7⟩
        have hb27 : Below w2.heap.size w2 ((w7.alloc (.cells #[.int .i64 0, .int .u8 0, .int .u8 0, .int .u32 0, .int .u32 0] 89)).alloc (.cells #[.bool false, .bool false] 93)) := Bw.alloc (Bw.alloc (Bw.step hb26 hb7) _) _
        have hbw7 : Below w.heap.size w ((w7.alloc (.cells #[.int .i64 0, .int .u8 0, .int .u8 0, .int .u32 0, .int .u32 0] 89)).alloc (.cells #[.bool false, .bool false] 93)) := Bw.alloc (Bw.alloc (Bw.step hbw6 hb7) _) _
        clear hb26 hbw6 hb7
        go_wp2_with (first
          | (at_builtin
             refine wpList_append_mn _ rfl _ _ _ rfl ((w7.alloc (.cells #[.int .i64 0, .int .u8 0, .int .u8 0, .int .u32 0, .int .u32 0] 89)).alloc (.cells #[.bool false, .bool false] 93)).heap.size 50 _ 1 1 Try.underlying22 info50 rfl (by omega) (.slice none 0 0) 0 [] rfl (Mn.nil _ _ _ _) (some ⟨g1, 0, none⟩) 114 114 (nums .u8 S) rfl (by rw [Nat.mul_one]; exact HM2.out.rd.below hb27) (nums_one _ _) (by omega) (by omega) (Nat.le_refl _) ?_
             intro A8 c8 w8 hc8 hm8 hg8 hat8
             have hb8 : Below ((w7.alloc (.cells #[.int .i64 0, .int .u8 0, .int .u8 0, .int .u32 0, .int .u32 0] 89)).alloc (.cells #[.bool false, .bool false] 93)).heap.size ((w7.alloc (.cells #[.int .i64 0, .int .u8 0, .int .u8 0, .int .u32 0, .int .u32 0] 89)).alloc (.cells #[.bool false, .bool false] 93)) w8 := (Below.refl _ _).grown hg8 (Nat.le_refl _) (fun k hk => by simp [Value.ownBlock] at hk))
          | (at_builtin
             refine wpList_append_mn _ rfl _ _ _ rfl ((w7.alloc (.cells #[.int .i64 0, .int .u8 0, .int .u8 0, .int .u32 0, .int .u32 0] 89)).alloc (.cells #[.bool false, .bool false] 93)).heap.size 50 _ 1 1 Try.underlying22 info50 rfl (by omega) (.slice A8 114 c8) 114 (nums .u8 S) rfl (by simpa using hm8.alloc _) _ 1 1 (nums .u8 [1]) rfl rv_one (nums_one _ _) (by omega) (by omega) (by have := hb8.size; simp at *; omega) ?_
             intro A9 c9 w9 hc9 hm9 hg9 hat9
             rw [← nums_append] at hm9
             have hb9 : Below ((w7.alloc (.cells #[.int .i64 0, .int .u8 0, .int .u8 0, .int .u32 0, .int .u32 0] 89)).alloc (.cells #[.bool false, .bool false] 93)).heap.size ((w7.alloc (.cells #[.int .i64 0, .int .u8 0, .int .u8 0, .int .u32 0, .int .u32 0] 89)).alloc (.cells #[.bool false, .bool false] 93)) w9 := (hb8.alloc hb8.size _).grown hg9 (by have := hb8.size; simp at *; omega) (fun k hk => (hm8.block (by simpa using hk)).1)))
        refine (read_bad _ 115 c9 (S ++ [1]) _ hm9.rd hc9 (by omega) hm9.cap_le HSB1.out H115.out).mono ?_; rintro e w10 ⟨rfl, hb10⟩
        have hbz : Below w2.heap.size w2 ((w10.alloc (.cells #[.int .i64 0, .int .u8 0, .int .u8 0, .int .u32 0, .int .u32 0] 89)).alloc (.cells #[.bool false, .bool false] 93)) := Bw.alloc (Bw.alloc (Bw.step (Bw.step hb27 hb9) hb10) _) _
        have hbw10 : Below w.heap.size w ((w10.alloc (.cells #[.int .i64 0, .int .u8 0, .int .u8 0, .int .u32 0, .int .u32 0] 89)).alloc (.cells #[.bool false, .bool false] 93)) := Bw.alloc (Bw.alloc (Bw.step (Bw.step hbw7 hb9) hb10) _) _
        have c1 := (BZ.out.below hbz).cell 1 (.int .u32 z1) rfl
        have hm10 := HM2.out.below hbz
        obtain ⟨hcp, hfp⟩ := hm10.cellAt p hpl
        have HM11 := Lib.hid (hm10.set p hpl 0)
        have HB11 := Lib.hid (hbw10.setCell (p := ⟨g1, p, none⟩) HG1.out.1 (.int .u8 0))
        clear hb27 hbw7 hm8 hg8 hat8 hb8 hm9 hg9 hat9 hb9 hb10 hbz hbw10 hm10
        go_wp2_with fail
        clear c1 hcp hfp
        refine (read_bad _ 114 114 (S.set p 0) _ HM11.out.rd (by omega) (by omega) (by simp only [maxLen]; omega) HSB0.out H0.out).mono ?_; rintro e w12 ⟨rfl, hb12⟩
        have hbw12 : Below w.heap.size w ((w12.alloc (.cells #[.int .i64 0, .int .u8 0, .int .u8 0, .int .u32 0, .int .u32 0] 89)).alloc (.cells #[.bool false, .bool false] 93)) := Bw.alloc (Bw.alloc (Bw.step HB11.out hb12) _) _
        clear hb12
        go_wp2_with fail
        refine (lives05 _).mono ?_; rintro e w13 ⟨rfl, hb13⟩
        go_wp2
        go_ret
        exact ⟨rfl, Bw.step hbw12 hb13⟩
      · obtain ⟨rfl, rfl, rfl, rfl, rfl, rfl⟩ := HE5.out hL0
        have hL0' : (0 : Int) < (l : Int) := by omega
        go_wp2_with fail
        clear d0 d1 d2 d3 d4 k0 k1
        refine (good_calls true false _).mono ?_; rintro e w6 ⟨rfl, hb6⟩
        have hb26 : Below w2.heap.size w2 w6 := Bw.step HBW5.out hb6
        have hbw6 : Below w.heap.size w w6 := Bw.step hbw hb6
        clear hbw hb6
        go_wp2_with fail
        refine (read_bad _ 113 114 (S.take 113) _ ((HM2.out.rd.take 113 (by omega)).below hb26) (by omega) (by omega) (by simp only [maxLen]; omega) (bytesOk_take HSB.out 113) H113.out).mono ?_; rintro e w7 ⟨rfl, hb7⟩
        have hb27 : Below w2.heap.size w2 ((w7.alloc (.cells #[.int .i64 0, .int .u8 0, .int .u8 0, .int .u32 0, .int .u32 0] 89)).alloc (.cells #[.bool false, .bool false] 93)) := Bw.alloc (Bw.alloc (Bw.step hb26 hb7) _) _
        have hbw7 : Below w.heap.size w ((w7.alloc (.cells #[.int .i64 0, .int .u8 0, .int .u8 0, .int .u32 0, .int .u32 0] 89)).alloc (.cells #[.bool false, .bool false] 93)) := Bw.alloc (Bw.alloc (Bw.step hbw6 hb7) _) _
        clear hb26 hbw6 hb7
        go_wp2_with (first
          | (at_builtin
             refine wpList_append_mn _ rfl _ _ _ rfl ((w7.alloc (.cells #[.int .i64 0, .int .u8 0, .int .u8 0, .int .u32 0, .int .u32 0] 89)).alloc (.cells #[.bool false, .bool false] 93)).heap.size 50 _ 1 1 Try.underlying22 info50 rfl (by omega) (.slice none 0 0) 0 [] rfl (Mn.nil _ _ _ _) (some ⟨g1, 0, none⟩) 114 114 (nums .u8 S) rfl (by rw [Nat.mul_one]; exact HM2.out.rd.below hb27) (nums_one _ _) (by omega) (by omega) (Nat.le_refl _) ?_
             intro A8 c8 w8 hc8 hm8 hg8 hat8
             have hb8 : Below ((w7.alloc (.cells #[.int .i64 0, .int .u8 0, .int .u8 0, .int .u32 0, .int .u32 0] 89)).alloc (.cells #[.bool false, .bool false] 93)).heap.size ((w7.alloc (.cells #[.int .i64 0, .int .u8 0, .int .u8 0, .int .u32 0, .int .u32 0] 89)).alloc (.cells #[.bool false, .bool false] 93)) w8 := (Below.refl _ _).grown hg8 (Nat.le_refl _) (fun k hk => by simp [Value.ownBlock] at hk))
          | (at_builtin
             refine wpList_append_mn _ rfl _ _ _ rfl ((w7.alloc (.cells #[.int .i64 0, .int .u8 0, .int .u8 0, .int .u32 0, .int .u32 0] 89)).alloc (.cells #[.bool false, .bool false] 93)).heap.size 50 _ 1 1 Try.underlying22 info50 rfl (by omega) (.slice A8 114 c8) 114 (nums .u8 S) rfl (by simpa using hm8.alloc _) _ 1 1 (nums .u8 [1]) rfl rv_one (nums_one _ _) (by omega) (by omega) (by have := hb8.size; simp at *; omega) ?_
             intro A9 c9 w9 hc9 hm9 hg9 hat9
             rw [← nums_append] at hm9
             have hb9 : Below ((w7.alloc (.cells #[.int .i64 0, .int .u8 0, .int .u8 0, .int .u32 0, .int .u32 0] 89)).alloc (.cells #[.bool false, .bool false] 93)).heap.size ((w7.alloc (.cells #[.int .i64 0, .int .u8 0, .int .u8 0, .int .u32 0, .int .u32 0] 89)).alloc (.cells #[.bool false, .bool false] 93)) w9 := (hb8.alloc hb8.size _).grown hg9 (by have := hb8.size; simp at *; omega) (fun k hk => (hm8.block (by simpa using hk)).1)))
        refine (read_bad _ 115 c9 (S ++ [1]) _ hm9.rd hc9 (by omega) hm9.cap_le HSB1.out H115.out).mono ?_; rintro e w10 ⟨rfl, hb10⟩
        have hbz : Below w2.heap.size w2 ((w10.alloc (.cells #[.int .i64 0, .int .u8 0, .int .u8 0, .int .u32 0, .int .u32 0] 89)).alloc (.cells #[.bool false, .bool false] 93)) := Bw.alloc (Bw.alloc (Bw.step (Bw.step hb27 hb9) hb10) _) _
        have hbw10 : Below w.heap.size w ((w10.alloc (.cells #[.int .i64 0, .int .u8 0, .int .u8 0, .int .u32 0, .int .u32 0] 89)).alloc (.cells #[.bool false, .bool false] 93)) := Bw.alloc (Bw.alloc (Bw.step (Bw.step hbw7 hb9) hb10) _) _
        have c1 := (BZ.out.below hbz).cell 1 (.int .u32 z1) rfl
        have hm10 := HM2.out.below hbz
        obtain ⟨hcp, hfp⟩ := hm10.cellAt p hpl
        have HM11 := Lib.hid (hm10.set p hpl 0)
        have HB11 := Lib.hid (hbw10.setCell (p := ⟨g1, p, none⟩) HG1.out.1 (.int .u8 0))
        clear hb27 hbw7 hm8 hg8 hat8 hb8 hm9 hg9 hat9 hb9 hb10 hbz hbw10 hm10
        go_wp2_with fail
        clear c1 hcp hfp
        refine (read_bad _ 114 114 (S.set p 0) _ HM11.out.rd (by omega) (by omega) (by simp only [maxLen]; omega) HSB0.out H0.out).mono ?_; rintro e w12 ⟨rfl, hb12⟩
        have hbw12 : Below w.heap.size w ((w12.alloc (.cells #[.int .i64 0, .int .u8 0, .int .u8 0, .int .u32 0, .int .u32 0] 89)).alloc (.cells #[.bool false, .bool false] 93)) := Bw.alloc (Bw.alloc (Bw.step HB11.out hb12) _) _
        clear hb12
        go_wp2_with fail
        refine (lives05 _).mono ?_; rintro e w13 ⟨rfl, hb13⟩
        go_wp2
        go_ret
        exact ⟨rfl, Bw.step hbw12 hb13⟩
end Go.Proofs.Ytnmhhjgiakijgaa
