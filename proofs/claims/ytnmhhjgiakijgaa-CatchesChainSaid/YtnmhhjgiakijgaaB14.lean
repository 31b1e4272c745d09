/- CatchesHigh: what the call returns. -/
import Derived.Test.YtnmhhjgiakijgaaE8
namespace Go.Proofs.Ytnmhhjgiakijgaa
open Go.RowKit
set_option linter.unusedVariables false
set_option linter.unusedSimpArgs false

theorem f5_read {xs : List Int} (h : rdOk xs = true) : f5 (rdB xs) = #[.int .i64 (rO xs), .int .u8 (rK xs), .int .u8 (rS xs), .int .u32 (rQ xs), .int .u32 (rV xs)] := by
  obtain ⟨z1, z2, z3, z4, z5, z6, z7, z8⟩ := fullR h
  unfold f5
  rw [z1, z2, z3, z4, z5]
theorem mod8 (x : Nat) (h : x ≤ 255) : ((x : Int) % 8 = ((x % 8 : Nat) : Int)) ∧ ((x : Int).tmod 8 = ((x % 8 : Nat) : Int)) ∧ IntKind.u8.wrap (((x % 8 : Nat) : Int)) = ((x % 8 : Nat) : Int) ∧ IntKind.i64.wrap (((x % 8 : Nat) : Int)) = ((x % 8 : Nat) : Int) ∧ x % 8 < 8 := by
  refine ⟨by omega, by rw [Int.tmod_eq_emod_of_nonneg (by omega)]; omega, ?_, ?_, Nat.mod_lt _ (by omega)⟩
  · rw [show IntKind.u8.wrap (((x % 8 : Nat) : Int)) = ((x % 8 : Nat) : Int) % 256 from rfl]; omega
  · simp [IntKind.wrap, IntKind.signed, IntKind.bits]; omega

set_option maxHeartbeats 12800000 in
set_option maxRecDepth 20000 in
theorem high_walk (ow : Nat) (A D : Option Addr) (n c m d : Nat) (xs ys : List Int) (w : World) (how : ow ≤ 255) (hr : Rd w .u8 A n xs) (hc : n ≤ c) (hcm : c ≤ maxLen) (bx : bytesOk xs) (hs : Rd w .u8 D m ys) (hd : m ≤ d) (hby : bytesOk ys) :
    Calls Try.prog 18 #[.int .u8 ow, .slice A n c, .slice D m d] w fun e w' => e = .returned (.bool true) ∧ Below w.heap.size w w' := by
  by_cases h114 : n = 114 ∧ m = 114
  · obtain ⟨rfl, rfl⟩ := h114
    obtain ⟨hm1, hm2, hm3, hm4, hm5⟩ := mod8 ow how
    obtain ⟨o, ho⟩ : ∃ o, ow % 8 = o := ⟨_, rfl⟩
    rw [ho] at hm1 hm2 hm3 hm4 hm5
    have hxl := hr.len
    have hyl := hs.len
    have HI := high_iff (o := (o : Int)) hxl hyl bx hby
    have HGO := good_outs (o := (o : Int)) hxl hyl bx hby
    have hRUN := fun (w' : World) (hb : Below w.heap.size w w') => run75_calls o A D 114 c 114 d xs ys w' (by omega) (by omega) (hr.below hb) hc (by omega) bx (hs.below hb) hd (by omega) hby
    have HRX := Lib.hid hr
    have HRY := Lib.hid hs
    have HRD : Hid (∀ w', Below w.heap.size w w' → Calls Try.prog 72 #[.slice A 114 c] w' (ReadPost xs w')) := fun w' hb => read_calls A 114 c xs w' (hr.below hb) hc (by omega) hcm bx
    clear hr hs
    cases hhi : hiL (o : Int) xs ys with
    | true =>
      have hZ := high_outs hxl hyl bx hhi
      have hLB := hB_high hxl hyl bx hhi
      have hok := (high_body hxl hyl bx hhi).2
      rw [hhi] at HI
      have HI' := HI.symm
      simp only [Bool.and_eq_true, beq_iff_eq] at HI'
      obtain ⟨⟨⟨e1, e2⟩, e3, e4⟩, e5⟩ := HI'
      have e4 : rC xs = false := by simpa using e4
      obtain ⟨K1, hK1⟩ : ∃ K, rK xs = K := ⟨_, rfl⟩
      obtain ⟨S1, hS1⟩ : ∃ K, rS xs = K := ⟨_, rfl⟩
      obtain ⟨Q1, hQ1⟩ : ∃ K, rQ xs = K := ⟨_, rfl⟩
      obtain ⟨V1, hV1⟩ : ∃ K, rV xs = K := ⟨_, rfl⟩
      have HRUN : Hid (∀ w', Below w.heap.size w w' → Calls Try.prog 75 #[.int .i64 o, .slice A 114 c, .slice D 114 d] w' fun e w'' => ∃ A' c', e = .returned (.tuple #[.slice A' 114 c', .agg #[.int .i64 o, .int .u8 K1, .int .u8 S1, .int .u32 Q1, .int .u32 V1], .bool true]) ∧ 114 ≤ c' ∧ Mn w'' w'.heap.size 50 1 (.slice A' 114 c') 114 (nums .u8 xs) ∧ Below w'.heap.size w' w'') := fun w' hb => by
        have h := hRUN w' hb
        rw [hLB, f5_read hok, hhi, hZ, e5, hK1, hS1, hQ1, hV1] at h
        exact h
      have HRD1 : Hid (∀ (B : Option Addr) (k : Nat) (w : World), Rd w .u8 B 114 xs → 114 ≤ k → k ≤ maxLen → Calls Try.prog 72 #[.slice B 114 k] w fun e w' => e = .returned (.tuple #[.agg #[.int .i64 o, .int .u8 K1, .int .u8 S1, .int .u32 Q1, .int .u32 V1], .agg #[.bool true, .bool false], .int .i64 0]) ∧ Below w.heap.size w w') := fun B k w h1 h2 h3 => by
        have h := read_calls B 114 k xs w h1 h2 (by omega) h3 bx
        unfold ReadPost at h
        rw [e5, hK1, hS1, hQ1, hV1, e3, e4, e2] at h
        exact h
      have HSM := Lib.hid e1
      have HSX := Lib.hid (sameL_self xs)
      clear hRUN HRD HI HGO hZ hLB hok e1 e2 e3 e4 e5 hK1 hS1 hQ1 hV1 hhi hxl hyl
      go_enter Try.func18, Try.ntmps18
      go_wp2_with fail
      refine (HRUN.out _ (by repeat (first | exact Below.refl _ _ | apply Bw.alloc | apply Bw.drewN | apply Bw.drew | (refine Bw.step ?_ (by assumption))))).mono ?_; rintro e w1 ⟨A1, c1, rfl, hc1, hmn1, hb1⟩
      have HM1 := Lib.hid hmn1
      have HC1 := Lib.hid hc1
      have HB1 := Lib.hid (show Below w.heap.size w (w1.alloc (.cells #[.int .i64 o, .int .u8 K1, .int .u8 S1, .int .u32 Q1, .int .u32 V1] 89)) from (by repeat (first | exact Below.refl _ _ | apply Bw.alloc | apply Bw.drewN | apply Bw.drew | (refine Bw.step ?_ (by assumption)))))
      have HBF := Lib.hid (show Blk (w1.alloc (.cells #[.int .i64 o, .int .u8 K1, .int .u8 S1, .int .u32 Q1, .int .u32 V1] 89)) w1.heap.size #[.int .i64 o, .int .u8 K1, .int .u8 S1, .int .u32 Q1, .int .u32 V1] 89 from Blk.new rfl)
      clear hb1 hmn1 hc1
      go_wp2_with fail
      refine (HRD1.out A c _ (HRX.out.below HB1.out) hc hcm).mono ?_; rintro e w2 ⟨rfl, hb2⟩
      have HB2 := Lib.hid (show Below (w1.alloc (.cells #[.int .i64 o, .int .u8 K1, .int .u8 S1, .int .u32 Q1, .int .u32 V1] 89)).heap.size (w1.alloc (.cells #[.int .i64 o, .int .u8 K1, .int .u8 S1, .int .u32 Q1, .int .u32 V1] 89)) ((w2.alloc (.cells #[.int .i64 o, .int .u8 K1, .int .u8 S1, .int .u32 Q1, .int .u32 V1] 89)).alloc (.cells #[.bool true, .bool false] 93)) from (by repeat (first | exact Below.refl _ _ | apply Bw.alloc | apply Bw.drewN | apply Bw.drew | (refine Bw.step ?_ (by assumption)))))
      have HBG := Lib.hid (show Blk ((w2.alloc (.cells #[.int .i64 o, .int .u8 K1, .int .u8 S1, .int .u32 Q1, .int .u32 V1] 89)).alloc (.cells #[.bool true, .bool false] 93)) w2.heap.size #[.int .i64 o, .int .u8 K1, .int .u8 S1, .int .u32 Q1, .int .u32 V1] 89 from (Blk.new (w := w2) rfl).below (by repeat (first | exact Below.refl _ _ | apply Bw.alloc | apply Bw.drewN | apply Bw.drew | (refine Bw.step ?_ (by assumption)))))
      clear hb2
      go_wp2_with fail
      refine (samesyms_calls _ _ _ _ _ _ xs ys _ (HRX.out.below (Bw.step HB1.out (Bw.step HB2.out (by repeat (first | exact Below.refl _ _ | apply Bw.alloc | apply Bw.drewN | apply Bw.drew | (refine Bw.step ?_ (by assumption))))))) (HRY.out.below (Bw.step HB1.out (Bw.step HB2.out (by repeat (first | exact Below.refl _ _ | apply Bw.alloc | apply Bw.drewN | apply Bw.drew | (refine Bw.step ?_ (by assumption))))))) hc hd (by omega)).mono ?_; rintro e w' ⟨rfl, q1, rfl⟩; rewrite [HSM.out]
      go_wp2_with fail
      refine (good_calls true false _).mono ?_; rintro e w3 ⟨rfl, hb3⟩
      have HB3 := Lib.hid (show Below ((w2.alloc (.cells #[.int .i64 o, .int .u8 K1, .int .u8 S1, .int .u32 Q1, .int .u32 V1] 89)).alloc (.cells #[.bool true, .bool false] 93)).heap.size ((w2.alloc (.cells #[.int .i64 o, .int .u8 K1, .int .u8 S1, .int .u32 Q1, .int .u32 V1] 89)).alloc (.cells #[.bool true, .bool false] 93)) w3 from (by repeat (first | exact Below.refl _ _ | apply Bw.alloc | apply Bw.drewN | apply Bw.drew | (refine Bw.step ?_ (by assumption)))))
      have c0 := (HBG.out.below HB3.out).cell 0 (.int .i64 o) rfl
      clear hb3
      go_wp2_with fail
      refine (HRD1.out A1 c1 _ (HM1.out.rd.below (Bw.step (show Below w1.heap.size w1 (w1.alloc (.cells #[.int .i64 o, .int .u8 K1, .int .u8 S1, .int .u32 Q1, .int .u32 V1] 89)) from (by repeat (first | exact Below.refl _ _ | apply Bw.alloc | apply Bw.drewN | apply Bw.drew | (refine Bw.step ?_ (by assumption))))) (Bw.step HB2.out HB3.out))) HC1.out HM1.out.cap_le).mono ?_; rintro e w4 ⟨rfl, hb4⟩
      have HB4 := Lib.hid (show Below w3.heap.size w3 ((w4.alloc (.cells #[.int .i64 o, .int .u8 K1, .int .u8 S1, .int .u32 Q1, .int .u32 V1] 89)).alloc (.cells #[.bool true, .bool false] 93)) from (by repeat (first | exact Below.refl _ _ | apply Bw.alloc | apply Bw.drewN | apply Bw.drew | (refine Bw.step ?_ (by assumption)))))
      have HBH := Lib.hid (show Blk ((w4.alloc (.cells #[.int .i64 o, .int .u8 K1, .int .u8 S1, .int .u32 Q1, .int .u32 V1] 89)).alloc (.cells #[.bool true, .bool false] 93)) w4.heap.size #[.int .i64 o, .int .u8 K1, .int .u8 S1, .int .u32 Q1, .int .u32 V1] 89 from (Blk.new (w := w4) rfl).below (by repeat (first | exact Below.refl _ _ | apply Bw.alloc | apply Bw.drewN | apply Bw.drew | (refine Bw.step ?_ (by assumption)))))
      clear hb4 c0
      go_wp2_with fail
      refine (good_calls true false _).mono ?_; rintro e w5 ⟨rfl, hb5⟩
      have HB5 := Lib.hid (show Below ((w4.alloc (.cells #[.int .i64 o, .int .u8 K1, .int .u8 S1, .int .u32 Q1, .int .u32 V1] 89)).alloc (.cells #[.bool true, .bool false] 93)).heap.size ((w4.alloc (.cells #[.int .i64 o, .int .u8 K1, .int .u8 S1, .int .u32 Q1, .int .u32 V1] 89)).alloc (.cells #[.bool true, .bool false] 93)) w5 from (by repeat (first | exact Below.refl _ _ | apply Bw.alloc | apply Bw.drewN | apply Bw.drew | (refine Bw.step ?_ (by assumption)))))
      obtain ⟨f0, f1, f2, f3, f4⟩ := (HBF.out.below (Bw.step HB2.out (Bw.step HB3.out (Bw.step HB4.out HB5.out)))).c5
      obtain ⟨g0, g1, g2, g3, g4⟩ := (HBG.out.below (Bw.step HB3.out (Bw.step HB4.out HB5.out))).c5
      obtain ⟨h0, h1, h2, h3, h4⟩ := (HBH.out.below HB5.out).c5
      clear hb5
      go_wp2_with fail
      refine (samesyms_calls _ _ _ _ _ _ xs xs _ (HM1.out.rd.below (Bw.step (show Below w1.heap.size w1 (w1.alloc (.cells #[.int .i64 o, .int .u8 K1, .int .u8 S1, .int .u32 Q1, .int .u32 V1] 89)) from (by repeat (first | exact Below.refl _ _ | apply Bw.alloc | apply Bw.drewN | apply Bw.drew | (refine Bw.step ?_ (by assumption))))) (Bw.step HB2.out (Bw.step HB3.out (Bw.step HB4.out HB5.out))))) (HRX.out.below (Bw.step HB1.out (Bw.step HB2.out (Bw.step HB3.out (Bw.step HB4.out HB5.out))))) HC1.out hc (by omega)).mono ?_; rintro e w' ⟨rfl, q2, rfl⟩; rewrite [HSX.out]
      go_wp2_with fail
      refine (lives09 _).mono ?_; rintro e w6 ⟨rfl, hb6⟩
      go_wp2
      go_ret
      exact ⟨rfl, Bw.step HB1.out (Bw.step HB2.out (Bw.step HB3.out (Bw.step HB4.out (Bw.step HB5.out (by repeat (first | exact Below.refl _ _ | apply Bw.alloc | apply Bw.drewN | apply Bw.drew | (refine Bw.step ?_ (by assumption))))))))⟩
    | false =>
      rw [hhi] at HI HGO
      obtain ⟨Z, hZ⟩ : ∃ Z, outsL (o : Int) xs ys = Z := ⟨_, rfl⟩
      have hZb : bytesOk Z := hZ ▸ outs_bytes (o := (o : Int)) bx hby
      rw [hZ] at HGO
      have HRUN : Hid (∀ w', Below w.heap.size w w' → Calls Try.prog 75 #[.int .i64 o, .slice A 114 c, .slice D 114 d] w' fun e w'' => ∃ A' c', e = .returned (.tuple #[.slice A' 114 c', .agg #[.int .i64 0, .int .u8 0, .int .u8 0, .int .u32 0, .int .u32 0], .bool false]) ∧ 114 ≤ c' ∧ Mn w'' w'.heap.size 50 1 (.slice A' 114 c') 114 (nums .u8 Z) ∧ Below w'.heap.size w' w'') := fun w' hb => by
        have h := hRUN w' hb
        rw [show hB (o : Int) xs ys = [] by unfold hB; rw [hhi]; rfl, hhi, hZ] at h
        exact h
      obtain ⟨sb, hsb⟩ : ∃ b, sameL xs ys = b := ⟨_, rfl⟩
      have HSB := Lib.hid hsb
      rw [hsb] at HI
      obtain ⟨O1, hO1⟩ : ∃ K, rO xs = K := ⟨_, rfl⟩
      obtain ⟨K1, hK1⟩ : ∃ K, rK xs = K := ⟨_, rfl⟩
      obtain ⟨S1, hS1⟩ : ∃ K, rS xs = K := ⟨_, rfl⟩
      obtain ⟨Q1, hQ1⟩ : ∃ K, rQ xs = K := ⟨_, rfl⟩
      obtain ⟨V1, hV1⟩ : ∃ K, rV xs = K := ⟨_, rfl⟩
      obtain ⟨A1, hA1⟩ : ∃ K, rA xs = K := ⟨_, rfl⟩
      obtain ⟨C1, hC1⟩ : ∃ K, rC xs = K := ⟨_, rfl⟩
      obtain ⟨E1, hE1⟩ : ∃ K, rE xs = K := ⟨_, rfl⟩
      obtain ⟨O2, hO2⟩ : ∃ K, rO Z = K := ⟨_, rfl⟩
      obtain ⟨K2, hK2⟩ : ∃ K, rK Z = K := ⟨_, rfl⟩
      obtain ⟨S2, hS2⟩ : ∃ K, rS Z = K := ⟨_, rfl⟩
      obtain ⟨Q2, hQ2⟩ : ∃ K, rQ Z = K := ⟨_, rfl⟩
      obtain ⟨V2, hV2⟩ : ∃ K, rV Z = K := ⟨_, rfl⟩
      obtain ⟨A2, hA2⟩ : ∃ K, rA Z = K := ⟨_, rfl⟩
      obtain ⟨C2, hC2⟩ : ∃ K, rC Z = K := ⟨_, rfl⟩
      obtain ⟨E2, hE2⟩ : ∃ K, rE Z = K := ⟨_, rfl⟩
      rw [hO1, hA1, hC1, hE1] at HI
      rw [hA2, hC2, hE2] at HGO
      have HRD1 : Hid (∀ w', Below w.heap.size w w' → Calls Try.prog 72 #[.slice A 114 c] w' fun e w'' => e = .returned (.tuple #[.agg #[.int .i64 O1, .int .u8 K1, .int .u8 S1, .int .u32 Q1, .int .u32 V1], .agg #[.bool A1, .bool C1], .int .i64 E1]) ∧ Below w'.heap.size w' w'') := fun w' hb => by
        have h := HRD.out w' hb
        unfold ReadPost at h
        rw [hO1, hK1, hS1, hQ1, hV1, hA1, hC1, hE1] at h
        exact h
      have HRD2 : Hid (∀ (B : Option Addr) (k : Nat) (w : World), Rd w .u8 B 114 Z → 114 ≤ k → k ≤ maxLen → Calls Try.prog 72 #[.slice B 114 k] w fun e w' => e = .returned (.tuple #[.agg #[.int .i64 O2, .int .u8 K2, .int .u8 S2, .int .u32 Q2, .int .u32 V2], .agg #[.bool A2, .bool C2], .int .i64 E2]) ∧ Below w.heap.size w w') := fun B k w h1 h2 h3 => by
        have h := read_calls B 114 k Z w h1 h2 (by omega) h3 hZb
        unfold ReadPost at h
        rw [hO2, hK2, hS2, hQ2, hV2, hA2, hC2, hE2] at h
        exact h
      obtain ⟨gd1, hgd1⟩ : ∃ g, (A1 && !C1) = g := ⟨_, rfl⟩
      obtain ⟨gd2, hgd2⟩ : ∃ g, (A2 && !C2) = g := ⟨_, rfl⟩
      have HG1 : Hid (∀ w, Calls Try.prog 62 #[.agg #[.bool A1, .bool C1]] w fun e w' => e = .returned (.bool gd1) ∧ Below w.heap.size w w') := fun w => by rw [← hgd1]; exact good_calls A1 C1 w
      have HG2 : Hid (∀ w, Calls Try.prog 62 #[.agg #[.bool A2, .bool C2]] w fun e w' => e = .returned (.bool gd2) ∧ Below w.heap.size w w') := fun w => by rw [← hgd2]; exact good_calls A2 C2 w
      rw [hgd1] at HI
      rw [hgd2] at HGO
      have h1 : sb = false ∨ (sb = true ∧ (E1 == 0) = false) ∨ (sb = true ∧ (E1 == 0) = true ∧ gd1 = false) ∨ (sb = true ∧ (E1 == 0) = true ∧ gd1 = true ∧ ((O1 : Int) == (o : Int)) = false) := by
        cases hh : (E1 == 0) <;> cases hk : ((O1 : Int) == (o : Int)) <;> rw [hh, hk] at HI <;> cases sb <;> cases gd1 <;> simp at HI ⊢
      have h2 : (E2 == 0) = false ∨ ((E2 == 0) = true ∧ gd2 = false) := by
        cases hh : (E2 == 0) <;> rw [hh] at HGO <;> cases gd2 <;> simp at HGO ⊢
      clear hRUN HRD HI HGO hZ hZb hhi hsb hO1 hK1 hS1 hQ1 hV1 hA1 hC1 hE1 hO2 hK2 hS2 hQ2 hV2 hA2 hC2 hE2 hgd1 hgd2 hxl hyl
      rcases h1 with rfl | ⟨rfl, hE1⟩ | ⟨rfl, hE1, rfl⟩ | ⟨rfl, hE1, rfl, hO1⟩
      · go_enter Try.func18, Try.ntmps18
        go_wp2_with fail
        refine (HRUN.out _ (by repeat (first | exact Below.refl _ _ | apply Bw.alloc | apply Bw.drewN | apply Bw.drew | (refine Bw.step ?_ (by assumption))))).mono ?_; rintro e w1 ⟨Ax, c1, rfl, hc1, hmn1, hb1⟩
        have HM1 := Lib.hid hmn1
        have HC1 := Lib.hid hc1
        have HB1 := Lib.hid (show Below w.heap.size w (w1.alloc (.cells #[.int .i64 0, .int .u8 0, .int .u8 0, .int .u32 0, .int .u32 0] 89)) from (by repeat (first | exact Below.refl _ _ | apply Bw.alloc | apply Bw.drewN | apply Bw.drew | (refine Bw.step ?_ (by assumption)))))
        have HBF := Lib.hid (show Blk (w1.alloc (.cells #[.int .i64 0, .int .u8 0, .int .u8 0, .int .u32 0, .int .u32 0] 89)) w1.heap.size #[.int .i64 0, .int .u8 0, .int .u8 0, .int .u32 0, .int .u32 0] 89 from Blk.new rfl)
        clear hb1 hmn1 hc1
        go_wp2_with fail
        refine (HRD1.out _ HB1.out).mono ?_; rintro e w2 ⟨rfl, hb2⟩
        have HB2 := Lib.hid (show Below (w1.alloc (.cells #[.int .i64 0, .int .u8 0, .int .u8 0, .int .u32 0, .int .u32 0] 89)).heap.size (w1.alloc (.cells #[.int .i64 0, .int .u8 0, .int .u8 0, .int .u32 0, .int .u32 0] 89)) ((w2.alloc (.cells #[.int .i64 O1, .int .u8 K1, .int .u8 S1, .int .u32 Q1, .int .u32 V1] 89)).alloc (.cells #[.bool A1, .bool C1] 93)) from (by repeat (first | exact Below.refl _ _ | apply Bw.alloc | apply Bw.drewN | apply Bw.drew | (refine Bw.step ?_ (by assumption)))))
        have HBG := Lib.hid (show Blk ((w2.alloc (.cells #[.int .i64 O1, .int .u8 K1, .int .u8 S1, .int .u32 Q1, .int .u32 V1] 89)).alloc (.cells #[.bool A1, .bool C1] 93)) w2.heap.size #[.int .i64 O1, .int .u8 K1, .int .u8 S1, .int .u32 Q1, .int .u32 V1] 89 from (Blk.new (w := w2) rfl).below (by repeat (first | exact Below.refl _ _ | apply Bw.alloc | apply Bw.drewN | apply Bw.drew | (refine Bw.step ?_ (by assumption)))))
        clear hb2
        go_wp2_with fail
        refine (samesyms_calls _ _ _ _ _ _ xs ys _ (HRX.out.below (Bw.step HB1.out (Bw.step HB2.out (by repeat (first | exact Below.refl _ _ | apply Bw.alloc | apply Bw.drewN | apply Bw.drew | (refine Bw.step ?_ (by assumption))))))) (HRY.out.below (Bw.step HB1.out (Bw.step HB2.out (by repeat (first | exact Below.refl _ _ | apply Bw.alloc | apply Bw.drewN | apply Bw.drew | (refine Bw.step ?_ (by assumption))))))) hc hd (by omega)).mono ?_; rintro e w' ⟨rfl, q1, rfl⟩; rewrite [HSB.out]
        have HB3 := Lib.hid (show Below ((w2.alloc (.cells #[.int .i64 O1, .int .u8 K1, .int .u8 S1, .int .u32 Q1, .int .u32 V1] 89)).alloc (.cells #[.bool A1, .bool C1] 93)).heap.size ((w2.alloc (.cells #[.int .i64 O1, .int .u8 K1, .int .u8 S1, .int .u32 Q1, .int .u32 V1] 89)).alloc (.cells #[.bool A1, .bool C1] 93)) (((w2.alloc (.cells #[.int .i64 O1, .int .u8 K1, .int .u8 S1, .int .u32 Q1, .int .u32 V1] 89)).alloc (.cells #[.bool A1, .bool C1] 93)).drewN q1) from (by repeat (first | exact Below.refl _ _ | apply Bw.alloc | apply Bw.drewN | apply Bw.drew | (refine Bw.step ?_ (by assumption)))))
        go_wp2_with fail
        refine (HRD2.out Ax c1 _ (HM1.out.rd.below (Bw.step (show Below w1.heap.size w1 (w1.alloc (.cells #[.int .i64 0, .int .u8 0, .int .u8 0, .int .u32 0, .int .u32 0] 89)) from (by repeat (first | exact Below.refl _ _ | apply Bw.alloc | apply Bw.drewN | apply Bw.drew | (refine Bw.step ?_ (by assumption))))) (Bw.step HB2.out HB3.out))) HC1.out HM1.out.cap_le).mono ?_; rintro e w4 ⟨rfl, hb4⟩
        have HB4 := Lib.hid (show Below (((w2.alloc (.cells #[.int .i64 O1, .int .u8 K1, .int .u8 S1, .int .u32 Q1, .int .u32 V1] 89)).alloc (.cells #[.bool A1, .bool C1] 93)).drewN q1).heap.size (((w2.alloc (.cells #[.int .i64 O1, .int .u8 K1, .int .u8 S1, .int .u32 Q1, .int .u32 V1] 89)).alloc (.cells #[.bool A1, .bool C1] 93)).drewN q1) ((w4.alloc (.cells #[.int .i64 O2, .int .u8 K2, .int .u8 S2, .int .u32 Q2, .int .u32 V2] 89)).alloc (.cells #[.bool A2, .bool C2] 93)) from (by repeat (first | exact Below.refl _ _ | apply Bw.alloc | apply Bw.drewN | apply Bw.drew | (refine Bw.step ?_ (by assumption)))))
        clear hb4
        obtain ⟨f0, f1, f2, f3, f4⟩ := (HBF.out.below (Bw.step HB2.out (Bw.step HB3.out HB4.out))).c5
        rcases h2 with hE2 | ⟨hE2, rfl⟩
        · go_wp2_with fail
          refine (lives09 _).mono ?_; rintro e w6 ⟨rfl, hb6⟩
          go_wp2
          go_ret
          exact ⟨rfl, Bw.step HB1.out (Bw.step HB2.out (Bw.step HB3.out (Bw.step HB4.out (by repeat (first | exact Below.refl _ _ | apply Bw.alloc | apply Bw.drewN | apply Bw.drew | (refine Bw.step ?_ (by assumption)))))))⟩
        · clear f0 f1 f2 f3 f4
          go_wp2_with fail
          refine (HG2.out _).mono ?_; rintro e w5 ⟨rfl, hb5⟩
          have HB5 := Lib.hid (show Below ((w4.alloc (.cells #[.int .i64 O2, .int .u8 K2, .int .u8 S2, .int .u32 Q2, .int .u32 V2] 89)).alloc (.cells #[.bool A2, .bool C2] 93)).heap.size ((w4.alloc (.cells #[.int .i64 O2, .int .u8 K2, .int .u8 S2, .int .u32 Q2, .int .u32 V2] 89)).alloc (.cells #[.bool A2, .bool C2] 93)) w5 from (by repeat (first | exact Below.refl _ _ | apply Bw.alloc | apply Bw.drewN | apply Bw.drew | (refine Bw.step ?_ (by assumption)))))
          obtain ⟨f0, f1, f2, f3, f4⟩ := (HBF.out.below (Bw.step HB2.out (Bw.step HB3.out (Bw.step HB4.out HB5.out)))).c5
          clear hb5
          go_wp2_with fail
          refine (lives09 _).mono ?_; rintro e w6 ⟨rfl, hb6⟩
          go_wp2
          go_ret
          exact ⟨rfl, Bw.step HB1.out (Bw.step HB2.out (Bw.step HB3.out (Bw.step HB4.out (Bw.step HB5.out (by repeat (first | exact Below.refl _ _ | apply Bw.alloc | apply Bw.drewN | apply Bw.drew | (refine Bw.step ?_ (by assumption))))))))⟩
      · go_enter Try.func18, Try.ntmps18
        go_wp2_with fail
        refine (HRUN.out _ (by repeat (first | exact Below.refl _ _ | apply Bw.alloc | apply Bw.drewN | apply Bw.drew | (refine Bw.step ?_ (by assumption))))).mono ?_; rintro e w1 ⟨Ax, c1, rfl, hc1, hmn1, hb1⟩
        have HM1 := Lib.hid hmn1
        have HC1 := Lib.hid hc1
        have HB1 := Lib.hid (show Below w.heap.size w (w1.alloc (.cells #[.int .i64 0, .int .u8 0, .int .u8 0, .int .u32 0, .int .u32 0] 89)) from (by repeat (first | exact Below.refl _ _ | apply Bw.alloc | apply Bw.drewN | apply Bw.drew | (refine Bw.step ?_ (by assumption)))))
        have HBF := Lib.hid (show Blk (w1.alloc (.cells #[.int .i64 0, .int .u8 0, .int .u8 0, .int .u32 0, .int .u32 0] 89)) w1.heap.size #[.int .i64 0, .int .u8 0, .int .u8 0, .int .u32 0, .int .u32 0] 89 from Blk.new rfl)
        clear hb1 hmn1 hc1
        go_wp2_with fail
        refine (HRD1.out _ HB1.out).mono ?_; rintro e w2 ⟨rfl, hb2⟩
        have HB2 := Lib.hid (show Below (w1.alloc (.cells #[.int .i64 0, .int .u8 0, .int .u8 0, .int .u32 0, .int .u32 0] 89)).heap.size (w1.alloc (.cells #[.int .i64 0, .int .u8 0, .int .u8 0, .int .u32 0, .int .u32 0] 89)) ((w2.alloc (.cells #[.int .i64 O1, .int .u8 K1, .int .u8 S1, .int .u32 Q1, .int .u32 V1] 89)).alloc (.cells #[.bool A1, .bool C1] 93)) from (by repeat (first | exact Below.refl _ _ | apply Bw.alloc | apply Bw.drewN | apply Bw.drew | (refine Bw.step ?_ (by assumption)))))
        have HBG := Lib.hid (show Blk ((w2.alloc (.cells #[.int .i64 O1, .int .u8 K1, .int .u8 S1, .int .u32 Q1, .int .u32 V1] 89)).alloc (.cells #[.bool A1, .bool C1] 93)) w2.heap.size #[.int .i64 O1, .int .u8 K1, .int .u8 S1, .int .u32 Q1, .int .u32 V1] 89 from (Blk.new (w := w2) rfl).below (by repeat (first | exact Below.refl _ _ | apply Bw.alloc | apply Bw.drewN | apply Bw.drew | (refine Bw.step ?_ (by assumption)))))
        clear hb2
        go_wp2_with fail
        refine (samesyms_calls _ _ _ _ _ _ xs ys _ (HRX.out.below (Bw.step HB1.out (Bw.step HB2.out (by repeat (first | exact Below.refl _ _ | apply Bw.alloc | apply Bw.drewN | apply Bw.drew | (refine Bw.step ?_ (by assumption))))))) (HRY.out.below (Bw.step HB1.out (Bw.step HB2.out (by repeat (first | exact Below.refl _ _ | apply Bw.alloc | apply Bw.drewN | apply Bw.drew | (refine Bw.step ?_ (by assumption))))))) hc hd (by omega)).mono ?_; rintro e w' ⟨rfl, q1, rfl⟩; rewrite [HSB.out]
        have HB3 := Lib.hid (show Below ((w2.alloc (.cells #[.int .i64 O1, .int .u8 K1, .int .u8 S1, .int .u32 Q1, .int .u32 V1] 89)).alloc (.cells #[.bool A1, .bool C1] 93)).heap.size ((w2.alloc (.cells #[.int .i64 O1, .int .u8 K1, .int .u8 S1, .int .u32 Q1, .int .u32 V1] 89)).alloc (.cells #[.bool A1, .bool C1] 93)) (((w2.alloc (.cells #[.int .i64 O1, .int .u8 K1, .int .u8 S1, .int .u32 Q1, .int .u32 V1] 89)).alloc (.cells #[.bool A1, .bool C1] 93)).drewN q1) from (by repeat (first | exact Below.refl _ _ | apply Bw.alloc | apply Bw.drewN | apply Bw.drew | (refine Bw.step ?_ (by assumption)))))
        go_wp2_with fail
        refine (HRD2.out Ax c1 _ (HM1.out.rd.below (Bw.step (show Below w1.heap.size w1 (w1.alloc (.cells #[.int .i64 0, .int .u8 0, .int .u8 0, .int .u32 0, .int .u32 0] 89)) from (by repeat (first | exact Below.refl _ _ | apply Bw.alloc | apply Bw.drewN | apply Bw.drew | (refine Bw.step ?_ (by assumption))))) (Bw.step HB2.out HB3.out))) HC1.out HM1.out.cap_le).mono ?_; rintro e w4 ⟨rfl, hb4⟩
        have HB4 := Lib.hid (show Below (((w2.alloc (.cells #[.int .i64 O1, .int .u8 K1, .int .u8 S1, .int .u32 Q1, .int .u32 V1] 89)).alloc (.cells #[.bool A1, .bool C1] 93)).drewN q1).heap.size (((w2.alloc (.cells #[.int .i64 O1, .int .u8 K1, .int .u8 S1, .int .u32 Q1, .int .u32 V1] 89)).alloc (.cells #[.bool A1, .bool C1] 93)).drewN q1) ((w4.alloc (.cells #[.int .i64 O2, .int .u8 K2, .int .u8 S2, .int .u32 Q2, .int .u32 V2] 89)).alloc (.cells #[.bool A2, .bool C2] 93)) from (by repeat (first | exact Below.refl _ _ | apply Bw.alloc | apply Bw.drewN | apply Bw.drew | (refine Bw.step ?_ (by assumption)))))
        clear hb4
        obtain ⟨f0, f1, f2, f3, f4⟩ := (HBF.out.below (Bw.step HB2.out (Bw.step HB3.out HB4.out))).c5
        rcases h2 with hE2 | ⟨hE2, rfl⟩
        · go_wp2_with fail
          refine (lives09 _).mono ?_; rintro e w6 ⟨rfl, hb6⟩
          go_wp2
          go_ret
          exact ⟨rfl, Bw.step HB1.out (Bw.step HB2.out (Bw.step HB3.out (Bw.step HB4.out (by repeat (first | exact Below.refl _ _ | apply Bw.alloc | apply Bw.drewN | apply Bw.drew | (refine Bw.step ?_ (by assumption)))))))⟩
        · clear f0 f1 f2 f3 f4
          go_wp2_with fail
          refine (HG2.out _).mono ?_; rintro e w5 ⟨rfl, hb5⟩
          have HB5 := Lib.hid (show Below ((w4.alloc (.cells #[.int .i64 O2, .int .u8 K2, .int .u8 S2, .int .u32 Q2, .int .u32 V2] 89)).alloc (.cells #[.bool A2, .bool C2] 93)).heap.size ((w4.alloc (.cells #[.int .i64 O2, .int .u8 K2, .int .u8 S2, .int .u32 Q2, .int .u32 V2] 89)).alloc (.cells #[.bool A2, .bool C2] 93)) w5 from (by repeat (first | exact Below.refl _ _ | apply Bw.alloc | apply Bw.drewN | apply Bw.drew | (refine Bw.step ?_ (by assumption)))))
          obtain ⟨f0, f1, f2, f3, f4⟩ := (HBF.out.below (Bw.step HB2.out (Bw.step HB3.out (Bw.step HB4.out HB5.out)))).c5
          clear hb5
          go_wp2_with fail
          refine (lives09 _).mono ?_; rintro e w6 ⟨rfl, hb6⟩
          go_wp2
          go_ret
          exact ⟨rfl, Bw.step HB1.out (Bw.step HB2.out (Bw.step HB3.out (Bw.step HB4.out (Bw.step HB5.out (by repeat (first | exact Below.refl _ _ | apply Bw.alloc | apply Bw.drewN | apply Bw.drew | (refine Bw.step ?_ (by assumption))))))))⟩
      · go_enter Try.func18, Try.ntmps18
        go_wp2_with fail
        refine (HRUN.out _ (by repeat (first | exact Below.refl _ _ | apply Bw.alloc | apply Bw.drewN | apply Bw.drew | (refine Bw.step ?_ (by assumption))))).mono ?_; rintro e w1 ⟨Ax, c1, rfl, hc1, hmn1, hb1⟩
        have HM1 := Lib.hid hmn1
        have HC1 := Lib.hid hc1
        have HB1 := Lib.hid (show Below w.heap.size w (w1.alloc (.cells #[.int .i64 0, .int .u8 0, .int .u8 0, .int .u32 0, .int .u32 0] 89)) from (by repeat (first | exact Below.refl _ _ | apply Bw.alloc | apply Bw.drewN | apply Bw.drew | (refine Bw.step ?_ (by assumption)))))
        have HBF := Lib.hid (show Blk (w1.alloc (.cells #[.int .i64 0, .int .u8 0, .int .u8 0, .int .u32 0, .int .u32 0] 89)) w1.heap.size #[.int .i64 0, .int .u8 0, .int .u8 0, .int .u32 0, .int .u32 0] 89 from Blk.new rfl)
        clear hb1 hmn1 hc1
        go_wp2_with fail
        refine (HRD1.out _ HB1.out).mono ?_; rintro e w2 ⟨rfl, hb2⟩
        have HB2 := Lib.hid (show Below (w1.alloc (.cells #[.int .i64 0, .int .u8 0, .int .u8 0, .int .u32 0, .int .u32 0] 89)).heap.size (w1.alloc (.cells #[.int .i64 0, .int .u8 0, .int .u8 0, .int .u32 0, .int .u32 0] 89)) ((w2.alloc (.cells #[.int .i64 O1, .int .u8 K1, .int .u8 S1, .int .u32 Q1, .int .u32 V1] 89)).alloc (.cells #[.bool A1, .bool C1] 93)) from (by repeat (first | exact Below.refl _ _ | apply Bw.alloc | apply Bw.drewN | apply Bw.drew | (refine Bw.step ?_ (by assumption)))))
        have HBG := Lib.hid (show Blk ((w2.alloc (.cells #[.int .i64 O1, .int .u8 K1, .int .u8 S1, .int .u32 Q1, .int .u32 V1] 89)).alloc (.cells #[.bool A1, .bool C1] 93)) w2.heap.size #[.int .i64 O1, .int .u8 K1, .int .u8 S1, .int .u32 Q1, .int .u32 V1] 89 from (Blk.new (w := w2) rfl).below (by repeat (first | exact Below.refl _ _ | apply Bw.alloc | apply Bw.drewN | apply Bw.drew | (refine Bw.step ?_ (by assumption)))))
        clear hb2
        go_wp2_with fail
        refine (samesyms_calls _ _ _ _ _ _ xs ys _ (HRX.out.below (Bw.step HB1.out (Bw.step HB2.out (by repeat (first | exact Below.refl _ _ | apply Bw.alloc | apply Bw.drewN | apply Bw.drew | (refine Bw.step ?_ (by assumption))))))) (HRY.out.below (Bw.step HB1.out (Bw.step HB2.out (by repeat (first | exact Below.refl _ _ | apply Bw.alloc | apply Bw.drewN | apply Bw.drew | (refine Bw.step ?_ (by assumption))))))) hc hd (by omega)).mono ?_; rintro e w' ⟨rfl, q1, rfl⟩; rewrite [HSB.out]
        go_wp2_with fail
        refine (HG1.out _).mono ?_; rintro e w3 ⟨rfl, hb3⟩
        have HB3 := Lib.hid (show Below ((w2.alloc (.cells #[.int .i64 O1, .int .u8 K1, .int .u8 S1, .int .u32 Q1, .int .u32 V1] 89)).alloc (.cells #[.bool A1, .bool C1] 93)).heap.size ((w2.alloc (.cells #[.int .i64 O1, .int .u8 K1, .int .u8 S1, .int .u32 Q1, .int .u32 V1] 89)).alloc (.cells #[.bool A1, .bool C1] 93)) w3 from (by repeat (first | exact Below.refl _ _ | apply Bw.alloc | apply Bw.drewN | apply Bw.drew | (refine Bw.step ?_ (by assumption)))))
        have cg0 := (HBG.out.below HB3.out).cell 0 (.int .i64 O1) rfl
        clear hb3
        go_wp2_with fail
        refine (HRD2.out Ax c1 _ (HM1.out.rd.below (Bw.step (show Below w1.heap.size w1 (w1.alloc (.cells #[.int .i64 0, .int .u8 0, .int .u8 0, .int .u32 0, .int .u32 0] 89)) from (by repeat (first | exact Below.refl _ _ | apply Bw.alloc | apply Bw.drewN | apply Bw.drew | (refine Bw.step ?_ (by assumption))))) (Bw.step HB2.out HB3.out))) HC1.out HM1.out.cap_le).mono ?_; rintro e w4 ⟨rfl, hb4⟩
        have HB4 := Lib.hid (show Below w3.heap.size w3 ((w4.alloc (.cells #[.int .i64 O2, .int .u8 K2, .int .u8 S2, .int .u32 Q2, .int .u32 V2] 89)).alloc (.cells #[.bool A2, .bool C2] 93)) from (by repeat (first | exact Below.refl _ _ | apply Bw.alloc | apply Bw.drewN | apply Bw.drew | (refine Bw.step ?_ (by assumption)))))
        clear hb4
        obtain ⟨f0, f1, f2, f3, f4⟩ := (HBF.out.below (Bw.step HB2.out (Bw.step HB3.out HB4.out))).c5
        rcases h2 with hE2 | ⟨hE2, rfl⟩
        · go_wp2_with fail
          refine (lives09 _).mono ?_; rintro e w6 ⟨rfl, hb6⟩
          go_wp2
          go_ret
          exact ⟨rfl, Bw.step HB1.out (Bw.step HB2.out (Bw.step HB3.out (Bw.step HB4.out (by repeat (first | exact Below.refl _ _ | apply Bw.alloc | apply Bw.drewN | apply Bw.drew | (refine Bw.step ?_ (by assumption)))))))⟩
        · clear f0 f1 f2 f3 f4
          go_wp2_with fail
          refine (HG2.out _).mono ?_; rintro e w5 ⟨rfl, hb5⟩
          have HB5 := Lib.hid (show Below ((w4.alloc (.cells #[.int .i64 O2, .int .u8 K2, .int .u8 S2, .int .u32 Q2, .int .u32 V2] 89)).alloc (.cells #[.bool A2, .bool C2] 93)).heap.size ((w4.alloc (.cells #[.int .i64 O2, .int .u8 K2, .int .u8 S2, .int .u32 Q2, .int .u32 V2] 89)).alloc (.cells #[.bool A2, .bool C2] 93)) w5 from (by repeat (first | exact Below.refl _ _ | apply Bw.alloc | apply Bw.drewN | apply Bw.drew | (refine Bw.step ?_ (by assumption)))))
          obtain ⟨f0, f1, f2, f3, f4⟩ := (HBF.out.below (Bw.step HB2.out (Bw.step HB3.out (Bw.step HB4.out HB5.out)))).c5
          clear hb5
          go_wp2_with fail
          refine (lives09 _).mono ?_; rintro e w6 ⟨rfl, hb6⟩
          go_wp2
          go_ret
          exact ⟨rfl, Bw.step HB1.out (Bw.step HB2.out (Bw.step HB3.out (Bw.step HB4.out (Bw.step HB5.out (by repeat (first | exact Below.refl _ _ | apply Bw.alloc | apply Bw.drewN | apply Bw.drew | (refine Bw.step ?_ (by assumption))))))))⟩
      · go_enter Try.func18, Try.ntmps18
        go_wp2_with fail
        refine (HRUN.out _ (by repeat (first | exact Below.refl _ _ | apply Bw.alloc | apply Bw.drewN | apply Bw.drew | (refine Bw.step ?_ (by assumption))))).mono ?_; rintro e w1 ⟨Ax, c1, rfl, hc1, hmn1, hb1⟩
        have HM1 := Lib.hid hmn1
        have HC1 := Lib.hid hc1
        have HB1 := Lib.hid (show Below w.heap.size w (w1.alloc (.cells #[.int .i64 0, .int .u8 0, .int .u8 0, .int .u32 0, .int .u32 0] 89)) from (by repeat (first | exact Below.refl _ _ | apply Bw.alloc | apply Bw.drewN | apply Bw.drew | (refine Bw.step ?_ (by assumption)))))
        have HBF := Lib.hid (show Blk (w1.alloc (.cells #[.int .i64 0, .int .u8 0, .int .u8 0, .int .u32 0, .int .u32 0] 89)) w1.heap.size #[.int .i64 0, .int .u8 0, .int .u8 0, .int .u32 0, .int .u32 0] 89 from Blk.new rfl)
        clear hb1 hmn1 hc1
        go_wp2_with fail
        refine (HRD1.out _ HB1.out).mono ?_; rintro e w2 ⟨rfl, hb2⟩
        have HB2 := Lib.hid (show Below (w1.alloc (.cells #[.int .i64 0, .int .u8 0, .int .u8 0, .int .u32 0, .int .u32 0] 89)).heap.size (w1.alloc (.cells #[.int .i64 0, .int .u8 0, .int .u8 0, .int .u32 0, .int .u32 0] 89)) ((w2.alloc (.cells #[.int .i64 O1, .int .u8 K1, .int .u8 S1, .int .u32 Q1, .int .u32 V1] 89)).alloc (.cells #[.bool A1, .bool C1] 93)) from (by repeat (first | exact Below.refl _ _ | apply Bw.alloc | apply Bw.drewN | apply Bw.drew | (refine Bw.step ?_ (by assumption)))))
        have HBG := Lib.hid (show Blk ((w2.alloc (.cells #[.int .i64 O1, .int .u8 K1, .int .u8 S1, .int .u32 Q1, .int .u32 V1] 89)).alloc (.cells #[.bool A1, .bool C1] 93)) w2.heap.size #[.int .i64 O1, .int .u8 K1, .int .u8 S1, .int .u32 Q1, .int .u32 V1] 89 from (Blk.new (w := w2) rfl).below (by repeat (first | exact Below.refl _ _ | apply Bw.alloc | apply Bw.drewN | apply Bw.drew | (refine Bw.step ?_ (by assumption)))))
        clear hb2
        go_wp2_with fail
        refine (samesyms_calls _ _ _ _ _ _ xs ys _ (HRX.out.below (Bw.step HB1.out (Bw.step HB2.out (by repeat (first | exact Below.refl _ _ | apply Bw.alloc | apply Bw.drewN | apply Bw.drew | (refine Bw.step ?_ (by assumption))))))) (HRY.out.below (Bw.step HB1.out (Bw.step HB2.out (by repeat (first | exact Below.refl _ _ | apply Bw.alloc | apply Bw.drewN | apply Bw.drew | (refine Bw.step ?_ (by assumption))))))) hc hd (by omega)).mono ?_; rintro e w' ⟨rfl, q1, rfl⟩; rewrite [HSB.out]
        go_wp2_with fail
        refine (HG1.out _).mono ?_; rintro e w3 ⟨rfl, hb3⟩
        have HB3 := Lib.hid (show Below ((w2.alloc (.cells #[.int .i64 O1, .int .u8 K1, .int .u8 S1, .int .u32 Q1, .int .u32 V1] 89)).alloc (.cells #[.bool A1, .bool C1] 93)).heap.size ((w2.alloc (.cells #[.int .i64 O1, .int .u8 K1, .int .u8 S1, .int .u32 Q1, .int .u32 V1] 89)).alloc (.cells #[.bool A1, .bool C1] 93)) w3 from (by repeat (first | exact Below.refl _ _ | apply Bw.alloc | apply Bw.drewN | apply Bw.drew | (refine Bw.step ?_ (by assumption)))))
        have cg0 := (HBG.out.below HB3.out).cell 0 (.int .i64 O1) rfl
        clear hb3
        go_wp2_with fail
        refine (HRD2.out Ax c1 _ (HM1.out.rd.below (Bw.step (show Below w1.heap.size w1 (w1.alloc (.cells #[.int .i64 0, .int .u8 0, .int .u8 0, .int .u32 0, .int .u32 0] 89)) from (by repeat (first | exact Below.refl _ _ | apply Bw.alloc | apply Bw.drewN | apply Bw.drew | (refine Bw.step ?_ (by assumption))))) (Bw.step HB2.out HB3.out))) HC1.out HM1.out.cap_le).mono ?_; rintro e w4 ⟨rfl, hb4⟩
        have HB4 := Lib.hid (show Below w3.heap.size w3 ((w4.alloc (.cells #[.int .i64 O2, .int .u8 K2, .int .u8 S2, .int .u32 Q2, .int .u32 V2] 89)).alloc (.cells #[.bool A2, .bool C2] 93)) from (by repeat (first | exact Below.refl _ _ | apply Bw.alloc | apply Bw.drewN | apply Bw.drew | (refine Bw.step ?_ (by assumption)))))
        clear hb4
        obtain ⟨f0, f1, f2, f3, f4⟩ := (HBF.out.below (Bw.step HB2.out (Bw.step HB3.out HB4.out))).c5
        rcases h2 with hE2 | ⟨hE2, rfl⟩
        · go_wp2_with fail
          refine (lives09 _).mono ?_; rintro e w6 ⟨rfl, hb6⟩
          go_wp2
          go_ret
          exact ⟨rfl, Bw.step HB1.out (Bw.step HB2.out (Bw.step HB3.out (Bw.step HB4.out (by repeat (first | exact Below.refl _ _ | apply Bw.alloc | apply Bw.drewN | apply Bw.drew | (refine Bw.step ?_ (by assumption)))))))⟩
        · clear f0 f1 f2 f3 f4
          go_wp2_with fail
          refine (HG2.out _).mono ?_; rintro e w5 ⟨rfl, hb5⟩
          have HB5 := Lib.hid (show Below ((w4.alloc (.cells #[.int .i64 O2, .int .u8 K2, .int .u8 S2, .int .u32 Q2, .int .u32 V2] 89)).alloc (.cells #[.bool A2, .bool C2] 93)).heap.size ((w4.alloc (.cells #[.int .i64 O2, .int .u8 K2, .int .u8 S2, .int .u32 Q2, .int .u32 V2] 89)).alloc (.cells #[.bool A2, .bool C2] 93)) w5 from (by repeat (first | exact Below.refl _ _ | apply Bw.alloc | apply Bw.drewN | apply Bw.drew | (refine Bw.step ?_ (by assumption)))))
          obtain ⟨f0, f1, f2, f3, f4⟩ := (HBF.out.below (Bw.step HB2.out (Bw.step HB3.out (Bw.step HB4.out HB5.out)))).c5
          clear hb5
          go_wp2_with fail
          refine (lives09 _).mono ?_; rintro e w6 ⟨rfl, hb6⟩
          go_wp2
          go_ret
          exact ⟨rfl, Bw.step HB1.out (Bw.step HB2.out (Bw.step HB3.out (Bw.step HB4.out (Bw.step HB5.out (by repeat (first | exact Below.refl _ _ | apply Bw.alloc | apply Bw.drewN | apply Bw.drew | (refine Bw.step ?_ (by assumption))))))))⟩
  · have hcase : ((n : Int) != 114) = true ∨ (n = 114 ∧ ((m : Int) != 114) = true) := by
      by_cases hn : n = 114
      · right; exact ⟨hn, by simp; omega⟩
      · left; simp; omega
    clear hr hs
    rcases hcase with hne | ⟨rfl, hne⟩
    all_goals
      go_enter Try.func18, Try.ntmps18
      go_wp2_with fail
      refine (lives09 _).mono ?_; rintro e w6 ⟨rfl, hb6⟩
      go_wp2
      go_ret
      exact ⟨rfl, (by repeat (first | exact Below.refl _ _ | apply Bw.alloc | apply Bw.drewN | apply Bw.drew | (refine Bw.step ?_ (by assumption))))⟩
end Go.Proofs.Ytnmhhjgiakijgaa
