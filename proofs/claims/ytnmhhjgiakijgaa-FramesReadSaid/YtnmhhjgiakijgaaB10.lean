/- FramesRead: what the call returns. -/
import Derived.Test.YtnmhhjgiakijgaaA34
import Derived.Test.YtnmhhjgiakijgaaA33
import Derived.Test.YtnmhhjgiakijgaaA28
import Derived.Test.YtnmhhjgiakijgaaB4
namespace Go.Proofs.Ytnmhhjgiakijgaa
open Go.RowKit
set_option linter.unusedVariables false

set_option maxHeartbeats 3200000 in
set_option maxRecDepth 20000 in
theorem framesread_walk (A : Option Addr) (n c : Nat) (xs : List Int) (w : World) (hr : Rd w .u8 A n xs) (hc : n ≤ c) (hm : c ≤ maxLen) (hx : bytesOk xs) :
    Calls Try.prog 14 #[.slice A n c] w fun e w' => e = .returned (.bool true) ∧ Below w.heap.size w w' := by
  have HR := Lib.hid hr
  have HL := Lib.hid hr.len
  have HX := Lib.hid hx
  have HCM := Lib.hid hm
  clear hr hx hm
  by_cases h0 : n ≤ 300
  · obtain ⟨O, hO⟩ : ∃ O, rO xs = O := ⟨_, rfl⟩
    obtain ⟨K, hK⟩ : ∃ K, rK xs = K := ⟨_, rfl⟩
    obtain ⟨S, hS⟩ : ∃ S, rS xs = S := ⟨_, rfl⟩
    obtain ⟨Q, hQ⟩ : ∃ Q, rQ xs = Q := ⟨_, rfl⟩
    obtain ⟨V, hV⟩ : ∃ V, rV xs = V := ⟨_, rfl⟩
    obtain ⟨a, ha⟩ : ∃ a, rA xs = a := ⟨_, rfl⟩
    obtain ⟨b, hb⟩ : ∃ b, rC xs = b := ⟨_, rfl⟩
    obtain ⟨E, hE⟩ : ∃ E, rE xs = E := ⟨_, rfl⟩
    have HG : Hid (∀ (D : Option Addr) (d : Nat) (w : World), Rd w .u8 D n xs → n ≤ d → d ≤ maxLen → Calls Try.prog 72 #[.slice D n d] w fun e w' => e = .returned (.tuple #[.agg #[.int .i64 O, .int .u8 K, .int .u8 S, .int .u32 Q, .int .u32 V], .agg #[.bool a, .bool b], .int .i64 E]) ∧ Below w.heap.size w w') := fun D d w h1 h2 h3 => by
      have h := read_calls D n d xs w h1 h2 (by omega) h3 HX.out
      unfold ReadPost at h
      rw [hO, hK, hS, hQ, hV, ha, hb, hE] at h
      exact h
    have HRG : Hid (∀ (D : Option Addr) (d : Nat) (w : World), Rd w .u8 D n xs → n ≤ d → d ≤ maxLen → Calls Try.prog 73 #[.slice D n d] w fun e w' => e = .returned (.tuple #[.agg #[.int .i64 O, .int .u8 K, .int .u8 S, .int .u32 Q, .int .u32 V], .agg #[.bool a, .bool b], .int .i64 E]) ∧ Below w.heap.size w w') := fun D d w h1 h2 h3 => by
      have h := refread_calls D n d xs w h1 h2 (by omega) h3 HX.out
      unfold ReadPost at h
      rw [hO, hK, hS, hQ, hV, ha, hb, hE] at h
      exact h
    clear hO hK hS hQ hV ha hb hE
    go_enter Try.func14, Try.ntmps14
    go_wp2_with fail
    refine (twinsyms_calls _ _ _ xs _ HR.out hc (by omega)).mono ?_; rintro e w1 ⟨g, c1, rfl, hc1, hm1, hb1⟩
    have HT := Lib.hid (hm1.rd.twin HL.out)
    have HM := Lib.hid hm1.rd
    have HCM1 := Lib.hid hm1.cap_le
    have hnc1 : n ≤ c1 := by omega
    have HC1 := Lib.hid hc1
    clear hm1 hc1
    go_wp2_with fail
    refine (HG.out _ _ _ HT.out hnc1 HCM1.out).mono ?_; rintro e w2 ⟨rfl, hb2⟩
    have hbw2 : Below w.heap.size w w2 := (by repeat (first | exact Below.refl _ _ | apply Bw.alloc | apply Bw.drewN | apply Bw.drew | (refine Bw.step ?_ (by assumption))))
    have HB12 := Lib.hid hb2
    have HB1 := Lib.hid hb1
    clear hb1 hb2
    go_wp2_with fail
    refine (HRG.out _ _ _ (HR.out.below (by repeat (first | exact Below.refl _ _ | apply Bw.alloc | apply Bw.drewN | apply Bw.drew | (refine Bw.step ?_ (by assumption))))) hc HCM.out).mono ?_; rintro e w3 ⟨rfl, hb3⟩
    have hbW3 : Below w3.heap.size w3 ((w3.alloc (.cells #[.int .i64 O, .int .u8 K, .int .u8 S, .int .u32 Q, .int .u32 V] 85)).alloc (.cells #[.bool a, .bool b] 94)) := (by repeat (first | exact Below.refl _ _ | apply Bw.alloc | apply Bw.drewN | apply Bw.drew | (refine Bw.step ?_ (by assumption))))
    have E1 := ((show Blk ((w2.alloc (.cells #[.int .i64 O, .int .u8 K, .int .u8 S, .int .u32 Q, .int .u32 V] 89)).alloc (.cells #[.bool a, .bool b] 93)) w2.heap.size #[.int .i64 O, .int .u8 K, .int .u8 S, .int .u32 Q, .int .u32 V] 89 from (Blk.new (w := w2) rfl).below (by repeat (first | exact Below.refl _ _ | apply Bw.alloc | apply Bw.drewN | apply Bw.drew | (refine Bw.step ?_ (by assumption))))).below hb3)
    have E2 := ((show Blk ((w2.alloc (.cells #[.int .i64 O, .int .u8 K, .int .u8 S, .int .u32 Q, .int .u32 V] 89)).alloc (.cells #[.bool a, .bool b] 93)) (w2.heap.size + 1) #[.bool a, .bool b] 93 from Blk.new (by simp)).below hb3)
    have E1a := fun ob => E1.below (Bw.alloc (Below.refl w3.heap.size w3) ob)
    have E2a := fun ob => E2.below (Bw.alloc (Below.refl w3.heap.size w3) ob)
    have E1' := E1.below hbW3
    have E2' := Lib.hid (E2.below hbW3)
    have E3' := show Blk ((w3.alloc (.cells #[.int .i64 O, .int .u8 K, .int .u8 S, .int .u32 Q, .int .u32 V] 85)).alloc (.cells #[.bool a, .bool b] 94)) w3.heap.size #[.int .i64 O, .int .u8 K, .int .u8 S, .int .u32 Q, .int .u32 V] 85 from (Blk.new (w := w3) rfl).below (by repeat (first | exact Below.refl _ _ | apply Bw.alloc | apply Bw.drewN | apply Bw.drew | (refine Bw.step ?_ (by assumption))))
    have E4' := Lib.hid (show Blk ((w3.alloc (.cells #[.int .i64 O, .int .u8 K, .int .u8 S, .int .u32 Q, .int .u32 V] 85)).alloc (.cells #[.bool a, .bool b] 94)) (w3.heap.size + 1) #[.bool a, .bool b] 94 from Blk.new (by simp))
    have HB13 := Lib.hid (show Below w1.heap.size w1 ((w3.alloc (.cells #[.int .i64 O, .int .u8 K, .int .u8 S, .int .u32 Q, .int .u32 V] 85)).alloc (.cells #[.bool a, .bool b] 94)) from by have hb2 := HB12.out; exact (by repeat (first | exact Below.refl _ _ | apply Bw.alloc | apply Bw.drewN | apply Bw.drew | (refine Bw.step ?_ (by assumption)))))
    have hbw3 : Below w.heap.size w ((w3.alloc (.cells #[.int .i64 O, .int .u8 K, .int .u8 S, .int .u32 Q, .int .u32 V] 85)).alloc (.cells #[.bool a, .bool b] 94)) := (by repeat (first | exact Below.refl _ _ | apply Bw.alloc | apply Bw.drewN | apply Bw.drew | (refine Bw.step ?_ (by assumption))))
    have d0 := E1'.cell 0 (.int .i64 O) rfl
    have d1 := E1'.cell 1 (.int .u8 K) rfl
    have d2 := E1'.cell 2 (.int .u8 S) rfl
    have d3 := E1'.cell 3 (.int .u32 Q) rfl
    have d4 := E1'.cell 4 (.int .u32 V) rfl
    have k0 := E3'.cell 0 (.int .i64 O) rfl
    have k1 := E3'.cell 1 (.int .u8 K) rfl
    have k2 := E3'.cell 2 (.int .u8 S) rfl
    have k3 := E3'.cell 3 (.int .u32 Q) rfl
    have k4 := E3'.cell 4 (.int .u32 V) rfl
    clear hb3 hbW3 E1 E2 E1a E2a E1' E3'
    go_wp2_with fail
    generalize ((w3.alloc (.cells #[.int .i64 O, .int .u8 K, .int .u8 S, .int .u32 Q, .int .u32 V] 85)).alloc (.cells #[.bool a, .bool b] 94)) = X at *
    clear d0 d1 d2 d3 d4 k0 k1 k2 k3 k4
    refine (same69_calls (O : Int) K S Q V _).mono ?_; rintro e w4 ⟨rfl, hb4⟩
    have HB14 := Lib.hid (show Below w1.heap.size w1 w4 from by have hb2 := HB13.out; exact (by repeat (first | exact Below.refl _ _ | apply Bw.alloc | apply Bw.drewN | apply Bw.drew | (refine Bw.step ?_ (by assumption)))))
    have hbw4 : Below w.heap.size w w4 := (by repeat (first | exact Below.refl _ _ | apply Bw.alloc | apply Bw.drewN | apply Bw.drew | (refine Bw.step ?_ (by assumption))))
    have F2 := E2'.out.below hb4
    have F4 := E4'.out.below hb4
    have d0 := F2.cell 0 (.bool a) rfl
    have d1 := F2.cell 1 (.bool b) rfl
    have k0 := F4.cell 0 (.bool a) rfl
    have k1 := F4.cell 1 (.bool b) rfl
    clear F2 F4 hb4
    go_wp2_with fail
    refine (leftsyms_calls _ _ _ _ _ xs _ (HM.out.below HB14.out) (HR.out.below hbw4) HC1.out HCM1.out hc (by omega)).mono ?_; rintro e w5 ⟨rfl, q5, rfl⟩
    go_wp2_with fail
    refine (lives05 _).mono ?_; rintro e w6 ⟨rfl, hb6⟩
    go_wp2
    go_ret
    exact ⟨rfl, (by repeat (first | exact Below.refl _ _ | apply Bw.alloc | apply Bw.drewN | apply Bw.drew | (refine Bw.step ?_ (by assumption))))⟩
  · go_enter Try.func14, Try.ntmps14
    go_wp2_with fail
    refine (lives05 _).mono ?_; rintro e w1 ⟨rfl, hb1⟩
    go_wp2
    go_ret
    exact ⟨rfl, (by repeat (first | exact Below.refl _ _ | apply Bw.alloc | apply Bw.drewN | apply Bw.drew | (refine Bw.step ?_ (by assumption))))⟩
end Go.Proofs.Ytnmhhjgiakijgaa
