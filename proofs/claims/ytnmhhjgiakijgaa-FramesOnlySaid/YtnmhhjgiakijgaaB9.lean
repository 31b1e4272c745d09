/- FramesOnly: what the call returns. -/
import Derived.Test.YtnmhhjgiakijgaaM10
import Derived.Test.YtnmhhjgiakijgaaA33
import Derived.Test.YtnmhhjgiakijgaaA28
namespace Go.Proofs.Ytnmhhjgiakijgaa
open Go.RowKit
set_option linter.unusedVariables false

set_option maxHeartbeats 3200000 in
set_option maxRecDepth 20000 in
theorem framesonly_walk (A : Option Addr) (n c : Nat) (l : List Int) (w : World) (hr : Rd w .u8 A n l) (hc : n ≤ c) (hm : c ≤ maxLen) (hb : bytesOk l) :
    Calls Try.prog 13 #[.slice A n c] w fun e w' => e = .returned (.bool true) ∧ Below w.heap.size w w' := by
  have HR := Lib.hid hr
  have HL := Lib.hid hr.len
  have HB := Lib.hid hb
  have HCM := Lib.hid hm
  clear hr hb hm
  by_cases h0 : n ≤ 100
  · cases hok : okB l with
    | false =>
      have hz := zeroG hok
      have HG : Hid (∀ w, Rd w .u8 A n l → Calls Try.prog 67 #[.slice A n c] w fun e w' => e = .returned (.tuple #[.agg #[.int .i64 0, .int .u8 0, .int .u8 0, .int .u32 0, .int .u32 0], .int .i64 (errG l)]) ∧ Below w.heap.size w w') := fun w hr => by
        have h := get_calls A n c l w hr hc HCM.out HB.out
        unfold GetPost at h
        rw [hz.1, hz.2.1, hz.2.2.1, hz.2.2.2.1, hz.2.2.2.2] at h
        exact h
      have hbad := errG_bad hok
      clear hz hok
      obtain ⟨eg, heg⟩ : ∃ eg, errG l = eg := ⟨_, rfl⟩
      rw [heg] at HG hbad
      rw [HL.out] at hbad
      clear heg
      rcases hbad with rfl | ⟨rfl, rfl⟩
      all_goals
        go_enter Try.func13, Try.ntmps13
        go_wp2_with fail
        refine (HG.out _ (HR.out.below (by repeat (first | exact Below.refl _ _ | apply Bw.alloc | apply Bw.drewN | apply Bw.drew | (refine Bw.step ?_ (by assumption)))))).mono ?_; rintro e w2 ⟨rfl, hb2⟩
        go_wp2_with fail
        refine (lives05 _).mono ?_; rintro e w3 ⟨rfl, hb3⟩
        go_wp2
        go_ret
        exact ⟨rfl, (by repeat (first | exact Below.refl _ _ | apply Bw.alloc | apply Bw.drewN | apply Bw.drew | (refine Bw.step ?_ (by assumption))))⟩
    | true =>
      have hz := fullG hok
      have HE := Lib.hid (errG_ok hok)
      have hpg := put_got HB.out hok
      obtain ⟨o, ho⟩ : ∃ o, o = gO l := ⟨_, rfl⟩
      obtain ⟨k, hk⟩ : ∃ k, k = gK l := ⟨_, rfl⟩
      obtain ⟨s, hs⟩ : ∃ s, s = gS l := ⟨_, rfl⟩
      obtain ⟨q, hq⟩ : ∃ q, q = numAt l 2 4 := ⟨_, rfl⟩
      obtain ⟨v, hv⟩ : ∃ v, v = numAt l 6 4 := ⟨_, rfl⟩
      have HG : Hid (∀ w, Rd w .u8 A n l → Calls Try.prog 67 #[.slice A n c] w fun e w' => e = .returned (.tuple #[.agg #[.int .i64 o, .int .u8 k, .int .u8 s, .int .u32 q, .int .u32 v], .int .i64 0]) ∧ Below w.heap.size w w') := fun w hr => by
        have h := get_calls A n c l w hr hc HCM.out HB.out
        unfold GetPost at h
        rw [hz.1, hz.2.1, hz.2.2.1, hz.2.2.2.1, hz.2.2.2.2, HE.out, ← ho, ← hk, ← hs, ← hq, ← hv] at h
        exact h
      rw [← ho, ← hk, ← hs, ← hq, ← hv] at hpg
      have h14 : l.length = 14 := by
        simp only [okB, Bool.and_eq_true, decide_eq_true_eq] at hok
        exact hok.1.1
      have hmay : mayB (o : Int) k = true := by
        simp only [okB, Bool.and_eq_true, decide_eq_true_eq] at hok
        rw [ho, hk]; exact hok.2
      have hsl : s ≤ 255 := by rw [hs]; have := bytesOk_gt HB.out (j := 1) (by omega); unfold gS; omega
      have hql : q < 4294967296 := by rw [hq]; exact numAt_lt l 2 HB.out 4 (by omega)
      have hvl : v < 4294967296 := by rw [hv]; exact numAt_lt l 6 HB.out 4 (by omega)
      have HP : Hid (∀ w, Calls Try.prog 57 #[.agg #[.int .i64 o, .int .u8 k, .int .u8 s, .int .u32 q, .int .u32 v]] w fun e w' => ∃ A', e = .returned (.tuple #[.slice A' 14 14, .int .i64 0]) ∧ Mn w' w.heap.size 5 1 (.slice A' 14 14) 14 (nums .u8 l) ∧ Below w.heap.size w w') := fun w => by
        have h := put5_calls (o : Int) k s q v w hsl hql hvl
        unfold PutPost at h
        rw [hpg, h14, show errP (o : Int) k = 0 by unfold errP; rw [if_pos hmay]] at h
        exact h
      have SS := Lib.hid (sameL_self l)
      clear hz hpg ho hk hs hq hv hok h14 hmay hsl hql hvl
      go_enter Try.func13, Try.ntmps13
      go_wp2_with fail
      refine (HG.out _ (HR.out.below (by repeat (first | exact Below.refl _ _ | apply Bw.alloc | apply Bw.drewN | apply Bw.drew | (refine Bw.step ?_ (by assumption)))))).mono ?_; rintro e w2 ⟨rfl, hb2⟩
      go_wp2_with fail
      refine (HP.out _).mono ?_; rintro e w3 ⟨A3, rfl, hm3, hb3⟩
      go_wp2_with fail
      refine (samebytes_calls _ _ _ _ _ _ l l _ (HR.out.below (by repeat (first | exact Below.refl _ _ | apply Bw.alloc | apply Bw.drewN | apply Bw.drew | (refine Bw.step ?_ (by assumption))))) hm3.rd HB.out HB.out).mono ?_; rintro e w' ⟨rfl, rfl⟩; rewrite [SS.out]
      go_wp2_with fail
      refine (lives05 _).mono ?_; rintro e w4 ⟨rfl, hb4⟩
      go_wp2
      go_ret
      exact ⟨rfl, (by repeat (first | exact Below.refl _ _ | apply Bw.alloc | apply Bw.drewN | apply Bw.drew | (refine Bw.step ?_ (by assumption))))⟩
  · go_enter Try.func13, Try.ntmps13
    go_wp2_with fail
    refine (lives05 _).mono ?_; rintro e w1 ⟨rfl, hb1⟩
    go_wp2
    go_ret
    exact ⟨rfl, (by repeat (first | exact Below.refl _ _ | apply Bw.alloc | apply Bw.drewN | apply Bw.drew | (refine Bw.step ?_ (by assumption))))⟩
end Go.Proofs.Ytnmhhjgiakijgaa
