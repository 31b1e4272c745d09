/- FramesGet: what the call returns. -/
import Derived.Test.YtnmhhjgiakijgaaA32
import Derived.Test.YtnmhhjgiakijgaaA33
import Derived.Test.YtnmhhjgiakijgaaA28
import Derived.Test.YtnmhhjgiakijgaaB4
namespace Go.Proofs.Ytnmhhjgiakijgaa
open Go.RowKit
set_option linter.unusedVariables false

set_option maxHeartbeats 3200000 in
set_option maxRecDepth 20000 in
theorem framesget_walk (A : Option Addr) (n c : Nat) (l : List Int) (w : World) (hr : Rd w .u8 A n l) (hc : n ≤ c) (hm : c ≤ maxLen) (hb : bytesOk l) :
    Calls Try.prog 11 #[.slice A n c] w fun e w' => e = .returned (.bool true) ∧ Below w.heap.size w w' := by
  have HR := Lib.hid hr
  have HL := Lib.hid hr.len
  have HB := Lib.hid hb
  have HCM := Lib.hid hm
  clear hr hb hm
  by_cases h0 : n ≤ 100
  · go_enter Try.func11, Try.ntmps11
    go_wp2_with fail
    refine (twinbytes_calls _ _ _ l _ HR.out hc (by omega)).mono ?_; rintro e w1 ⟨g, c1, rfl, hc1, hm1, hb1⟩
    have HT := Lib.hid (hm1.rd.twin HL.out)
    have HM := Lib.hid hm1.rd
    have HCM1 := Lib.hid hm1.cap_le
    have hnc1 : n ≤ c1 := by omega
    have HC1 := Lib.hid hc1
    clear hm1 hc1
    go_wp2_with fail
    refine (get_calls _ n c1 l _ HT.out hnc1 HCM1.out HB.out).mono ?_; rintro e w2 ⟨rfl, hb2⟩
    obtain ⟨eg, heg⟩ : ∃ eg, eg = errG l := ⟨_, rfl⟩
    rewrite [← heg]
    obtain ⟨o, ho⟩ : ∃ o, o = fO l := ⟨_, rfl⟩
    obtain ⟨k, hk⟩ : ∃ k, k = fK l := ⟨_, rfl⟩
    obtain ⟨s, hs⟩ : ∃ s, s = fS l := ⟨_, rfl⟩
    obtain ⟨q, hq⟩ : ∃ q, q = fQ l := ⟨_, rfl⟩
    obtain ⟨v, hv⟩ : ∃ v, v = fV l := ⟨_, rfl⟩
    rewrite [← ho, ← hk, ← hs, ← hq, ← hv]
    have HRG : Hid (∀ w, Rd w .u8 A n l → Calls Try.prog 68 #[.slice A n c] w fun e w' => e = .returned (.tuple #[.agg #[.int .i64 o, .int .u8 k, .int .u8 s, .int .u32 q, .int .u32 v], .int .i64 eg]) ∧ Below w.heap.size w w') := fun w hr => by
      rw [heg, ho, hk, hs, hq, hv]
      exact refget_calls A n c l w hr hc HCM.out HB.out
    clear heg ho hk hs hq hv
    have hbw2 : Below w.heap.size w w2 := (by repeat (first | exact Below.refl _ _ | apply Bw.alloc | apply Bw.drewN | apply Bw.drew | (refine Bw.step ?_ (by assumption))))
    have HB12 := Lib.hid hb2
    have HB1 := Lib.hid hb1
    clear hb1 hb2
    go_wp2_with fail
    refine (HRG.out _ (HR.out.below (by repeat (first | exact Below.refl _ _ | apply Bw.alloc | apply Bw.drewN | apply Bw.drew | (refine Bw.step ?_ (by assumption)))))).mono ?_; rintro e w3 ⟨rfl, hb3⟩
    have hB := (Blk.new (w := w2) (cs := #[.int .i64 o, .int .u8 k, .int .u8 s, .int .u32 q, .int .u32 v]) (e := 89) rfl).below hb3
    have HCA : ∀ (j : Nat) (u : Value) (ob : Obj), #[Value.int .i64 o, .int .u8 k, .int .u8 s, .int .u32 q, .int .u32 v][j]? = some u → (w3.alloc ob).cell? ⟨w2.heap.size, j, none⟩ = some u := fun j u ob h => (hB.below (Bw.alloc (Below.refl _ _) ob)).cell j u h
    have d0 := fun ob => HCA 0 (.int .i64 o) ob rfl
    have d1 := fun ob => HCA 1 (.int .u8 k) ob rfl
    have d2 := fun ob => HCA 2 (.int .u8 s) ob rfl
    have d3 := fun ob => HCA 3 (.int .u32 q) ob rfl
    have d4 := fun ob => HCA 4 (.int .u32 v) ob rfl
    have HB13 := Lib.hid (show Below w1.heap.size w1 w3 from by have hb2 := HB12.out; exact (by repeat (first | exact Below.refl _ _ | apply Bw.alloc | apply Bw.drewN | apply Bw.drew | (refine Bw.step ?_ (by assumption)))))
    have hbw3 : Below w.heap.size w w3 := (by repeat (first | exact Below.refl _ _ | apply Bw.alloc | apply Bw.drewN | apply Bw.drew | (refine Bw.step ?_ (by assumption))))
    clear hB HCA hb3
    go_wp2_with fail
    clear d0 d1 d2 d3 d4
    refine (same69_calls (o : Int) k s q v _).mono ?_; rintro e w4 ⟨rfl, hb4⟩
    have HB14 := Lib.hid (show Below w1.heap.size w1 w4 from by have hb2 := HB13.out; exact (by repeat (first | exact Below.refl _ _ | apply Bw.alloc | apply Bw.drewN | apply Bw.drew | (refine Bw.step ?_ (by assumption)))))
    have hbw4 : Below w.heap.size w w4 := (by repeat (first | exact Below.refl _ _ | apply Bw.alloc | apply Bw.drewN | apply Bw.drew | (refine Bw.step ?_ (by assumption))))
    go_wp2_with fail
    refine (leftbytes_calls _ _ _ _ _ l _ (HM.out.below HB14.out) (HR.out.below hbw4) HC1.out HCM1.out hc HB.out).mono ?_; rintro e w' ⟨rfl, rfl⟩
    go_wp2_with fail
    refine (lives05 _).mono ?_; rintro e w5 ⟨rfl, hb5⟩
    go_wp2
    go_ret
    exact ⟨rfl, (by repeat (first | exact Below.refl _ _ | apply Bw.alloc | apply Bw.drewN | apply Bw.drew | (refine Bw.step ?_ (by assumption))))⟩
  · go_enter Try.func11, Try.ntmps11
    go_wp2_with fail
    refine (lives05 _).mono ?_; rintro e w1 ⟨rfl, hb1⟩
    go_wp2
    go_ret
    exact ⟨rfl, (by repeat (first | exact Below.refl _ _ | apply Bw.alloc | apply Bw.drewN | apply Bw.drew | (refine Bw.step ?_ (by assumption))))⟩
end Go.Proofs.Ytnmhhjgiakijgaa
