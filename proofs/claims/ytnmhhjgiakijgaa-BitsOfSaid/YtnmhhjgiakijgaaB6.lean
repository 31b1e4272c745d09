/- BitsOf: what the call returns. -/
import Derived.Test.YtnmhhjgiakijgaaB5
import Derived.Test.YtnmhhjgiakijgaaA16
namespace Go.Proofs.Ytnmhhjgiakijgaa
open Go.RowKit
set_option linter.unusedVariables false

theorem bytesOk_byV (xs : List Int) : bytesOk (byV xs) := byV_bytes xs

set_option maxHeartbeats 3200000 in
set_option maxRecDepth 20000 in
theorem bitsof_walk (A : Option Addr) (n c : Nat) (bs : List Int) (D : Option Addr) (m d : Nat) (xs : List Int) (w : World) (hr : Rd w .u8 A n bs) (hc : n ≤ c) (hb : bytesOk bs) (hs : Rd w .u8 D m xs) (hd : m ≤ d) :
    Calls Try.prog 7 #[.slice A n c, .slice D m d] w fun e w' => e = .returned (.bool true) ∧ Below w.heap.size w w' := by
  have HR := Lib.hid hr
  have HL := Lib.hid hr.len
  have HS := Lib.hid hs
  have HM := Lib.hid hs.len
  have HB := Lib.hid hb
  clear hr hs hb
  by_cases h0 : n ≤ 2000
  · by_cases h1 : m ≤ 2000
    · have S1 := Lib.hid (sameL_refl (ofL bs))
      have S2 := Lib.hid (sameL_refl (byV xs))
      have HV := Lib.hid (byV_len xs)
      go_enter Try.func7, Try.ntmps7
      go_wp2_with fail
      refine (twinbytes_calls _ _ _ bs _ HR.out hc (by omega)).mono ?_; rintro e w1 ⟨g, c1, rfl, hc1, hm1, hb1⟩
      have HC1 := Lib.hid hc1
      clear hc1
      have HT := Lib.hid (hm1.rd.twin HL.out)
      have hnc1 : n ≤ c1 := by have := HC1.out; omega
      go_wp2_with fail
      refine (twinsyms_calls _ _ _ xs _ (HS.out.below (by repeat (first | exact Below.refl _ _ | apply Bw.alloc | apply Bw.drewN | apply Bw.drew | (refine Bw.step ?_ (by assumption))))) hd (by omega)).mono ?_; rintro e w2 ⟨h, d1, rfl, hd1, hm2, hb2⟩
      have HD1 := Lib.hid hd1
      clear hd1
      have HU := Lib.hid (hm2.rd.twin HM.out)
      have hmd1 : m ≤ d1 := by have := HD1.out; omega
      go_wp2_with fail
      refine (of_calls _ _ _ bs _ (HT.out.below (by repeat (first | exact Below.refl _ _ | apply Bw.alloc | apply Bw.drewN | apply Bw.drew | (refine Bw.step ?_ (by assumption))))) hnc1 (by omega) HB.out).mono ?_; rintro e w3 ⟨A3, m3, rfl, hl3, hm3, hb3⟩; have HL3 := Lib.hid hl3; clear hl3
      go_wp2_with fail
      refine (bytes_calls _ _ _ xs _ (HU.out.below (by repeat (first | exact Below.refl _ _ | apply Bw.alloc | apply Bw.drewN | apply Bw.drew | (refine Bw.step ?_ (by assumption))))) hmd1 hm2.cap_le (by omega)).mono ?_; rintro e w4 ⟨A4, m4, rfl, hl4, hm4, hb4⟩; have HL4 := Lib.hid hl4; clear hl4
      go_wp2_with fail
      refine (refbytes_calls _ _ _ xs _ (HS.out.below (by repeat (first | exact Below.refl _ _ | apply Bw.alloc | apply Bw.drewN | apply Bw.drew | (refine Bw.step ?_ (by assumption))))) hd (by omega)).mono ?_; rintro e w5 ⟨A5, m5, c5, rfl, hl5, hc5, hm5, hb5⟩; have HL5 := Lib.hid hl5; clear hl5
      go_wp2_with fail
      refine (refof_calls _ _ _ bs _ (HR.out.below (by repeat (first | exact Below.refl _ _ | apply Bw.alloc | apply Bw.drewN | apply Bw.drew | (refine Bw.step ?_ (by assumption))))) hc (by omega) HB.out).mono ?_; rintro e w6 ⟨A6, m6, c6, rfl, hl6, hc6, hm6, hb6⟩; have HL6 := Lib.hid hl6; clear hl6
      go_wp2_with fail
      refine (samesyms_calls _ _ _ _ _ _ (ofL bs) (ofL bs) _ (hm3.rd.below (by repeat (first | exact Below.refl _ _ | apply Bw.alloc | apply Bw.drewN | apply Bw.drew | (refine Bw.step ?_ (by assumption))))) hm6.rd (Nat.le_refl _) hc6 (by have := HL3.out; omega)).mono ?_; rintro e w' ⟨rfl, q1, rfl⟩; rewrite [S1.out]
      go_wp2_with fail
      refine (samebytes_calls _ _ _ _ _ _ (byV xs) (byV xs) _ (hm4.rd.below (by repeat (first | exact Below.refl _ _ | apply Bw.alloc | apply Bw.drewN | apply Bw.drew | (refine Bw.step ?_ (by assumption))))) (hm5.rd.below (by repeat (first | exact Below.refl _ _ | apply Bw.alloc | apply Bw.drewN | apply Bw.drew | (refine Bw.step ?_ (by assumption))))) (bytesOk_byV xs) (bytesOk_byV xs)).mono ?_; rintro e w' ⟨rfl, rfl⟩; rewrite [S2.out]
      go_wp2_with fail
      refine (leftbytes_calls _ _ _ _ _ bs _ (hm1.rd.below (by repeat (first | exact Below.refl _ _ | apply Bw.alloc | apply Bw.drewN | apply Bw.drew | (refine Bw.step ?_ (by assumption))))) (HR.out.below (by repeat (first | exact Below.refl _ _ | apply Bw.alloc | apply Bw.drewN | apply Bw.drew | (refine Bw.step ?_ (by assumption))))) HC1.out hm1.cap_le hc HB.out).mono ?_; rintro e w' ⟨rfl, rfl⟩
      go_wp2_with fail
      refine (leftsyms_calls _ _ _ _ _ xs _ (hm2.rd.below (by repeat (first | exact Below.refl _ _ | apply Bw.alloc | apply Bw.drewN | apply Bw.drew | (refine Bw.step ?_ (by assumption))))) (HS.out.below (by repeat (first | exact Below.refl _ _ | apply Bw.alloc | apply Bw.drewN | apply Bw.drew | (refine Bw.step ?_ (by assumption))))) HD1.out hm2.cap_le hd (by omega)).mono ?_; rintro e w7 ⟨rfl, hq7⟩
      have hb7 : Below w6.heap.size w6 w7 := by obtain ⟨q, rfl⟩ := hq7; exact (by repeat (first | exact Below.refl _ _ | apply Bw.alloc | apply Bw.drewN | apply Bw.drew | (refine Bw.step ?_ (by assumption))))
      clear hq7
      go_wp2_with fail
      refine (wholes_calls _ _ _ xs _ (HU.out.below (by repeat (first | exact Below.refl _ _ | apply Bw.alloc | apply Bw.drewN | apply Bw.drew | (refine Bw.step ?_ (by assumption))))) hmd1 (by omega)).mono ?_; rintro e w' ⟨rfl, rfl⟩
      go_wp2_with fail
      refine (refwhole_calls _ _ _ xs _ (HS.out.below (by repeat (first | exact Below.refl _ _ | apply Bw.alloc | apply Bw.drewN | apply Bw.drew | (refine Bw.step ?_ (by assumption))))) hd (by omega)).mono ?_; rintro e w' ⟨rfl, rfl⟩
      have hsz1 := hb1.size
      have hsz2 := hb2.size
      have hsz3 := hb3.size
      have hsz4 := hb4.size
      have hsz5 := hb5.size
      have hsz6 := hb6.size
      have hsz7 := hb7.size
      have p1 : ∀ q, Row.blk (some ⟨h, 0, none⟩, m) = some q → w1.heap.size ≤ q ∧ q < w2.heap.size := fun q hq => by
        have h1 := ((RowAt.of_mn hm2 (by omega)).shorter (m := m) (by omega)).blk_ge hq
        exact h1
      have p2 : ∀ q, Row.blk (A3, m3) = some q → w2.heap.size ≤ q ∧ q < w3.heap.size := fun q hq => (RowAt.of_mn hm3 (by have := HL3.out; omega)).blk_ge hq
      have p3 : ∀ q, Row.blk (some ⟨g, 0, none⟩, n) = some q → w.heap.size ≤ q ∧ q < w1.heap.size := fun q hq => by
        have h1 := ((RowAt.of_mn hm1 (by omega)).shorter (m := n) (by omega)).blk_ge hq
        exact h1
      have p4 : ∀ q, Row.blk (A4, m4) = some q → w3.heap.size ≤ q ∧ q < w4.heap.size := fun q hq => (RowAt.of_mn hm4 (by have := HL4.out; have := HV.out; have := HM.out; omega)).blk_ge hq
      have r1 : RowAt (w7.alloc (.cells #[.slice none 0 0, .slice none 0 0, .slice none 0 0, .bool false] 34)) w1.heap.size 50 (some ⟨h, 0, none⟩, m) := ((RowAt.of_mn hm2 (by omega)).shorter (m := m) (by omega)).below (by repeat (first | exact Below.refl _ _ | apply Bw.alloc | apply Bw.drewN | apply Bw.drew | (refine Bw.step ?_ (by assumption))))
      have r2 : RowAt (w7.alloc (.cells #[.slice none 0 0, .slice none 0 0, .slice none 0 0, .bool false] 34)) w2.heap.size 50 (A3, m3) := (RowAt.of_mn hm3 (by have := HL3.out; omega)).below (by repeat (first | exact Below.refl _ _ | apply Bw.alloc | apply Bw.drewN | apply Bw.drew | (refine Bw.step ?_ (by assumption))))
      have r3 : RowAt (w7.alloc (.cells #[.slice none 0 0, .slice none 0 0, .slice none 0 0, .bool false] 34)) w.heap.size 5 (some ⟨g, 0, none⟩, n) := ((RowAt.of_mn hm1 (by omega)).shorter (m := n) (by omega)).below (by repeat (first | exact Below.refl _ _ | apply Bw.alloc | apply Bw.drewN | apply Bw.drew | (refine Bw.step ?_ (by assumption))))
      have r4 : RowAt (w7.alloc (.cells #[.slice none 0 0, .slice none 0 0, .slice none 0 0, .bool false] 34)) w3.heap.size 5 (A4, m4) := (RowAt.of_mn hm4 (by have := HL4.out; have := HV.out; have := HM.out; omega)).below (by repeat (first | exact Below.refl _ _ | apply Bw.alloc | apply Bw.drewN | apply Bw.drew | (refine Bw.step ?_ (by assumption))))
      have hbw : Below w.heap.size w (w7.alloc (.cells #[.slice none 0 0, .slice none 0 0, .slice none 0 0, .bool false] 34)) := (by repeat (first | exact Below.refl _ _ | apply Bw.alloc | apply Bw.drewN | apply Bw.drew | (refine Bw.step ?_ (by assumption))))
      clear hb1 hb2 hb3 hb4 hb5 hb6 hb7 hm1 hm2 hm3 hm4 hm5 hm6
      have P1 := Lib.hid p1
      have P2 := Lib.hid p2
      have P3 := Lib.hid p3
      have P4 := Lib.hid p4
      have R1 := Lib.hid r1
      have R2 := Lib.hid r2
      have R3 := Lib.hid r3
      have R4 := Lib.hid r4
      have HBW := Lib.hid hbw
      have HSZ := Lib.hid (And.intro hsz1 (And.intro hsz2 (And.intro hsz3 (And.intro hsz4 (And.intro hsz5 (And.intro hsz6 hsz7))))))
      clear p1 p2 p3 p4 r1 r2 r3 r4 hbw hsz1 hsz2 hsz3 hsz4 hsz5 hsz6 hsz7
      go_wp2_with fail
      have hbs := BS.new (w := w7) (B := w.heap.size) rfl (by have := HSZ.out; omega)
      refine (book_syms w.heap.size w7.heap.size _ _ [] [] (some ⟨h, 0, none⟩, m) _ hbs (Fits.old hbs (R1.out.mono (by have := HSZ.out; omega)) (fun q hq => by have := P1.out q hq; have := HSZ.out; omega) (by simp)) (by simp)).mono ?_
      rintro e w8 ⟨rfl, S8, hbs8, hk8, -⟩
      have r2 := R2.out.old (fun q hq => by have := P2.out q hq; have := HSZ.out; omega) hk8
      have r3 := R3.out.old (fun q hq => by have := P3.out q hq; have := HSZ.out; omega) hk8
      have r4 := R4.out.old (fun q hq => by have := P4.out q hq; have := HSZ.out; omega) hk8
      have hbw := HBW.out.trans (hk8.mono (by have := HSZ.out; omega))
      clear R1 R2 R3 R4 HBW hk8 hbs
      have R2 := Lib.hid r2
      have R3 := Lib.hid r3
      have R4 := Lib.hid r4
      have HBW := Lib.hid hbw
      have HBS := Lib.hid hbs8
      clear r2 r3 r4 hbw hbs8
      go_wp2_with fail
      refine (book_syms w.heap.size w7.heap.size _ _ [] _ (A3, m3) _ HBS.out (Fits.old HBS.out (R2.out.mono (by have := HSZ.out; omega)) (fun q hq => by have := P2.out q hq; have := HSZ.out; omega) (by
        intro r' hr'
        simp at hr'
        subst hr'
        exact blk_apart (fun q hq => (P1.out q hq).2) (fun q hq => (P2.out q hq).1))) (by simp)).mono ?_
      rintro e w9 ⟨rfl, S9, hbs9, hk9, -⟩
      have r3 := R3.out.old (fun q hq => by have := P3.out q hq; have := HSZ.out; omega) hk9
      have r4 := R4.out.old (fun q hq => by have := P4.out q hq; have := HSZ.out; omega) hk9
      have hbw := HBW.out.trans (hk9.mono (by have := HSZ.out; omega))
      clear R2 R3 R4 HBW hk9 HBS
      have R3 := Lib.hid r3
      have R4 := Lib.hid r4
      have HBW := Lib.hid hbw
      have HBS := Lib.hid hbs9
      clear r3 r4 hbw hbs9
      go_wp2_with fail
      refine (book_bytes w.heap.size w7.heap.size _ _ [] _ (some ⟨g, 0, none⟩, n) _ HBS.out (Fits.old HBS.out R3.out (fun q hq => by have := P3.out q hq; have := HSZ.out; omega) (by
        intro r' hr'
        simp at hr'
        rcases hr' with rfl | rfl
        · exact fun e => e ▸ blk_apart (fun q hq => (P3.out q hq).2) (fun q hq => (P1.out q hq).1) e.symm
        · exact fun e => e ▸ blk_apart (fun q hq => (P3.out q hq).2) (fun q hq => by have := (P2.out q hq).1; have := HSZ.out; omega) e.symm)) (by simp)).mono ?_
      rintro e w10 ⟨rfl, S10, hbs10, hk10, -⟩
      have r4 := R4.out.old (fun q hq => by have := P4.out q hq; have := HSZ.out; omega) hk10
      have hbw := HBW.out.trans (hk10.mono (by have := HSZ.out; omega))
      clear R3 R4 HBW hk10 HBS
      have R4 := Lib.hid r4
      have HBW := Lib.hid hbw
      have HBS := Lib.hid hbs10
      clear r4 hbw hbs10
      go_wp2_with fail
      refine (book_bytes w.heap.size w7.heap.size _ _ _ _ (A4, m4) _ HBS.out (Fits.old HBS.out (R4.out.mono (by have := HSZ.out; omega)) (fun q hq => by have := P4.out q hq; have := HSZ.out; omega) (by
        intro r' hr'
        simp at hr'
        rcases hr' with rfl | rfl | rfl
        · exact blk_apart (fun q hq => (P3.out q hq).2) (fun q hq => by have := (P4.out q hq).1; have := HSZ.out; omega)
        · exact blk_apart (fun q hq => (P1.out q hq).2) (fun q hq => by have := (P4.out q hq).1; have := HSZ.out; omega)
        · exact blk_apart (fun q hq => (P2.out q hq).2) (fun q hq => (P4.out q hq).1))) (by simp)).mono ?_
      rintro e w11 ⟨rfl, S11, hbs11, hk11, -⟩
      have hbw := HBW.out.trans (hk11.mono (by have := HSZ.out; omega))
      clear R4 HBW hk11 HBS
      have HBW := Lib.hid hbw
      have HBS := Lib.hid hbs11
      clear hbw hbs11
      go_wp2_with fail
      refine (apart_calls w.heap.size w7.heap.size _ _ _ _ _ _ _ HBS.out rfl rfl).mono ?_
      rintro e w12 ⟨rfl, hb12⟩
      have hbw := HBW.out.trans hb12
      clear HBW hb12
      go_wp2_with fail
      refine (lives01 _).mono ?_; rintro e w13 ⟨rfl, hb13⟩
      have hbe := Bw.step hbw hb13
      go_wp2
      go_ret
      exact ⟨rfl, hbe⟩
    · go_enter Try.func7, Try.ntmps7
      go_wp2_with (go_at_call 27; refine (lives01 _).mono ?_; rintro e w1 ⟨rfl, hb1⟩)
      go_ret
      exact ⟨rfl, (by repeat (first | exact Below.refl _ _ | apply Bw.alloc | apply Bw.drewN | apply Bw.drew | (refine Bw.step ?_ (by assumption))))⟩
  · go_enter Try.func7, Try.ntmps7
    go_wp2_with (go_at_call 27; refine (lives01 _).mono ?_; rintro e w1 ⟨rfl, hb1⟩)
    go_ret
    exact ⟨rfl, (by repeat (first | exact Below.refl _ _ | apply Bw.alloc | apply Bw.drewN | apply Bw.drew | (refine Bw.step ?_ (by assumption))))⟩
end Go.Proofs.Ytnmhhjgiakijgaa
