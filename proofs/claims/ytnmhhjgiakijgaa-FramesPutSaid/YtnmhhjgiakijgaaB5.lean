/- BitsTurn: what the call returns. -/
import Derived.Test.YtnmhhjgiakijgaaB4
namespace Go.Proofs.Ytnmhhjgiakijgaa
open Go.RowKit
set_option linter.unusedVariables false

/-- a row made behind the book -/
theorem Fits.fresh {w w' : World} {B k : Nat} {Bv Sv : Value} {bs ss : List Row} {e : TypeId} {r : Row} (h : BS w B k Bv Sv bs ss) (hr : RowAt w' w.heap.size e r) : Fits w' B k Bv Sv bs ss e r := by
  have hlt := h.lt
  have hB := h.hB
  refine ⟨hr.mono (by omega), fun r' hr' => blk_apart (p := w.heap.size) (fun g hg => ?_) (fun g hg => (hr.blk_ge hg).1), fun g hg => ?_⟩
  · rcases List.mem_append.1 hr' with h1 | h1
    · exact ((h.rb r' h1).blk_ge hg).2
    · exact ((h.rs r' h1).blk_ge hg).2
  · have h1 := (hr.blk_ge hg).1
    exact ⟨by omega, fun e => by have := (h.hb.block e).2; omega, fun e => by have := (h.hs.block e).2; omega⟩

set_option maxHeartbeats 3200000 in
set_option maxRecDepth 20000 in
theorem bitsturn_walk (A : Option Addr) (n c : Nat) (xs : List Int) (D : Option Addr) (m d : Nat) (ys : List Int) (w : World) (hr : Rd w .u8 A n xs) (hc : n ≤ c) (hs : Rd w .i64 D m ys) (hd : m ≤ d) :
    Calls Try.prog 4 #[.slice A n c, .slice D m d] w fun e w' => e = .returned (.bool true) ∧ Below w.heap.size w w' := by
  have HR := Lib.hid hr
  have HL := Lib.hid hr.len
  have HS := Lib.hid hs
  have HM := Lib.hid hs.len
  clear hr hs
  by_cases h0 : n ≤ 2000
  · by_cases h1 : m ≤ 100
    · have S1 := Lib.hid (sameL_refl (turnL xs ys))
      go_enter Try.func4, Try.ntmps4
      go_wp2_with fail
      refine (twinsyms_calls _ _ _ xs _ HR.out hc (by omega)).mono ?_; rintro e w1 ⟨g, c1, rfl, hc1, hm1, hb1⟩
      have HC1 := Lib.hid hc1
      clear hc1
      have HT := Lib.hid (hm1.rd.twin HL.out)
      have hnc1 : n ≤ c1 := by have := HC1.out; omega
      go_wp2_with fail
      refine (twinnums_calls _ _ _ ys _ (HS.out.below (by repeat (first | exact Below.refl _ _ | apply Bw.alloc | apply Bw.drewN | apply Bw.drew | (refine Bw.step ?_ (by assumption))))) hd (by omega)).mono ?_; rintro e w2 ⟨h, d1, rfl, hd1, hm2, hb2⟩
      have HD1 := Lib.hid hd1
      clear hd1
      have HU := Lib.hid (hm2.rd.twin HM.out)
      have hmd1 : m ≤ d1 := by have := HD1.out; omega
      go_wp2_with fail
      refine (turn_calls _ _ _ xs _ _ _ ys _ (HT.out.below (by repeat (first | exact Below.refl _ _ | apply Bw.alloc | apply Bw.drewN | apply Bw.drew | (refine Bw.step ?_ (by assumption))))) hnc1 (by omega) HU.out hmd1 (by omega)).mono ?_; rintro e w3 ⟨A3, rfl, hm3, hb3⟩
      go_wp2_with fail
      refine (refturn_calls _ _ _ xs _ _ _ ys _ (HR.out.below (by repeat (first | exact Below.refl _ _ | apply Bw.alloc | apply Bw.drewN | apply Bw.drew | (refine Bw.step ?_ (by assumption))))) hc (by omega) (HS.out.below (by repeat (first | exact Below.refl _ _ | apply Bw.alloc | apply Bw.drewN | apply Bw.drew | (refine Bw.step ?_ (by assumption))))) hd (by omega)).mono ?_; rintro e w4 ⟨A4, c4, rfl, hc4, hm4, hb4⟩
      go_wp2_with fail
      refine (samesyms_calls _ _ _ _ _ _ (turnL xs ys) (turnL xs ys) _ (hm3.rd.below (by repeat (first | exact Below.refl _ _ | apply Bw.alloc | apply Bw.drewN | apply Bw.drew | (refine Bw.step ?_ (by assumption))))) hm4.rd (Nat.le_refl _) hc4 (by omega)).mono ?_; rintro e w' ⟨rfl, q1, rfl⟩; rewrite [S1.out]
      go_wp2_with fail
      refine (leftsyms_calls _ _ _ _ _ xs _ (hm1.rd.below (by repeat (first | exact Below.refl _ _ | apply Bw.alloc | apply Bw.drewN | apply Bw.drew | (refine Bw.step ?_ (by assumption))))) (HR.out.below (by repeat (first | exact Below.refl _ _ | apply Bw.alloc | apply Bw.drewN | apply Bw.drew | (refine Bw.step ?_ (by assumption))))) HC1.out hm1.cap_le hc (by omega)).mono ?_; rintro e w' ⟨rfl, q2, rfl⟩
      go_wp2_with fail
      refine (leftnums_calls _ _ _ _ _ ys _ (hm2.rd.below (by repeat (first | exact Below.refl _ _ | apply Bw.alloc | apply Bw.drewN | apply Bw.drew | (refine Bw.step ?_ (by assumption))))) (HS.out.below (by repeat (first | exact Below.refl _ _ | apply Bw.alloc | apply Bw.drewN | apply Bw.drew | (refine Bw.step ?_ (by assumption))))) HD1.out hm2.cap_le hd (by omega)).mono ?_; rintro e w5 ⟨rfl, hq5⟩
      have hb5 : Below w4.heap.size w4 w5 := by obtain ⟨q, rfl⟩ := hq5; exact (by repeat (first | exact Below.refl _ _ | apply Bw.alloc | apply Bw.drewN | apply Bw.drew | (refine Bw.step ?_ (by assumption))))
      clear hq5
      have hsz1 := hb1.size
      have hsz2 := hb2.size
      have hsz3 := hb3.size
      have hsz4 := hb4.size
      have hsz5 := hb5.size
      have p1 : ∀ q, Row.blk (some ⟨g, 0, none⟩, n) = some q → w.heap.size ≤ q ∧ q < w1.heap.size := fun q hq => by
        have h1 := ((RowAt.of_mn hm1 (by omega)).shorter (m := n) (by omega)).blk_ge hq
        exact h1
      have p2 : ∀ q, Row.blk (A3, n) = some q → w2.heap.size ≤ q ∧ q < w3.heap.size := fun q hq => (RowAt.of_mn hm3 (by omega)).blk_ge hq
      have r1 : RowAt (w5.alloc (.cells #[.slice none 0 0, .slice none 0 0, .slice none 0 0, .bool false] 34)) w.heap.size 50 (some ⟨g, 0, none⟩, n) := ((RowAt.of_mn hm1 (by omega)).shorter (m := n) (by omega)).below (by repeat (first | exact Below.refl _ _ | apply Bw.alloc | apply Bw.drewN | apply Bw.drew | (refine Bw.step ?_ (by assumption))))
      have r2 : RowAt (w5.alloc (.cells #[.slice none 0 0, .slice none 0 0, .slice none 0 0, .bool false] 34)) w2.heap.size 50 (A3, n) := (RowAt.of_mn hm3 (by omega)).below (by repeat (first | exact Below.refl _ _ | apply Bw.alloc | apply Bw.drewN | apply Bw.drew | (refine Bw.step ?_ (by assumption))))
      have hbw : Below w.heap.size w (w5.alloc (.cells #[.slice none 0 0, .slice none 0 0, .slice none 0 0, .bool false] 34)) := (by repeat (first | exact Below.refl _ _ | apply Bw.alloc | apply Bw.drewN | apply Bw.drew | (refine Bw.step ?_ (by assumption))))
      have hbt : Below w1.heap.size w1 (w5.alloc (.cells #[.slice none 0 0, .slice none 0 0, .slice none 0 0, .bool false] 34)) := (by repeat (first | exact Below.refl _ _ | apply Bw.alloc | apply Bw.drewN | apply Bw.drew | (refine Bw.step ?_ (by assumption))))
      clear hb1 hb2 hb3 hb4 hb5 hm1 hm2 hm3 hm4
      have P1 := Lib.hid p1
      have P2 := Lib.hid p2
      have R1 := Lib.hid r1
      have R2 := Lib.hid r2
      have HBW := Lib.hid hbw
      have HBT := Lib.hid hbt
      have HSZ := Lib.hid (And.intro hsz1 (And.intro hsz2 (And.intro hsz3 (And.intro hsz4 hsz5))))
      clear p1 p2 r1 r2 hbw hbt hsz1 hsz2 hsz3 hsz4 hsz5
      go_wp2_with fail
      have hbs := BS.new (w := w5) (B := w.heap.size) rfl (by have := HSZ.out; omega)
      refine (book_syms w.heap.size w5.heap.size _ _ [] [] (some ⟨g, 0, none⟩, n) _ hbs (Fits.old hbs R1.out (fun q hq => by have := P1.out q hq; have := HSZ.out; omega) (by simp)) (by simp)).mono ?_
      rintro e w6 ⟨rfl, S6, hbs6, hk6, -⟩
      have r2 := R2.out.old (fun q hq => by have := P2.out q hq; have := HSZ.out; omega) hk6
      have hbw := HBW.out.trans (hk6.mono (by have := HSZ.out; omega))
      have hbt := HBT.out.trans (hk6.mono (by have := HSZ.out; omega))
      clear R1 R2 HBW HBT hk6 hbs
      have R2 := Lib.hid r2
      have HBW := Lib.hid hbw
      have HBT := Lib.hid hbt
      have HBS := Lib.hid hbs6
      clear r2 hbw hbt hbs6
      go_wp2_with fail
      refine (book_syms w.heap.size w5.heap.size _ _ [] _ (A3, n) _ HBS.out (Fits.old HBS.out (R2.out.mono (by have := HSZ.out; omega)) (fun q hq => by have := P2.out q hq; have := HSZ.out; omega) (by
        intro r' hr'
        simp at hr'
        subst hr'
        exact blk_apart (fun q hq => (P1.out q hq).2) (fun q hq => by have := (P2.out q hq).1; have := HSZ.out; omega))) (by simp)).mono ?_
      rintro e w7 ⟨rfl, S7, hbs7, hk7, -⟩
      have hbw := HBW.out.trans (hk7.mono (by have := HSZ.out; omega))
      have hbt := HBT.out.trans (hk7.mono (by have := HSZ.out; omega))
      clear R2 HBW HBT hk7 HBS
      have HBW := Lib.hid hbw
      have HBT := Lib.hid hbt
      have HBS := Lib.hid hbs7
      clear hbw hbt hbs7
      go_wp2_with fail
      refine (turn_calls _ _ _ xs none 0 0 [] _ (HT.out.below HBT.out) hnc1 (by omega) Rd.nil (by omega) (by omega)).mono ?_; rintro e w8 ⟨A8, rfl, hm8, hb8⟩
      have hr8 := RowAt.of_mn hm8 (by omega)
      have hf8 := Fits.fresh HBS.out hr8
      have hbs8 := HBS.out.below hb8
      have hbw := Bw.step HBW.out hb8
      clear HBW HBT HBS hm8 hb8 hr8
      have HF8 := Lib.hid hf8
      have HBW := Lib.hid hbw
      have HBS := Lib.hid hbs8
      clear hf8 hbw hbs8
      go_wp2_with fail
      refine (book_syms w.heap.size w5.heap.size _ _ [] _ (A8, n) _ HBS.out HF8.out (by simp)).mono ?_
      rintro e w9 ⟨rfl, S9, hbs9, hk9, -⟩
      have hbw := HBW.out.trans (hk9.mono (by have := HSZ.out; omega))
      clear HBW hk9 HBS HF8
      have HBW := Lib.hid hbw
      have HBS := Lib.hid hbs9
      clear hbw hbs9
      go_wp2_with fail
      refine (apart_calls w.heap.size w5.heap.size _ _ _ _ [] _ _ HBS.out rfl rfl).mono ?_
      rintro e w10 ⟨rfl, hb10⟩
      have hbw := HBW.out.trans hb10
      clear HBW hb10
      go_wp2_with fail
      refine (lives01 _).mono ?_; rintro e w11 ⟨rfl, hb11⟩
      have hbe := Bw.step hbw hb11
      go_wp2
      go_ret
      exact ⟨rfl, hbe⟩
    · go_enter Try.func4, Try.ntmps4
      go_wp2_with (go_at_call 27; refine (lives01 _).mono ?_; rintro e w1 ⟨rfl, hb1⟩)
      go_ret
      exact ⟨rfl, (by repeat (first | exact Below.refl _ _ | apply Bw.alloc | apply Bw.drewN | apply Bw.drew | (refine Bw.step ?_ (by assumption))))⟩
  · go_enter Try.func4, Try.ntmps4
    go_wp2_with (go_at_call 27; refine (lives01 _).mono ?_; rintro e w1 ⟨rfl, hb1⟩)
    go_ret
    exact ⟨rfl, (by repeat (first | exact Below.refl _ _ | apply Bw.alloc | apply Bw.drewN | apply Bw.drew | (refine Bw.step ?_ (by assumption))))⟩
end Go.Proofs.Ytnmhhjgiakijgaa
