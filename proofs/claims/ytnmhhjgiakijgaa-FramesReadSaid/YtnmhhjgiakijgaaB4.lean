/- BitsNum: what the call returns. -/
import Derived.Test.YtnmhhjgiakijgaaA15
namespace Go.Proofs.Ytnmhhjgiakijgaa
open Go.RowKit
set_option linter.unusedVariables false

theorem RowAt.shorter {w : World} {B : Nat} {e : TypeId} {A : Option Addr} {n m : Nat} (h : RowAt w B e (A, n)) (hm : m ≤ n) : RowAt w B e (A, m) := by
  have h1 := h.1
  simp only at h1
  refine ⟨by simp only; omega, fun hp => ?_⟩
  simp only at hp
  obtain ⟨g, cur, h2, h3, h4, h5⟩ := h.2 (by simp only; omega)
  simp only at h5
  exact ⟨g, cur, h2, h3, h4, by simp only; omega⟩
theorem Rd.twin {w : World} {k : IntKind} {A : Option Addr} {n : Nat} {xs ys : List Int} (h : Rd w k A (n + 2) (xs ++ ys)) (hl : xs.length = n) : Rd w k A n xs := by
  have := h.take n (by omega)
  rwa [List.take_left' hl] at this
/-- a row of before the book -/
theorem Fits.old {w : World} {B k : Nat} {Bv Sv : Value} {bs ss : List Row} {e : TypeId} {r : Row} (h : BS w B k Bv Sv bs ss) (hr : RowAt w B e r) (hlt : ∀ g, r.blk = some g → g < k)
    (hnew : ∀ r' ∈ bs ++ ss, r'.blk = r.blk → r.blk = none) : Fits w B k Bv Sv bs ss e r :=
  ⟨hr, hnew, fun g hg => ⟨by have := hlt g hg; omega, fun e => by have := hlt g hg; have := (h.hb.block e).1; omega, fun e => by have := hlt g hg; have := (h.hs.block e).1; omega⟩⟩
theorem sameL_refl (xs : List Int) : sameL xs xs = true := by unfold sameL; exact decide_eq_true rfl
/-- rows of different times lie apart -/
theorem blk_apart {r r' : Row} {p : Nat} (h1 : ∀ g, r'.blk = some g → g < p) (h2 : ∀ g, r.blk = some g → p ≤ g) : r'.blk = r.blk → r.blk = none := by
  intro e
  cases hb : r.blk with
  | none => rfl
  | some g =>
    have := h2 g hb
    have := h1 g (e.trans hb)
    omega

theorem RowAt.old {w w' : World} {B k : Nat} {e : TypeId} {r : Row} (h : RowAt w B e r) (hlt : ∀ g, r.blk = some g → g < k) (hk : Below k w w') : RowAt w' B e r := h.same fun g hg _ => hk.block g (hlt g hg)

set_option maxHeartbeats 3200000 in
set_option maxRecDepth 20000 in
theorem bitsnum_walk (A : Option Addr) (n c : Nat) (xs : List Int) (N : Nat) (b : Int) (w : World) (hr : Rd w .u8 A n xs) (hc : n ≤ c) (hN : N < 18446744073709551616) :
    Calls Try.prog 3 #[.slice A n c, .int .u64 N, .int .i64 b] w fun e w' => e = .returned (.bool true) ∧ Below w.heap.size w w' := by
  have HR := Lib.hid hr
  have HL := Lib.hid hr.len
  have HN := Lib.hid hN
  clear hr hN
  by_cases h0 : n ≤ 2000
  · have HM := Lib.hid (many_le b)
    have S1 := Lib.hid (sameL_refl (putA xs N b))
    go_enter Try.func3, Try.ntmps3
    go_wp2_with fail
    refine (twinsyms_calls _ _ _ xs _ HR.out hc (by omega)).mono ?_; rintro e w1 ⟨g, c1, rfl, hc1, hm1, hb1⟩
    have HC1 := Lib.hid hc1
    clear hc1
    have HT := Lib.hid (hm1.rd.twin HL.out)
    have hnc1 : n ≤ c1 := by have := HC1.out; omega
    go_wp2_with fail
    refine (num_calls _ _ _ xs _ HT.out hnc1 (by omega)).mono ?_; rintro e w' ⟨rfl, rfl⟩
    go_wp2_with fail
    refine (refnum_calls _ _ _ xs _ (HR.out.below (by repeat (first | exact Below.refl _ _ | apply Bw.alloc | apply Bw.drewN | apply Bw.drew | (refine Bw.step ?_ (by assumption))))) hc (by omega)).mono ?_; rintro e w' ⟨rfl, rfl⟩
    go_wp2_with fail
    refine (put_calls _ _ _ xs N b _ HT.out hnc1 (by omega) HN.out).mono ?_; rintro e w2 ⟨A2, m2, rfl, hl2, hm2, hb2⟩; have HL2 := Lib.hid hl2; clear hl2
    go_wp2_with fail
    refine (put_calls _ _ _ xs N b _ (HT.out.below (by repeat (first | exact Below.refl _ _ | apply Bw.alloc | apply Bw.drewN | apply Bw.drew | (refine Bw.step ?_ (by assumption))))) hnc1 (by omega) HN.out).mono ?_; rintro e w3 ⟨A3, m3, rfl, hl3, hm3, hb3⟩; have HL3 := Lib.hid hl3; clear hl3
    go_wp2_with fail
    refine (refput_calls _ _ _ xs N b _ (HR.out.below (by repeat (first | exact Below.refl _ _ | apply Bw.alloc | apply Bw.drewN | apply Bw.drew | (refine Bw.step ?_ (by assumption))))) hc (by omega) HN.out).mono ?_; rintro e w4 ⟨A4, m4, c4, rfl, hl4, hc4, hm4, hb4⟩; have HL4 := Lib.hid hl4; clear hl4
    go_wp2_with fail
    refine (samesyms_calls _ _ _ _ _ _ (putA xs N b) (putA xs N b) _ (hm2.rd.below (by repeat (first | exact Below.refl _ _ | apply Bw.alloc | apply Bw.drewN | apply Bw.drew | (refine Bw.step ?_ (by assumption))))) hm4.rd (Nat.le_refl _) hc4 (by have := HL2.out; have := HM.out; omega)).mono ?_; rintro e w' ⟨rfl, q1, rfl⟩; rewrite [S1.out]
    go_wp2_with fail
    refine (leftsyms_calls _ _ _ _ _ xs _ (hm1.rd.below (by repeat (first | exact Below.refl _ _ | apply Bw.alloc | apply Bw.drewN | apply Bw.drew | (refine Bw.step ?_ (by assumption))))) (HR.out.below (by repeat (first | exact Below.refl _ _ | apply Bw.alloc | apply Bw.drewN | apply Bw.drew | (refine Bw.step ?_ (by assumption))))) HC1.out hm1.cap_le hc (by omega)).mono ?_; rintro e w5 ⟨rfl, hq5⟩
    have hb5 : Below (w4.drewN q1).heap.size (w4.drewN q1) w5 := by obtain ⟨q, rfl⟩ := hq5; exact Bw.drewN (Below.refl _ _) _
    clear hq5
    have hsz1 := hb1.size
    have hsz2 := hb2.size
    have hsz3 := hb3.size
    have hsz4 := hb4.size
    have hsz5 : w4.heap.size ≤ w5.heap.size := hb5.size
    have p1 : ∀ q, Row.blk (some ⟨g, 0, none⟩, n) = some q → w.heap.size ≤ q ∧ q < w1.heap.size := fun q hq => by
      have h1 := ((RowAt.of_mn hm1 (by omega)).shorter (m := n) (by omega)).blk_ge hq
      exact h1
    have p2 : ∀ q, Row.blk (A2, m2) = some q → w1.heap.size ≤ q ∧ q < w2.heap.size := fun q hq => (RowAt.of_mn hm2 (by have := HL2.out; have := HM.out; omega)).blk_ge hq
    have p3 : ∀ q, Row.blk (A3, m3) = some q → w2.heap.size ≤ q ∧ q < w3.heap.size := fun q hq => (RowAt.of_mn hm3 (by have := HL3.out; have := HM.out; omega)).blk_ge hq
    have r1 : RowAt (w5.alloc (.cells #[.slice none 0 0, .slice none 0 0, .slice none 0 0, .bool false] 34)) w.heap.size 50 (some ⟨g, 0, none⟩, n) := ((RowAt.of_mn hm1 (by omega)).shorter (m := n) (by omega)).below (by repeat (first | exact Below.refl _ _ | apply Bw.alloc | apply Bw.drewN | apply Bw.drew | (refine Bw.step ?_ (by assumption))))
    have r2 : RowAt (w5.alloc (.cells #[.slice none 0 0, .slice none 0 0, .slice none 0 0, .bool false] 34)) w1.heap.size 50 (A2, m2) := (RowAt.of_mn hm2 (by have := HL2.out; have := HM.out; omega)).below (by repeat (first | exact Below.refl _ _ | apply Bw.alloc | apply Bw.drewN | apply Bw.drew | (refine Bw.step ?_ (by assumption))))
    have r3 : RowAt (w5.alloc (.cells #[.slice none 0 0, .slice none 0 0, .slice none 0 0, .bool false] 34)) w2.heap.size 50 (A3, m3) := (RowAt.of_mn hm3 (by have := HL3.out; have := HM.out; omega)).below (by repeat (first | exact Below.refl _ _ | apply Bw.alloc | apply Bw.drewN | apply Bw.drew | (refine Bw.step ?_ (by assumption))))
    have hbw : Below w.heap.size w (w5.alloc (.cells #[.slice none 0 0, .slice none 0 0, .slice none 0 0, .bool false] 34)) := (by repeat (first | exact Below.refl _ _ | apply Bw.alloc | apply Bw.drewN | apply Bw.drew | (refine Bw.step ?_ (by assumption))))
    clear hb1 hb2 hb3 hb4 hb5 hm1 hm2 hm3 hm4
    have P1 := Lib.hid p1
    have P2 := Lib.hid p2
    have P3 := Lib.hid p3
    have R1 := Lib.hid r1
    have R2 := Lib.hid r2
    have R3 := Lib.hid r3
    have HBW := Lib.hid hbw
    have HSZ := Lib.hid (And.intro hsz1 (And.intro hsz2 (And.intro hsz3 (And.intro hsz4 hsz5))))
    clear p1 p2 p3 r1 r2 r3 hbw hsz1 hsz2 hsz3 hsz4 hsz5 HL2 HL3 HL4
    go_wp2_with fail
    have hbs := BS.new (w := w5) (B := w.heap.size) rfl (by have := HSZ.out; omega)
    refine (book_syms w.heap.size w5.heap.size _ _ [] [] (some ⟨g, 0, none⟩, n) _ hbs (Fits.old hbs R1.out (fun q hq => by have := P1.out q hq; have := HSZ.out; omega) (by simp)) (by simp)).mono ?_
    rintro e w6 ⟨rfl, S6, hbs6, hk6, -⟩
    have r2 := R2.out.old (fun q hq => by have := P2.out q hq; have := HSZ.out; omega) hk6
    have r3 := R3.out.old (fun q hq => by have := P3.out q hq; have := HSZ.out; omega) hk6
    have hbw := HBW.out.trans (hk6.mono (by have := HSZ.out; omega))
    clear R1 R2 R3 HBW hk6 hbs
    have R2 := Lib.hid r2
    have R3 := Lib.hid r3
    have HBW := Lib.hid hbw
    have HBS := Lib.hid hbs6
    clear r2 r3 hbw hbs6
    go_wp2_with fail
    refine (book_syms w.heap.size w5.heap.size _ _ [] _ (A2, m2) _ HBS.out (Fits.old HBS.out (R2.out.mono (by have := HSZ.out; omega)) (fun q hq => by have := P2.out q hq; have := HSZ.out; omega) (by
      intro r' hr'
      simp at hr'
      subst hr'
      exact blk_apart (fun q hq => (P1.out q hq).2) (fun q hq => (P2.out q hq).1))) (by simp)).mono ?_
    rintro e w7 ⟨rfl, S7, hbs7, hk7, -⟩
    have r3 := R3.out.old (fun q hq => by have := P3.out q hq; have := HSZ.out; omega) hk7
    have hbw := HBW.out.trans (hk7.mono (by have := HSZ.out; omega))
    clear R2 R3 HBW hk7 HBS
    have R3 := Lib.hid r3
    have HBW := Lib.hid hbw
    have HBS := Lib.hid hbs7
    clear r3 hbw hbs7
    go_wp2_with fail
    refine (book_syms w.heap.size w5.heap.size _ _ [] _ (A3, m3) _ HBS.out (Fits.old HBS.out (R3.out.mono (by have := HSZ.out; omega)) (fun q hq => by have := P3.out q hq; have := HSZ.out; omega) (by
      intro r' hr'
      simp at hr'
      rcases hr' with rfl | rfl
      · exact blk_apart (fun q hq => (P1.out q hq).2) (fun q hq => by have := (P3.out q hq).1; have := HSZ.out; omega)
      · exact blk_apart (fun q hq => (P2.out q hq).2) (fun q hq => (P3.out q hq).1))) (by simp)).mono ?_
    rintro e w8 ⟨rfl, S8, hbs8, hk8, -⟩
    have hbw := HBW.out.trans (hk8.mono (by have := HSZ.out; omega))
    clear R3 HBW hk8 HBS
    have HBW := Lib.hid hbw
    have HBS := Lib.hid hbs8
    clear hbw hbs8
    go_wp2_with fail
    refine (apart_calls w.heap.size w5.heap.size _ _ _ _ [] _ _ HBS.out rfl rfl).mono ?_
    rintro e w9 ⟨rfl, hb9⟩
    have hbw := HBW.out.trans hb9
    clear HBW hb9
    go_wp2_with fail
    refine (lives01 _).mono ?_; rintro e w10 ⟨rfl, hb10⟩
    have hbe := Bw.step hbw hb10
    go_wp2
    go_ret
    exact ⟨rfl, hbe⟩
  · go_enter Try.func3, Try.ntmps3
    go_wp2_with (go_at_call 27; refine (lives01 _).mono ?_; rintro e w1 ⟨rfl, hb1⟩)
    go_ret
    exact ⟨rfl, (by repeat (first | exact Below.refl _ _ | apply Bw.alloc | apply Bw.drewN | apply Bw.drew | (refine Bw.step ?_ (by assumption))))⟩
end Go.Proofs.Ytnmhhjgiakijgaa
