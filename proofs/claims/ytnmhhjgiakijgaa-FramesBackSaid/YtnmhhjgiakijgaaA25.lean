/- The reference's bytes of a frame: their contract. -/
import Derived.Test.YtnmhhjgiakijgaaA24
namespace Go.Proofs.Ytnmhhjgiakijgaa
open Go.RowKit
set_option linter.unusedVariables false

/-- the first two bytes of a frame -/
def frH (o : Int) (k s : Nat) : List Int := [16 * (k : Int) + o, (s : Int)]
/-- the ten bytes ahead of the sum -/
def frB (o : Int) (k s q v : Nat) : List Int := frH o k s ++ beTo q 0 ++ beTo v 0
theorem beTo_ok (s j : Nat) : bytesOk (beTo s j) := by
  have h : ∀ k, 0 ≤ byAt s k ∧ byAt s k ≤ 255 := fun k => by unfold byAt; omega
  intro x hx
  match j, hx with
  | 0, hx => simp only [beTo, List.mem_cons, List.not_mem_nil, or_false] at hx; rcases hx with rfl | rfl | rfl | rfl <;> exact h _
  | 1, hx => simp only [beTo, List.mem_cons, List.not_mem_nil, or_false] at hx; rcases hx with rfl | rfl | rfl <;> exact h _
  | 2, hx => simp only [beTo, List.mem_cons, List.not_mem_nil, or_false] at hx; rcases hx with rfl | rfl <;> exact h _
  | 3, hx => simp only [beTo, List.mem_cons, List.not_mem_nil, or_false] at hx; rcases hx with rfl; exact h _
  | _ + 4, hx => cases hx
theorem bytesOk_append {a b : List Int} (ha : bytesOk a) (hb : bytesOk b) : bytesOk (a ++ b) := fun x hx => (List.mem_append.1 hx).elim (ha x) (hb x)
theorem frB_ok (o : Int) (k s q v : Nat) (hm : mayB o k = true) (hs : s ≤ 255) : bytesOk (frB o k s q v) := by
  obtain ⟨h1, h2, h3⟩ := mayB_true hm
  refine bytesOk_append (bytesOk_append ?_ (beTo_ok _ _)) (beTo_ok _ _)
  intro x hx
  simp only [frH, List.mem_cons, List.not_mem_nil, or_false] at hx
  rcases hx with rfl | rfl
  · rcases h3 with rfl | rfl <;> omega
  · omega
theorem frB_length (o : Int) (k s q v : Nat) : (frB o k s q v).length = 10 := rfl
/-- the bytes of a frame, or none -/
def frP (o : Int) (k s q v : Nat) : List Int := if mayB o k = true then putS (frB o k s q v) else []
/-- the number of the error: none, or of an argument -/
def errP (o : Int) (k : Nat) : Int := if mayB o k = true then 0 else 1

/-- what 'Put' answers, in the reference -/
def RefPutPost (o : Int) (k s q v : Nat) (w : World) (e : Ending) (w' : World) : Prop :=
  ∃ A c, e = .returned (.tuple #[.slice A (frP o k s q v).length c, .int .i64 (errP o k)]) ∧ (frP o k s q v).length ≤ c ∧ Mn w' w.heap.size 5 1 (.slice A (frP o k s q v).length c) (frP o k s q v).length (nums .u8 (frP o k s q v)) ∧ Below w.heap.size w w'

set_option maxHeartbeats 3200000 in
set_option maxRecDepth 20000 in
theorem refput5_calls (o : Int) (k s q v : Nat) (w : World) (hs : s ≤ 255) (hq : q < 4294967296) (hv : v < 4294967296) :
    Calls Try.prog 59 #[.agg #[.int .i64 o, .int .u8 k, .int .u8 s, .int .u32 q, .int .u32 v]] w (RefPutPost o k s q v w) := by
  cases hm : mayB o k with
  | false =>
    have HM := Lib.hid hm
    have HE := Lib.hid (show frP o k s q v = [] ∧ errP o k = 1 by simp [frP, errP, hm])
    clear hm
    go_enter Try.func59, Try.ntmps59
    go_wp2_with fail
    refine (refmay_calls o k s q v _).mono ?_; rintro e w1 ⟨rfl, hb1⟩
    rewrite [HM.out]
    go_wp2
    go_ret2
    refine ⟨none, 0, ?_, ?_, ?_, (by repeat (first | exact Below.refl _ _ | apply Bw.alloc | apply Bw.drewN | apply Bw.drew | (refine Bw.step ?_ (by assumption))))⟩ <;> rw [HE.out.1] <;> first | exact Nat.le_refl _ | exact Mn.nil _ _ _ _ | (rw [HE.out.2]; rfl)
  | true =>
    have HM := Lib.hid hm
    have HE := Lib.hid (show frP o k s q v = putS (frB o k s q v) ∧ errP o k = 0 by simp [frP, errP, hm])
    have HOK := Lib.hid (frB_ok o k s q v hm hs)
    obtain ⟨h1, h2, h3⟩ := mayB_true hm
    obtain ⟨a, ha⟩ : ∃ a : Int, a = 16 * (k : Int) + o := ⟨_, rfl⟩
    have HA := Lib.hid ha
    have ha1 : 0 ≤ a ∧ a ≤ 39 := by rcases h3 with rfl | rfl <;> omega
    have hk2 : k ≤ 2 := by omega
    have HA1 := Lib.hid ha1
    clear hm h3 ha ha1
    go_enter Try.func59, Try.ntmps59
    go_wp2_with fail
    refine (refmay_calls o k s q v _).mono ?_; rintro e W ⟨rfl, hbW⟩
    rewrite [HM.out]
    have hKq : W.cell? ⟨w.heap.size, 3, none⟩ = some (.int .u32 q) := by rw [hbW.cell (p := ⟨w.heap.size, 3, none⟩) (by simp)]; simp [go_sem]
    have hKv : W.cell? ⟨w.heap.size, 4, none⟩ = some (.int .u32 v) := by rw [hbW.cell (p := ⟨w.heap.size, 4, none⟩) (by simp)]; simp [go_sem]
    have hKk : W.cell? ⟨w.heap.size, 1, none⟩ = some (.int .u8 k) := by rw [hbW.cell (p := ⟨w.heap.size, 1, none⟩) (by simp)]; simp [go_sem]
    have hKo : W.cell? ⟨w.heap.size, 0, none⟩ = some (.int .i64 o) := by rw [hbW.cell (p := ⟨w.heap.size, 0, none⟩) (by simp)]; simp [go_sem]
    have hKs : W.cell? ⟨w.heap.size, 2, none⟩ = some (.int .u8 s) := by rw [hbW.cell (p := ⟨w.heap.size, 2, none⟩) (by simp)]; simp [go_sem]
    have hlt : w.heap.size < W.heap.size := by have := hbW.size; simp at this; omega
    have HK : Hid (∀ w', Below W.heap.size W w' → w'.cell? ⟨w.heap.size, 3, none⟩ = some (.int .u32 q) ∧ w'.cell? ⟨w.heap.size, 4, none⟩ = some (.int .u32 v)) := fun w' h => ⟨(h.cell (p := ⟨w.heap.size, 3, none⟩) hlt).trans hKq, (h.cell (p := ⟨w.heap.size, 4, none⟩) hlt).trans hKv⟩
    have HBW : Hid (Below w.heap.size w W) := (by repeat (first | exact Below.refl _ _ | apply Bw.alloc | apply Bw.drewN | apply Bw.drew | (refine Bw.step ?_ (by assumption))))
    clear hKq hKv hbW
    go_wp2
    have hm0 : Mn (W.alloc (.cells #[.int .u8 (16 * (k : Int) + o), .int .u8 s] 5)) W.heap.size 5 1 (.slice (some ⟨W.heap.size, 0, none⟩) 2 2) 2 (nums .u8 (frH o k s ++ beTo q 4)) := rd2_mn (w := W) (Nat.le_refl _) rfl
    have hb0 : Below W.heap.size W (W.alloc (.cells #[.int .u8 (16 * (k : Int) + o), .int .u8 s] 5)) := (by repeat (first | exact Below.refl _ _ | apply Bw.alloc | apply Bw.drewN | apply Bw.drew | (refine Bw.step ?_ (by assumption))))
    clear hKk hKo hKs hlt
    go_loopw [4, 5] (fun lu lv w' => ∃ (j l : Nat) (A' : Option Addr) (c' : Nat), j ≤ 4 ∧ lv = .int .i64 ((j : Int) - 1) ∧ lu = .slice A' l c' ∧ l ≤ c' ∧ l ≤ 6000 ∧ Hid (l + j = 2 + 4) ∧ Mn w' W.heap.size 5 1 (.slice A' l c') l (nums .u8 (frH o k s ++ beTo q j)) ∧ Below W.heap.size W w') (fun _ lv _ => (intOf lv + 1).toNat)
    case atStart => exact ⟨4, 2, _, 2, Nat.le_refl _, rfl, rfl, Nat.le_refl _, by omega, Lib.hid rfl, hm0, hb0⟩
    case round =>
      clear hm0 hb0
      obtain ⟨j, l, A1, c1, hj, rfl, rfl, hlc, hl6, HL, hm1, hb1⟩ := hrel
      by_cases hj0 : j = 0
      · subst hj0
        have hl : l = 6 := HL.out
        subst hl
        go_wp2
        go_loopw [4, 6] (fun lu lv w' => ∃ (j l : Nat) (A' : Option Addr) (c' : Nat), j ≤ 4 ∧ lv = .int .i64 ((j : Int) - 1) ∧ lu = .slice A' l c' ∧ l ≤ c' ∧ l ≤ 6000 ∧ Hid (l + j = 6 + 4) ∧ Mn w' W.heap.size 5 1 (.slice A' l c') l (nums .u8 ((frH o k s ++ beTo q 0) ++ beTo v j)) ∧ Below W.heap.size W w') (fun _ lv _ => (intOf lv + 1).toNat)
        case atStart => exact ⟨4, 6, A1, c1, Nat.le_refl _, rfl, rfl, hlc, by omega, Lib.hid rfl, by rw [show beTo v 4 = [] from rfl, List.append_nil]; exact hm1, hb1⟩
        case round =>
          clear hm1 hb1 hlc hl6 HL hj
          obtain ⟨j, l, A1, c1, hj, rfl, rfl, hlc, hl6, HL, hm1, hb1⟩ := hrel
          by_cases hj0 : j = 0
          · subst hj0
            have hl : l = 10 := HL.out
            subst hl
            go_wp2_with fail
            refine (refput2_calls A1 10 c1 (frB o k s q v) _ hm1.rd hlc (by omega) HOK.out).mono ?_; rintro e w5 ⟨A5, c5, rfl, hc5, hm5, hb5⟩
            go_wp2
            go_ret2
            refine ⟨A5, c5, ?_, ?_, ?_, (by repeat (first | exact Below.refl _ _ | apply Bw.alloc | apply Bw.drewN | apply Bw.drew | (refine Bw.step ?_ (by assumption))))⟩
            · rw [HE.out.1, HE.out.2, putS_length, frB_length]; rfl
            · rw [HE.out.1, putS_length, frB_length]; exact hc5
            · rw [HE.out.1, putS_length, frB_length]; exact hm5.mono (by have := HBW.out.size; have := hb1.size; omega)
          · obtain ⟨k, rfl⟩ : ∃ k, j = k + 1 := ⟨j - 1, by omega⟩
            have eL : (((k + 1 : Nat) : Int) - 1) = (k : Int) := by omega
            rw [eL]
            clear eL hj0
            have HST := Lib.hid (beTo_step v k (by omega))
            have hcv := (HK.out _ hb1).2
            have hk : k = 0 ∨ k = 1 ∨ k = 2 ∨ k = 3 := by omega
            rcases hk with rfl | rfl | rfl | rfl
            · have HZ := Lib.hid (show byAt v 0 = (v : Int) % 256 by simp only [byAt]; omega)
              go_wp2_with (at_builtin; refine wpList_append_mn _ rfl _ _ _ rfl W.heap.size 5 _ 1 1 Try.underlying43 info5 rfl (by omega) (.slice A1 l c1) l (nums .u8 ((frH o k s ++ beTo q 0) ++ beTo v (0 + 1))) rfl (hm1.alloc _) _ 1 1 (nums .u8 [(v : Int) % 256]) rfl rv_one (nums_one _ _) (by omega) (by omega) (by simp; have := hb1.size; omega) ?_; intro A3 c3 w3 hc3 hm3 hg3 hat3; have hb3 : Below W.heap.size W w3 := (hb1.alloc hb1.size _).grown hg3 (by simp; have := hb1.size; omega) (fun q hq => (hm1.block hq).1); clear hg3 hat3 hm1 hb1)
              go_roundw
              case rel => exact ⟨0, l + 1, A3, c3, by omega, by first | rfl | (congr 1; omega), rfl, hc3, by have := HL.out; omega, Lib.hid (by have := HL.out; omega), by rw [HST.out, HZ.out, ← List.append_assoc, nums_append]; exact hm3, hb3⟩
              case measure => simp [intOf]; try omega
            · have HZ := Lib.hid (show byAt v 1 = (v : Int) / 256 % 256 by simp only [byAt]; omega)
              go_wp2_with (at_builtin; refine wpList_append_mn _ rfl _ _ _ rfl W.heap.size 5 _ 1 1 Try.underlying43 info5 rfl (by omega) (.slice A1 l c1) l (nums .u8 ((frH o k s ++ beTo q 0) ++ beTo v (1 + 1))) rfl (hm1.alloc _) _ 1 1 (nums .u8 [(v : Int) / 256 % 256]) rfl rv_one (nums_one _ _) (by omega) (by omega) (by simp; have := hb1.size; omega) ?_; intro A3 c3 w3 hc3 hm3 hg3 hat3; have hb3 : Below W.heap.size W w3 := (hb1.alloc hb1.size _).grown hg3 (by simp; have := hb1.size; omega) (fun q hq => (hm1.block hq).1); clear hg3 hat3 hm1 hb1)
              go_roundw
              case rel => exact ⟨1, l + 1, A3, c3, by omega, by first | rfl | (congr 1; omega), rfl, hc3, by have := HL.out; omega, Lib.hid (by have := HL.out; omega), by rw [HST.out, HZ.out, ← List.append_assoc, nums_append]; exact hm3, hb3⟩
              case measure => simp [intOf]; try omega
            · have HZ := Lib.hid (show byAt v 2 = (v : Int) / 65536 % 256 by simp only [byAt]; omega)
              go_wp2_with (at_builtin; refine wpList_append_mn _ rfl _ _ _ rfl W.heap.size 5 _ 1 1 Try.underlying43 info5 rfl (by omega) (.slice A1 l c1) l (nums .u8 ((frH o k s ++ beTo q 0) ++ beTo v (2 + 1))) rfl (hm1.alloc _) _ 1 1 (nums .u8 [(v : Int) / 65536 % 256]) rfl rv_one (nums_one _ _) (by omega) (by omega) (by simp; have := hb1.size; omega) ?_; intro A3 c3 w3 hc3 hm3 hg3 hat3; have hb3 : Below W.heap.size W w3 := (hb1.alloc hb1.size _).grown hg3 (by simp; have := hb1.size; omega) (fun q hq => (hm1.block hq).1); clear hg3 hat3 hm1 hb1)
              go_roundw
              case rel => exact ⟨2, l + 1, A3, c3, by omega, by first | rfl | (congr 1; omega), rfl, hc3, by have := HL.out; omega, Lib.hid (by have := HL.out; omega), by rw [HST.out, HZ.out, ← List.append_assoc, nums_append]; exact hm3, hb3⟩
              case measure => simp [intOf]; try omega
            · have HZ := Lib.hid (show byAt v 3 = (v : Int) / 16777216 by simp only [byAt]; omega)
              go_wp2_with (at_builtin; refine wpList_append_mn _ rfl _ _ _ rfl W.heap.size 5 _ 1 1 Try.underlying43 info5 rfl (by omega) (.slice A1 l c1) l (nums .u8 ((frH o k s ++ beTo q 0) ++ beTo v (3 + 1))) rfl (hm1.alloc _) _ 1 1 (nums .u8 [(v : Int) / 16777216]) rfl rv_one (nums_one _ _) (by omega) (by omega) (by simp; have := hb1.size; omega) ?_; intro A3 c3 w3 hc3 hm3 hg3 hat3; have hb3 : Below W.heap.size W w3 := (hb1.alloc hb1.size _).grown hg3 (by simp; have := hb1.size; omega) (fun q hq => (hm1.block hq).1); clear hg3 hat3 hm1 hb1)
              go_roundw
              case rel => exact ⟨3, l + 1, A3, c3, by omega, by first | rfl | (congr 1; omega), rfl, hc3, by have := HL.out; omega, Lib.hid (by have := HL.out; omega), by rw [HST.out, HZ.out, ← List.append_assoc, nums_append]; exact hm3, hb3⟩
              case measure => simp [intOf]; try omega
      · obtain ⟨k, rfl⟩ : ∃ k, j = k + 1 := ⟨j - 1, by omega⟩
        have eL : (((k + 1 : Nat) : Int) - 1) = (k : Int) := by omega
        rw [eL]
        clear eL hj0
        have HST := Lib.hid (beTo_step q k (by omega))
        have hcq := (HK.out _ hb1).1
        have hk : k = 0 ∨ k = 1 ∨ k = 2 ∨ k = 3 := by omega
        rcases hk with rfl | rfl | rfl | rfl
        · have HZ := Lib.hid (show byAt q 0 = (q : Int) % 256 by simp only [byAt]; omega)
          go_wp2_with (at_builtin; refine wpList_append_mn _ rfl _ _ _ rfl W.heap.size 5 _ 1 1 Try.underlying43 info5 rfl (by omega) (.slice A1 l c1) l (nums .u8 (frH o k s ++ beTo q (0 + 1))) rfl (hm1.alloc _) _ 1 1 (nums .u8 [(q : Int) % 256]) rfl rv_one (nums_one _ _) (by omega) (by omega) (by simp; have := hb1.size; omega) ?_; intro A3 c3 w3 hc3 hm3 hg3 hat3; have hb3 : Below W.heap.size W w3 := (hb1.alloc hb1.size _).grown hg3 (by simp; have := hb1.size; omega) (fun q hq => (hm1.block hq).1); clear hg3 hat3 hm1 hb1)
          go_roundw
          case rel => exact ⟨0, l + 1, A3, c3, by omega, by first | rfl | (congr 1; omega), rfl, hc3, by have := HL.out; omega, Lib.hid (by have := HL.out; omega), by rw [HST.out, HZ.out, ← List.append_assoc, nums_append]; exact hm3, hb3⟩
          case measure => simp [intOf]; try omega
        · have HZ := Lib.hid (show byAt q 1 = (q : Int) / 256 % 256 by simp only [byAt]; omega)
          go_wp2_with (at_builtin; refine wpList_append_mn _ rfl _ _ _ rfl W.heap.size 5 _ 1 1 Try.underlying43 info5 rfl (by omega) (.slice A1 l c1) l (nums .u8 (frH o k s ++ beTo q (1 + 1))) rfl (hm1.alloc _) _ 1 1 (nums .u8 [(q : Int) / 256 % 256]) rfl rv_one (nums_one _ _) (by omega) (by omega) (by simp; have := hb1.size; omega) ?_; intro A3 c3 w3 hc3 hm3 hg3 hat3; have hb3 : Below W.heap.size W w3 := (hb1.alloc hb1.size _).grown hg3 (by simp; have := hb1.size; omega) (fun q hq => (hm1.block hq).1); clear hg3 hat3 hm1 hb1)
          go_roundw
          case rel => exact ⟨1, l + 1, A3, c3, by omega, by first | rfl | (congr 1; omega), rfl, hc3, by have := HL.out; omega, Lib.hid (by have := HL.out; omega), by rw [HST.out, HZ.out, ← List.append_assoc, nums_append]; exact hm3, hb3⟩
          case measure => simp [intOf]; try omega
        · have HZ := Lib.hid (show byAt q 2 = (q : Int) / 65536 % 256 by simp only [byAt]; omega)
          go_wp2_with (at_builtin; refine wpList_append_mn _ rfl _ _ _ rfl W.heap.size 5 _ 1 1 Try.underlying43 info5 rfl (by omega) (.slice A1 l c1) l (nums .u8 (frH o k s ++ beTo q (2 + 1))) rfl (hm1.alloc _) _ 1 1 (nums .u8 [(q : Int) / 65536 % 256]) rfl rv_one (nums_one _ _) (by omega) (by omega) (by simp; have := hb1.size; omega) ?_; intro A3 c3 w3 hc3 hm3 hg3 hat3; have hb3 : Below W.heap.size W w3 := (hb1.alloc hb1.size _).grown hg3 (by simp; have := hb1.size; omega) (fun q hq => (hm1.block hq).1); clear hg3 hat3 hm1 hb1)
          go_roundw
          case rel => exact ⟨2, l + 1, A3, c3, by omega, by first | rfl | (congr 1; omega), rfl, hc3, by have := HL.out; omega, Lib.hid (by have := HL.out; omega), by rw [HST.out, HZ.out, ← List.append_assoc, nums_append]; exact hm3, hb3⟩
          case measure => simp [intOf]; try omega
        · have HZ := Lib.hid (show byAt q 3 = (q : Int) / 16777216 by simp only [byAt]; omega)
          go_wp2_with (at_builtin; refine wpList_append_mn _ rfl _ _ _ rfl W.heap.size 5 _ 1 1 Try.underlying43 info5 rfl (by omega) (.slice A1 l c1) l (nums .u8 (frH o k s ++ beTo q (3 + 1))) rfl (hm1.alloc _) _ 1 1 (nums .u8 [(q : Int) / 16777216]) rfl rv_one (nums_one _ _) (by omega) (by omega) (by simp; have := hb1.size; omega) ?_; intro A3 c3 w3 hc3 hm3 hg3 hat3; have hb3 : Below W.heap.size W w3 := (hb1.alloc hb1.size _).grown hg3 (by simp; have := hb1.size; omega) (fun q hq => (hm1.block hq).1); clear hg3 hat3 hm1 hb1)
          go_roundw
          case rel => exact ⟨3, l + 1, A3, c3, by omega, by first | rfl | (congr 1; omega), rfl, hc3, by have := HL.out; omega, Lib.hid (by have := HL.out; omega), by rw [HST.out, HZ.out, ← List.append_assoc, nums_append]; exact hm3, hb3⟩
          case measure => simp [intOf]; try omega
end Go.Proofs.Ytnmhhjgiakijgaa
