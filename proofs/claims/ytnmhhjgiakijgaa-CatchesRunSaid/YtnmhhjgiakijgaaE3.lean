/- Catches, the document's: the frame of a body. -/
import Derived.Test.YtnmhhjgiakijgaaE2
namespace Go.Proofs.Ytnmhhjgiakijgaa
open Go.RowKit
set_option linter.unusedVariables false
set_option linter.unusedSimpArgs false

theorem f5_nil' : f5 [] = #[.int .i64 0, .int .u8 0, .int .u8 0, .int .u32 0, .int .u32 0] := rfl
theorem isB_ok {o : Int} {l : List Int} (h : byOk l = false) : isB o l = false := by
  unfold isB
  have : byV l = [] := by unfold byV; rw [if_neg (by rw [h]; simp)]
  rw [this]
  rfl
theorem bdL_len56 (x y : Nat → Nat) (m : Nat) (h : m ≤ 112) : (bdL x y m).length = m ∧ m ≤ 56000 := ⟨bdL_length x y m, by omega⟩

set_option maxHeartbeats 6400000 in
set_option maxRecDepth 20000 in
theorem rframe_calls {w : World} {g : Nat} {o : Int} {A1 A2 : Option Addr} {c1 c2 n : Nat} {x y : Nat → Nat} (h : RC w g o A1 A2 c1 c2 n x y) (m : Nat) (hm : min 112 n = m) :
    Calls Try.prog 139 #[.pointer (some ⟨g, 0, none⟩)] w fun e w' => e = .returned (.tuple #[.agg (f5 (byV (bdL x y m))), .bool (isB o (bdL x y m))]) ∧ Below w.heap.size w w' := by
  have HC := Lib.hid h
  have hn := h.hn
  have hmn : m ≤ n := by omega
  have hm112 : m ≤ 112 := by omega
  have HMM := Lib.hid hm
  have hW : Below w.heap.size w (w.alloc (.cells #[.int .i64 0, .int .u8 0, .int .u8 0, .int .u32 0, .int .u32 0] 85)) := (by repeat (first | exact Below.refl _ _ | apply Bw.alloc | apply Bw.drewN | apply Bw.drew | (refine Bw.step ?_ (by assumption))))
  have HW := Lib.hid hW
  have HB1 := Lib.hid (show Blk (w.alloc (.cells #[.int .i64 0, .int .u8 0, .int .u8 0, .int .u32 0, .int .u32 0] 85)) w.heap.size #[.int .i64 0, .int .u8 0, .int .u8 0, .int .u32 0, .int .u32 0] 85 from Blk.new rfl)
  have HCW := Lib.hid (h.below hW)
  obtain ⟨l, hl⟩ : ∃ l, bdL x y m = l := ⟨_, rfl⟩
  have HLm := Lib.hid hl
  have HLL := Lib.hid (show l.length = m by rw [← hl, bdL_length])
  obtain ⟨ob, hob⟩ : ∃ ob, byOk l = ob := ⟨_, rfl⟩
  obtain ⟨L, hL⟩ : ∃ L, byV l = L := ⟨_, rfl⟩
  have HLB := Lib.hid (show ∀ z ∈ L, 0 ≤ z ∧ z ≤ 255 from hL ▸ byV_bytes l)
  have HBY : Hid (∀ A' c' w', m ≤ c' → Rd w' .u8 A' m l → Calls Try.prog 45 #[.slice A' m c'] w' fun e w'' => ∃ B m d, e = .returned (.tuple #[.slice B m d, .bool ob]) ∧ m = L.length ∧ m ≤ d ∧ Mn w'' w'.heap.size 5 1 (.slice B m d) m (nums .u8 L) ∧ Below w'.heap.size w' w'') := fun A' c' w' hkc hr => by
    have := refbytes_calls A' m c' l w' hr hkc (by omega)
    unfold RefBytesPost at this
    rw [hob, hL] at this
    exact this
  obtain ⟨O, hO⟩ : ∃ O, fO L = O := ⟨_, rfl⟩
  obtain ⟨K, hK⟩ : ∃ K, fK L = K := ⟨_, rfl⟩
  obtain ⟨S, hS⟩ : ∃ S, fS L = S := ⟨_, rfl⟩
  obtain ⟨Q, hQ⟩ : ∃ Q, fQ L = Q := ⟨_, rfl⟩
  obtain ⟨V, hV⟩ : ∃ V, fV L = V := ⟨_, rfl⟩
  obtain ⟨E, hE⟩ : ∃ E, errG L = E := ⟨_, rfl⟩
  have HG : Hid (∀ (B : Option Addr) (m d : Nat) (w : World), Rd w .u8 B m L → m ≤ d → d ≤ maxLen → Calls Try.prog 68 #[.slice B m d] w fun e w' => e = .returned (.tuple #[.agg #[.int .i64 O, .int .u8 K, .int .u8 S, .int .u32 Q, .int .u32 V], .int .i64 E]) ∧ Below w.heap.size w w') := fun B m d w h1 h2 h3 => by
    have h := refget_calls B m d L w h1 h2 h3 HLB.out
    unfold GetPost at h
    rw [hO, hK, hS, hQ, hV, hE] at h
    exact h
  obtain ⟨iv, hiv⟩ : ∃ iv, isB o l = iv := ⟨_, rfl⟩
  have HFIV := Lib.hid hiv
  rw [hl, hL, hiv]
  have hcase : (ob = false ∧ iv = false) ∨ (ob = true ∧ ((E : Int) == 0) = false ∧ iv = false) ∨ (ob = true ∧ ((E : Int) == 0) = true ∧ ((O : Int) == o) = false ∧ iv = false) ∨ (ob = true ∧ ((E : Int) == 0) = true ∧ ((O : Int) == o) = true ∧ iv = true) := by
    cases hbo : ob with
    | false => left; exact ⟨rfl, by rw [← hiv]; exact isB_ok (hob.trans hbo)⟩
    | true =>
      right
      have h1 : iv = (decide (E = 0) && decide ((O : Int) = o)) := by rw [← hiv]; unfold isB; rw [hL, hE, hO]
      by_cases h2 : E = 0
      · right
        by_cases h3 : (O : Int) = o
        · right; exact ⟨rfl, by simp [h2], by simp [h3], by rw [h1, decide_eq_true h2, decide_eq_true h3]; rfl⟩
        · left; exact ⟨rfl, by simp [h2], by simp; exact h3, by rw [h1, decide_eq_false h3]; simp⟩
      · left; exact ⟨rfl, by simp; exact h2, by rw [h1, decide_eq_false h2]; rfl⟩
  have HF5 := Lib.hid (show f5 L = #[.int .i64 O, .int .u8 K, .int .u8 S, .int .u32 Q, .int .u32 V] by unfold f5; rw [hO, hK, hS, hQ, hV])
  rw [HF5.out]
  clear hob hL hO hK hS hQ hV hE hiv HFIV hl h hm hW
  go_enter Try.func139, Try.ntmps139
  go_wp2_with fail
  generalize (w.alloc (.cells #[.int .i64 0, .int .u8 0, .int .u8 0, .int .u32 0, .int .u32 0] 85)) = W at *
  go_loopw [4, 5] (fun v i wr => ∃ (k c' : Nat) (A' : Option Addr), k ≤ m ∧ i = .int .i64 k ∧ v = .slice A' k c' ∧ k ≤ c' ∧ Mn wr W.heap.size 50 1 (.slice A' k c') k (nums .u8 (bdL x y k)) ∧ Below W.heap.size W wr)
    (fun _ i _ => m - (intOf i).toNat)
  case atStart => exact ⟨0, 0, none, Nat.zero_le _, rfl, rfl, Nat.le_refl _, Mn.nil _ _ _ _, Below.refl _ _⟩
  case round =>
    obtain ⟨k, c', A', hk, rfl, rfl, hkc, hm1, hb⟩ := hrel
    have d1 := (HCW.out.below hb).blk.cell 1 (.slice A1 n c1) rfl
    by_cases hlt : k < m
    · have hk112 : k < 112 := by omega
      have hkn : k < n := by omega
      have HBD := Lib.hid (body_calls (HCW.out.below hb) k hkn)
      have HMn := Lib.hid hm1
      have HBL := Lib.hid hb
      clear hm1 hb
      go_wp2_with fail
      refine HBD.out.mono ?_; rintro e w' ⟨rfl, rfl⟩
      go_wp2_with (at_builtin; refine wpList_append_mn _ rfl _ _ _ rfl W.heap.size 50 _ 1 1 Try.underlying22 info50 rfl (by omega) (.slice A' k c') k (nums .u8 (bdL x y k)) rfl (HMn.out.alloc _) _ 1 1 (nums .u8 [(bdF x y k : Int)]) rfl rv_one (nums_one _ _) (by omega) (by omega) (by simp; have := HBL.out.size; omega) ?_; intro A2x c2x w2 hc2 hm2 hg2 hat2)
      go_roundw
      case rel => exact ⟨k + 1, c2x, A2x, by omega, by go_num, rfl, hc2, by rw [bdL_succ, nums_append]; exact hm2, (HBL.out.alloc HBL.out.size _).grown hg2 (by simp; have := HBL.out.size; omega) (fun k hk => (HMn.out.block hk).1)⟩
      case measure => simp [intOf]; omega
    · have e : k = m := by omega
      subst e
      have hex : ¬ (k < 112) ∨ (k < 112 ∧ ¬ (k < n)) := by have := HMM.out; omega
      have HBL := Lib.hid hb
      have HMn := Lib.hid (show Mn wr W.heap.size 50 1 (.slice A' k c') k (nums .u8 l) by rw [← HLm.out]; exact hm1)
      have HBY' := Lib.hid (fun w' hr => HBY.out A' c' w' hkc hr)
      clear hm1 hb
      have HD1 := Lib.hid d1
      clear d1
      rcases hex with hex | ⟨hex1, hex2⟩
      all_goals
        have d1 := HD1.out
        go_wp2_with fail
        refine (HBY'.out _ HMn.out.rd).mono ?_; rintro e w4 ⟨A4, m4, c4, rfl, hl4, hc4, hm4, hb4⟩
        have HM4 := Lib.hid hm4
        have HC4 := Lib.hid hc4
        have HBW4 := Lib.hid (show Below W.heap.size W w4 from (by repeat (first | exact Below.refl _ _ | apply Bw.alloc | apply Bw.drewN | apply Bw.drew | (refine Bw.step ?_ (by assumption)))))
        clear hl4 hb4 hm4 hc4 d1
        go_wp2_with fail
        refine (HG.out _ _ _ _ HM4.out.rd HC4.out HM4.out.cap_le).mono ?_; rintro e w6 ⟨rfl, hb6⟩
        have HBX := Lib.hid (show Below W.heap.size W (w6.alloc (.cells #[.int .i64 O, .int .u8 K, .int .u8 S, .int .u32 Q, .int .u32 V] 85)) from Bw.alloc (Bw.step HBW4.out hb6) _)
        have D1 : Blk (w6.alloc (.cells #[.int .i64 O, .int .u8 K, .int .u8 S, .int .u32 Q, .int .u32 V] 85)) w.heap.size #[.int .i64 0, .int .u8 0, .int .u8 0, .int .u32 0, .int .u32 0] 85 := HB1.out.below HBX.out
        have D4 : Blk (w6.alloc (.cells #[.int .i64 O, .int .u8 K, .int .u8 S, .int .u32 Q, .int .u32 V] 85)) w6.heap.size #[.int .i64 O, .int .u8 K, .int .u8 S, .int .u32 Q, .int .u32 V] 85 := Blk.new (w := w6) rfl
        have DG : Blk (w6.alloc (.cells #[.int .i64 O, .int .u8 K, .int .u8 S, .int .u32 Q, .int .u32 V] 85)) g #[.int .i64 o, .slice A1 n c1, .slice A2 n c2] 139 := (HCW.out.below HBX.out).blk
        have hbw6 : Below w.heap.size w (w6.alloc (.cells #[.int .i64 O, .int .u8 K, .int .u8 S, .int .u32 Q, .int .u32 V] 85)) := Bw.step HW.out HBX.out
        have hne1 : w6.heap.size ≠ w.heap.size := by have h3 := (Bw.step HBW4.out hb6).size; have h4 := HB1.out.lt; omega
        have hneg : g ≠ w.heap.size := by have := HC.out.blk.lt; omega
        have a0 := D1.cell 0 (.int .i64 0) rfl
        have a1 := D1.cell 1 (.int .u8 0) rfl
        have a2 := D1.cell 2 (.int .u8 0) rfl
        have a3 := D1.cell 3 (.int .u32 0) rfl
        have a4 := D1.cell 4 (.int .u32 0) rfl
        have af0 := D1.frozen 0
        have af1 := D1.frozen 1
        have af2 := D1.frozen 2
        have af3 := D1.frozen 3
        have af4 := D1.frozen 4
        have u0 := D4.cell 0 (.int .i64 O) rfl
        have u1 := D4.cell 1 (.int .u8 K) rfl
        have u2 := D4.cell 2 (.int .u8 S) rfl
        have u3 := D4.cell 3 (.int .u32 Q) rfl
        have u4 := D4.cell 4 (.int .u32 V) rfl
        have g0 := DG.cell 0 (.int .i64 o) rfl
        have DD1 := Lib.hid D1
        have DD4 := Lib.hid D4
        have DDG := Lib.hid DG
        have HBW6 := Lib.hid hbw6
        clear D1 D4 DG hbw6
        obtain ⟨Y, hY⟩ : ∃ Y, Y = (w6.alloc (.cells #[.int .i64 O, .int .u8 K, .int .u8 S, .int .u32 Q, .int .u32 V] 85)).drew := ⟨_, rfl⟩
        have hT : Blk Y w.heap.size #[.int .i64 0, .int .u8 0, .int .u8 0, .int .u32 0, .int .u32 0] 85 := by rw [hY]; exact DD1.out.drew
        have hN : Blk Y w6.heap.size #[.int .i64 O, .int .u8 K, .int .u8 S, .int .u32 Q, .int .u32 V] 85 := by rw [hY]; exact DD4.out.drew
        have hG : Blk Y g #[.int .i64 o, .slice A1 n c1, .slice A2 n c2] 139 := by rw [hY]; exact DDG.out.drew
        have HYB := Lib.hid (show Below w.heap.size w Y by rw [hY]; exact Bk.drew HBW6.out)
        clear a0 a1 a2 a3 a4 af0 af1 af2 af3 af4 u0 u1 u2 u3 u4 g0
        obtain ⟨z0, z1, z2, z3, z4⟩ := hT.c5
        have j0 := hT.frozen 0
        have j1 := hT.frozen 1
        have j2 := hT.frozen 2
        have j3 := hT.frozen 3
        have j4 := hT.frozen 4
        have HN := Lib.hid hN
        have HGG := Lib.hid hG
        have HT := Lib.hid hT
        clear hN hG hT hb6
        rcases hcase with ⟨rfl, rfl⟩ | ⟨rfl, hE0, rfl⟩ | ⟨rfl, hE0, hO0, rfl⟩ | ⟨rfl, hE0, hO0, rfl⟩
        · go_wp2_with fail
          refine wp_region_noPanic ?_
          refine wp_region_held_drew (S := fun w' => w'.cell? ⟨w6.heap.size, 0, none⟩ = some (.int .i64 O) ∧ w'.cell? ⟨w6.heap.size, 1, none⟩ = some (.int .u8 K) ∧ w'.cell? ⟨w6.heap.size, 2, none⟩ = some (.int .u8 S) ∧ w'.cell? ⟨w6.heap.size, 3, none⟩ = some (.int .u32 Q) ∧ w'.cell? ⟨w6.heap.size, 4, none⟩ = some (.int .u32 V) ∧ w'.cell? ⟨g, 0, none⟩ = some (.int .i64 o)) (by kernel_rfl) ?_ (fun hHeld => ?_)
          · rewrite [← hY]
            obtain ⟨n0, n1, n2, n3, n4⟩ := HN.out.c5; exact ⟨n0, n1, n2, n3, n4, HGG.out.cell 0 (.int .i64 o) rfl⟩
          rewrite [← hY]
          rewrite [← hY] at hHeld
          clear hY
          refine wpAnyH_take (i := 0) (v := (.agg #[.int .i64 O, .int .u8 K, .int .u8 S, .int .u32 Q, .int .u32 V])) (by simp only [List.getElem?_toArray, List.getElem?_cons_zero, List.getElem?_cons_succ]; rfl) (by kernel_rfl) (by kernel_rfl) (by kernel_rfl) (fun _ _ _ h => h) (Or.inl ⟨by rfl, ?_⟩) (by assumption) ?_
          · intro w hSw
            try dsimp only at hSw
            obtain ⟨s0, s1, s2, s3, s4, s5⟩ := hSw
            go_simp
          try simp only [Act.put, List.setIfInBounds_toArray, List.set_cons_zero, List.set_cons_succ]
          refine wpAnyH_take (i := 1) (v := .bool false) (by simp only [List.getElem?_toArray, List.getElem?_cons_zero, List.getElem?_cons_succ]; rfl) (by kernel_rfl) (by kernel_rfl) (by kernel_rfl) (fun _ _ _ h => h) (Or.inl ⟨by rfl, ?_⟩) (by assumption) ?_
          · intro w hSw
            try dsimp only at hSw
            obtain ⟨s0, s1, s2, s3, s4, s5⟩ := hSw
            go_simp
          try simp only [Act.put, List.setIfInBounds_toArray, List.set_cons_zero, List.set_cons_succ]
          refine wpAnyH_take (i := 2) (v := .bool false) (by simp only [List.getElem?_toArray, List.getElem?_cons_zero, List.getElem?_cons_succ]; rfl) (by kernel_rfl) (by kernel_rfl) (by kernel_rfl) (fun _ _ _ h => h) (Or.inl ⟨by rfl, ?_⟩) (by assumption) ?_
          · intro w hSw
            try dsimp only at hSw
            obtain ⟨s0, s1, s2, s3, s4, s5⟩ := hSw
            go_simp
          try simp only [Act.put, List.setIfInBounds_toArray, List.set_cons_zero, List.set_cons_succ]
          refine wpAnyH_take (i := 3) (v := undef) (by simp only [List.getElem?_toArray, List.getElem?_cons_zero, List.getElem?_cons_succ]; rfl) (by kernel_rfl) (by kernel_rfl) (by kernel_rfl) (fun _ _ _ h => h) (Or.inr ⟨by rfl, rfl⟩) (by assumption) ?_
          try simp only [Act.put, List.setIfInBounds_toArray, List.set_cons_zero, List.set_cons_succ]
          refine wpAnyH_take (i := 4) (v := undef) (by simp only [List.getElem?_toArray, List.getElem?_cons_zero, List.getElem?_cons_succ]; rfl) (by kernel_rfl) (by kernel_rfl) (by kernel_rfl) (fun _ _ _ h => h) (Or.inr ⟨by rfl, rfl⟩) (by assumption) ?_
          try simp only [Act.put, List.setIfInBounds_toArray, List.set_cons_zero, List.set_cons_succ]
          refine wpAnyH_take (i := 5) (v := .bool false) (by simp only [List.getElem?_toArray, List.getElem?_cons_zero, List.getElem?_cons_succ]; rfl) (by kernel_rfl) (by kernel_rfl) (by kernel_rfl) (fun _ _ _ h => h) (Or.inl ⟨by rfl, ?_⟩) (by assumption) ?_
          · intro w hSw
            try dsimp only at hSw
            obtain ⟨s0, s1, s2, s3, s4, s5⟩ := hSw
            go_simp
          try simp only [Act.put, List.setIfInBounds_toArray, List.set_cons_zero, List.set_cons_succ]
          refine wpAnyH_take (i := 6) (v := .bool false) (by simp only [List.getElem?_toArray, List.getElem?_cons_zero, List.getElem?_cons_succ]; rfl) (by kernel_rfl) (by kernel_rfl) (by kernel_rfl) (fun _ _ _ h => h) (Or.inl ⟨by rfl, ?_⟩) (by assumption) ?_
          · intro w hSw
            try dsimp only at hSw
            obtain ⟨s0, s1, s2, s3, s4, s5⟩ := hSw
            go_simp
          try simp only [Act.put, List.setIfInBounds_toArray, List.set_cons_zero, List.set_cons_succ]
          refine wpAnyH_take (i := 7) (v := undef) (by simp only [List.getElem?_toArray, List.getElem?_cons_zero, List.getElem?_cons_succ]; rfl) (by kernel_rfl) (by kernel_rfl) (by kernel_rfl) (fun _ _ _ h => h) (Or.inr ⟨by rfl, rfl⟩) (by assumption) ?_
          try simp only [Act.put, List.setIfInBounds_toArray, List.set_cons_zero, List.set_cons_succ]
          refine wpAnyH_take (i := 8) (v := undef) (by simp only [List.getElem?_toArray, List.getElem?_cons_zero, List.getElem?_cons_succ]; rfl) (by kernel_rfl) (by kernel_rfl) (by kernel_rfl) (fun _ _ _ h => h) (Or.inr ⟨by rfl, rfl⟩) (by assumption) ?_
          try simp only [Act.put, List.setIfInBounds_toArray, List.set_cons_zero, List.set_cons_succ]
          refine wpAnyH_take (i := 9) (v := undef) (by simp only [List.getElem?_toArray, List.getElem?_cons_zero, List.getElem?_cons_succ]; rfl) (by kernel_rfl) (by kernel_rfl) (by kernel_rfl) (fun _ _ _ h => h) (Or.inr ⟨by rfl, rfl⟩) (by assumption) ?_
          try simp only [Act.put, List.setIfInBounds_toArray, List.set_cons_zero, List.set_cons_succ]
          refine wpAnyH_take (i := 10) (v := undef) (by simp only [List.getElem?_toArray, List.getElem?_cons_zero, List.getElem?_cons_succ]; rfl) (by kernel_rfl) (by kernel_rfl) (by kernel_rfl) (fun _ _ _ h => h) (Or.inr ⟨by rfl, rfl⟩) (by assumption) ?_
          try simp only [Act.put, List.setIfInBounds_toArray, List.set_cons_zero, List.set_cons_succ]
          refine wpAnyH_take (i := 11) (v := undef) (by simp only [List.getElem?_toArray, List.getElem?_cons_zero, List.getElem?_cons_succ]; rfl) (by kernel_rfl) (by kernel_rfl) (by kernel_rfl) (fun _ _ _ h => h) (Or.inr ⟨by rfl, rfl⟩) (by assumption) ?_
          try simp only [Act.put, List.setIfInBounds_toArray, List.set_cons_zero, List.set_cons_succ]
          refine wpAnyH_take (i := 12) (v := undef) (by simp only [List.getElem?_toArray, List.getElem?_cons_zero, List.getElem?_cons_succ]; rfl) (by kernel_rfl) (by kernel_rfl) (by kernel_rfl) (fun _ _ _ h => h) (Or.inr ⟨by rfl, rfl⟩) (by assumption) ?_
          try simp only [Act.put, List.setIfInBounds_toArray, List.set_cons_zero, List.set_cons_succ]
          refine wpAnyH_take (i := 13) (v := undef) (by simp only [List.getElem?_toArray, List.getElem?_cons_zero, List.getElem?_cons_succ]; rfl) (by kernel_rfl) (by kernel_rfl) (by kernel_rfl) (fun _ _ _ h => h) (Or.inr ⟨by rfl, rfl⟩) (by assumption) ?_
          try simp only [Act.put, List.setIfInBounds_toArray, List.set_cons_zero, List.set_cons_succ]
          refine wpAnyH_take (i := 14) (v := .bool false) (by simp only [List.getElem?_toArray, List.getElem?_cons_zero, List.getElem?_cons_succ]; rfl) (by kernel_rfl) (by kernel_rfl) (by kernel_rfl) (fun _ _ _ h => h) (Or.inl ⟨by rfl, ?_⟩) (by assumption) ?_
          · intro w hSw
            try dsimp only at hSw
            obtain ⟨s0, s1, s2, s3, s4, s5⟩ := hSw
            go_simp
          try simp only [Act.put, List.setIfInBounds_toArray, List.set_cons_zero, List.set_cons_succ]
          refine wpAnyH_ready (rs := [15]) (by kernel_rfl) (by simp) ?_
          refine AllReadyH.cons (by simp only [List.getElem?_toArray, List.getElem?_cons_zero, List.getElem?_cons_succ]; rfl) (fun K' hK => ?_) AllReadyH.nil
          go_simp
          have hT2 := HT.out.set5 (.int .i64 O) (.int .u8 K) (.int .u8 S) (.int .u32 Q) (.int .u32 V)
          have hN2 := HN.out.other5 w.heap.size (Ne.symm hne1) (.int .i64 O) (.int .u8 K) (.int .u8 S) (.int .u32 Q) (.int .u32 V)
          have hG2 := HGG.out.other5 w.heap.size (Ne.symm hneg) (.int .i64 O) (.int .u8 K) (.int .u8 S) (.int .u32 Q) (.int .u32 V)
          have hB3 := Bk.set5 HYB.out (Nat.le_refl _) (.int .i64 O) (.int .u8 K) (.int .u8 S) (.int .u32 Q) (.int .u32 V)
          generalize ((((Y.setCell ⟨w.heap.size, 0, none⟩ (.int .i64 O)).setCell ⟨w.heap.size, 1, none⟩ (.int .u8 K)).setCell ⟨w.heap.size, 2, none⟩ (.int .u8 S)).setCell ⟨w.heap.size, 3, none⟩ (.int .u32 Q)).setCell ⟨w.heap.size, 4, none⟩ (.int .u32 V) = V2 at *
          obtain ⟨n0, n1, n2, n3, n4⟩ := hN2.c5
          refine hK.out _ _ ⟨n0, n1, n2, n3, n4, hG2.cell 0 (.int .i64 o) rfl⟩ (fun hHeld9 => ?_)
          clear n0 n1 n2 n3 n4
          clear hK K'
          clear z0 z1 z2 z3 z4
          obtain ⟨z0, z1, z2, z3, z4⟩ := hT2.c5
          have HB3 := Lib.hid hB3
          clear hT2 hN2 hG2 hB3
          refine wpAnyH_take (i := 16) (v := .bool false) (by simp only [List.getElem?_toArray, List.getElem?_cons_zero, List.getElem?_cons_succ]; rfl) (by kernel_rfl) (by kernel_rfl) (by kernel_rfl) (fun _ _ _ h => h) (Or.inl ⟨by rfl, ?_⟩) (by assumption) ?_
          · intro w hSw
            try dsimp only at hSw
            obtain ⟨s0, s1, s2, s3, s4, s5⟩ := hSw
            go_simp
          try simp only [Act.put, List.setIfInBounds_toArray, List.set_cons_zero, List.set_cons_succ]
          refine wpAnyH_done (by kernel_rfl) ?_ _
          refine NoPanic.normal ?_
          go_wp2
          refine bodyPost_ret (v := .tuple #[.agg #[.int .i64 O, .int .u8 K, .int .u8 S, .int .u32 Q, .int .u32 V], .bool false]) (by simp [results, Try.results139, go_sem, *]) rfl ?_
          exact ⟨rfl, HB3.out⟩
        · go_wp2_with fail
          refine wp_region_noPanic ?_
          refine wp_region_held_drew (S := fun w' => w'.cell? ⟨w6.heap.size, 0, none⟩ = some (.int .i64 O) ∧ w'.cell? ⟨w6.heap.size, 1, none⟩ = some (.int .u8 K) ∧ w'.cell? ⟨w6.heap.size, 2, none⟩ = some (.int .u8 S) ∧ w'.cell? ⟨w6.heap.size, 3, none⟩ = some (.int .u32 Q) ∧ w'.cell? ⟨w6.heap.size, 4, none⟩ = some (.int .u32 V) ∧ w'.cell? ⟨g, 0, none⟩ = some (.int .i64 o)) (by kernel_rfl) ?_ (fun hHeld => ?_)
          · rewrite [← hY]
            obtain ⟨n0, n1, n2, n3, n4⟩ := HN.out.c5; exact ⟨n0, n1, n2, n3, n4, HGG.out.cell 0 (.int .i64 o) rfl⟩
          rewrite [← hY]
          rewrite [← hY] at hHeld
          clear hY
          refine wpAnyH_take (i := 0) (v := (.agg #[.int .i64 O, .int .u8 K, .int .u8 S, .int .u32 Q, .int .u32 V])) (by simp only [List.getElem?_toArray, List.getElem?_cons_zero, List.getElem?_cons_succ]; rfl) (by kernel_rfl) (by kernel_rfl) (by kernel_rfl) (fun _ _ _ h => h) (Or.inl ⟨by rfl, ?_⟩) (by assumption) ?_
          · intro w hSw
            try dsimp only at hSw
            obtain ⟨s0, s1, s2, s3, s4, s5⟩ := hSw
            go_simp
          try simp only [Act.put, List.setIfInBounds_toArray, List.set_cons_zero, List.set_cons_succ]
          refine wpAnyH_take (i := 1) (v := .bool true) (by simp only [List.getElem?_toArray, List.getElem?_cons_zero, List.getElem?_cons_succ]; rfl) (by kernel_rfl) (by kernel_rfl) (by kernel_rfl) (fun _ _ _ h => h) (Or.inl ⟨by rfl, ?_⟩) (by assumption) ?_
          · intro w hSw
            try dsimp only at hSw
            obtain ⟨s0, s1, s2, s3, s4, s5⟩ := hSw
            go_simp
          try simp only [Act.put, List.setIfInBounds_toArray, List.set_cons_zero, List.set_cons_succ]
          refine wpAnyH_take (i := 2) (v := .bool true) (by simp only [List.getElem?_toArray, List.getElem?_cons_zero, List.getElem?_cons_succ]; rfl) (by kernel_rfl) (by kernel_rfl) (by kernel_rfl) (fun _ _ _ h => h) (Or.inl ⟨by rfl, ?_⟩) (by assumption) ?_
          · intro w hSw
            try dsimp only at hSw
            obtain ⟨s0, s1, s2, s3, s4, s5⟩ := hSw
            go_simp
          try simp only [Act.put, List.setIfInBounds_toArray, List.set_cons_zero, List.set_cons_succ]
          refine wpAnyH_take (i := 3) (v := .int .i64 E) (by simp only [List.getElem?_toArray, List.getElem?_cons_zero, List.getElem?_cons_succ]; rfl) (by kernel_rfl) (by kernel_rfl) (by kernel_rfl) (fun _ _ _ h => h) (Or.inl ⟨by rfl, ?_⟩) (by assumption) ?_
          · intro w hSw
            try dsimp only at hSw
            obtain ⟨s0, s1, s2, s3, s4, s5⟩ := hSw
            go_simp
          try simp only [Act.put, List.setIfInBounds_toArray, List.set_cons_zero, List.set_cons_succ]
          refine wpAnyH_take (i := 4) (v := .bool false) (by simp only [List.getElem?_toArray, List.getElem?_cons_zero, List.getElem?_cons_succ]; rfl) (by kernel_rfl) (by kernel_rfl) (by kernel_rfl) (fun _ _ _ h => h) (Or.inl ⟨by rfl, ?_⟩) (by assumption) ?_
          · intro w hSw
            try dsimp only at hSw
            obtain ⟨s0, s1, s2, s3, s4, s5⟩ := hSw
            go_simp
          try simp only [Act.put, List.setIfInBounds_toArray, List.set_cons_zero, List.set_cons_succ]
          refine wpAnyH_take (i := 5) (v := .bool false) (by simp only [List.getElem?_toArray, List.getElem?_cons_zero, List.getElem?_cons_succ]; rfl) (by kernel_rfl) (by kernel_rfl) (by kernel_rfl) (fun _ _ _ h => h) (Or.inl ⟨by rfl, ?_⟩) (by assumption) ?_
          · intro w hSw
            try dsimp only at hSw
            obtain ⟨s0, s1, s2, s3, s4, s5⟩ := hSw
            go_simp
          try simp only [Act.put, List.setIfInBounds_toArray, List.set_cons_zero, List.set_cons_succ]
          refine wpAnyH_take (i := 6) (v := .bool false) (by simp only [List.getElem?_toArray, List.getElem?_cons_zero, List.getElem?_cons_succ]; rfl) (by kernel_rfl) (by kernel_rfl) (by kernel_rfl) (fun _ _ _ h => h) (Or.inl ⟨by rfl, ?_⟩) (by assumption) ?_
          · intro w hSw
            try dsimp only at hSw
            obtain ⟨s0, s1, s2, s3, s4, s5⟩ := hSw
            go_simp
          try simp only [Act.put, List.setIfInBounds_toArray, List.set_cons_zero, List.set_cons_succ]
          refine wpAnyH_take (i := 7) (v := undef) (by simp only [List.getElem?_toArray, List.getElem?_cons_zero, List.getElem?_cons_succ]; rfl) (by kernel_rfl) (by kernel_rfl) (by kernel_rfl) (fun _ _ _ h => h) (Or.inr ⟨by rfl, rfl⟩) (by assumption) ?_
          try simp only [Act.put, List.setIfInBounds_toArray, List.set_cons_zero, List.set_cons_succ]
          refine wpAnyH_take (i := 8) (v := undef) (by simp only [List.getElem?_toArray, List.getElem?_cons_zero, List.getElem?_cons_succ]; rfl) (by kernel_rfl) (by kernel_rfl) (by kernel_rfl) (fun _ _ _ h => h) (Or.inr ⟨by rfl, rfl⟩) (by assumption) ?_
          try simp only [Act.put, List.setIfInBounds_toArray, List.set_cons_zero, List.set_cons_succ]
          refine wpAnyH_take (i := 9) (v := undef) (by simp only [List.getElem?_toArray, List.getElem?_cons_zero, List.getElem?_cons_succ]; rfl) (by kernel_rfl) (by kernel_rfl) (by kernel_rfl) (fun _ _ _ h => h) (Or.inr ⟨by rfl, rfl⟩) (by assumption) ?_
          try simp only [Act.put, List.setIfInBounds_toArray, List.set_cons_zero, List.set_cons_succ]
          refine wpAnyH_take (i := 10) (v := undef) (by simp only [List.getElem?_toArray, List.getElem?_cons_zero, List.getElem?_cons_succ]; rfl) (by kernel_rfl) (by kernel_rfl) (by kernel_rfl) (fun _ _ _ h => h) (Or.inr ⟨by rfl, rfl⟩) (by assumption) ?_
          try simp only [Act.put, List.setIfInBounds_toArray, List.set_cons_zero, List.set_cons_succ]
          refine wpAnyH_take (i := 11) (v := undef) (by simp only [List.getElem?_toArray, List.getElem?_cons_zero, List.getElem?_cons_succ]; rfl) (by kernel_rfl) (by kernel_rfl) (by kernel_rfl) (fun _ _ _ h => h) (Or.inr ⟨by rfl, rfl⟩) (by assumption) ?_
          try simp only [Act.put, List.setIfInBounds_toArray, List.set_cons_zero, List.set_cons_succ]
          refine wpAnyH_take (i := 12) (v := undef) (by simp only [List.getElem?_toArray, List.getElem?_cons_zero, List.getElem?_cons_succ]; rfl) (by kernel_rfl) (by kernel_rfl) (by kernel_rfl) (fun _ _ _ h => h) (Or.inr ⟨by rfl, rfl⟩) (by assumption) ?_
          try simp only [Act.put, List.setIfInBounds_toArray, List.set_cons_zero, List.set_cons_succ]
          refine wpAnyH_take (i := 13) (v := undef) (by simp only [List.getElem?_toArray, List.getElem?_cons_zero, List.getElem?_cons_succ]; rfl) (by kernel_rfl) (by kernel_rfl) (by kernel_rfl) (fun _ _ _ h => h) (Or.inr ⟨by rfl, rfl⟩) (by assumption) ?_
          try simp only [Act.put, List.setIfInBounds_toArray, List.set_cons_zero, List.set_cons_succ]
          refine wpAnyH_take (i := 14) (v := .bool false) (by simp only [List.getElem?_toArray, List.getElem?_cons_zero, List.getElem?_cons_succ]; rfl) (by kernel_rfl) (by kernel_rfl) (by kernel_rfl) (fun _ _ _ h => h) (Or.inl ⟨by rfl, ?_⟩) (by assumption) ?_
          · intro w hSw
            try dsimp only at hSw
            obtain ⟨s0, s1, s2, s3, s4, s5⟩ := hSw
            go_simp
          try simp only [Act.put, List.setIfInBounds_toArray, List.set_cons_zero, List.set_cons_succ]
          refine wpAnyH_ready (rs := [15]) (by kernel_rfl) (by simp) ?_
          refine AllReadyH.cons (by simp only [List.getElem?_toArray, List.getElem?_cons_zero, List.getElem?_cons_succ]; rfl) (fun K' hK => ?_) AllReadyH.nil
          go_simp
          have hT2 := HT.out.set5 (.int .i64 O) (.int .u8 K) (.int .u8 S) (.int .u32 Q) (.int .u32 V)
          have hN2 := HN.out.other5 w.heap.size (Ne.symm hne1) (.int .i64 O) (.int .u8 K) (.int .u8 S) (.int .u32 Q) (.int .u32 V)
          have hG2 := HGG.out.other5 w.heap.size (Ne.symm hneg) (.int .i64 O) (.int .u8 K) (.int .u8 S) (.int .u32 Q) (.int .u32 V)
          have hB3 := Bk.set5 HYB.out (Nat.le_refl _) (.int .i64 O) (.int .u8 K) (.int .u8 S) (.int .u32 Q) (.int .u32 V)
          generalize ((((Y.setCell ⟨w.heap.size, 0, none⟩ (.int .i64 O)).setCell ⟨w.heap.size, 1, none⟩ (.int .u8 K)).setCell ⟨w.heap.size, 2, none⟩ (.int .u8 S)).setCell ⟨w.heap.size, 3, none⟩ (.int .u32 Q)).setCell ⟨w.heap.size, 4, none⟩ (.int .u32 V) = V2 at *
          obtain ⟨n0, n1, n2, n3, n4⟩ := hN2.c5
          refine hK.out _ _ ⟨n0, n1, n2, n3, n4, hG2.cell 0 (.int .i64 o) rfl⟩ (fun hHeld9 => ?_)
          clear n0 n1 n2 n3 n4
          clear hK K'
          clear z0 z1 z2 z3 z4
          obtain ⟨z0, z1, z2, z3, z4⟩ := hT2.c5
          have HB3 := Lib.hid hB3
          clear hT2 hN2 hG2 hB3
          refine wpAnyH_take (i := 16) (v := .bool false) (by simp only [List.getElem?_toArray, List.getElem?_cons_zero, List.getElem?_cons_succ]; rfl) (by kernel_rfl) (by kernel_rfl) (by kernel_rfl) (fun _ _ _ h => h) (Or.inl ⟨by rfl, ?_⟩) (by assumption) ?_
          · intro w hSw
            try dsimp only at hSw
            obtain ⟨s0, s1, s2, s3, s4, s5⟩ := hSw
            go_simp
          try simp only [Act.put, List.setIfInBounds_toArray, List.set_cons_zero, List.set_cons_succ]
          refine wpAnyH_done (by kernel_rfl) ?_ _
          refine NoPanic.normal ?_
          go_wp2
          refine bodyPost_ret (v := .tuple #[.agg #[.int .i64 O, .int .u8 K, .int .u8 S, .int .u32 Q, .int .u32 V], .bool false]) (by simp [results, Try.results139, go_sem, *]) rfl ?_
          exact ⟨rfl, HB3.out⟩
        · go_wp2_with fail
          refine wp_region_noPanic ?_
          refine wp_region_held_drew (S := fun w' => w'.cell? ⟨w6.heap.size, 0, none⟩ = some (.int .i64 O) ∧ w'.cell? ⟨w6.heap.size, 1, none⟩ = some (.int .u8 K) ∧ w'.cell? ⟨w6.heap.size, 2, none⟩ = some (.int .u8 S) ∧ w'.cell? ⟨w6.heap.size, 3, none⟩ = some (.int .u32 Q) ∧ w'.cell? ⟨w6.heap.size, 4, none⟩ = some (.int .u32 V) ∧ w'.cell? ⟨g, 0, none⟩ = some (.int .i64 o)) (by kernel_rfl) ?_ (fun hHeld => ?_)
          · rewrite [← hY]
            obtain ⟨n0, n1, n2, n3, n4⟩ := HN.out.c5; exact ⟨n0, n1, n2, n3, n4, HGG.out.cell 0 (.int .i64 o) rfl⟩
          rewrite [← hY]
          rewrite [← hY] at hHeld
          clear hY
          refine wpAnyH_take (i := 0) (v := (.agg #[.int .i64 O, .int .u8 K, .int .u8 S, .int .u32 Q, .int .u32 V])) (by simp only [List.getElem?_toArray, List.getElem?_cons_zero, List.getElem?_cons_succ]; rfl) (by kernel_rfl) (by kernel_rfl) (by kernel_rfl) (fun _ _ _ h => h) (Or.inl ⟨by rfl, ?_⟩) (by assumption) ?_
          · intro w hSw
            try dsimp only at hSw
            obtain ⟨s0, s1, s2, s3, s4, s5⟩ := hSw
            go_simp
          try simp only [Act.put, List.setIfInBounds_toArray, List.set_cons_zero, List.set_cons_succ]
          refine wpAnyH_take (i := 1) (v := .bool true) (by simp only [List.getElem?_toArray, List.getElem?_cons_zero, List.getElem?_cons_succ]; rfl) (by kernel_rfl) (by kernel_rfl) (by kernel_rfl) (fun _ _ _ h => h) (Or.inl ⟨by rfl, ?_⟩) (by assumption) ?_
          · intro w hSw
            try dsimp only at hSw
            obtain ⟨s0, s1, s2, s3, s4, s5⟩ := hSw
            go_simp
          try simp only [Act.put, List.setIfInBounds_toArray, List.set_cons_zero, List.set_cons_succ]
          refine wpAnyH_take (i := 2) (v := .bool true) (by simp only [List.getElem?_toArray, List.getElem?_cons_zero, List.getElem?_cons_succ]; rfl) (by kernel_rfl) (by kernel_rfl) (by kernel_rfl) (fun _ _ _ h => h) (Or.inl ⟨by rfl, ?_⟩) (by assumption) ?_
          · intro w hSw
            try dsimp only at hSw
            obtain ⟨s0, s1, s2, s3, s4, s5⟩ := hSw
            go_simp
          try simp only [Act.put, List.setIfInBounds_toArray, List.set_cons_zero, List.set_cons_succ]
          refine wpAnyH_take (i := 3) (v := .int .i64 E) (by simp only [List.getElem?_toArray, List.getElem?_cons_zero, List.getElem?_cons_succ]; rfl) (by kernel_rfl) (by kernel_rfl) (by kernel_rfl) (fun _ _ _ h => h) (Or.inl ⟨by rfl, ?_⟩) (by assumption) ?_
          · intro w hSw
            try dsimp only at hSw
            obtain ⟨s0, s1, s2, s3, s4, s5⟩ := hSw
            go_simp
          try simp only [Act.put, List.setIfInBounds_toArray, List.set_cons_zero, List.set_cons_succ]
          refine wpAnyH_take (i := 4) (v := .bool true) (by simp only [List.getElem?_toArray, List.getElem?_cons_zero, List.getElem?_cons_succ]; rfl) (by kernel_rfl) (by kernel_rfl) (by kernel_rfl) (fun _ _ _ h => h) (Or.inl ⟨by rfl, ?_⟩) (by assumption) ?_
          · intro w hSw
            try dsimp only at hSw
            obtain ⟨s0, s1, s2, s3, s4, s5⟩ := hSw
            go_simp
          try simp only [Act.put, List.setIfInBounds_toArray, List.set_cons_zero, List.set_cons_succ]
          refine wpAnyH_take (i := 5) (v := .bool true) (by simp only [List.getElem?_toArray, List.getElem?_cons_zero, List.getElem?_cons_succ]; rfl) (by kernel_rfl) (by kernel_rfl) (by kernel_rfl) (fun _ _ _ h => h) (Or.inl ⟨by rfl, ?_⟩) (by assumption) ?_
          · intro w hSw
            try dsimp only at hSw
            obtain ⟨s0, s1, s2, s3, s4, s5⟩ := hSw
            go_simp
          try simp only [Act.put, List.setIfInBounds_toArray, List.set_cons_zero, List.set_cons_succ]
          refine wpAnyH_take (i := 6) (v := .bool true) (by simp only [List.getElem?_toArray, List.getElem?_cons_zero, List.getElem?_cons_succ]; rfl) (by kernel_rfl) (by kernel_rfl) (by kernel_rfl) (fun _ _ _ h => h) (Or.inl ⟨by rfl, ?_⟩) (by assumption) ?_
          · intro w hSw
            try dsimp only at hSw
            obtain ⟨s0, s1, s2, s3, s4, s5⟩ := hSw
            go_simp
          try simp only [Act.put, List.setIfInBounds_toArray, List.set_cons_zero, List.set_cons_succ]
          refine wpAnyH_take (i := 7) (v := .pointer (some ⟨w6.heap.size, 0, none⟩)) (by simp only [List.getElem?_toArray, List.getElem?_cons_zero, List.getElem?_cons_succ]; rfl) (by kernel_rfl) (by kernel_rfl) (by kernel_rfl) (fun _ _ _ h => h) (Or.inl ⟨by rfl, ?_⟩) (by assumption) ?_
          · intro w hSw
            try dsimp only at hSw
            obtain ⟨s0, s1, s2, s3, s4, s5⟩ := hSw
            go_simp
          try simp only [Act.put, List.setIfInBounds_toArray, List.set_cons_zero, List.set_cons_succ]
          refine wpAnyH_take (i := 8) (v := .int .i64 O) (by simp only [List.getElem?_toArray, List.getElem?_cons_zero, List.getElem?_cons_succ]; rfl) (by kernel_rfl) (by kernel_rfl) (by kernel_rfl) (fun _ _ _ h => h) (Or.inl ⟨by rfl, ?_⟩) (by assumption) ?_
          · intro w hSw
            try dsimp only at hSw
            obtain ⟨s0, s1, s2, s3, s4, s5⟩ := hSw
            go_simp
          try simp only [Act.put, List.setIfInBounds_toArray, List.set_cons_zero, List.set_cons_succ]
          refine wpAnyH_take (i := 9) (v := .pointer (some ⟨g, 0, none⟩)) (by simp only [List.getElem?_toArray, List.getElem?_cons_zero, List.getElem?_cons_succ]; rfl) (by kernel_rfl) (by kernel_rfl) (by kernel_rfl) (fun _ _ _ h => h) (Or.inl ⟨by rfl, ?_⟩) (by assumption) ?_
          · intro w hSw
            try dsimp only at hSw
            obtain ⟨s0, s1, s2, s3, s4, s5⟩ := hSw
            go_simp
          try simp only [Act.put, List.setIfInBounds_toArray, List.set_cons_zero, List.set_cons_succ]
          refine wpAnyH_take (i := 10) (v := .pointer (some ⟨g, 0, none⟩)) (by simp only [List.getElem?_toArray, List.getElem?_cons_zero, List.getElem?_cons_succ]; rfl) (by kernel_rfl) (by kernel_rfl) (by kernel_rfl) (fun _ _ _ h => h) (Or.inl ⟨by rfl, ?_⟩) (by assumption) ?_
          · intro w hSw
            try dsimp only at hSw
            obtain ⟨s0, s1, s2, s3, s4, s5⟩ := hSw
            go_simp
          try simp only [Act.put, List.setIfInBounds_toArray, List.set_cons_zero, List.set_cons_succ]
          refine wpAnyH_take (i := 11) (v := .pointer (some ⟨g, 0, none⟩)) (by simp only [List.getElem?_toArray, List.getElem?_cons_zero, List.getElem?_cons_succ]; rfl) (by kernel_rfl) (by kernel_rfl) (by kernel_rfl) (fun _ _ _ h => h) (Or.inl ⟨by rfl, ?_⟩) (by assumption) ?_
          · intro w hSw
            try dsimp only at hSw
            obtain ⟨s0, s1, s2, s3, s4, s5⟩ := hSw
            go_simp
          try simp only [Act.put, List.setIfInBounds_toArray, List.set_cons_zero, List.set_cons_succ]
          refine wpAnyH_take (i := 12) (v := .int .i64 o) (by simp only [List.getElem?_toArray, List.getElem?_cons_zero, List.getElem?_cons_succ]; rfl) (by kernel_rfl) (by kernel_rfl) (by kernel_rfl) (fun _ _ _ h => h) (Or.inl ⟨by rfl, ?_⟩) (by assumption) ?_
          · intro w hSw
            try dsimp only at hSw
            obtain ⟨s0, s1, s2, s3, s4, s5⟩ := hSw
            go_simp
          try simp only [Act.put, List.setIfInBounds_toArray, List.set_cons_zero, List.set_cons_succ]
          refine wpAnyH_take (i := 13) (v := .bool false) (by simp only [List.getElem?_toArray, List.getElem?_cons_zero, List.getElem?_cons_succ]; rfl) (by kernel_rfl) (by kernel_rfl) (by kernel_rfl) (fun _ _ _ h => h) (Or.inl ⟨by rfl, ?_⟩) (by assumption) ?_
          · intro w hSw
            try dsimp only at hSw
            obtain ⟨s0, s1, s2, s3, s4, s5⟩ := hSw
            go_simp
          try simp only [Act.put, List.setIfInBounds_toArray, List.set_cons_zero, List.set_cons_succ]
          refine wpAnyH_take (i := 14) (v := .bool false) (by simp only [List.getElem?_toArray, List.getElem?_cons_zero, List.getElem?_cons_succ]; rfl) (by kernel_rfl) (by kernel_rfl) (by kernel_rfl) (fun _ _ _ h => h) (Or.inl ⟨by rfl, ?_⟩) (by assumption) ?_
          · intro w hSw
            try dsimp only at hSw
            obtain ⟨s0, s1, s2, s3, s4, s5⟩ := hSw
            go_simp
          try simp only [Act.put, List.setIfInBounds_toArray, List.set_cons_zero, List.set_cons_succ]
          refine wpAnyH_ready (rs := [15]) (by kernel_rfl) (by simp) ?_
          refine AllReadyH.cons (by simp only [List.getElem?_toArray, List.getElem?_cons_zero, List.getElem?_cons_succ]; rfl) (fun K' hK => ?_) AllReadyH.nil
          go_simp
          have hT2 := HT.out.set5 (.int .i64 O) (.int .u8 K) (.int .u8 S) (.int .u32 Q) (.int .u32 V)
          have hN2 := HN.out.other5 w.heap.size (Ne.symm hne1) (.int .i64 O) (.int .u8 K) (.int .u8 S) (.int .u32 Q) (.int .u32 V)
          have hG2 := HGG.out.other5 w.heap.size (Ne.symm hneg) (.int .i64 O) (.int .u8 K) (.int .u8 S) (.int .u32 Q) (.int .u32 V)
          have hB3 := Bk.set5 HYB.out (Nat.le_refl _) (.int .i64 O) (.int .u8 K) (.int .u8 S) (.int .u32 Q) (.int .u32 V)
          generalize ((((Y.setCell ⟨w.heap.size, 0, none⟩ (.int .i64 O)).setCell ⟨w.heap.size, 1, none⟩ (.int .u8 K)).setCell ⟨w.heap.size, 2, none⟩ (.int .u8 S)).setCell ⟨w.heap.size, 3, none⟩ (.int .u32 Q)).setCell ⟨w.heap.size, 4, none⟩ (.int .u32 V) = V2 at *
          obtain ⟨n0, n1, n2, n3, n4⟩ := hN2.c5
          refine hK.out _ _ ⟨n0, n1, n2, n3, n4, hG2.cell 0 (.int .i64 o) rfl⟩ (fun hHeld9 => ?_)
          clear n0 n1 n2 n3 n4
          clear hK K'
          clear z0 z1 z2 z3 z4
          obtain ⟨z0, z1, z2, z3, z4⟩ := hT2.c5
          have HB3 := Lib.hid hB3
          clear hT2 hN2 hG2 hB3
          refine wpAnyH_take (i := 16) (v := .bool false) (by simp only [List.getElem?_toArray, List.getElem?_cons_zero, List.getElem?_cons_succ]; rfl) (by kernel_rfl) (by kernel_rfl) (by kernel_rfl) (fun _ _ _ h => h) (Or.inl ⟨by rfl, ?_⟩) (by assumption) ?_
          · intro w hSw
            try dsimp only at hSw
            obtain ⟨s0, s1, s2, s3, s4, s5⟩ := hSw
            go_simp
          try simp only [Act.put, List.setIfInBounds_toArray, List.set_cons_zero, List.set_cons_succ]
          refine wpAnyH_done (by kernel_rfl) ?_ _
          refine NoPanic.normal ?_
          go_wp2
          refine bodyPost_ret (v := .tuple #[.agg #[.int .i64 O, .int .u8 K, .int .u8 S, .int .u32 Q, .int .u32 V], .bool false]) (by simp [results, Try.results139, go_sem, *]) rfl ?_
          exact ⟨rfl, HB3.out⟩
        · go_wp2_with fail
          refine wp_region_noPanic ?_
          refine wp_region_held_drew (S := fun w' => w'.cell? ⟨w6.heap.size, 0, none⟩ = some (.int .i64 O) ∧ w'.cell? ⟨w6.heap.size, 1, none⟩ = some (.int .u8 K) ∧ w'.cell? ⟨w6.heap.size, 2, none⟩ = some (.int .u8 S) ∧ w'.cell? ⟨w6.heap.size, 3, none⟩ = some (.int .u32 Q) ∧ w'.cell? ⟨w6.heap.size, 4, none⟩ = some (.int .u32 V) ∧ w'.cell? ⟨g, 0, none⟩ = some (.int .i64 o)) (by kernel_rfl) ?_ (fun hHeld => ?_)
          · rewrite [← hY]
            obtain ⟨n0, n1, n2, n3, n4⟩ := HN.out.c5; exact ⟨n0, n1, n2, n3, n4, HGG.out.cell 0 (.int .i64 o) rfl⟩
          rewrite [← hY]
          rewrite [← hY] at hHeld
          clear hY
          refine wpAnyH_take (i := 0) (v := (.agg #[.int .i64 O, .int .u8 K, .int .u8 S, .int .u32 Q, .int .u32 V])) (by simp only [List.getElem?_toArray, List.getElem?_cons_zero, List.getElem?_cons_succ]; rfl) (by kernel_rfl) (by kernel_rfl) (by kernel_rfl) (fun _ _ _ h => h) (Or.inl ⟨by rfl, ?_⟩) (by assumption) ?_
          · intro w hSw
            try dsimp only at hSw
            obtain ⟨s0, s1, s2, s3, s4, s5⟩ := hSw
            go_simp
          try simp only [Act.put, List.setIfInBounds_toArray, List.set_cons_zero, List.set_cons_succ]
          refine wpAnyH_take (i := 1) (v := .bool true) (by simp only [List.getElem?_toArray, List.getElem?_cons_zero, List.getElem?_cons_succ]; rfl) (by kernel_rfl) (by kernel_rfl) (by kernel_rfl) (fun _ _ _ h => h) (Or.inl ⟨by rfl, ?_⟩) (by assumption) ?_
          · intro w hSw
            try dsimp only at hSw
            obtain ⟨s0, s1, s2, s3, s4, s5⟩ := hSw
            go_simp
          try simp only [Act.put, List.setIfInBounds_toArray, List.set_cons_zero, List.set_cons_succ]
          refine wpAnyH_take (i := 2) (v := .bool true) (by simp only [List.getElem?_toArray, List.getElem?_cons_zero, List.getElem?_cons_succ]; rfl) (by kernel_rfl) (by kernel_rfl) (by kernel_rfl) (fun _ _ _ h => h) (Or.inl ⟨by rfl, ?_⟩) (by assumption) ?_
          · intro w hSw
            try dsimp only at hSw
            obtain ⟨s0, s1, s2, s3, s4, s5⟩ := hSw
            go_simp
          try simp only [Act.put, List.setIfInBounds_toArray, List.set_cons_zero, List.set_cons_succ]
          refine wpAnyH_take (i := 3) (v := .int .i64 E) (by simp only [List.getElem?_toArray, List.getElem?_cons_zero, List.getElem?_cons_succ]; rfl) (by kernel_rfl) (by kernel_rfl) (by kernel_rfl) (fun _ _ _ h => h) (Or.inl ⟨by rfl, ?_⟩) (by assumption) ?_
          · intro w hSw
            try dsimp only at hSw
            obtain ⟨s0, s1, s2, s3, s4, s5⟩ := hSw
            go_simp
          try simp only [Act.put, List.setIfInBounds_toArray, List.set_cons_zero, List.set_cons_succ]
          refine wpAnyH_take (i := 4) (v := .bool true) (by simp only [List.getElem?_toArray, List.getElem?_cons_zero, List.getElem?_cons_succ]; rfl) (by kernel_rfl) (by kernel_rfl) (by kernel_rfl) (fun _ _ _ h => h) (Or.inl ⟨by rfl, ?_⟩) (by assumption) ?_
          · intro w hSw
            try dsimp only at hSw
            obtain ⟨s0, s1, s2, s3, s4, s5⟩ := hSw
            go_simp
          try simp only [Act.put, List.setIfInBounds_toArray, List.set_cons_zero, List.set_cons_succ]
          refine wpAnyH_take (i := 5) (v := .bool true) (by simp only [List.getElem?_toArray, List.getElem?_cons_zero, List.getElem?_cons_succ]; rfl) (by kernel_rfl) (by kernel_rfl) (by kernel_rfl) (fun _ _ _ h => h) (Or.inl ⟨by rfl, ?_⟩) (by assumption) ?_
          · intro w hSw
            try dsimp only at hSw
            obtain ⟨s0, s1, s2, s3, s4, s5⟩ := hSw
            go_simp
          try simp only [Act.put, List.setIfInBounds_toArray, List.set_cons_zero, List.set_cons_succ]
          refine wpAnyH_take (i := 6) (v := .bool true) (by simp only [List.getElem?_toArray, List.getElem?_cons_zero, List.getElem?_cons_succ]; rfl) (by kernel_rfl) (by kernel_rfl) (by kernel_rfl) (fun _ _ _ h => h) (Or.inl ⟨by rfl, ?_⟩) (by assumption) ?_
          · intro w hSw
            try dsimp only at hSw
            obtain ⟨s0, s1, s2, s3, s4, s5⟩ := hSw
            go_simp
          try simp only [Act.put, List.setIfInBounds_toArray, List.set_cons_zero, List.set_cons_succ]
          refine wpAnyH_take (i := 7) (v := .pointer (some ⟨w6.heap.size, 0, none⟩)) (by simp only [List.getElem?_toArray, List.getElem?_cons_zero, List.getElem?_cons_succ]; rfl) (by kernel_rfl) (by kernel_rfl) (by kernel_rfl) (fun _ _ _ h => h) (Or.inl ⟨by rfl, ?_⟩) (by assumption) ?_
          · intro w hSw
            try dsimp only at hSw
            obtain ⟨s0, s1, s2, s3, s4, s5⟩ := hSw
            go_simp
          try simp only [Act.put, List.setIfInBounds_toArray, List.set_cons_zero, List.set_cons_succ]
          refine wpAnyH_take (i := 8) (v := .int .i64 O) (by simp only [List.getElem?_toArray, List.getElem?_cons_zero, List.getElem?_cons_succ]; rfl) (by kernel_rfl) (by kernel_rfl) (by kernel_rfl) (fun _ _ _ h => h) (Or.inl ⟨by rfl, ?_⟩) (by assumption) ?_
          · intro w hSw
            try dsimp only at hSw
            obtain ⟨s0, s1, s2, s3, s4, s5⟩ := hSw
            go_simp
          try simp only [Act.put, List.setIfInBounds_toArray, List.set_cons_zero, List.set_cons_succ]
          refine wpAnyH_take (i := 9) (v := .pointer (some ⟨g, 0, none⟩)) (by simp only [List.getElem?_toArray, List.getElem?_cons_zero, List.getElem?_cons_succ]; rfl) (by kernel_rfl) (by kernel_rfl) (by kernel_rfl) (fun _ _ _ h => h) (Or.inl ⟨by rfl, ?_⟩) (by assumption) ?_
          · intro w hSw
            try dsimp only at hSw
            obtain ⟨s0, s1, s2, s3, s4, s5⟩ := hSw
            go_simp
          try simp only [Act.put, List.setIfInBounds_toArray, List.set_cons_zero, List.set_cons_succ]
          refine wpAnyH_take (i := 10) (v := .pointer (some ⟨g, 0, none⟩)) (by simp only [List.getElem?_toArray, List.getElem?_cons_zero, List.getElem?_cons_succ]; rfl) (by kernel_rfl) (by kernel_rfl) (by kernel_rfl) (fun _ _ _ h => h) (Or.inl ⟨by rfl, ?_⟩) (by assumption) ?_
          · intro w hSw
            try dsimp only at hSw
            obtain ⟨s0, s1, s2, s3, s4, s5⟩ := hSw
            go_simp
          try simp only [Act.put, List.setIfInBounds_toArray, List.set_cons_zero, List.set_cons_succ]
          refine wpAnyH_take (i := 11) (v := .pointer (some ⟨g, 0, none⟩)) (by simp only [List.getElem?_toArray, List.getElem?_cons_zero, List.getElem?_cons_succ]; rfl) (by kernel_rfl) (by kernel_rfl) (by kernel_rfl) (fun _ _ _ h => h) (Or.inl ⟨by rfl, ?_⟩) (by assumption) ?_
          · intro w hSw
            try dsimp only at hSw
            obtain ⟨s0, s1, s2, s3, s4, s5⟩ := hSw
            go_simp
          try simp only [Act.put, List.setIfInBounds_toArray, List.set_cons_zero, List.set_cons_succ]
          refine wpAnyH_take (i := 12) (v := .int .i64 o) (by simp only [List.getElem?_toArray, List.getElem?_cons_zero, List.getElem?_cons_succ]; rfl) (by kernel_rfl) (by kernel_rfl) (by kernel_rfl) (fun _ _ _ h => h) (Or.inl ⟨by rfl, ?_⟩) (by assumption) ?_
          · intro w hSw
            try dsimp only at hSw
            obtain ⟨s0, s1, s2, s3, s4, s5⟩ := hSw
            go_simp
          try simp only [Act.put, List.setIfInBounds_toArray, List.set_cons_zero, List.set_cons_succ]
          refine wpAnyH_take (i := 13) (v := .bool true) (by simp only [List.getElem?_toArray, List.getElem?_cons_zero, List.getElem?_cons_succ]; rfl) (by kernel_rfl) (by kernel_rfl) (by kernel_rfl) (fun _ _ _ h => h) (Or.inl ⟨by rfl, ?_⟩) (by assumption) ?_
          · intro w hSw
            try dsimp only at hSw
            obtain ⟨s0, s1, s2, s3, s4, s5⟩ := hSw
            go_simp
          try simp only [Act.put, List.setIfInBounds_toArray, List.set_cons_zero, List.set_cons_succ]
          refine wpAnyH_take (i := 14) (v := .bool true) (by simp only [List.getElem?_toArray, List.getElem?_cons_zero, List.getElem?_cons_succ]; rfl) (by kernel_rfl) (by kernel_rfl) (by kernel_rfl) (fun _ _ _ h => h) (Or.inl ⟨by rfl, ?_⟩) (by assumption) ?_
          · intro w hSw
            try dsimp only at hSw
            obtain ⟨s0, s1, s2, s3, s4, s5⟩ := hSw
            go_simp
          try simp only [Act.put, List.setIfInBounds_toArray, List.set_cons_zero, List.set_cons_succ]
          refine wpAnyH_ready (rs := [15]) (by kernel_rfl) (by simp) ?_
          refine AllReadyH.cons (by simp only [List.getElem?_toArray, List.getElem?_cons_zero, List.getElem?_cons_succ]; rfl) (fun K' hK => ?_) AllReadyH.nil
          go_simp
          have hT2 := HT.out.set5 (.int .i64 O) (.int .u8 K) (.int .u8 S) (.int .u32 Q) (.int .u32 V)
          have hN2 := HN.out.other5 w.heap.size (Ne.symm hne1) (.int .i64 O) (.int .u8 K) (.int .u8 S) (.int .u32 Q) (.int .u32 V)
          have hG2 := HGG.out.other5 w.heap.size (Ne.symm hneg) (.int .i64 O) (.int .u8 K) (.int .u8 S) (.int .u32 Q) (.int .u32 V)
          have hB3 := Bk.set5 HYB.out (Nat.le_refl _) (.int .i64 O) (.int .u8 K) (.int .u8 S) (.int .u32 Q) (.int .u32 V)
          generalize ((((Y.setCell ⟨w.heap.size, 0, none⟩ (.int .i64 O)).setCell ⟨w.heap.size, 1, none⟩ (.int .u8 K)).setCell ⟨w.heap.size, 2, none⟩ (.int .u8 S)).setCell ⟨w.heap.size, 3, none⟩ (.int .u32 Q)).setCell ⟨w.heap.size, 4, none⟩ (.int .u32 V) = V2 at *
          obtain ⟨n0, n1, n2, n3, n4⟩ := hN2.c5
          refine hK.out _ _ ⟨n0, n1, n2, n3, n4, hG2.cell 0 (.int .i64 o) rfl⟩ (fun hHeld9 => ?_)
          clear n0 n1 n2 n3 n4
          clear hK K'
          clear z0 z1 z2 z3 z4
          obtain ⟨z0, z1, z2, z3, z4⟩ := hT2.c5
          have HB3 := Lib.hid hB3
          clear hT2 hN2 hG2 hB3
          refine wpAnyH_take (i := 16) (v := .bool true) (by simp only [List.getElem?_toArray, List.getElem?_cons_zero, List.getElem?_cons_succ]; rfl) (by kernel_rfl) (by kernel_rfl) (by kernel_rfl) (fun _ _ _ h => h) (Or.inl ⟨by rfl, ?_⟩) (by assumption) ?_
          · intro w hSw
            try dsimp only at hSw
            obtain ⟨s0, s1, s2, s3, s4, s5⟩ := hSw
            go_simp
          try simp only [Act.put, List.setIfInBounds_toArray, List.set_cons_zero, List.set_cons_succ]
          refine wpAnyH_done (by kernel_rfl) ?_ _
          refine NoPanic.normal ?_
          go_wp2
          refine bodyPost_ret (v := .tuple #[.agg #[.int .i64 O, .int .u8 K, .int .u8 S, .int .u32 Q, .int .u32 V], .bool true]) (by simp [results, Try.results139, go_sem, *]) rfl ?_
          exact ⟨rfl, HB3.out⟩
end Go.Proofs.Ytnmhhjgiakijgaa
