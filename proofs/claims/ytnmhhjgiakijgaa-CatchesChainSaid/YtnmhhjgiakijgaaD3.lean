/- Catches: the frame of a catch's body. -/
import Derived.Test.YtnmhhjgiakijgaaD2
namespace Go.Proofs.Ytnmhhjgiakijgaa
open Go.RowKit
set_option linter.unusedVariables false
set_option linter.unusedSimpArgs false

/-- the five fields of the frame of bytes -/
def f5 (l : List Int) : Array Value := #[.int .i64 (fO l), .int .u8 (fK l), .int .u8 (fS l), .int .u32 (fQ l), .int .u32 (fV l)]
/-- is a catch's body a frame of its owner? -/
def isF (s : Ct) : Bool := decide (errG (byV s.bd) = 0) && decide ((fO (byV s.bd) : Int) = s.o)

set_option maxHeartbeats 3200000 in
set_option maxRecDepth 20000 in
theorem frame_calls (B g : Nat) (r : Option Nat) (s : Ct) (w : World) (h : CS w B g r s) (hlen : s.bd.length ≤ 56000) :
    Calls Try.prog 138 #[.pointer (some ⟨g, 0, none⟩)] w fun e w' => e = .returned (.tuple #[.agg (f5 (byV s.bd)), .bool (isF s)]) ∧ Below w.heap.size w w' := by
  obtain ⟨hBg, A, c, hb, hm, hlc, -⟩ := h
  have HM := Lib.hid hm
  have HB := Lib.hid hb
  have c2 := hb.cell 2 (.slice A s.bd.length c) rfl
  have hglt := hb.lt
  clear hb hm
  go_enter Try.func138, Try.ntmps138
  go_wp2_with fail
  refine (bytes_calls A _ c s.bd _ (HM.out.rd.below (by repeat (first | exact Below.refl _ _ | apply Bw.alloc | apply Bw.drewN | apply Bw.drew | (refine Bw.step ?_ (by assumption))))) hlc HM.out.cap_le hlen).mono ?_
  rintro e w1 ⟨A1, m1, rfl, hl1, hm1, hb1⟩
  have HM1 := Lib.hid hm1
  have HL1 := Lib.hid hl1
  clear hm1 hl1
  go_wp2_with fail
  refine (get_calls A1 m1 m1 (byV s.bd) _ HM1.out.rd (Nat.le_refl _) HM1.out.cap_le (byV_bytes _)).mono ?_
  rintro e w2 ⟨rfl, hb2⟩
  have HB2 := Lib.hid ((by repeat (first | exact Below.refl _ _ | apply Bw.alloc | apply Bw.drewN | apply Bw.drew | (refine Bw.step ?_ (by assumption)))) : Below w.heap.size w w2)
  have hbw : Blk w2 g (ctV g s (.slice A s.bd.length c)) 146 := HB.out.below HB2.out
  have k0 := hbw.cell 0 (.int .i64 s.o) rfl
  have HBW := Lib.hid hbw
  clear hbw
  obtain ⟨V, hV⟩ : ∃ V, V = (w2.alloc (.cells #[.int .i64 (fO (byV s.bd)), .int .u8 (fK (byV s.bd)), .int .u8 (fS (byV s.bd)), .int .u32 (fQ (byV s.bd)), .int .u32 (fV (byV s.bd))] 89)).drew := ⟨_, rfl⟩
  have hVB : Below w2.heap.size w2 V := by subst hV; exact (by repeat (first | exact Below.refl _ _ | apply Bw.alloc | apply Bw.drewN | apply Bw.drew | (refine Bw.step ?_ (by assumption))))
  have hN : Blk V w2.heap.size #[.int .i64 (fO (byV s.bd)), .int .u8 (fK (byV s.bd)), .int .u8 (fS (byV s.bd)), .int .u32 (fQ (byV s.bd)), .int .u32 (fV (byV s.bd))] 89 := by subst hV; exact (Blk.new rfl).drew
  have hG : Blk V g (ctV g s (.slice A s.bd.length c)) 146 := HBW.out.below hVB
  have hT : Blk V w.heap.size #[.int .i64 0, .int .u8 0, .int .u8 0, .int .u32 0, .int .u32 0] 89 := (((Blk.new (w := w) rfl).below hb1).below hb2).below (show Below w2.heap.size w2 V from hVB)
  have hlt2 : w.heap.size < w2.heap.size := by have h1 := hb2.size; have h2 := hb1.size; simp at h2; omega
  obtain ⟨z0, z1, z2, z3, z4⟩ := hT.c5
  have j0 := hT.frozen 0
  have j1 := hT.frozen 1
  have j2 := hT.frozen 2
  have j3 := hT.frozen 3
  have j4 := hT.frozen 4
  have HN := Lib.hid hN
  have HG := Lib.hid hG
  have HT := Lib.hid hT
  have HVB := Lib.hid (show Below w.heap.size w V from (HB2.out.trans (hVB.mono (by omega))))
  clear hN hG hT hVB hb1 hb2
  have HS : errG (byV s.bd) = 0 ∨ ¬ errG (byV s.bd) = 0 := by omega
  rcases HS with he | he
  · have hq : (errG (byV s.bd) == 0) = true := by simp [he]
    have HE := Lib.hid he
    clear he
    by_cases ho : (fO (byV s.bd) : Int) = s.o
    · have hq2 : ((fO (byV s.bd) : Int) == s.o) = true := by simp [ho]
      have HO := Lib.hid ho
      clear ho
      go_wp2_with fail
      refine wp_region_noPanic ?_
      refine wp_region_held_drew (S := fun w' => w'.cell? ⟨w2.heap.size, 0, none⟩ = some (.int .i64 (fO (byV s.bd))) ∧ w'.cell? ⟨w2.heap.size, 1, none⟩ = some (.int .u8 (fK (byV s.bd))) ∧ w'.cell? ⟨w2.heap.size, 2, none⟩ = some (.int .u8 (fS (byV s.bd))) ∧ w'.cell? ⟨w2.heap.size, 3, none⟩ = some (.int .u32 (fQ (byV s.bd))) ∧ w'.cell? ⟨w2.heap.size, 4, none⟩ = some (.int .u32 (fV (byV s.bd))) ∧ w'.cell? ⟨g, 0, none⟩ = some (.int .i64 s.o)) (by kernel_rfl) ?_ (fun hHeld => ?_)
      · rewrite [← hV]
        obtain ⟨n0, n1, n2, n3, n4⟩ := HN.out.c5; exact ⟨n0, n1, n2, n3, n4, HG.out.cell 0 (.int .i64 s.o) rfl⟩
      rewrite [← hV]
      rewrite [← hV] at hHeld
      clear hV
      refine wpAnyH_take (i := 0) (v := (.agg #[.int .i64 (fO (byV s.bd)), .int .u8 (fK (byV s.bd)), .int .u8 (fS (byV s.bd)), .int .u32 (fQ (byV s.bd)), .int .u32 (fV (byV s.bd))])) (by simp only [List.getElem?_toArray, List.getElem?_cons_zero, List.getElem?_cons_succ]; rfl) (by kernel_rfl) (by kernel_rfl) (by kernel_rfl) (fun _ _ _ h => h) (Or.inl ⟨by rfl, ?_⟩) (by assumption) ?_
      · intro w hSw
        try dsimp only at hSw
        obtain ⟨s0, s1, s2, s3, s4, s5⟩ := hSw
        go_simp
      try simp only [Act.put, List.setIfInBounds_toArray, List.set_cons_zero, List.set_cons_succ]
      refine wpAnyH_take (i := 1) (v := .int .i64 (errG (byV s.bd))) (by simp only [List.getElem?_toArray, List.getElem?_cons_zero, List.getElem?_cons_succ]; rfl) (by kernel_rfl) (by kernel_rfl) (by kernel_rfl) (fun _ _ _ h => h) (Or.inl ⟨by rfl, ?_⟩) (by assumption) ?_
      · intro w hSw
        try dsimp only at hSw
        obtain ⟨s0, s1, s2, s3, s4, s5⟩ := hSw
        go_simp
      try simp only [Act.put, List.setIfInBounds_toArray, List.set_cons_zero, List.set_cons_succ]
      refine wpAnyH_take (i := 2) (v := .bool true) (by simp only [List.getElem?_toArray, List.getElem?_cons_zero, List.getElem?_cons_succ]; rfl) (by kernel_rfl) (by kernel_rfl) (by kernel_rfl) (fun _ _ _ h => h) (Or.inl ⟨by rfl, ?_⟩) (by assumption) ?_
      · intro w hSw
        try dsimp only at hSw
        obtain ⟨s0, s1, s2, s3, s4, s5⟩ := hSw
        go_simp
      try simp only [Act.put, List.setIfInBounds_toArray, List.set_cons_zero, List.set_cons_succ]
      refine wpAnyH_take (i := 3) (v := .bool true) (by simp only [List.getElem?_toArray, List.getElem?_cons_zero, List.getElem?_cons_succ]; rfl) (by kernel_rfl) (by kernel_rfl) (by kernel_rfl) (fun _ _ _ h => h) (Or.inl ⟨by rfl, ?_⟩) (by assumption) ?_
      · intro w hSw
        try dsimp only at hSw
        obtain ⟨s0, s1, s2, s3, s4, s5⟩ := hSw
        go_simp
      try simp only [Act.put, List.setIfInBounds_toArray, List.set_cons_zero, List.set_cons_succ]
      refine wpAnyH_take (i := 4) (v := .pointer (some ⟨w2.heap.size, 0, none⟩)) (by simp only [List.getElem?_toArray, List.getElem?_cons_zero, List.getElem?_cons_succ]; rfl) (by kernel_rfl) (by kernel_rfl) (by kernel_rfl) (fun _ _ _ h => h) (Or.inl ⟨by rfl, ?_⟩) (by assumption) ?_
      · intro w hSw
        try dsimp only at hSw
        obtain ⟨s0, s1, s2, s3, s4, s5⟩ := hSw
        go_simp
      try simp only [Act.put, List.setIfInBounds_toArray, List.set_cons_zero, List.set_cons_succ]
      refine wpAnyH_take (i := 5) (v := .int .i64 (fO (byV s.bd))) (by simp only [List.getElem?_toArray, List.getElem?_cons_zero, List.getElem?_cons_succ]; rfl) (by kernel_rfl) (by kernel_rfl) (by kernel_rfl) (fun _ _ _ h => h) (Or.inl ⟨by rfl, ?_⟩) (by assumption) ?_
      · intro w hSw
        try dsimp only at hSw
        obtain ⟨s0, s1, s2, s3, s4, s5⟩ := hSw
        go_simp
      try simp only [Act.put, List.setIfInBounds_toArray, List.set_cons_zero, List.set_cons_succ]
      refine wpAnyH_take (i := 6) (v := .pointer (some ⟨g, 0, none⟩)) (by simp only [List.getElem?_toArray, List.getElem?_cons_zero, List.getElem?_cons_succ]; rfl) (by kernel_rfl) (by kernel_rfl) (by kernel_rfl) (fun _ _ _ h => h) (Or.inl ⟨by rfl, ?_⟩) (by assumption) ?_
      · intro w hSw
        try dsimp only at hSw
        obtain ⟨s0, s1, s2, s3, s4, s5⟩ := hSw
        go_simp
      try simp only [Act.put, List.setIfInBounds_toArray, List.set_cons_zero, List.set_cons_succ]
      refine wpAnyH_take (i := 7) (v := .pointer (some ⟨g, 0, none⟩)) (by simp only [List.getElem?_toArray, List.getElem?_cons_zero, List.getElem?_cons_succ]; rfl) (by kernel_rfl) (by kernel_rfl) (by kernel_rfl) (fun _ _ _ h => h) (Or.inl ⟨by rfl, ?_⟩) (by assumption) ?_
      · intro w hSw
        try dsimp only at hSw
        obtain ⟨s0, s1, s2, s3, s4, s5⟩ := hSw
        go_simp
      try simp only [Act.put, List.setIfInBounds_toArray, List.set_cons_zero, List.set_cons_succ]
      refine wpAnyH_take (i := 8) (v := .pointer (some ⟨g, 0, none⟩)) (by simp only [List.getElem?_toArray, List.getElem?_cons_zero, List.getElem?_cons_succ]; rfl) (by kernel_rfl) (by kernel_rfl) (by kernel_rfl) (fun _ _ _ h => h) (Or.inl ⟨by rfl, ?_⟩) (by assumption) ?_
      · intro w hSw
        try dsimp only at hSw
        obtain ⟨s0, s1, s2, s3, s4, s5⟩ := hSw
        go_simp
      try simp only [Act.put, List.setIfInBounds_toArray, List.set_cons_zero, List.set_cons_succ]
      refine wpAnyH_take (i := 9) (v := .int .i64 s.o) (by simp only [List.getElem?_toArray, List.getElem?_cons_zero, List.getElem?_cons_succ]; rfl) (by kernel_rfl) (by kernel_rfl) (by kernel_rfl) (fun _ _ _ h => h) (Or.inl ⟨by rfl, ?_⟩) (by assumption) ?_
      · intro w hSw
        try dsimp only at hSw
        obtain ⟨s0, s1, s2, s3, s4, s5⟩ := hSw
        go_simp
      try simp only [Act.put, List.setIfInBounds_toArray, List.set_cons_zero, List.set_cons_succ]
      refine wpAnyH_take (i := 10) (v := .bool true) (by simp only [List.getElem?_toArray, List.getElem?_cons_zero, List.getElem?_cons_succ]; rfl) (by kernel_rfl) (by kernel_rfl) (by kernel_rfl) (fun _ _ _ h => h) (Or.inl ⟨by rfl, ?_⟩) (by assumption) ?_
      · intro w hSw
        try dsimp only at hSw
        obtain ⟨s0, s1, s2, s3, s4, s5⟩ := hSw
        go_simp
      try simp only [Act.put, List.setIfInBounds_toArray, List.set_cons_zero, List.set_cons_succ]
      refine wpAnyH_take (i := 11) (v := .bool true) (by simp only [List.getElem?_toArray, List.getElem?_cons_zero, List.getElem?_cons_succ]; rfl) (by kernel_rfl) (by kernel_rfl) (by kernel_rfl) (fun _ _ _ h => h) (Or.inl ⟨by rfl, ?_⟩) (by assumption) ?_
      · intro w hSw
        try dsimp only at hSw
        obtain ⟨s0, s1, s2, s3, s4, s5⟩ := hSw
        go_simp
      try simp only [Act.put, List.setIfInBounds_toArray, List.set_cons_zero, List.set_cons_succ]
      refine wpAnyH_ready (rs := [12]) (by kernel_rfl) (by simp) ?_
      refine AllReadyH.cons (by simp only [List.getElem?_toArray, List.getElem?_cons_zero, List.getElem?_cons_succ]; rfl) (fun K hK => ?_) AllReadyH.nil
      go_simp
      have hT2 := HT.out.set5 (.int .i64 (fO (byV s.bd))) (.int .u8 (fK (byV s.bd))) (.int .u8 (fS (byV s.bd))) (.int .u32 (fQ (byV s.bd))) (.int .u32 (fV (byV s.bd)))
      have hN2 := HN.out.other5 w.heap.size (by omega) (.int .i64 (fO (byV s.bd))) (.int .u8 (fK (byV s.bd))) (.int .u8 (fS (byV s.bd))) (.int .u32 (fQ (byV s.bd))) (.int .u32 (fV (byV s.bd)))
      have hG2 := HG.out.other5 w.heap.size (by omega) (.int .i64 (fO (byV s.bd))) (.int .u8 (fK (byV s.bd))) (.int .u8 (fS (byV s.bd))) (.int .u32 (fQ (byV s.bd))) (.int .u32 (fV (byV s.bd)))
      have hB3 := Bk.set5 HVB.out (Nat.le_refl _) (.int .i64 (fO (byV s.bd))) (.int .u8 (fK (byV s.bd))) (.int .u8 (fS (byV s.bd))) (.int .u32 (fQ (byV s.bd))) (.int .u32 (fV (byV s.bd)))
      generalize ((((V.setCell ⟨w.heap.size, 0, none⟩ (.int .i64 (fO (byV s.bd)))).setCell ⟨w.heap.size, 1, none⟩ (.int .u8 (fK (byV s.bd)))).setCell ⟨w.heap.size, 2, none⟩ (.int .u8 (fS (byV s.bd)))).setCell ⟨w.heap.size, 3, none⟩ (.int .u32 (fQ (byV s.bd)))).setCell ⟨w.heap.size, 4, none⟩ (.int .u32 (fV (byV s.bd))) = V2 at *
      obtain ⟨n0, n1, n2, n3, n4⟩ := hN2.c5
      refine hK.out _ _ ⟨n0, n1, n2, n3, n4, hG2.cell 0 (.int .i64 s.o) rfl⟩ (fun hHeld9 => ?_)
      clear n0 n1 n2 n3 n4
      clear hK K
      clear z0 z1 z2 z3 z4
      obtain ⟨z0, z1, z2, z3, z4⟩ := hT2.c5
      have HB3 := Lib.hid hB3
      clear hT2 hN2 hG2 hB3
      try simp only [Act.put, List.setIfInBounds_toArray, List.set_cons_zero, List.set_cons_succ]
      refine wpAnyH_take (i := 13) (v := .bool true) (by simp only [List.getElem?_toArray, List.getElem?_cons_zero, List.getElem?_cons_succ]; rfl) (by kernel_rfl) (by kernel_rfl) (by kernel_rfl) (fun _ _ _ h => h) (Or.inl ⟨by rfl, ?_⟩) (by assumption) ?_
      · intro w hSw
        try dsimp only at hSw
        obtain ⟨s0, s1, s2, s3, s4, s5⟩ := hSw
        go_simp
      try simp only [Act.put, List.setIfInBounds_toArray, List.set_cons_zero, List.set_cons_succ]
      refine wpAnyH_done (by kernel_rfl) ?_ _
      refine NoPanic.normal ?_
      go_wp2
      refine bodyPost_ret (v := .tuple #[.agg #[.int .i64 (fO (byV s.bd)), .int .u8 (fK (byV s.bd)), .int .u8 (fS (byV s.bd)), .int .u32 (fQ (byV s.bd)), .int .u32 (fV (byV s.bd))], .bool true]) (by simp [results, Try.results138, go_sem, *]) rfl ?_
      have HI : isF s = true := by unfold isF; rw [decide_eq_true HE.out, decide_eq_true HO.out]; rfl
      rewrite [HI]
      exact ⟨rfl, HB3.out⟩
    · have hq2 : ((fO (byV s.bd) : Int) == s.o) = false := by simp [ho]
      have HO := Lib.hid ho
      clear ho
      go_wp2_with fail
      refine wp_region_noPanic ?_
      refine wp_region_held_drew (S := fun w' => w'.cell? ⟨w2.heap.size, 0, none⟩ = some (.int .i64 (fO (byV s.bd))) ∧ w'.cell? ⟨w2.heap.size, 1, none⟩ = some (.int .u8 (fK (byV s.bd))) ∧ w'.cell? ⟨w2.heap.size, 2, none⟩ = some (.int .u8 (fS (byV s.bd))) ∧ w'.cell? ⟨w2.heap.size, 3, none⟩ = some (.int .u32 (fQ (byV s.bd))) ∧ w'.cell? ⟨w2.heap.size, 4, none⟩ = some (.int .u32 (fV (byV s.bd))) ∧ w'.cell? ⟨g, 0, none⟩ = some (.int .i64 s.o)) (by kernel_rfl) ?_ (fun hHeld => ?_)
      · rewrite [← hV]
        obtain ⟨n0, n1, n2, n3, n4⟩ := HN.out.c5; exact ⟨n0, n1, n2, n3, n4, HG.out.cell 0 (.int .i64 s.o) rfl⟩
      rewrite [← hV]
      rewrite [← hV] at hHeld
      clear hV
      refine wpAnyH_take (i := 0) (v := (.agg #[.int .i64 (fO (byV s.bd)), .int .u8 (fK (byV s.bd)), .int .u8 (fS (byV s.bd)), .int .u32 (fQ (byV s.bd)), .int .u32 (fV (byV s.bd))])) (by simp only [List.getElem?_toArray, List.getElem?_cons_zero, List.getElem?_cons_succ]; rfl) (by kernel_rfl) (by kernel_rfl) (by kernel_rfl) (fun _ _ _ h => h) (Or.inl ⟨by rfl, ?_⟩) (by assumption) ?_
      · intro w hSw
        try dsimp only at hSw
        obtain ⟨s0, s1, s2, s3, s4, s5⟩ := hSw
        go_simp
      try simp only [Act.put, List.setIfInBounds_toArray, List.set_cons_zero, List.set_cons_succ]
      refine wpAnyH_take (i := 1) (v := .int .i64 (errG (byV s.bd))) (by simp only [List.getElem?_toArray, List.getElem?_cons_zero, List.getElem?_cons_succ]; rfl) (by kernel_rfl) (by kernel_rfl) (by kernel_rfl) (fun _ _ _ h => h) (Or.inl ⟨by rfl, ?_⟩) (by assumption) ?_
      · intro w hSw
        try dsimp only at hSw
        obtain ⟨s0, s1, s2, s3, s4, s5⟩ := hSw
        go_simp
      try simp only [Act.put, List.setIfInBounds_toArray, List.set_cons_zero, List.set_cons_succ]
      refine wpAnyH_take (i := 2) (v := .bool true) (by simp only [List.getElem?_toArray, List.getElem?_cons_zero, List.getElem?_cons_succ]; rfl) (by kernel_rfl) (by kernel_rfl) (by kernel_rfl) (fun _ _ _ h => h) (Or.inl ⟨by rfl, ?_⟩) (by assumption) ?_
      · intro w hSw
        try dsimp only at hSw
        obtain ⟨s0, s1, s2, s3, s4, s5⟩ := hSw
        go_simp
      try simp only [Act.put, List.setIfInBounds_toArray, List.set_cons_zero, List.set_cons_succ]
      refine wpAnyH_take (i := 3) (v := .bool true) (by simp only [List.getElem?_toArray, List.getElem?_cons_zero, List.getElem?_cons_succ]; rfl) (by kernel_rfl) (by kernel_rfl) (by kernel_rfl) (fun _ _ _ h => h) (Or.inl ⟨by rfl, ?_⟩) (by assumption) ?_
      · intro w hSw
        try dsimp only at hSw
        obtain ⟨s0, s1, s2, s3, s4, s5⟩ := hSw
        go_simp
      try simp only [Act.put, List.setIfInBounds_toArray, List.set_cons_zero, List.set_cons_succ]
      refine wpAnyH_take (i := 4) (v := .pointer (some ⟨w2.heap.size, 0, none⟩)) (by simp only [List.getElem?_toArray, List.getElem?_cons_zero, List.getElem?_cons_succ]; rfl) (by kernel_rfl) (by kernel_rfl) (by kernel_rfl) (fun _ _ _ h => h) (Or.inl ⟨by rfl, ?_⟩) (by assumption) ?_
      · intro w hSw
        try dsimp only at hSw
        obtain ⟨s0, s1, s2, s3, s4, s5⟩ := hSw
        go_simp
      try simp only [Act.put, List.setIfInBounds_toArray, List.set_cons_zero, List.set_cons_succ]
      refine wpAnyH_take (i := 5) (v := .int .i64 (fO (byV s.bd))) (by simp only [List.getElem?_toArray, List.getElem?_cons_zero, List.getElem?_cons_succ]; rfl) (by kernel_rfl) (by kernel_rfl) (by kernel_rfl) (fun _ _ _ h => h) (Or.inl ⟨by rfl, ?_⟩) (by assumption) ?_
      · intro w hSw
        try dsimp only at hSw
        obtain ⟨s0, s1, s2, s3, s4, s5⟩ := hSw
        go_simp
      try simp only [Act.put, List.setIfInBounds_toArray, List.set_cons_zero, List.set_cons_succ]
      refine wpAnyH_take (i := 6) (v := .pointer (some ⟨g, 0, none⟩)) (by simp only [List.getElem?_toArray, List.getElem?_cons_zero, List.getElem?_cons_succ]; rfl) (by kernel_rfl) (by kernel_rfl) (by kernel_rfl) (fun _ _ _ h => h) (Or.inl ⟨by rfl, ?_⟩) (by assumption) ?_
      · intro w hSw
        try dsimp only at hSw
        obtain ⟨s0, s1, s2, s3, s4, s5⟩ := hSw
        go_simp
      try simp only [Act.put, List.setIfInBounds_toArray, List.set_cons_zero, List.set_cons_succ]
      refine wpAnyH_take (i := 7) (v := .pointer (some ⟨g, 0, none⟩)) (by simp only [List.getElem?_toArray, List.getElem?_cons_zero, List.getElem?_cons_succ]; rfl) (by kernel_rfl) (by kernel_rfl) (by kernel_rfl) (fun _ _ _ h => h) (Or.inl ⟨by rfl, ?_⟩) (by assumption) ?_
      · intro w hSw
        try dsimp only at hSw
        obtain ⟨s0, s1, s2, s3, s4, s5⟩ := hSw
        go_simp
      try simp only [Act.put, List.setIfInBounds_toArray, List.set_cons_zero, List.set_cons_succ]
      refine wpAnyH_take (i := 8) (v := .pointer (some ⟨g, 0, none⟩)) (by simp only [List.getElem?_toArray, List.getElem?_cons_zero, List.getElem?_cons_succ]; rfl) (by kernel_rfl) (by kernel_rfl) (by kernel_rfl) (fun _ _ _ h => h) (Or.inl ⟨by rfl, ?_⟩) (by assumption) ?_
      · intro w hSw
        try dsimp only at hSw
        obtain ⟨s0, s1, s2, s3, s4, s5⟩ := hSw
        go_simp
      try simp only [Act.put, List.setIfInBounds_toArray, List.set_cons_zero, List.set_cons_succ]
      refine wpAnyH_take (i := 9) (v := .int .i64 s.o) (by simp only [List.getElem?_toArray, List.getElem?_cons_zero, List.getElem?_cons_succ]; rfl) (by kernel_rfl) (by kernel_rfl) (by kernel_rfl) (fun _ _ _ h => h) (Or.inl ⟨by rfl, ?_⟩) (by assumption) ?_
      · intro w hSw
        try dsimp only at hSw
        obtain ⟨s0, s1, s2, s3, s4, s5⟩ := hSw
        go_simp
      try simp only [Act.put, List.setIfInBounds_toArray, List.set_cons_zero, List.set_cons_succ]
      refine wpAnyH_take (i := 10) (v := .bool false) (by simp only [List.getElem?_toArray, List.getElem?_cons_zero, List.getElem?_cons_succ]; rfl) (by kernel_rfl) (by kernel_rfl) (by kernel_rfl) (fun _ _ _ h => h) (Or.inl ⟨by rfl, ?_⟩) (by assumption) ?_
      · intro w hSw
        try dsimp only at hSw
        obtain ⟨s0, s1, s2, s3, s4, s5⟩ := hSw
        go_simp
      try simp only [Act.put, List.setIfInBounds_toArray, List.set_cons_zero, List.set_cons_succ]
      refine wpAnyH_take (i := 11) (v := .bool false) (by simp only [List.getElem?_toArray, List.getElem?_cons_zero, List.getElem?_cons_succ]; rfl) (by kernel_rfl) (by kernel_rfl) (by kernel_rfl) (fun _ _ _ h => h) (Or.inl ⟨by rfl, ?_⟩) (by assumption) ?_
      · intro w hSw
        try dsimp only at hSw
        obtain ⟨s0, s1, s2, s3, s4, s5⟩ := hSw
        go_simp
      try simp only [Act.put, List.setIfInBounds_toArray, List.set_cons_zero, List.set_cons_succ]
      refine wpAnyH_ready (rs := [12]) (by kernel_rfl) (by simp) ?_
      refine AllReadyH.cons (by simp only [List.getElem?_toArray, List.getElem?_cons_zero, List.getElem?_cons_succ]; rfl) (fun K hK => ?_) AllReadyH.nil
      go_simp
      have hT2 := HT.out.set5 (.int .i64 (fO (byV s.bd))) (.int .u8 (fK (byV s.bd))) (.int .u8 (fS (byV s.bd))) (.int .u32 (fQ (byV s.bd))) (.int .u32 (fV (byV s.bd)))
      have hN2 := HN.out.other5 w.heap.size (by omega) (.int .i64 (fO (byV s.bd))) (.int .u8 (fK (byV s.bd))) (.int .u8 (fS (byV s.bd))) (.int .u32 (fQ (byV s.bd))) (.int .u32 (fV (byV s.bd)))
      have hG2 := HG.out.other5 w.heap.size (by omega) (.int .i64 (fO (byV s.bd))) (.int .u8 (fK (byV s.bd))) (.int .u8 (fS (byV s.bd))) (.int .u32 (fQ (byV s.bd))) (.int .u32 (fV (byV s.bd)))
      have hB3 := Bk.set5 HVB.out (Nat.le_refl _) (.int .i64 (fO (byV s.bd))) (.int .u8 (fK (byV s.bd))) (.int .u8 (fS (byV s.bd))) (.int .u32 (fQ (byV s.bd))) (.int .u32 (fV (byV s.bd)))
      generalize ((((V.setCell ⟨w.heap.size, 0, none⟩ (.int .i64 (fO (byV s.bd)))).setCell ⟨w.heap.size, 1, none⟩ (.int .u8 (fK (byV s.bd)))).setCell ⟨w.heap.size, 2, none⟩ (.int .u8 (fS (byV s.bd)))).setCell ⟨w.heap.size, 3, none⟩ (.int .u32 (fQ (byV s.bd)))).setCell ⟨w.heap.size, 4, none⟩ (.int .u32 (fV (byV s.bd))) = V2 at *
      obtain ⟨n0, n1, n2, n3, n4⟩ := hN2.c5
      refine hK.out _ _ ⟨n0, n1, n2, n3, n4, hG2.cell 0 (.int .i64 s.o) rfl⟩ (fun hHeld9 => ?_)
      clear n0 n1 n2 n3 n4
      clear hK K
      clear z0 z1 z2 z3 z4
      obtain ⟨z0, z1, z2, z3, z4⟩ := hT2.c5
      have HB3 := Lib.hid hB3
      clear hT2 hN2 hG2 hB3
      try simp only [Act.put, List.setIfInBounds_toArray, List.set_cons_zero, List.set_cons_succ]
      refine wpAnyH_take (i := 13) (v := .bool false) (by simp only [List.getElem?_toArray, List.getElem?_cons_zero, List.getElem?_cons_succ]; rfl) (by kernel_rfl) (by kernel_rfl) (by kernel_rfl) (fun _ _ _ h => h) (Or.inl ⟨by rfl, ?_⟩) (by assumption) ?_
      · intro w hSw
        try dsimp only at hSw
        obtain ⟨s0, s1, s2, s3, s4, s5⟩ := hSw
        go_simp
      try simp only [Act.put, List.setIfInBounds_toArray, List.set_cons_zero, List.set_cons_succ]
      refine wpAnyH_done (by kernel_rfl) ?_ _
      refine NoPanic.normal ?_
      go_wp2
      refine bodyPost_ret (v := .tuple #[.agg #[.int .i64 (fO (byV s.bd)), .int .u8 (fK (byV s.bd)), .int .u8 (fS (byV s.bd)), .int .u32 (fQ (byV s.bd)), .int .u32 (fV (byV s.bd))], .bool false]) (by simp [results, Try.results138, go_sem, *]) rfl ?_
      have HI : isF s = false := by unfold isF; rw [decide_eq_true HE.out, decide_eq_false HO.out]; rfl
      rewrite [HI]
      exact ⟨rfl, HB3.out⟩
  · have hq : (errG (byV s.bd) == 0) = false := by simp [he]
    have HE := Lib.hid he
    clear he
    go_wp2_with fail
    refine wp_region_noPanic ?_
    refine wp_region_held_drew (S := fun w' => w'.cell? ⟨w2.heap.size, 0, none⟩ = some (.int .i64 (fO (byV s.bd))) ∧ w'.cell? ⟨w2.heap.size, 1, none⟩ = some (.int .u8 (fK (byV s.bd))) ∧ w'.cell? ⟨w2.heap.size, 2, none⟩ = some (.int .u8 (fS (byV s.bd))) ∧ w'.cell? ⟨w2.heap.size, 3, none⟩ = some (.int .u32 (fQ (byV s.bd))) ∧ w'.cell? ⟨w2.heap.size, 4, none⟩ = some (.int .u32 (fV (byV s.bd))) ∧ w'.cell? ⟨g, 0, none⟩ = some (.int .i64 s.o)) (by kernel_rfl) ?_ (fun hHeld => ?_)
    · rewrite [← hV]
      obtain ⟨n0, n1, n2, n3, n4⟩ := HN.out.c5; exact ⟨n0, n1, n2, n3, n4, HG.out.cell 0 (.int .i64 s.o) rfl⟩
    rewrite [← hV]
    rewrite [← hV] at hHeld
    clear hV
    refine wpAnyH_take (i := 0) (v := (.agg #[.int .i64 (fO (byV s.bd)), .int .u8 (fK (byV s.bd)), .int .u8 (fS (byV s.bd)), .int .u32 (fQ (byV s.bd)), .int .u32 (fV (byV s.bd))])) (by simp only [List.getElem?_toArray, List.getElem?_cons_zero, List.getElem?_cons_succ]; rfl) (by kernel_rfl) (by kernel_rfl) (by kernel_rfl) (fun _ _ _ h => h) (Or.inl ⟨by rfl, ?_⟩) (by assumption) ?_
    · intro w hSw
      try dsimp only at hSw
      obtain ⟨s0, s1, s2, s3, s4, s5⟩ := hSw
      go_simp
    try simp only [Act.put, List.setIfInBounds_toArray, List.set_cons_zero, List.set_cons_succ]
    refine wpAnyH_take (i := 1) (v := .int .i64 (errG (byV s.bd))) (by simp only [List.getElem?_toArray, List.getElem?_cons_zero, List.getElem?_cons_succ]; rfl) (by kernel_rfl) (by kernel_rfl) (by kernel_rfl) (fun _ _ _ h => h) (Or.inl ⟨by rfl, ?_⟩) (by assumption) ?_
    · intro w hSw
      try dsimp only at hSw
      obtain ⟨s0, s1, s2, s3, s4, s5⟩ := hSw
      go_simp
    try simp only [Act.put, List.setIfInBounds_toArray, List.set_cons_zero, List.set_cons_succ]
    refine wpAnyH_take (i := 2) (v := .bool false) (by simp only [List.getElem?_toArray, List.getElem?_cons_zero, List.getElem?_cons_succ]; rfl) (by kernel_rfl) (by kernel_rfl) (by kernel_rfl) (fun _ _ _ h => h) (Or.inl ⟨by rfl, ?_⟩) (by assumption) ?_
    · intro w hSw
      try dsimp only at hSw
      obtain ⟨s0, s1, s2, s3, s4, s5⟩ := hSw
      go_simp
    try simp only [Act.put, List.setIfInBounds_toArray, List.set_cons_zero, List.set_cons_succ]
    refine wpAnyH_take (i := 3) (v := .bool false) (by simp only [List.getElem?_toArray, List.getElem?_cons_zero, List.getElem?_cons_succ]; rfl) (by kernel_rfl) (by kernel_rfl) (by kernel_rfl) (fun _ _ _ h => h) (Or.inl ⟨by rfl, ?_⟩) (by assumption) ?_
    · intro w hSw
      try dsimp only at hSw
      obtain ⟨s0, s1, s2, s3, s4, s5⟩ := hSw
      go_simp
    try simp only [Act.put, List.setIfInBounds_toArray, List.set_cons_zero, List.set_cons_succ]
    refine wpAnyH_take (i := 4) (v := undef) (by simp only [List.getElem?_toArray, List.getElem?_cons_zero, List.getElem?_cons_succ]; rfl) (by kernel_rfl) (by kernel_rfl) (by kernel_rfl) (fun _ _ _ h => h) (Or.inr ⟨by rfl, rfl⟩) (by assumption) ?_
    try simp only [Act.put, List.setIfInBounds_toArray, List.set_cons_zero, List.set_cons_succ]
    refine wpAnyH_take (i := 5) (v := undef) (by simp only [List.getElem?_toArray, List.getElem?_cons_zero, List.getElem?_cons_succ]; rfl) (by kernel_rfl) (by kernel_rfl) (by kernel_rfl) (fun _ _ _ h => h) (Or.inr ⟨by rfl, rfl⟩) (by assumption) ?_
    try simp only [Act.put, List.setIfInBounds_toArray, List.set_cons_zero, List.set_cons_succ]
    refine wpAnyH_take (i := 6) (v := undef) (by simp only [List.getElem?_toArray, List.getElem?_cons_zero, List.getElem?_cons_succ]; rfl) (by kernel_rfl) (by kernel_rfl) (by kernel_rfl) (fun _ _ _ h => h) (Or.inr ⟨by rfl, rfl⟩) (by assumption) ?_
    try simp only [Act.put, List.setIfInBounds_toArray, List.set_cons_zero, List.set_cons_succ]
    refine wpAnyH_take (i := 7) (v := undef) (by simp only [List.getElem?_toArray, List.getElem?_cons_zero, List.getElem?_cons_succ]; rfl) (by kernel_rfl) (by kernel_rfl) (by kernel_rfl) (fun _ _ _ h => h) (Or.inr ⟨by rfl, rfl⟩) (by assumption) ?_
    try simp only [Act.put, List.setIfInBounds_toArray, List.set_cons_zero, List.set_cons_succ]
    refine wpAnyH_take (i := 8) (v := undef) (by simp only [List.getElem?_toArray, List.getElem?_cons_zero, List.getElem?_cons_succ]; rfl) (by kernel_rfl) (by kernel_rfl) (by kernel_rfl) (fun _ _ _ h => h) (Or.inr ⟨by rfl, rfl⟩) (by assumption) ?_
    try simp only [Act.put, List.setIfInBounds_toArray, List.set_cons_zero, List.set_cons_succ]
    refine wpAnyH_take (i := 9) (v := undef) (by simp only [List.getElem?_toArray, List.getElem?_cons_zero, List.getElem?_cons_succ]; rfl) (by kernel_rfl) (by kernel_rfl) (by kernel_rfl) (fun _ _ _ h => h) (Or.inr ⟨by rfl, rfl⟩) (by assumption) ?_
    try simp only [Act.put, List.setIfInBounds_toArray, List.set_cons_zero, List.set_cons_succ]
    refine wpAnyH_take (i := 10) (v := undef) (by simp only [List.getElem?_toArray, List.getElem?_cons_zero, List.getElem?_cons_succ]; rfl) (by kernel_rfl) (by kernel_rfl) (by kernel_rfl) (fun _ _ _ h => h) (Or.inr ⟨by rfl, rfl⟩) (by assumption) ?_
    try simp only [Act.put, List.setIfInBounds_toArray, List.set_cons_zero, List.set_cons_succ]
    refine wpAnyH_take (i := 11) (v := .bool false) (by simp only [List.getElem?_toArray, List.getElem?_cons_zero, List.getElem?_cons_succ]; rfl) (by kernel_rfl) (by kernel_rfl) (by kernel_rfl) (fun _ _ _ h => h) (Or.inl ⟨by rfl, ?_⟩) (by assumption) ?_
    · intro w hSw
      try dsimp only at hSw
      obtain ⟨s0, s1, s2, s3, s4, s5⟩ := hSw
      go_simp
    try simp only [Act.put, List.setIfInBounds_toArray, List.set_cons_zero, List.set_cons_succ]
    refine wpAnyH_ready (rs := [12]) (by kernel_rfl) (by simp) ?_
    refine AllReadyH.cons (by simp only [List.getElem?_toArray, List.getElem?_cons_zero, List.getElem?_cons_succ]; rfl) (fun K hK => ?_) AllReadyH.nil
    go_simp
    have hT2 := HT.out.set5 (.int .i64 (fO (byV s.bd))) (.int .u8 (fK (byV s.bd))) (.int .u8 (fS (byV s.bd))) (.int .u32 (fQ (byV s.bd))) (.int .u32 (fV (byV s.bd)))
    have hN2 := HN.out.other5 w.heap.size (by omega) (.int .i64 (fO (byV s.bd))) (.int .u8 (fK (byV s.bd))) (.int .u8 (fS (byV s.bd))) (.int .u32 (fQ (byV s.bd))) (.int .u32 (fV (byV s.bd)))
    have hG2 := HG.out.other5 w.heap.size (by omega) (.int .i64 (fO (byV s.bd))) (.int .u8 (fK (byV s.bd))) (.int .u8 (fS (byV s.bd))) (.int .u32 (fQ (byV s.bd))) (.int .u32 (fV (byV s.bd)))
    have hB3 := Bk.set5 HVB.out (Nat.le_refl _) (.int .i64 (fO (byV s.bd))) (.int .u8 (fK (byV s.bd))) (.int .u8 (fS (byV s.bd))) (.int .u32 (fQ (byV s.bd))) (.int .u32 (fV (byV s.bd)))
    generalize ((((V.setCell ⟨w.heap.size, 0, none⟩ (.int .i64 (fO (byV s.bd)))).setCell ⟨w.heap.size, 1, none⟩ (.int .u8 (fK (byV s.bd)))).setCell ⟨w.heap.size, 2, none⟩ (.int .u8 (fS (byV s.bd)))).setCell ⟨w.heap.size, 3, none⟩ (.int .u32 (fQ (byV s.bd)))).setCell ⟨w.heap.size, 4, none⟩ (.int .u32 (fV (byV s.bd))) = V2 at *
    obtain ⟨n0, n1, n2, n3, n4⟩ := hN2.c5
    refine hK.out _ _ ⟨n0, n1, n2, n3, n4, hG2.cell 0 (.int .i64 s.o) rfl⟩ (fun hHeld9 => ?_)
    clear n0 n1 n2 n3 n4
    clear hK K
    clear z0 z1 z2 z3 z4
    obtain ⟨z0, z1, z2, z3, z4⟩ := hT2.c5
    have HB3 := Lib.hid hB3
    clear hT2 hN2 hG2 hB3
    try simp only [Act.put, List.setIfInBounds_toArray, List.set_cons_zero, List.set_cons_succ]
    refine wpAnyH_take (i := 13) (v := .bool false) (by simp only [List.getElem?_toArray, List.getElem?_cons_zero, List.getElem?_cons_succ]; rfl) (by kernel_rfl) (by kernel_rfl) (by kernel_rfl) (fun _ _ _ h => h) (Or.inl ⟨by rfl, ?_⟩) (by assumption) ?_
    · intro w hSw
      try dsimp only at hSw
      obtain ⟨s0, s1, s2, s3, s4, s5⟩ := hSw
      go_simp
    try simp only [Act.put, List.setIfInBounds_toArray, List.set_cons_zero, List.set_cons_succ]
    refine wpAnyH_done (by kernel_rfl) ?_ _
    refine NoPanic.normal ?_
    go_wp2
    refine bodyPost_ret (v := .tuple #[.agg #[.int .i64 (fO (byV s.bd)), .int .u8 (fK (byV s.bd)), .int .u8 (fS (byV s.bd)), .int .u32 (fQ (byV s.bd)), .int .u32 (fV (byV s.bd))], .bool false]) (by simp [results, Try.results138, go_sem, *]) rfl ?_
    have HI : isF s = false := by unfold isF; rw [decide_eq_false HE.out]; rfl
    rewrite [HI]
    exact ⟨rfl, HB3.out⟩
end Go.Proofs.Ytnmhhjgiakijgaa
