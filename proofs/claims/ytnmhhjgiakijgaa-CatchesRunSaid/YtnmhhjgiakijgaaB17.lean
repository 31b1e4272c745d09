/- CatchesRun: what the call returns. -/
import Derived.Test.YtnmhhjgiakijgaaE10
namespace Go.Proofs.Ytnmhhjgiakijgaa
open Go.RowKit
set_option linter.unusedVariables false
set_option linter.unusedSimpArgs false

theorem mod16 (k : Nat) (h : k ≤ 60000) : ((k : Int) % 16 = ((k % 16 : Nat) : Int)) ∧ ((k : Int).tmod 16 = ((k % 16 : Nat) : Int)) ∧ IntKind.i64.wrap ((k % 16 : Nat) : Int) = ((k % 16 : Nat) : Int) := by
  refine ⟨by omega, by rw [Int.tmod_eq_emod_of_nonneg (by omega)]; omega, ?_⟩
  simp [IntKind.wrap, IntKind.signed, IntKind.bits]; omega

set_option maxHeartbeats 12800000 in
set_option maxRecDepth 20000 in
theorem run_walk (o : Int) (A D : Option Addr) (n c m d : Nat) (xs ys : List Int) (w : World) (hr : Rd w .u8 A n xs) (hc : n ≤ c) (bx : bytesOk xs) (hs : Rd w .u8 D m ys) (hd : m ≤ d) (hby : bytesOk ys) :
    Calls Try.prog 19 #[.int .i64 o, .slice A n c, .slice D m d] w fun e w' => e = .returned (.bool true) ∧ Below w.heap.size w w' := by
  by_cases h300 : n ≤ 300 ∧ m ≤ 300
  · obtain ⟨hn, hm⟩ := h300
    have hn1 : ¬ (300 < n) := by omega
    have hm1 : ¬ (300 < m) := by omega
    by_cases ho : o < 0 ∨ 8 ≤ o
    · have HN := Lib.hid (fun w => new77_bad o w ho)
      have HN2 := Lib.hid (fun w => refnew_bad o w ho)
      clear hr hs ho
      go_enter Try.func19, Try.ntmps19
      go_wp2_with fail
      refine (HN.out _).mono ?_; rintro e w' ⟨rfl, rfl⟩
      go_wp2_with fail
      refine (HN2.out _).mono ?_; rintro e w' ⟨rfl, rfl⟩
      go_wp2_with fail
      refine (lives09 _).mono ?_; rintro e w2 ⟨rfl, hb2⟩
      go_wp2
      go_ret
      exact ⟨rfl, (by repeat (first | exact Below.refl _ _ | apply Bw.alloc | apply Bw.drewN | apply Bw.drew | (refine Bw.step ?_ (by assumption))))⟩
    · have HN := Lib.hid (fun w => new77_calls o w (by omega) (by omega))
      have HN2 := Lib.hid (fun w => refnew_calls o w (by omega) (by omega))
      obtain ⟨N, hN⟩ : ∃ N, max n m = N := ⟨_, rfl⟩
      have hmax := fun ats ty wx => run_max (P := Try.prog) ty wx ats n m
      rw [hN] at hmax
      have hN3 : N ≤ 300 := by omega
      have HAX : Hid (∀ (i : Nat) (w' : World), i ≤ 60000 → Below w.heap.size w w' → Calls Try.prog 79 #[.slice A n c, .int .i64 i] w' fun e w'' => e = .returned (.int .u8 (atN xs i)) ∧ w' = w'') := fun i w' hi hb => atN_calls A n c xs i w' (hr.below hb) hc (by omega) hi bx
      have HAY : Hid (∀ (i : Nat) (w' : World), i ≤ 60000 → Below w.heap.size w w' → Calls Try.prog 79 #[.slice D m d, .int .i64 i] w' fun e w'' => e = .returned (.int .u8 (atN ys i)) ∧ w' = w'') := fun i w' hi hb => atN_calls D m d ys i w' (hs.below hb) hd (by omega) hi hby
      clear hr hs ho hN
      go_enter Try.func19, Try.ntmps19
      go_wp2_with fail
      refine (HN.out _).mono ?_; rintro e w1 ⟨rfl, hcs1, hb1⟩
      have HCS1 := Lib.hid hcs1
      have HB1 := Lib.hid hb1
      clear hcs1 hb1
      go_wp2_with fail
      refine (HN2.out _).mono ?_; rintro e w2 ⟨rfl, rfl⟩
      have hlt := HCS1.out.lt
      have HCS2 := Lib.hid (HCS1.out.alloc (.cells #[.int .i64 o, .slice none 0 0, .slice none 0 0] 139))
      have HRS2 := Lib.hid ((RS.new w1 o (knF xs) (knF ys)).mono HB1.out.size)
      have HAP2 := Lib.hid (show Ap w.heap.size w1.heap.size none none none from ⟨by omega, by simp, by simp, by simp, by simp, by simp⟩)
      have HB2 := Lib.hid (show Below w.heap.size w (w1.alloc (.cells #[.int .i64 o, .slice none 0 0, .slice none 0 0] 139)) from Bw.alloc HB1.out _)
      obtain ⟨g, hg⟩ : ∃ g, g = w.heap.size := ⟨_, rfl⟩
      obtain ⟨g2, hg2⟩ : ∃ g, g = w1.heap.size := ⟨_, rfl⟩
      go_wp2_with fail
      generalize (w1.alloc (.cells #[.int .i64 o, .slice none 0 0, .slice none 0 0] 139)) = V at *
      rewrite [← hg2]
      rw [← hg2] at HRS2 HAP2
      clear hlt hg hg2
      clear g
      obtain ⟨g, hg⟩ : ∃ g, g = w.heap.size := ⟨_, rfl⟩
      rw [← hg] at HCS2 HAP2
      have HCS2 := Lib.hid (show CS V w.heap.size g none (stN o (atN xs) (atN ys) 0) from by rw [← hg]; exact HCS2.out)
      rewrite [← hg]
      clear hg
      have HRS2 := Lib.hid (show RS V w.heap.size g2 none none o 0 (knF xs) (knF ys) from HRS2.out)
      have HGB := Lib.hid (show w.heap.size ≤ g from HCS2.out.ge)
      go_loopw [11] (fun i wr => ∃ (k n1 : Nat) (r a b : Option Nat), k ≤ N ∧ i = .int .i64 k ∧ Hid (n1 = min k 114) ∧ Hid (CS wr w.heap.size g r (stN o (atN xs) (atN ys) k)) ∧ Hid (RS wr w.heap.size g2 a b o n1 (knF xs) (knF ys)) ∧ Hid (Ap g g2 r a b) ∧ Hid (Below w.heap.size w wr))
        (fun i _ => N - (intOf i).toNat)
      case atStart => exact ⟨0, 0, none, none, none, Nat.zero_le _, rfl, Lib.hid (by omega), HCS2, HRS2, HAP2, HB2⟩
      case round =>
        obtain ⟨k, n1, r, a, b, hk, rfl, HN1, HCS, HRS, HAP, HB⟩ := hrel
        by_cases hlt : k < N
        · have HX := Lib.hid (HAX.out k _ (by omega) HB.out)
          have HY := Lib.hid (HAY.out k _ (by omega) HB.out)
          obtain ⟨n4, hn4⟩ : ∃ n4, min (k + 1) 114 = n4 := ⟨_, rfl⟩
          obtain ⟨ov, hov⟩ : ∃ ov, outF o (knF xs) (knF ys) k = ov := ⟨_, rfl⟩
          obtain ⟨X, hX⟩ : ∃ X, atN xs k = X := ⟨_, rfl⟩
          obtain ⟨Y, hY⟩ : ∃ Y, atN ys k = Y := ⟨_, rfl⟩
          obtain ⟨s1, hs1⟩ : ∃ s1, stN o (atN xs) (atN ys) (k + 1) = s1 := ⟨_, rfl⟩
          have HST : Hid (∀ {r : Option Nat} (w' : World), CS w' w.heap.size g r (stN o (atN xs) (atN ys) k) → Calls Try.prog 80 #[.pointer (some ⟨g, 0, none⟩), .int .u8 X, .int .u8 Y] w' fun e w'' => e = .returned (.int .u8 ov) ∧ ∃ r', CS w'' w.heap.size g r' s1 ∧ Keep w' w'' g r r' ∧ Below w.heap.size w' w'') := fun {r} w' h => by
            have := stepN_calls o (atN xs) (atN ys) k w.heap.size g r w' h
            rw [hX, hY, hs1] at this
            rw [← hov]
            exact this
          have HRST : Hid (∀ {a b : Option Nat} (w' : World), RS w' w.heap.size g2 a b o n1 (knF xs) (knF ys) → Calls Try.prog 81 #[.pointer (some ⟨g2, 0, none⟩), .int .u8 X, .int .u8 Y] w' fun e w'' => e = .returned (.int .u8 ov) ∧ ∃ a' b', RS w'' w.heap.size g2 a' b' o n4 (knF xs) (knF ys) ∧ KeepR w' w'' g2 a b a' b' ∧ Below w.heap.size w' w'') := fun {a b} w' h => by
            have := rstepN_calls xs ys k HN1.out h
            rw [hX, hY, hov, hn4] at this
            exact this
          have HHAD : Hid (∀ {r : Option Nat} (w' : World), CS w' w.heap.size g r s1 → Calls Try.prog 82 #[.pointer (some ⟨g, 0, none⟩)] w' fun e w'' => e = .returned (.int .i64 n4) ∧ w' = w'') := fun {r} w' h => by
            have := had_calls w.heap.size g r s1 w' h
            rw [← hs1, stN_had, hn4] at this
            exact this
          obtain ⟨hi, hhi⟩ : ∃ hi, hiP o (knF xs) (knF ys) n4 = hi := ⟨_, rfl⟩
          obtain ⟨L, hL⟩ : ∃ L, hiB o (knF xs) (knF ys) n4 = L := ⟨_, rfl⟩
          obtain ⟨ul, hul⟩ : ∃ ul, unF (knF xs) (knF ys) n4 = ul := ⟨_, rfl⟩
          have HHI : Hid (∀ {r : Option Nat} (w' : World), CS w' w.heap.size g r s1 → Calls Try.prog 83 #[.pointer (some ⟨g, 0, none⟩)] w' fun e w'' => e = .returned (.tuple #[.agg (f5 L), .bool hi]) ∧ Below w'.heap.size w' w'') := fun {r} w' h => by
            rw [← hs1] at h
            have := hiN_calls o (atN xs) (atN ys) (k + 1) w.heap.size g r w' h
            obtain ⟨q1, q2⟩ := stN_hi o (atN xs) (atN ys) (k + 1) n4 hn4.symm
            rw [q2, q1] at this
            have hq : hiP o (fun i => knw (atN xs i)) (fun i => knw (atN ys i)) n4 = hi := hhi
            have hq2 : hiB o (fun i => knw (atN xs i)) (fun i => knw (atN ys i)) n4 = L := hL
            rw [hq, hq2] at this
            exact this
          have HRHI : Hid (∀ {A1 A2 : Option Addr} {c1 c2 : Nat} (w' : World), RC w' g2 o A1 A2 c1 c2 n4 (knF xs) (knF ys) → Calls Try.prog 84 #[.pointer (some ⟨g2, 0, none⟩)] w' fun e w'' => e = .returned (.tuple #[.agg (f5 L), .bool hi]) ∧ Below w'.heap.size w' w'') := fun {A1 A2 c1 c2} w' h => by
            have := rhigh_calls h
            rw [hhi, hL] at this
            exact this
          have HUL : Hid (∀ {r : Option Nat} (w' : World), CS w' w.heap.size g r s1 → Calls Try.prog 85 #[.pointer (some ⟨g, 0, none⟩)] w' fun e w'' => e = .returned (.int .i64 ul) ∧ w' = w'') := fun {r} w' h => by
            have := unlike_calls w.heap.size g r s1 w' h
            rw [← hs1, stN_ul o (atN xs) (atN ys) (k + 1) n4 (Nat.succ_pos k) hn4.symm] at this
            have hq : unF (fun i => knw (atN xs i)) (fun i => knw (atN ys i)) n4 = ul := hul
            rw [hq] at this
            exact this
          have HRUL : Hid (∀ {A1 A2 : Option Addr} {c1 c2 : Nat} (w' : World), RC w' g2 o A1 A2 c1 c2 n4 (knF xs) (knF ys) → Calls Try.prog 86 #[.pointer (some ⟨g2, 0, none⟩)] w' fun e w'' => e = .returned (.int .i64 ul) ∧ Below w'.heap.size w' w'') := fun {A1 A2 c1 c2} w' h => by
            have := runlike_calls h
            rw [hul] at this
            exact this
          obtain ⟨O, hO⟩ : ∃ O, fO L = O := ⟨_, rfl⟩
          obtain ⟨K, hK⟩ : ∃ K, fK L = K := ⟨_, rfl⟩
          obtain ⟨S, hS⟩ : ∃ S, fS L = S := ⟨_, rfl⟩
          obtain ⟨Q, hQ⟩ : ∃ Q, fQ L = Q := ⟨_, rfl⟩
          obtain ⟨Z, hZ⟩ : ∃ Z, fV L = Z := ⟨_, rfl⟩
          rw [show f5 L = #[.int .i64 O, .int .u8 K, .int .u8 S, .int .u32 Q, .int .u32 Z] by unfold f5; rw [hO, hK, hS, hQ, hZ]] at HHI HRHI
          obtain ⟨t1, t2, t3⟩ := mod16 k (by omega)
          obtain ⟨mk, hmk⟩ : ∃ mk, k % 16 = mk := ⟨_, rfl⟩
          rw [hmk] at t1 t2 t3
          have HS1 := Lib.hid hs1
          have HN4 := Lib.hid hn4
          rw [hX] at HX
          rw [hY] at HY
          clear hn4 hov hX hY hs1 hhi hL hul hO hK hS hQ hZ hmk
          go_wp2_with fail
          refine HX.out.mono ?_; rintro e w' ⟨rfl, rfl⟩
          go_wp2_with fail
          refine HY.out.mono ?_; rintro e w' ⟨rfl, rfl⟩
          go_wp2_with fail
          refine wp_region_noPanic ?_
          refine wp_region_held_drew (S := fun _ => True) (by kernel_rfl) trivial (fun hHeld => ?_)
          refine wpAnyH_take (i := 0) (v := .pointer (some ⟨g, 0, none⟩)) (by simp only [List.getElem?_toArray, List.getElem?_cons_zero, List.getElem?_cons_succ]; rfl) (by kernel_rfl) (by kernel_rfl) (by kernel_rfl) (fun _ _ _ h => h) (Or.inl ⟨by rfl, ?_⟩) (by assumption) ?_
          · intro w hSw
            try dsimp only at hSw
            go_simp
          try simp only [Act.put, List.setIfInBounds_toArray, List.set_cons_zero, List.set_cons_succ]
          refine wpAnyH_take (i := 1) (v := .int .u8 X) (by simp only [List.getElem?_toArray, List.getElem?_cons_zero, List.getElem?_cons_succ]; rfl) (by kernel_rfl) (by kernel_rfl) (by kernel_rfl) (fun _ _ _ h => h) (Or.inl ⟨by rfl, ?_⟩) (by assumption) ?_
          · intro w hSw
            try dsimp only at hSw
            go_simp
          try simp only [Act.put, List.setIfInBounds_toArray, List.set_cons_zero, List.set_cons_succ]
          refine wpAnyH_take (i := 2) (v := .int .u8 Y) (by simp only [List.getElem?_toArray, List.getElem?_cons_zero, List.getElem?_cons_succ]; rfl) (by kernel_rfl) (by kernel_rfl) (by kernel_rfl) (fun _ _ _ h => h) (Or.inl ⟨by rfl, ?_⟩) (by assumption) ?_
          · intro w hSw
            try dsimp only at hSw
            go_simp
          try simp only [Act.put, List.setIfInBounds_toArray, List.set_cons_zero, List.set_cons_succ]
          refine wpAnyH_take (i := 4) (v := .pointer (some ⟨g2, 0, none⟩)) (by simp only [List.getElem?_toArray, List.getElem?_cons_zero, List.getElem?_cons_succ]; rfl) (by kernel_rfl) (by kernel_rfl) (by kernel_rfl) (fun _ _ _ h => h) (Or.inl ⟨by rfl, ?_⟩) (by assumption) ?_
          · intro w hSw
            try dsimp only at hSw
            go_simp
          try simp only [Act.put, List.setIfInBounds_toArray, List.set_cons_zero, List.set_cons_succ]
          refine wpAnyH_take (i := 5) (v := .int .u8 X) (by simp only [List.getElem?_toArray, List.getElem?_cons_zero, List.getElem?_cons_succ]; rfl) (by kernel_rfl) (by kernel_rfl) (by kernel_rfl) (fun _ _ _ h => h) (Or.inl ⟨by rfl, ?_⟩) (by assumption) ?_
          · intro w hSw
            try dsimp only at hSw
            go_simp
          try simp only [Act.put, List.setIfInBounds_toArray, List.set_cons_zero, List.set_cons_succ]
          refine wpAnyH_take (i := 6) (v := .int .u8 Y) (by simp only [List.getElem?_toArray, List.getElem?_cons_zero, List.getElem?_cons_succ]; rfl) (by kernel_rfl) (by kernel_rfl) (by kernel_rfl) (fun _ _ _ h => h) (Or.inl ⟨by rfl, ?_⟩) (by assumption) ?_
          · intro w hSw
            try dsimp only at hSw
            go_simp
          try simp only [Act.put, List.setIfInBounds_toArray, List.set_cons_zero, List.set_cons_succ]
          refine wpAnyH_ready (rs := [3]) (by kernel_rfl) (by simp) ?_
          refine AllReadyH.cons (by simp only [List.getElem?_toArray, List.getElem?_cons_zero, List.getElem?_cons_succ]; rfl) (fun K hK => ?_) AllReadyH.nil
          go_simp
          go_at_call 80
          refine (HST.out _ (HCS.out.below (by repeat (first | exact Below.refl _ _ | apply Bw.alloc | apply Bw.drewN | apply Bw.drew | (refine Bw.step ?_ (by assumption)))))).mono ?_; rintro e w3 ⟨rfl, r3, hcs3, hkp3, hb3⟩
          have h3 := HRS.out.below (show Below wr.heap.size wr wr.drew from (by repeat (first | exact Below.refl _ _ | apply Bw.alloc | apply Bw.drewN | apply Bw.drew | (refine Bw.step ?_ (by assumption)))))
          have HRS3 := Lib.hid (h3.keep hkp3 HAP.out)
          have HCS3 := Lib.hid hcs3
          have HB3 := Lib.hid ((show Below w.heap.size w wr.drew from Bw.step HB.out (by repeat (first | exact Below.refl _ _ | apply Bw.alloc | apply Bw.drewN | apply Bw.drew | (refine Bw.step ?_ (by assumption))))).trans hb3)
          clear h3 hcs3 hkp3 hb3
          refine hK.out _ _ trivial (fun hHeld => ?_)
          clear hK K
          try simp only [Act.put, List.setIfInBounds_toArray, List.set_cons_zero, List.set_cons_succ]
          refine wpAnyH_ready (rs := [7]) (by kernel_rfl) (by simp) ?_
          refine AllReadyH.cons (by simp only [List.getElem?_toArray, List.getElem?_cons_zero, List.getElem?_cons_succ]; rfl) (fun K hK => ?_) AllReadyH.nil
          go_simp
          go_at_call 81
          refine (HRST.out _ HRS3.out.1).mono ?_; rintro e w4 ⟨rfl, a4, b4, hrs4, hkp4, hb4⟩
          have HCS4 := Lib.hid (HCS3.out.keepR hkp4 HRS3.out.2)
          have HRS4 := Lib.hid hrs4
          have HB4 := Lib.hid (HB3.out.trans hb4)
          obtain ⟨D1, e1, D2, e2, hrc4⟩ := hrs4.rc
          have HRC4 := Lib.hid hrc4
          have x1 := hrc4.blk.cell 1 (.slice D1 n4 e1) rfl
          have HHD := Lib.hid (HHAD.out _ HCS4.out.1)
          clear hrs4 hkp4 hb4 hrc4
          refine hK.out _ _ trivial (fun hHeld => ?_)
          clear hK K
          try simp only [Act.put, List.setIfInBounds_toArray, List.set_cons_zero, List.set_cons_succ]
          refine wpAnyH_take (i := 8) (v := .bool false) (by simp only [List.getElem?_toArray, List.getElem?_cons_zero, List.getElem?_cons_succ]; rfl) (by kernel_rfl) (by kernel_rfl) (by kernel_rfl) (fun _ _ _ h => h) (Or.inl ⟨by rfl, ?_⟩) (by assumption) ?_
          · intro w hSw
            try dsimp only at hSw
            go_simp
          try simp only [Act.put, List.setIfInBounds_toArray, List.set_cons_zero, List.set_cons_succ]
          refine wpAnyH_take (i := 9) (v := .bool false) (by simp only [List.getElem?_toArray, List.getElem?_cons_zero, List.getElem?_cons_succ]; rfl) (by kernel_rfl) (by kernel_rfl) (by kernel_rfl) (fun _ _ _ h => h) (Or.inl ⟨by rfl, ?_⟩) (by assumption) ?_
          · intro w hSw
            try dsimp only at hSw
            go_simp
          try simp only [Act.put, List.setIfInBounds_toArray, List.set_cons_zero, List.set_cons_succ]
          refine wpAnyH_take (i := 10) (v := .pointer (some ⟨g, 0, none⟩)) (by simp only [List.getElem?_toArray, List.getElem?_cons_zero, List.getElem?_cons_succ]; rfl) (by kernel_rfl) (by kernel_rfl) (by kernel_rfl) (fun _ _ _ h => h) (Or.inl ⟨by rfl, ?_⟩) (by assumption) ?_
          · intro w hSw
            try dsimp only at hSw
            go_simp
          try simp only [Act.put, List.setIfInBounds_toArray, List.set_cons_zero, List.set_cons_succ]
          refine wpAnyH_take (i := 12) (v := .pointer (some ⟨g2, 0, none⟩)) (by simp only [List.getElem?_toArray, List.getElem?_cons_zero, List.getElem?_cons_succ]; rfl) (by kernel_rfl) (by kernel_rfl) (by kernel_rfl) (fun _ _ _ h => h) (Or.inl ⟨by rfl, ?_⟩) (by assumption) ?_
          · intro w hSw
            try dsimp only at hSw
            go_simp
          try simp only [Act.put, List.setIfInBounds_toArray, List.set_cons_zero, List.set_cons_succ]
          refine wpAnyH_take (i := 13) (v := .pointer (some ⟨g2, 0, none⟩)) (by simp only [List.getElem?_toArray, List.getElem?_cons_zero, List.getElem?_cons_succ]; rfl) (by kernel_rfl) (by kernel_rfl) (by kernel_rfl) (fun _ _ _ h => h) (Or.inl ⟨by rfl, ?_⟩) (by assumption) ?_
          · intro w hSw
            try dsimp only at hSw
            go_simp
          try simp only [Act.put, List.setIfInBounds_toArray, List.set_cons_zero, List.set_cons_succ]
          refine wpAnyH_take (i := 14) (v := .pointer (some ⟨g2, 1, none⟩)) (by simp only [List.getElem?_toArray, List.getElem?_cons_zero, List.getElem?_cons_succ]; rfl) (by kernel_rfl) (by kernel_rfl) (by kernel_rfl) (fun _ _ _ h => h) (Or.inl ⟨by rfl, ?_⟩) (by assumption) ?_
          · intro w hSw
            try dsimp only at hSw
            go_simp
          try simp only [Act.put, List.setIfInBounds_toArray, List.set_cons_zero, List.set_cons_succ]
          refine wpAnyH_ready (rs := [11, 15]) (by kernel_rfl) (by simp) ?_
          refine AllReadyH.cons (by simp only [List.getElem?_toArray, List.getElem?_cons_zero, List.getElem?_cons_succ]; rfl) (fun K hK => ?_) (AllReadyH.cons (by simp only [List.getElem?_toArray, List.getElem?_cons_zero, List.getElem?_cons_succ]; rfl) (fun K hK => ?_) AllReadyH.nil)
          · go_simp
            go_at_call 82
            refine HHD.out.mono ?_; rintro e w' ⟨rfl, rfl⟩
            refine hK.out _ _ trivial (fun hHeld => ?_)
            clear hK K
            try simp only [Act.put, List.setIfInBounds_toArray, List.set_cons_zero, List.set_cons_succ]
            refine wpAnyH_ready (rs := [15]) (by kernel_rfl) (by simp) ?_
            refine AllReadyH.cons (by simp only [List.getElem?_toArray, List.getElem?_cons_zero, List.getElem?_cons_succ]; rfl) (fun K hK => ?_) AllReadyH.nil
            go_simp
            refine hK.out _ _ trivial (fun hHeld => ?_)
            clear hK K
            try simp only [Act.put, List.setIfInBounds_toArray, List.set_cons_zero, List.set_cons_succ]
            refine wpAnyH_take (i := 16) (v := .int .i64 n4) (by simp only [List.getElem?_toArray, List.getElem?_cons_zero, List.getElem?_cons_succ]; rfl) (by kernel_rfl) (by kernel_rfl) (by kernel_rfl) (fun _ _ _ h => h) (Or.inl ⟨by rfl, ?_⟩) (by assumption) ?_
            · intro w hSw
              try dsimp only at hSw
              go_simp
            try simp only [Act.put, List.setIfInBounds_toArray, List.set_cons_zero, List.set_cons_succ]
            refine wpAnyH_take (i := 17) (v := .bool false) (by simp only [List.getElem?_toArray, List.getElem?_cons_zero, List.getElem?_cons_succ]; rfl) (by kernel_rfl) (by kernel_rfl) (by kernel_rfl) (fun _ _ _ h => h) (Or.inl ⟨by rfl, ?_⟩) (by assumption) ?_
            · intro w hSw
              try dsimp only at hSw
              go_simp
            try simp only [Act.put, List.setIfInBounds_toArray, List.set_cons_zero, List.set_cons_succ]
            refine wpAnyH_take (i := 18) (v := .bool false) (by simp only [List.getElem?_toArray, List.getElem?_cons_zero, List.getElem?_cons_succ]; rfl) (by kernel_rfl) (by kernel_rfl) (by kernel_rfl) (fun _ _ _ h => h) (Or.inl ⟨by rfl, ?_⟩) (by assumption) ?_
            · intro w hSw
              try dsimp only at hSw
              go_simp
            try simp only [Act.put, List.setIfInBounds_toArray, List.set_cons_zero, List.set_cons_succ]
            refine wpAnyH_done (by kernel_rfl) ?_ _
            refine NoPanic.normal ?_
            clear x1
            have hthree : (mk = 0) ∨ (((mk : Int) == 0) = false ∧ 108 < k) ∨ (((mk : Int) == 0) = false ∧ ¬ (108 < k)) := by
              by_cases h0 : mk = 0
              · exact .inl h0
              · have : ((mk : Int) == 0) = false := by simp; exact h0
                by_cases h1 : 108 < k
                · exact .inr (.inl ⟨this, h1⟩)
                · exact .inr (.inr ⟨this, h1⟩)
            rcases hthree with rfl | ⟨hm0, h108⟩ | ⟨hm0, h108⟩
            rotate_left 2
            · go_wp2
              go_roundw
              case rel => exact ⟨k + 1, n4, r3, a4, b4, by omega, by go_num, HN4.out.symm, by rw [HS1.out]; exact HCS4.out.1, HRS4.out, HCS4.out.2, HB4.out⟩
              case measure => simp [intOf]; omega
            all_goals
              go_wp2_with fail
              refine (HHI.out _ HCS4.out.1).mono ?_; rintro e w5 ⟨rfl, hb5⟩
              have HX5 := Lib.hid (show Below w4.heap.size w4 (w5.alloc (.cells #[.int .i64 O, .int .u8 K, .int .u8 S, .int .u32 Q, .int .u32 Z] 89)) from (by repeat (first | exact Below.refl _ _ | apply Bw.alloc | apply Bw.drewN | apply Bw.drew | (refine Bw.step ?_ (by assumption)))))
              clear hb5
              go_wp2_with fail
              refine (HRHI.out _ (HRC4.out.below HX5.out)).mono ?_; rintro e w6 ⟨rfl, hb6⟩
              have HX6 := Lib.hid (show Below (w5.alloc (.cells #[.int .i64 O, .int .u8 K, .int .u8 S, .int .u32 Q, .int .u32 Z] 89)).heap.size (w5.alloc (.cells #[.int .i64 O, .int .u8 K, .int .u8 S, .int .u32 Q, .int .u32 Z] 89)) (w6.alloc (.cells #[.int .i64 O, .int .u8 K, .int .u8 S, .int .u32 Q, .int .u32 Z] 85)) from (by repeat (first | exact Below.refl _ _ | apply Bw.alloc | apply Bw.drewN | apply Bw.drew | (refine Bw.step ?_ (by assumption)))))
              obtain ⟨v0, v1, v2, v3, v4⟩ := ((show Blk (w5.alloc (.cells #[.int .i64 O, .int .u8 K, .int .u8 S, .int .u32 Q, .int .u32 Z] 89)) w5.heap.size #[.int .i64 O, .int .u8 K, .int .u8 S, .int .u32 Q, .int .u32 Z] 89 from Blk.new rfl).below HX6.out).c5
              clear hb6
              go_wp2_with fail
              refine (same69_calls (O : Int) K S Q Z _).mono ?_; rintro e w7 ⟨rfl, hb7⟩
              have HX7 := Lib.hid (Bw.step HX5.out (Bw.step HX6.out hb7))
              clear hb7 v0 v1 v2 v3 v4
              go_wp2_with fail
              refine (HUL.out _ (HCS4.out.1.below HX7.out)).mono ?_; rintro e w' ⟨rfl, rfl⟩
              go_wp2_with fail
              refine (HRUL.out _ (HRC4.out.below HX7.out)).mono ?_; rintro e w8 ⟨rfl, hb8⟩
              have HX8 := Lib.hid (Bw.step HX7.out hb8)
              clear hb8
              go_wp2
              go_roundw
              case rel => exact ⟨k + 1, n4, r3, a4, b4, by omega, by go_num, HN4.out.symm, by rw [HS1.out]; exact HCS4.out.1.below HX8.out, HRS4.out.below HX8.out, HCS4.out.2, HB4.out.trans (HX8.out.mono HB4.out.size)⟩
              case measure => simp [intOf]; omega
          · go_simp
            refine hK.out _ _ trivial (fun hHeld => ?_)
            clear hK K
            try simp only [Act.put, List.setIfInBounds_toArray, List.set_cons_zero, List.set_cons_succ]
            refine wpAnyH_take (i := 16) (v := .int .i64 n4) (by simp only [List.getElem?_toArray, List.getElem?_cons_zero, List.getElem?_cons_succ]; rfl) (by kernel_rfl) (by kernel_rfl) (by kernel_rfl) (fun _ _ _ h => h) (Or.inl ⟨by rfl, ?_⟩) (by assumption) ?_
            · intro w hSw
              try dsimp only at hSw
              go_simp
            try simp only [Act.put, List.setIfInBounds_toArray, List.set_cons_zero, List.set_cons_succ]
            refine wpAnyH_ready (rs := [11]) (by kernel_rfl) (by simp) ?_
            refine AllReadyH.cons (by simp only [List.getElem?_toArray, List.getElem?_cons_zero, List.getElem?_cons_succ]; rfl) (fun K hK => ?_) AllReadyH.nil
            go_simp
            go_at_call 82
            refine HHD.out.mono ?_; rintro e w' ⟨rfl, rfl⟩
            refine hK.out _ _ trivial (fun hHeld => ?_)
            clear hK K
            try simp only [Act.put, List.setIfInBounds_toArray, List.set_cons_zero, List.set_cons_succ]
            refine wpAnyH_take (i := 17) (v := .bool false) (by simp only [List.getElem?_toArray, List.getElem?_cons_zero, List.getElem?_cons_succ]; rfl) (by kernel_rfl) (by kernel_rfl) (by kernel_rfl) (fun _ _ _ h => h) (Or.inl ⟨by rfl, ?_⟩) (by assumption) ?_
            · intro w hSw
              try dsimp only at hSw
              go_simp
            try simp only [Act.put, List.setIfInBounds_toArray, List.set_cons_zero, List.set_cons_succ]
            refine wpAnyH_take (i := 18) (v := .bool false) (by simp only [List.getElem?_toArray, List.getElem?_cons_zero, List.getElem?_cons_succ]; rfl) (by kernel_rfl) (by kernel_rfl) (by kernel_rfl) (fun _ _ _ h => h) (Or.inl ⟨by rfl, ?_⟩) (by assumption) ?_
            · intro w hSw
              try dsimp only at hSw
              go_simp
            try simp only [Act.put, List.setIfInBounds_toArray, List.set_cons_zero, List.set_cons_succ]
            refine wpAnyH_done (by kernel_rfl) ?_ _
            refine NoPanic.normal ?_
            clear x1
            have hthree : (mk = 0) ∨ (((mk : Int) == 0) = false ∧ 108 < k) ∨ (((mk : Int) == 0) = false ∧ ¬ (108 < k)) := by
              by_cases h0 : mk = 0
              · exact .inl h0
              · have : ((mk : Int) == 0) = false := by simp; exact h0
                by_cases h1 : 108 < k
                · exact .inr (.inl ⟨this, h1⟩)
                · exact .inr (.inr ⟨this, h1⟩)
            rcases hthree with rfl | ⟨hm0, h108⟩ | ⟨hm0, h108⟩
            rotate_left 2
            · go_wp2
              go_roundw
              case rel => exact ⟨k + 1, n4, r3, a4, b4, by omega, by go_num, HN4.out.symm, by rw [HS1.out]; exact HCS4.out.1, HRS4.out, HCS4.out.2, HB4.out⟩
              case measure => simp [intOf]; omega
            all_goals
              go_wp2_with fail
              refine (HHI.out _ HCS4.out.1).mono ?_; rintro e w5 ⟨rfl, hb5⟩
              have HX5 := Lib.hid (show Below w4.heap.size w4 (w5.alloc (.cells #[.int .i64 O, .int .u8 K, .int .u8 S, .int .u32 Q, .int .u32 Z] 89)) from (by repeat (first | exact Below.refl _ _ | apply Bw.alloc | apply Bw.drewN | apply Bw.drew | (refine Bw.step ?_ (by assumption)))))
              clear hb5
              go_wp2_with fail
              refine (HRHI.out _ (HRC4.out.below HX5.out)).mono ?_; rintro e w6 ⟨rfl, hb6⟩
              have HX6 := Lib.hid (show Below (w5.alloc (.cells #[.int .i64 O, .int .u8 K, .int .u8 S, .int .u32 Q, .int .u32 Z] 89)).heap.size (w5.alloc (.cells #[.int .i64 O, .int .u8 K, .int .u8 S, .int .u32 Q, .int .u32 Z] 89)) (w6.alloc (.cells #[.int .i64 O, .int .u8 K, .int .u8 S, .int .u32 Q, .int .u32 Z] 85)) from (by repeat (first | exact Below.refl _ _ | apply Bw.alloc | apply Bw.drewN | apply Bw.drew | (refine Bw.step ?_ (by assumption)))))
              obtain ⟨v0, v1, v2, v3, v4⟩ := ((show Blk (w5.alloc (.cells #[.int .i64 O, .int .u8 K, .int .u8 S, .int .u32 Q, .int .u32 Z] 89)) w5.heap.size #[.int .i64 O, .int .u8 K, .int .u8 S, .int .u32 Q, .int .u32 Z] 89 from Blk.new rfl).below HX6.out).c5
              clear hb6
              go_wp2_with fail
              refine (same69_calls (O : Int) K S Q Z _).mono ?_; rintro e w7 ⟨rfl, hb7⟩
              have HX7 := Lib.hid (Bw.step HX5.out (Bw.step HX6.out hb7))
              clear hb7 v0 v1 v2 v3 v4
              go_wp2_with fail
              refine (HUL.out _ (HCS4.out.1.below HX7.out)).mono ?_; rintro e w' ⟨rfl, rfl⟩
              go_wp2_with fail
              refine (HRUL.out _ (HRC4.out.below HX7.out)).mono ?_; rintro e w8 ⟨rfl, hb8⟩
              have HX8 := Lib.hid (Bw.step HX7.out hb8)
              clear hb8
              go_wp2
              go_roundw
              case rel => exact ⟨k + 1, n4, r3, a4, b4, by omega, by go_num, HN4.out.symm, by rw [HS1.out]; exact HCS4.out.1.below HX8.out, HRS4.out.below HX8.out, HCS4.out.2, HB4.out.trans (HX8.out.mono HB4.out.size)⟩
              case measure => simp [intOf]; omega
        · go_wp2_with fail
          refine (lives09 _).mono ?_; rintro e w2 ⟨rfl, hb2⟩
          go_wp2
          go_ret
          exact ⟨rfl, Bw.step HB.out hb2⟩
  · have hcase : 300 < n ∨ (¬ (300 < n) ∧ 300 < m) := by omega
    clear hr hs h300
    rcases hcase with hne | ⟨hne, hne2⟩
    all_goals
      go_enter Try.func19, Try.ntmps19
      go_wp2_with fail
      refine (lives09 _).mono ?_; rintro e w6 ⟨rfl, hb6⟩
      go_wp2
      go_ret
      exact ⟨rfl, (by repeat (first | exact Below.refl _ _ | apply Bw.alloc | apply Bw.drewN | apply Bw.drew | (refine Bw.step ?_ (by assumption))))⟩
end Go.Proofs.Ytnmhhjgiakijgaa
