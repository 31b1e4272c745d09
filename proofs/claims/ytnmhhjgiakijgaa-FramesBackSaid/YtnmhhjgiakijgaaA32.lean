/- The reference's frame of bytes: its contract. -/
import Derived.Test.YtnmhhjgiakijgaaA31
import Derived.StillTailTactics
namespace Go.Proofs.Ytnmhhjgiakijgaa
open Go.RowKit
set_option linter.unusedVariables false

theorem gt_cell {w : World} {b o n : Nat} {l : List Int} (h : Rd w .u8 (some ⟨b, o, none⟩) n l) (j x : Nat) (hj : j < n) (hx : gt l j = x) : w.cell? ⟨b, o + j, none⟩ = some (.int .u8 x) := by
  obtain ⟨b', o', e, hc⟩ := h.at_ j hj
  injection e with e
  injection e with e1 e2
  subst e1
  subst e2
  rw [hc, hx]

set_option maxHeartbeats 3200000 in
set_option maxRecDepth 20000 in
theorem refget_calls (A : Option Addr) (n c : Nat) (l : List Int) (w : World) (hr : Rd w .u8 A n l) (hc : n ≤ c) (hcm : c ≤ maxLen) (hb : bytesOk l) :
    Calls Try.prog 68 #[.slice A n c] w (GetPost l w) := by
  have hl := hr.len
  by_cases h14 : n = 14
  · subst h14
    have HL := Lib.hid hl
    have HB := Lib.hid hb
    obtain ⟨b, o, rfl, hblt, -⟩ := Rv.at_ hr (by omega)
    have HR := Lib.hid hr
    clear hr hl hb
    cases hck : chkB l with
    | false =>
      have hok : okB l = false := by simp [okB, hck]
      have HZ := Lib.hid (zeroG hok)
      have HE := Lib.hid (show errG l = 5 by unfold errG; rw [if_pos HL.out, hck]; rfl)
      have HCK := Lib.hid hck
      clear hck hok
      go_enter Try.func68, Try.ntmps68
      go_wp2_with fail
      refine (refcheck_calls _ _ l _ (HR.out.below (by repeat (first | exact Below.refl _ _ | apply Bw.alloc | apply Bw.drewN | apply Bw.drew | (refine Bw.step ?_ (by assumption))))) hc hcm HB.out).mono ?_
      rintro e w1 (⟨h, -⟩ | ⟨-, rfl, hb1⟩)
      · rw [HCK.out] at h; cases h
      have hB : Blk w1 w.heap.size #[.int .i64 0, .int .u8 0, .int .u8 0, .int .u32 0, .int .u32 0] 85 := (Blk.new (w := w) rfl).below hb1
      have c0 := hB.cell 0 (.int .i64 0) rfl
      have c1 := hB.cell 1 (.int .u8 0) rfl
      have c2 := hB.cell 2 (.int .u8 0) rfl
      have c3 := hB.cell 3 (.int .u32 0) rfl
      have c4 := hB.cell 4 (.int .u32 0) rfl
      have f0 := hB.frozen 0
      have f1 := hB.frozen 1
      have f2 := hB.frozen 2
      have f3 := hB.frozen 3
      have f4 := hB.frozen 4
      go_wp2
      refine bodyPost_ret (v := .tuple #[.agg #[.int .i64 0, .int .u8 0, .int .u8 0, .int .u32 0, .int .u32 0], .int .i64 5]) (by simp [results, Try.results68, go_sem, *]) rfl ?_
      obtain ⟨z1, z2, z3, z4, z5⟩ := HZ.out
      refine ⟨by rw [z1, z2, z3, z4, z5, HE.out]; rfl, ?_⟩
      exact (by repeat (first | exact Below.refl _ _ | apply Bw.alloc | apply Bw.drewN | apply Bw.drew | (refine Below.setCell ?_ (by first | exact Nat.le_refl _ | omega | (simp; omega)) _) | (refine Bw.step ?_ (by assumption))))
    | true =>
      have HCK := Lib.hid hck
      clear hck
      go_enter Try.func68, Try.ntmps68
      go_wp2_with fail
      refine (refcheck_calls _ _ l _ (HR.out.below (by repeat (first | exact Below.refl _ _ | apply Bw.alloc | apply Bw.drewN | apply Bw.drew | (refine Bw.step ?_ (by assumption))))) hc hcm HB.out).mono ?_
      rintro e w1 (⟨-, rfl, hb1⟩ | ⟨h, -, -⟩)
      rotate_left
      · rw [HCK.out] at h; cases h
      have hB : Blk w1 w.heap.size #[.int .i64 0, .int .u8 0, .int .u8 0, .int .u32 0, .int .u32 0] 85 := (Blk.new (w := w) rfl).below hb1
      have hbw1 : Below w.heap.size w w1 := (by repeat (first | exact Below.refl _ _ | apply Bw.alloc | apply Bw.drewN | apply Bw.drew | (refine Bw.step ?_ (by assumption))))
      have hwlt : w.heap.size < w1.heap.size := hB.lt
      have HR1 := Lib.hid (HR.out.below hbw1)
      obtain ⟨x0, hx0, hx0l⟩ : ∃ x : Nat, gt l 0 = x ∧ x ≤ 255 := by
        have := bytesOk_gt HB.out (j := 0) (by rw [HL.out]; omega)
        exact ⟨(gt l 0).toNat, by omega, by omega⟩
      obtain ⟨x1, hx1, hx1l⟩ : ∃ x : Nat, gt l 1 = x ∧ x ≤ 255 := by
        have := bytesOk_gt HB.out (j := 1) (by rw [HL.out]; omega)
        exact ⟨(gt l 1).toNat, by omega, by omega⟩
      have hc0 : w1.cell? ⟨b, o, none⟩ = some (.int .u8 x0) := gt_cell HR1.out 0 x0 (by omega) hx0
      have hc1 : w1.cell? ⟨b, o + 1, none⟩ = some (.int .u8 x1) := gt_cell HR1.out 1 x1 (by omega) hx1
      obtain ⟨y, hy⟩ : ∃ y, y = gO l := ⟨_, rfl⟩
      obtain ⟨z, hz⟩ : ∃ z, z = gK l := ⟨_, rfl⟩
      have hyx : y = x0 % 16 := by rw [hy, gO, hx0]; rfl
      have hzx : z = x0 / 16 := by rw [hz, gK, hx0]; rfl
      have hm16 : (x0 : Int) % 16 = (y : Int) := by omega
      have hm16' : (x0 : Int).tmod 16 = (y : Int) := by rw [Int.tmod_eq_emod_of_nonneg (by omega)]; exact hm16
      have hd16 : (x0 : Int) / 16 = (z : Int) := by omega
      have hd16' : (x0 : Int).tdiv 16 = (z : Int) := by rw [Int.tdiv_eq_ediv_of_nonneg (by omega)]; exact hd16
      have hyl : y ≤ 15 := by omega
      have hzl : z ≤ 15 := by omega
      have hb1lt : b < w1.heap.size := by have := hbw1.size; omega
      have hca0 : ∀ ob, (w1.alloc ob).cell? ⟨b, o, none⟩ = some (.int .u8 x0) := fun ob => ((Bw.alloc (Below.refl _ _) ob).cell (p := ⟨b, o, none⟩) hb1lt).trans hc0
      have hca1 : ∀ ob, (w1.alloc ob).cell? ⟨b, o + 1, none⟩ = some (.int .u8 x1) := fun ob => ((Bw.alloc (Below.refl _ _) ob).cell (p := ⟨b, o + 1, none⟩) hb1lt).trans hc1
      have HX1 := Lib.hid (show gS l = x1 by unfold gS; rw [hx1]; rfl)
      have HY := Lib.hid hy
      have HZ := Lib.hid hz
      have HBK := Lib.hid hB
      have HW := Lib.hid (And.intro hwlt hbw1)
      clear hx0 hx1 hy hz hyx hzx hb1 hB hwlt hbw1
      go_wp2
      clear hm16 hm16' hd16 hd16' hc0 hc1 hca0 hca1
      go_loopw [7] (fun lv w' => ∃ (i q v : Nat), i ≤ 4 ∧ lv = .int .i64 i ∧ Hid (q = numAt l 2 i) ∧ Hid (v = numAt l 6 i) ∧ Hid (Blk w' w1.heap.size #[.int .i64 y, .int .u8 z, .int .u8 x1, .int .u32 q, .int .u32 v] 85) ∧ Below w1.heap.size w1 w') (fun lv _ => 4 - (intOf lv).toNat)
      case atStart => exact ⟨0, 0, 0, Nat.zero_le _, rfl, Lib.hid rfl, Lib.hid rfl, Lib.hid (Blk.new (w := w1) rfl), (by repeat (first | exact Below.refl _ _ | apply Bw.alloc | apply Bw.drewN | apply Bw.drew | (refine Bw.step ?_ (by assumption))))⟩
      case round =>
        obtain ⟨i, q, v, hi, rfl, HQ, HV, HBL, hbl⟩ := hrel
        by_cases hlt : i < 4
        · have hq3 : q < 16777216 := by
            have h1 := numAt_lt l 2 HB.out i (by rw [HL.out]; omega)
            rw [← HQ.out] at h1
            have : (256 : Nat) ^ i ≤ 256 ^ 3 := Nat.pow_le_pow_right (by omega) (by omega)
            omega
          have hv3 : v < 16777216 := by
            have h1 := numAt_lt l 6 HB.out i (by rw [HL.out]; omega)
            rw [← HV.out] at h1
            have : (256 : Nat) ^ i ≤ 256 ^ 3 := Nat.pow_le_pow_right (by omega) (by omega)
            omega
          obtain ⟨x2, hx2, hx2l⟩ : ∃ x : Nat, gt l (2 + i) = x ∧ x ≤ 255 := by
            have := bytesOk_gt HB.out (j := 2 + i) (by rw [HL.out]; omega)
            exact ⟨(gt l (2 + i)).toNat, by omega, by omega⟩
          obtain ⟨x6, hx6, hx6l⟩ : ∃ x : Nat, gt l (6 + i) = x ∧ x ≤ 255 := by
            have := bytesOk_gt HB.out (j := 6 + i) (by rw [HL.out]; omega)
            exact ⟨(gt l (6 + i)).toNat, by omega, by omega⟩
          obtain ⟨p2, hp2⟩ : ∃ p, p = 2 + i := ⟨_, rfl⟩
          obtain ⟨p6, hp6⟩ : ∃ p, p = 6 + i := ⟨_, rfl⟩
          rw [← hp2] at hx2
          rw [← hp6] at hx6
          have cb2 : wr.drew.cell? ⟨b, o + p2, none⟩ = some (.int .u8 x2) := gt_cell (HR1.out.below hbl) p2 x2 (by omega) hx2
          have HC6 := Lib.hid (fun (w' : World) (h : Below w1.heap.size w1 w') => gt_cell (HR1.out.below h) p6 x6 (by omega) hx6)
          obtain ⟨qa, hqa⟩ : ∃ qa, qa = 256 * q := ⟨_, rfl⟩
          obtain ⟨va, hva⟩ : ∃ va, va = 256 * v := ⟨_, rfl⟩
          obtain ⟨q2, hq2⟩ : ∃ q2, q2 = q * 256 + x2 := ⟨_, rfl⟩
          obtain ⟨v2, hv2⟩ : ∃ v2, v2 = v * 256 + x6 := ⟨_, rfl⟩
          have HQ2 := Lib.hid (show q2 = numAt l 2 (i + 1) by show _ = numAt l 2 i * 256 + (gt l (2 + i)).toNat; rw [hq2, HQ.out, ← hp2, hx2]; rfl)
          have HV2 := Lib.hid (show v2 = numAt l 6 (i + 1) by show _ = numAt l 6 i * 256 + (gt l (6 + i)).toNat; rw [hv2, HV.out, ← hp6, hx6]; rfl)
          have e1 : IntKind.u32.wrap (256 * (q : Int)) = (qa : Int) := by rw [wrap_u32]; omega
          have e2 : IntKind.u32.wrap ((qa : Int) + (x2 : Int)) = (q2 : Int) := by rw [wrap_u32]; omega
          have e3 : IntKind.u32.wrap (256 * (v : Int)) = (va : Int) := by rw [wrap_u32]; omega
          have e4 : IntKind.u32.wrap ((va : Int) + (x6 : Int)) = (v2 : Int) := by rw [wrap_u32]; omega
          have e2m : ((qa : Int) + (x2 : Int)) % 4294967296 = (q2 : Int) := by omega
          have e4m : ((va : Int) + (x6 : Int)) % 4294967296 = (v2 : Int) := by omega
          have e5 : IntKind.i64.wrap (2 + (i : Int)) = (p2 : Int) := by rw [IntWalk.i64_in _ (by omega)]; omega
          have e6 : IntKind.i64.wrap (6 + (i : Int)) = (p6 : Int) := by rw [IntWalk.i64_in _ (by omega)]; omega
          have e7 : (p2 : Int) < 10 := by omega
          have e8 : (p6 : Int) < 10 := by omega
          have l2 : p2 < 10 := by omega
          have l6 : p6 < 10 := by omega
          clear hq2 hv2 hx2 hx6 hp2 hp6 hqa hva
          have c3 : wr.drew.cell? ⟨w1.heap.size, 3, none⟩ = some (.int .u32 q) := HBL.out.cell 3 (.int .u32 q) rfl
          have f3 : wr.drew.frozen? ⟨w1.heap.size, 3, none⟩ = false := HBL.out.frozen 3
          have HBL2 := Lib.hid (show Blk wr.drew w1.heap.size #[.int .i64 y, .int .u8 z, .int .u8 x1, .int .u32 q, .int .u32 v] 85 from HBL.out)
          have hbl2 := Bk.drew hbl
          clear HBL
          go_wp2
          go_still_tail 13, (by kernel_rfl)
          change wpList _ _ _ _ _ wr.drew
          clear hbl
          generalize wr.drew = w2 at *
          go_wp2
          rewrite [e2m]
          have hb4 : Blk (w2.setCell ⟨w1.heap.size, 3, none⟩ (.int .u32 q2)) w1.heap.size #[.int .i64 y, .int .u8 z, .int .u8 x1, .int .u32 q2, .int .u32 v] 85 := HBL2.out.set 3 _
          have hbl4 : Below w1.heap.size w1 (w2.setCell ⟨w1.heap.size, 3, none⟩ (.int .u32 q2)) := Below.setCell hbl2 (p := ⟨w1.heap.size, 3, none⟩) (Nat.le_refl _) _
          clear cb2 c3 f3 hbl2 HBL2
          generalize w2.setCell ⟨w1.heap.size, 3, none⟩ (.int .u32 q2) = wq at *
          have cb6 : wq.drew.cell? ⟨b, o + p6, none⟩ = some (.int .u8 x6) := HC6.out _ (Bk.drew hbl4)
          have c4 : wq.drew.cell? ⟨w1.heap.size, 4, none⟩ = some (.int .u32 v) := hb4.cell 4 (.int .u32 v) rfl
          have f4 : wq.drew.frozen? ⟨w1.heap.size, 4, none⟩ = false := hb4.frozen 4
          have hb4 : Blk wq.drew w1.heap.size #[.int .i64 y, .int .u8 z, .int .u8 x1, .int .u32 q2, .int .u32 v] 85 := hb4
          have hbl4 : Below w1.heap.size w1 wq.drew := Bk.drew hbl4
          have HB4 := Lib.hid hb4
          clear hb4
          go_still_tail 13, (by kernel_rfl)
          change wpList _ _ _ _ _ wq.drew
          generalize wq.drew = w4 at *
          have hb5 : Blk (w4.setCell ⟨w1.heap.size, 4, none⟩ (.int .u32 v2)) w1.heap.size #[.int .i64 y, .int .u8 z, .int .u8 x1, .int .u32 q2, .int .u32 v2] 85 := HB4.out.set 4 _
          have hbl5 : Below w1.heap.size w1 (w4.setCell ⟨w1.heap.size, 4, none⟩ (.int .u32 v2)) := Below.setCell hbl4 (p := ⟨w1.heap.size, 4, none⟩) (Nat.le_refl _) _
          have HB5 := Lib.hid hb5
          clear hb5 HB4 hbl4
          go_wp2
          go_roundw
          case rel => exact ⟨i + 1, q2, v2, by omega, by go_num, HQ2, HV2, HB5, hbl5⟩
          case measure => simp [intOf]; omega
        · have hi4 : i = 4 := by omega
          subst hi4
          have k0 := HBL.out.cell 0 (.int .i64 y) rfl
          have k1 := HBL.out.cell 1 (.int .u8 z) rfl
          have k2 := HBL.out.cell 2 (.int .u8 x1) rfl
          have k3 := HBL.out.cell 3 (.int .u32 q) rfl
          have k4 := HBL.out.cell 4 (.int .u32 v) rfl
          go_wp2_with fail
          clear k0 k1 k2 k3 k4
          refine (refmay_calls (y : Int) z x1 q v _).mono ?_; rintro e w3 ⟨rfl, hb3⟩
          have hB0 : Blk w3 w.heap.size #[.int .i64 0, .int .u8 0, .int .u8 0, .int .u32 0, .int .u32 0] 85 := (HBK.out.below hbl).below (show Below wr.heap.size wr w3 from (by repeat (first | exact Below.refl _ _ | apply Bw.alloc | apply Bw.drewN | apply Bw.drew | (refine Bw.step ?_ (by assumption)))))
          have hB1 : Blk w3 w1.heap.size #[.int .i64 y, .int .u8 z, .int .u8 x1, .int .u32 q, .int .u32 v] 85 := HBL.out.below (show Below wr.heap.size wr w3 from (by repeat (first | exact Below.refl _ _ | apply Bw.alloc | apply Bw.drewN | apply Bw.drew | (refine Bw.step ?_ (by assumption)))))
          have hbw3 : Below w.heap.size w w3 := (HW.out.2.trans (hbl.mono HW.out.2.size)).trans (show Below w.heap.size wr w3 from Below.mono (show Below wr.heap.size wr w3 from (by repeat (first | exact Below.refl _ _ | apply Bw.alloc | apply Bw.drewN | apply Bw.drew | (refine Bw.step ?_ (by assumption))))) (Nat.le_trans HW.out.2.size hbl.size))
          clear hb3 hbl HBL
          have c0 := hB0.cell 0 (.int .i64 0) rfl
          have c1 := hB0.cell 1 (.int .u8 0) rfl
          have c2 := hB0.cell 2 (.int .u8 0) rfl
          have c3 := hB0.cell 3 (.int .u32 0) rfl
          have c4 := hB0.cell 4 (.int .u32 0) rfl
          have f0 := hB0.frozen 0
          have f1 := hB0.frozen 1
          have f2 := hB0.frozen 2
          have f3 := hB0.frozen 3
          have f4 := hB0.frozen 4
          have d0 := hB1.cell 0 (.int .i64 y) rfl
          have d1 := hB1.cell 1 (.int .u8 z) rfl
          have d2 := hB1.cell 2 (.int .u8 x1) rfl
          have d3 := hB1.cell 3 (.int .u32 q) rfl
          have d4 := hB1.cell 4 (.int .u32 v) rfl
          clear hB0 hB1
          cases hmay : mayB (y : Int) z with
          | false =>
            have hmg : mayB (gO l : Int) (gK l) = false := by rw [← HY.out, ← HZ.out]; exact hmay
            have HZZ := Lib.hid (zeroG (show okB l = false by simp [okB, hmg]))
            have HE := Lib.hid (show errG l = 4 by unfold errG; rw [if_pos HL.out, if_pos HCK.out, hmg]; rfl)
            clear hmg hmay
            go_wp2
            refine bodyPost_ret (v := .tuple #[.agg #[.int .i64 0, .int .u8 0, .int .u8 0, .int .u32 0, .int .u32 0], .int .i64 4]) (by simp [results, Try.results68, go_sem, *]) rfl ?_
            obtain ⟨z1, z2, z3, z4, z5⟩ := HZZ.out
            refine ⟨by rw [z1, z2, z3, z4, z5, HE.out]; rfl, ?_⟩
            exact (by repeat (first | exact Below.refl _ _ | apply Bw.alloc | apply Bw.drewN | apply Bw.drew | (refine Below.setCell ?_ (by first | exact Nat.le_refl _ | omega | (simp; omega)) _) | (refine Bw.step ?_ (by assumption))))
          | true =>
            have hmg : mayB (gO l : Int) (gK l) = true := by rw [← HY.out, ← HZ.out]; exact hmay
            have HZZ := Lib.hid (fullG (show okB l = true by simp [okB, hmg, HL.out, HCK.out]))
            have HE := Lib.hid (show errG l = 0 by unfold errG; rw [if_pos HL.out, if_pos HCK.out, if_pos hmg])
            clear hmg hmay
            go_wp2
            refine bodyPost_ret (v := .tuple #[.agg #[.int .i64 y, .int .u8 z, .int .u8 x1, .int .u32 q, .int .u32 v], .int .i64 0]) (by simp [results, Try.results68, go_sem, *]) rfl ?_
            obtain ⟨z1, z2, z3, z4, z5⟩ := HZZ.out
            refine ⟨by rw [z1, z2, z3, z4, z5, HE.out, ← HY.out, ← HZ.out, HX1.out, ← HQ.out, ← HV.out], ?_⟩
            exact (by repeat (first | exact Below.refl _ _ | apply Bw.alloc | apply Bw.drewN | apply Bw.drew | (refine Below.setCell ?_ (by first | exact Nat.le_refl _ | omega | (simp; omega)) _) | (refine Bw.step ?_ (by assumption))))
  · have hok : okB l = false := by simp [okB, hl, h14]
    have HZ := Lib.hid (zeroG hok)
    have HE := Lib.hid (show errG l = 4 by unfold errG; rw [if_neg (by rw [hl]; exact h14)])
    have hne : ((n : Int) != 14) = true := by simp; omega
    clear hok hr hl hb
    go_enter Try.func68, Try.ntmps68
    go_wp2
    refine bodyPost_ret (v := .tuple #[.agg #[.int .i64 0, .int .u8 0, .int .u8 0, .int .u32 0, .int .u32 0], .int .i64 4]) (by simp [results, Try.results68, go_sem]) rfl ?_
    obtain ⟨z1, z2, z3, z4, z5⟩ := HZ.out
    exact ⟨by rw [z1, z2, z3, z4, z5, HE.out]; rfl, (by repeat (first | exact Below.refl _ _ | apply Bw.alloc | apply Bw.drewN | apply Bw.drew | (refine Bw.step ?_ (by assumption))))⟩
end Go.Proofs.Ytnmhhjgiakijgaa
