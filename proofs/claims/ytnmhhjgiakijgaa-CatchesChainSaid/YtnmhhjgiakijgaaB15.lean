/- CatchesCut: what the call returns. -/
import Derived.Test.YtnmhhjgiakijgaaB14
namespace Go.Proofs.Ytnmhhjgiakijgaa
open Go.RowKit
set_option linter.unusedVariables false
set_option linter.unusedSimpArgs false

theorem kind2 (k : Nat) (h : k ≤ 255) : ((k : Int) % 2 = ((k % 2 : Nat) : Int)) ∧ ((k : Int).tmod 2 = ((k % 2 : Nat) : Int)) ∧ IntKind.u8.wrap ((k % 2 : Nat) : Int) = ((k % 2 : Nat) : Int) ∧ IntKind.u8.wrap (1 + ((k % 2 : Nat) : Int)) = ((1 + k % 2 : Nat) : Int) ∧ (k % 2 = 0 ∨ k % 2 = 1) := by
  refine ⟨by omega, by rw [Int.tmod_eq_emod_of_nonneg (by omega)]; omega, ?_, ?_, by omega⟩
  · rw [show IntKind.u8.wrap ((k % 2 : Nat) : Int) = ((k % 2 : Nat) : Int) % 256 from rfl]; omega
  · rw [show IntKind.u8.wrap (1 + ((k % 2 : Nat) : Int)) = (1 + ((k % 2 : Nat) : Int)) % 256 from rfl]; omega
theorem mod112 (x : Nat) (h : x ≤ 255) : ((x : Int) % 112 = ((x % 112 : Nat) : Int)) ∧ ((x : Int).tmod 112 = ((x % 112 : Nat) : Int)) ∧ IntKind.i64.wrap (x : Int) = (x : Int) ∧ IntKind.i64.wrap ((x % 112 : Nat) : Int) = ((x % 112 : Nat) : Int) ∧ x % 112 < 112 := by
  refine ⟨by omega, by rw [Int.tmod_eq_emod_of_nonneg (by omega)]; omega, ?_, ?_, Nat.mod_lt _ (by omega)⟩ <;> simp [IntKind.wrap, IntKind.signed, IntKind.bits] <;> omega
theorem run_min {P : Program} (t : TypeId) (w : World) (ats : Array TypeId) (n m : Nat) : (Builtin.min_ ats t #[.int .i64 n, .int .i64 m]).run P w = .ok (.int .i64 ((min n m : Nat) : Int)) w := by
  have h : (Builtin.min_ ats t #[.int .i64 n, .int .i64 m]).run P w = .ok (.int .i64 (if (m : Int) < (n : Int) then (m : Int) else (n : Int))) w := rfl
  rw [h]
  congr 2
  split <;> omega

theorem Mn.other {w : World} {B k j : Nat} {e : TypeId} {size n : Nat} {v u : Value} {cs : List Value} (h : Mn w B e size v n cs) (hne : v.ownBlock ≠ some k) : Mn (w.setCell ⟨k, j, none⟩ u) B e size v n cs :=
  h.same fun g hg _ => setCell_other w k j g u (fun e => hne (e ▸ hg))

set_option maxHeartbeats 12800000 in
set_option maxRecDepth 20000 in
theorem cut_walk (ow k s q v z0 z1 : Nat) (w : World) (how : ow ≤ 255) (hk : k ≤ 255) (hs : s ≤ 255) (hq : q < 4294967296) (hv : v < 4294967296) (hz0 : z0 ≤ 255) (hz1 : z1 ≤ 255) :
    Calls Try.prog 21 #[.int .u8 ow, .agg #[.int .u8 k, .int .u8 s, .int .u32 q, .int .u32 v], .agg #[.int .u8 z0, .int .u8 z1]] w fun e w' => e = .returned (.bool true) ∧ Below w.heap.size w w' := by
  obtain ⟨k1, k2, k3, k4, k5⟩ := kind2 k hk
  obtain ⟨m1, m2, m3, m4, m5⟩ := mod8 ow how
  obtain ⟨a1, a2, a3, a4, a5⟩ := mod112 z0 hz0
  obtain ⟨b1, b2, b3, b4, b5⟩ := mod112 z1 hz1
  obtain ⟨K, hK⟩ : ∃ K, 1 + k % 2 = K := ⟨_, rfl⟩
  obtain ⟨o, ho⟩ : ∃ o, ow % 8 = o := ⟨_, rfl⟩
  obtain ⟨both, hbo⟩ : ∃ x, z0 % 112 = x := ⟨_, rfl⟩
  obtain ⟨one, hon⟩ : ∃ x, z1 % 112 = x := ⟨_, rfl⟩
  obtain ⟨k', hk'⟩ : ∃ x, k % 2 = x := ⟨_, rfl⟩
  rw [hK] at k4
  rw [hk'] at k1 k2 k3 k4 hK
  rw [ho] at m1 m2 m3 m4 m5
  rw [hbo] at a1 a2 a4 a5
  rw [hon] at b1 b2 b4 b5
  have hmay : mayB (o : Int) K = true := by
    have : K = 1 ∨ K = 2 := by omega
    unfold mayB
    rw [decide_eq_true (by omega : (0 : Int) ≤ (o : Int)), decide_eq_true (by omega : (o : Int) < 8)]
    rcases this with rfl | rfl <;> rfl
  obtain ⟨S, hS⟩ : ∃ S, syP (o : Int) K s q v true false = S := ⟨_, rfl⟩
  have hl := syP_length (o : Int) K s q v true false hmay
  have hrd := rdOk_sy (s := s) (q := q) (v := v) (a := true) (b := false) hmay
  have HG := Lib.hid (fun w => good74_calls (o : Int) K s q v w hmay hs hq hv)
  rw [hS] at hl HG hrd
  simp only [rdOk, Bool.and_eq_true, decide_eq_true_eq] at hrd
  have hw := (wholeL_iff S).1 hrd.2
  have hw' : ∀ j, j < 114 → wholeB (gt S j) = true := fun j hj => hw j (by omega)
  obtain ⟨xs, hxs⟩ : ∃ xs, (S.set one 0).set both 7 = xs := ⟨_, rfl⟩
  obtain ⟨ys, hys⟩ : ∃ ys, S.set both 0 = ys := ⟨_, rfl⟩
  have hxl : xs.length = 114 := by rw [← hxs, List.length_set, List.length_set, hl]
  have hyl : ys.length = 114 := by rw [← hys, List.length_set, hl]
  have gx : ∀ j, j < 114 → gt xs j = if j = both then 7 else if j = one then 0 else gt S j := fun j hj => by
    rw [← hxs, gt_set _ _ _ _ (by rw [List.length_set]; omega), gt_set _ _ _ _ (by omega)]
    by_cases e : j = both
    · rw [if_pos e.symm, if_pos e]
    · rw [if_neg (fun h => e h.symm), if_neg e]
      by_cases e2 : j = one
      · rw [if_pos e2.symm, if_pos e2]
      · rw [if_neg (fun h => e2 h.symm), if_neg e2]
  have gy : ∀ j, j < 114 → gt ys j = if j = both then 0 else gt S j := fun j hj => by
    rw [← hys, gt_set _ _ _ _ (by omega)]
    by_cases e : j = both
    · rw [if_pos e.symm, if_pos e]
    · rw [if_neg (fun h => e h.symm), if_neg e]
  have hSb : ∀ j, j < 114 → 0 ≤ gt S j ∧ gt S j ≤ 2 := fun j hj => by rcases wholeB_cases (hw' j hj) with e | e <;> rw [e] <;> decide
  have HX : Hid (∀ j, j < 114 → gt xs j = (atN xs j : Int)) := fun j hj => by
    rw [atN_in (by omega)]
    have := hSb j hj
    rw [gx j hj]
    split
    · rfl
    · split
      · rfl
      · omega
  have HY : Hid (∀ j, j < 114 → gt ys j = (atN ys j : Int)) := fun j hj => by
    rw [atN_in (by omega)]
    have := hSb j hj
    rw [gy j hj]
    split
    · rfl
    · omega
  obtain ⟨r1, r2, r3, r4⟩ := cut_runs (o := (o : Int)) hl hw' b5 a5 hxl hyl gx gy
  have HR1 := Lib.hid r1
  have HR2 := Lib.hid r2
  have hinv := stN_inv (o : Int) (atN xs) (atN ys) 114
  have hgd := stN_gd (o : Int) (atN xs) (atN ys) 114
  have hhi : (stN (o : Int) (atN xs) (atN ys) 114).hi = false := (hiN (by omega)).trans r4
  have hun := hinv.un
  have hhad := hinv.had
  rw [Nat.min_self] at hun hhad
  have hun2 : (stN (o : Int) (atN xs) (atN ys) 114).un = ((min one both : Nat) : Int) := by rw [hun]; exact r3
  have HHIX := Lib.hid (fun B g r w h => hiN_calls (o : Int) (atN xs) (atN ys) 114 B g r w h)
  obtain ⟨st, hst⟩ : ∃ st, stN (o : Int) (atN xs) (atN ys) 114 = st := ⟨_, rfl⟩
  rw [hst] at hgd hhi hhad hun2 HHIX
  have HSTE : Hid (∀ (w : World) (B g : Nat) (r : Option Nat) (i : Nat), i = 114 → CS w B g r (stN (o : Int) (atN xs) (atN ys) i) → CS w B g r st) := fun w B g r i hi h => by subst hi; rw [hst] at h; exact h
  clear hinv hun hst
  have HHI : Hid (∀ (B g : Nat) (r : Option Nat) (w : World), CS w B g r st → Calls Try.prog 83 #[.pointer (some ⟨g, 0, none⟩)] w fun e w' => e = .returned (.tuple #[.agg #[.int .i64 0, .int .u8 0, .int .u8 0, .int .u32 0, .int .u32 0], .bool false]) ∧ Below w.heap.size w w') := fun B g r w h => by
    have h1 := HHIX.out B g r w h
    rw [hhi] at h1
    exact h1
  have HUL : Hid (∀ (B g : Nat) (r : Option Nat) (w : World), CS w B g r st → Calls Try.prog 85 #[.pointer (some ⟨g, 0, none⟩)] w fun e w' => e = .returned (.int .i64 ((min one both : Nat) : Int)) ∧ w = w') := fun B g r w h => by
    have h1 := unlike_calls B g r _ w h
    have e : ulC st = ((min one both : Nat) : Int) := by
      unfold ulC
      rw [hhad, if_neg (by simp)]
      exact hun2
    rw [e] at h1
    exact h1
  have HHD : Hid (∀ (B g : Nat) (r : Option Nat) (w : World), CS w B g r st → Calls Try.prog 82 #[.pointer (some ⟨g, 0, none⟩)] w fun e w' => e = .returned (.int .i64 114) ∧ w = w') := fun B g r w h => by
    have h1 := had_calls B g r _ w h
    rw [hhad] at h1
    exact h1
  have HST2 : Hid (∀ (B g : Nat) (r : Option Nat) (w : World), CS w B g r st → Calls Try.prog 80 #[.pointer (some ⟨g, 0, none⟩), .int .u8 2, .int .u8 2] w fun e w' => e = .returned (.int .u8 0) ∧ ∃ r', CS w' B g r' st ∧ Below B w w') := fun B g r w h => by
    have h1 := step_calls B g r _ 2 2 w h hgd
    unfold StepPost at h1
    have e : stepC st 2 2 = (st, 0) := by
      unfold stepC
      rw [if_pos (by rw [hhad]; simp)]
    rw [e] at h1
    exact h1.mono fun e w' ⟨h2, r', h3, h4, h5⟩ => ⟨h2, r', h3, h5⟩
  clear hhi hhad hun2 hgd HHIX
  obtain ⟨mn, hmn⟩ : ∃ mn, min one both = mn := ⟨_, rfl⟩
  have hmin := fun ats ty wx => run_min (P := Try.prog) ty wx ats one both
  rw [hmn] at hmin HUL
  have HNEW := Lib.hid (fun w => new77_calls (o : Int) w (by omega) (by omega))
  have HST : Hid (∀ (n B g : Nat) (r : Option Nat) (w : World), CS w B g r (stN (o : Int) (atN xs) (atN ys) n) → Calls Try.prog 80 #[.pointer (some ⟨g, 0, none⟩), .int .u8 (atN xs n), .int .u8 (atN ys n)] w fun e w' => e = .returned (.int .u8 (outF o (knF xs) (knF ys) n)) ∧ ∃ r', CS w' B g r' (stN o (atN xs) (atN ys) (n + 1)) ∧ Keep w w' g r r' ∧ Below B w w') := fun n B g r w h => stepN_calls (o : Int) (atN xs) (atN ys) n B g r w h
  have HXS := Lib.hid hxs
  have HYS := Lib.hid hys
  have HSW := Lib.hid hw'
  clear hS hl hrd hw hw' hxs hys gx gy hSb r1 r2 r3 r4 hmn hxl hyl hmay hk' ho hbo hon hK m5
  -- memory ahead of the walk
  have HP0 := Lib.hid (show Below w.heap.size w ((w.alloc (.cells #[.int .u8 K, .int .u8 s, .int .u32 q, .int .u32 v] 82)).alloc (.cells #[.int .u8 z0, .int .u8 z1] 149)) from (by repeat (first | exact Below.refl _ _ | apply Bw.alloc | apply Bw.drewN | apply Bw.drew | (refine Bw.step ?_ (by assumption)))))
  have HZ0 := Lib.hid (show Blk ((w.alloc (.cells #[.int .u8 K, .int .u8 s, .int .u32 q, .int .u32 v] 82)).alloc (.cells #[.int .u8 z0, .int .u8 z1] 149)) (w.heap.size + 1) #[.int .u8 z0, .int .u8 z1] 149 from Blk.new (by simp))
  have P0 : Blk ((w.alloc (.cells #[.int .u8 k, .int .u8 s, .int .u32 q, .int .u32 v] 82)).alloc (.cells #[.int .u8 z0, .int .u8 z1] 149)) w.heap.size #[.int .u8 k, .int .u8 s, .int .u32 q, .int .u32 v] 82 := (Blk.new (w := w) rfl).below (by repeat (first | exact Below.refl _ _ | apply Bw.alloc | apply Bw.drewN | apply Bw.drew | (refine Bw.step ?_ (by assumption))))
  have c0 := P0.cell 0 (.int .u8 k) rfl
  have f0 := P0.frozen 0
  clear P0
  by_cases heq : both = one
  · subst heq
    go_enter Try.func21, Try.ntmps21
    go_wp2_with fail
    refine (HG.out _).mono ?_; rintro e w1 ⟨A1, rfl, hm1, hb1⟩
    have HB1 := Lib.hid (Bw.step HP0.out hb1)
    have HM1 := Lib.hid (hm1.mono HP0.out.size)
    have y0 := (HZ0.out.below hb1).cell 0 (.int .u8 z0) rfl
    have y1 := (HZ0.out.below hb1).cell 1 (.int .u8 z1) rfl
    clear hb1 hm1 c0 f0
    --@
    go_wp2_with (first
      | (at_builtin
         refine wpList_append_mn _ rfl _ _ _ rfl w1.heap.size 50 _ 1 1 Try.underlying22 info50 rfl (by omega) (.slice none 0 0) 0 [] rfl (Mn.nil _ _ _ _) A1 114 114 (nums .u8 S) rfl HM1.out.reads (nums_one _ _) (by omega) (by omega) (Nat.le_refl w1.heap.size) ?_
         intro A2 c2 w2 hc2 hm2 hg2 hat2
         have HB2 := Lib.hid ((Below.refl w1.heap.size w1).grown hg2 (Nat.le_refl _) (fun q hq => by cases hq))
         rw [Nat.zero_add, List.nil_append] at hm2
         have HM12 := Lib.hid (HM1.out.below HB2.out)
         have HM2 := Lib.hid hm2
         clear hm2 hg2 hat2)
      | (at_builtin
         refine wpList_append_mn _ rfl _ _ _ rfl w2.heap.size 50 _ 1 1 Try.underlying22 info50 rfl (by omega) (.slice none 0 0) 0 [] rfl (Mn.nil _ _ _ _) A1 114 114 (nums .u8 S) rfl HM12.out.reads (nums_one _ _) (by omega) (by omega) (Nat.le_refl w2.heap.size) ?_
         intro A3 c3 w3 hc3 hm3 hg3 hat3
         have HB3 := Lib.hid ((Below.refl w2.heap.size w2).grown hg3 (Nat.le_refl _) (fun q hq => by cases hq))
         rw [Nat.zero_add, List.nil_append] at hm3
         have HM13 := Lib.hid (HM12.out.below HB3.out)
         obtain ⟨g2, rfl⟩ := HM2.out.ex (by omega)
         obtain ⟨g3, rfl⟩ := hm3.ex (by omega)
         have HM23 := Lib.hid (HM2.out.below HB3.out)
         have HM3 := Lib.hid hm3
         have hg2b := HM2.out.block (g := g2) rfl
         have hg3b := HM3.out.block (g := g3) rfl
         have hne : g3 ≠ g2 := by omega
         have hne' : g2 ≠ g3 := by omega
         obtain ⟨x1, x2⟩ := HM23.out.cellAt both (by omega)
         obtain ⟨x3, x4⟩ := HM23.out.cellAt both (by omega)
         obtain ⟨x5, x6⟩ := HM3.out.cellAt both (by omega)
         clear hm3 hg3 hat3))
    --@
    have hc2' : 114 ≤ c2 := by omega
    have hc3' : 114 ≤ c3 := by omega
    have hA1b : ∀ q, (Value.slice A1 114 114).ownBlock = some q → q < w1.heap.size := fun q hq => (HM1.out.block hq).2
    have HW := Lib.hid (show Below w.heap.size w (((w3.setCell ⟨g2, both, none⟩ (.int .u8 0)).setCell ⟨g2, both, none⟩ (.int .u8 7)).setCell ⟨g3, both, none⟩ (.int .u8 0)) from
      (((Bw.step HB1.out (Bw.step HB2.out HB3.out)).setCell (p := ⟨g2, both, none⟩) (by have := HB1.out.size; show w.heap.size ≤ g2; omega) _).setCell (p := ⟨g2, both, none⟩) (by have := HB1.out.size; show w.heap.size ≤ g2; omega) _).setCell (p := ⟨g3, both, none⟩) (by have := HB1.out.size; have := HB2.out.size; show w.heap.size ≤ g3; omega) _)
    have HN := Lib.hid (show Mn (((w3.setCell ⟨g2, both, none⟩ (.int .u8 0)).setCell ⟨g2, both, none⟩ (.int .u8 7)).setCell ⟨g3, both, none⟩ (.int .u8 0)) w1.heap.size 50 1 (.slice (some ⟨g2, 0, none⟩) 114 c2) 114 (nums .u8 xs) from by
      rw [← HXS.out]
      exact ((HM23.out.set both (by omega) 0).set both (by omega) 7).other (by simp [Value.ownBlock]; omega))
    have HF := Lib.hid (show Mn (((w3.setCell ⟨g2, both, none⟩ (.int .u8 0)).setCell ⟨g2, both, none⟩ (.int .u8 7)).setCell ⟨g3, both, none⟩ (.int .u8 0)) w2.heap.size 50 1 (.slice (some ⟨g3, 0, none⟩) 114 c3) 114 (nums .u8 ys) from by
      rw [← HYS.out]
      exact ((HM3.out.other (by simp [Value.ownBlock]; omega)).other (by simp [Value.ownBlock]; omega)).set both (by omega) 0)
    have HSR := Lib.hid (show Mn (((w3.setCell ⟨g2, both, none⟩ (.int .u8 0)).setCell ⟨g2, both, none⟩ (.int .u8 7)).setCell ⟨g3, both, none⟩ (.int .u8 0)) w.heap.size 50 1 (.slice A1 114 114) 114 (nums .u8 S) from
      ((HM13.out.other (fun e => by have := hA1b _ e; omega)).other (fun e => by have := hA1b _ e; omega)).other (fun e => by have := hA1b _ e; have := HB2.out.size; omega))
    clear x1 x2 x3 x4 x5 x6 hc2 hc3 y0 y1 hA1b
    generalize (((w3.setCell ⟨g2, both, none⟩ (.int .u8 0)).setCell ⟨g2, both, none⟩ (.int .u8 7)).setCell ⟨g3, both, none⟩ (.int .u8 0)) = W at *
    obtain ⟨g1, rfl⟩ := HSR.out.ex (by omega)
    refine (HNEW.out _).mono ?_; rintro e w4 ⟨rfl, hcs4, hb4⟩
    have HCS4 := Lib.hid hcs4
    have HB4 := Lib.hid hb4
    clear hcs4 hb4
    go_wp2_with fail
    go_loopw [15] (fun i wr => ∃ (k : Nat) (r : Option Nat), k ≤ 114 ∧ i = .int .i64 k ∧ Hid (CS wr W.heap.size W.heap.size r (stN (o : Int) (atN xs) (atN ys) k)) ∧ Hid (Below W.heap.size W wr)) (fun i _ => 114 - (intOf i).toNat)
    case atStart => exact ⟨0, none, by omega, rfl, HCS4.out, HB4.out⟩
    case round =>
      obtain ⟨i, r, hi, rfl, HCS, HB⟩ := hrel
      by_cases hlt : i < 114
      · have HK : Hid (∀ w', Below W.heap.size W w' → w'.cell? ⟨g2, i, none⟩ = some (.int .u8 (atN xs i)) ∧ w'.cell? ⟨g3, i, none⟩ = some (.int .u8 (atN ys i))) := fun w' h => by
          have h1 := ((HN.out.below h).cellAt i hlt).1
          have h2 := ((HF.out.below h).cellAt i hlt).1
          rw [HX.out i hlt] at h1
          rw [HY.out i hlt] at h2
          exact ⟨h1, h2⟩
        have HK8 : Hid (∀ w', Below W.heap.size W w' → w'.cell? ⟨g1, i, none⟩ = some (.int .u8 (gt S i))) := fun w' h => ((HSR.out.below h).cellAt i hlt).1
        obtain ⟨e1, e2⟩ := HK.out _ HB.out
        by_cases hib : i < both
        · have HSK : Hid (∀ (B g : Nat) (r : Option Nat) (w : World), CS w B g r (stN (o : Int) (atN xs) (atN ys) i) → Calls Try.prog 80 #[.pointer (some ⟨g, 0, none⟩), .int .u8 (atN xs i), .int .u8 (atN ys i)] w fun e w' => e = .returned (.int .u8 (gt S i)) ∧ ∃ r', CS w' B g r' (stN o (atN xs) (atN ys) (i + 1)) ∧ Keep w w' g r r' ∧ Below B w w') := fun B g r w h => by
            have := HST.out i B g r w h
            rw [HR1.out i hib] at this
            exact this
          go_wp2_with fail
          go_region_held3 (fun w' => w'.cell? ⟨g2, i, none⟩ = some (.int .u8 (atN xs i)) ∧ w'.cell? ⟨g3, i, none⟩ = some (.int .u8 (atN ys i))) (first | assumption | exact HK.out _ (by first | assumption | (exact Bw.step HB.out (by repeat (first | exact Below.refl _ _ | apply Bw.alloc | apply Bw.drewN | apply Bw.drew | (refine Bw.step ?_ (by assumption)))))))
            (first
              | (go_at_call 80; refine (HSK.out _ _ _ _ (HCS.out.below (by repeat (first | exact Below.refl _ _ | apply Bw.alloc | apply Bw.drewN | apply Bw.drew | (refine Bw.step ?_ (by assumption)))))).mono ?_; rintro e w5 ⟨rfl, r5, hcs5, -, hb5⟩; have HCS5 := Lib.hid hcs5; have HB5 := Lib.hid ((show Below W.heap.size W _ from Bw.step HB.out (by repeat (first | exact Below.refl _ _ | apply Bw.alloc | apply Bw.drewN | apply Bw.drew | (refine Bw.step ?_ (by assumption))))).trans hb5); have e8 := HK8.out _ HB5.out; clear hcs5 hb5))
          go_wp2
          go_roundw
          case rel => exact ⟨i + 1, r5, by omega, by go_num, HCS5, HB5⟩
          case measure => simp [intOf]; omega
        · have HSK : Hid (∀ (B g : Nat) (r : Option Nat) (w : World), CS w B g r (stN (o : Int) (atN xs) (atN ys) i) → Calls Try.prog 80 #[.pointer (some ⟨g, 0, none⟩), .int .u8 (atN xs i), .int .u8 (atN ys i)] w fun e w' => e = .returned (.int .u8 0) ∧ ∃ r', CS w' B g r' (stN o (atN xs) (atN ys) (i + 1)) ∧ Keep w w' g r r' ∧ Below B w w') := fun B g r w h => by
            have := HST.out i B g r w h
            rw [HR2.out i (by omega)] at this
            exact this
          have hbi : both ≤ i := by omega
          go_wp2_with fail
          go_region_held3 (fun w' => w'.cell? ⟨g2, i, none⟩ = some (.int .u8 (atN xs i)) ∧ w'.cell? ⟨g3, i, none⟩ = some (.int .u8 (atN ys i))) (first | assumption | exact HK.out _ (by first | assumption | (exact Bw.step HB.out (by repeat (first | exact Below.refl _ _ | apply Bw.alloc | apply Bw.drewN | apply Bw.drew | (refine Bw.step ?_ (by assumption)))))))
            (first
              | (go_at_call 80; refine (HSK.out _ _ _ _ (HCS.out.below (by repeat (first | exact Below.refl _ _ | apply Bw.alloc | apply Bw.drewN | apply Bw.drew | (refine Bw.step ?_ (by assumption)))))).mono ?_; rintro e w5 ⟨rfl, r5, hcs5, -, hb5⟩; have HCS5 := Lib.hid hcs5; have HB5 := Lib.hid ((show Below W.heap.size W _ from Bw.step HB.out (by repeat (first | exact Below.refl _ _ | apply Bw.alloc | apply Bw.drewN | apply Bw.drew | (refine Bw.step ?_ (by assumption))))).trans hb5); clear hcs5 hb5))
          go_wp2
          go_roundw
          case rel => exact ⟨i + 1, r5, by omega, by go_num, HCS5, HB5⟩
          case measure => simp [intOf]; omega
      · have HCE := Lib.hid (HSTE.out _ _ _ _ i (by omega) HCS.out)
        have hi4 : i = 114 := by omega
        clear HCS
        subst hi4
        go_wp2_with fail
        refine (HHI.out _ _ _ _ HCE.out).mono ?_; rintro e w5 ⟨rfl, hb5⟩
        have HCE5 := Lib.hid (HCE.out.below (Bw.alloc hb5 (.cells #[.int .i64 0, .int .u8 0, .int .u8 0, .int .u32 0, .int .u32 0] 89)))
        have HB5 := Lib.hid (Bw.step HB.out (Bw.alloc hb5 (.cells #[.int .i64 0, .int .u8 0, .int .u8 0, .int .u32 0, .int .u32 0] 89)))
        clear hb5
        go_wp2_with fail
        refine (HUL.out _ _ _ _ HCE5.out).mono ?_; rintro e w' ⟨rfl, rfl⟩
        go_wp2_with fail
        refine (HHD.out _ _ _ _ HCE5.out).mono ?_; rintro e w' ⟨rfl, rfl⟩
        go_wp2_with fail
        refine (HST2.out _ _ _ _ HCE5.out).mono ?_; rintro e w7 ⟨rfl, r7, hcs7, hb7⟩
        have HCE7 := Lib.hid hcs7
        have HB7 := Lib.hid (HB5.out.trans hb7)
        clear hcs7 hb7
        go_wp2_with fail
        refine (HHD.out _ _ _ _ HCE7.out).mono ?_; rintro e w' ⟨rfl, rfl⟩
        go_wp2_with fail
        refine (lives09 _).mono ?_; rintro e w8 ⟨rfl, hb8⟩
        go_wp2
        go_ret
        exact ⟨rfl, Bw.step HW.out (Bw.step HB7.out hb8)⟩
  · have heq' : one ≠ both := fun e => heq e.symm
    go_enter Try.func21, Try.ntmps21
    go_wp2_with fail
    refine (HG.out _).mono ?_; rintro e w1 ⟨A1, rfl, hm1, hb1⟩
    have HB1 := Lib.hid (Bw.step HP0.out hb1)
    have HM1 := Lib.hid (hm1.mono HP0.out.size)
    have y0 := (HZ0.out.below hb1).cell 0 (.int .u8 z0) rfl
    have y1 := (HZ0.out.below hb1).cell 1 (.int .u8 z1) rfl
    clear hb1 hm1 c0 f0
    --@
    go_wp2_with (first
      | (at_builtin
         refine wpList_append_mn _ rfl _ _ _ rfl w1.heap.size 50 _ 1 1 Try.underlying22 info50 rfl (by omega) (.slice none 0 0) 0 [] rfl (Mn.nil _ _ _ _) A1 114 114 (nums .u8 S) rfl HM1.out.reads (nums_one _ _) (by omega) (by omega) (Nat.le_refl w1.heap.size) ?_
         intro A2 c2 w2 hc2 hm2 hg2 hat2
         have HB2 := Lib.hid ((Below.refl w1.heap.size w1).grown hg2 (Nat.le_refl _) (fun q hq => by cases hq))
         rw [Nat.zero_add, List.nil_append] at hm2
         have HM12 := Lib.hid (HM1.out.below HB2.out)
         have HM2 := Lib.hid hm2
         clear hm2 hg2 hat2)
      | (at_builtin
         refine wpList_append_mn _ rfl _ _ _ rfl w2.heap.size 50 _ 1 1 Try.underlying22 info50 rfl (by omega) (.slice none 0 0) 0 [] rfl (Mn.nil _ _ _ _) A1 114 114 (nums .u8 S) rfl HM12.out.reads (nums_one _ _) (by omega) (by omega) (Nat.le_refl w2.heap.size) ?_
         intro A3 c3 w3 hc3 hm3 hg3 hat3
         have HB3 := Lib.hid ((Below.refl w2.heap.size w2).grown hg3 (Nat.le_refl _) (fun q hq => by cases hq))
         rw [Nat.zero_add, List.nil_append] at hm3
         have HM13 := Lib.hid (HM12.out.below HB3.out)
         obtain ⟨g2, rfl⟩ := HM2.out.ex (by omega)
         obtain ⟨g3, rfl⟩ := hm3.ex (by omega)
         have HM23 := Lib.hid (HM2.out.below HB3.out)
         have HM3 := Lib.hid hm3
         have hg2b := HM2.out.block (g := g2) rfl
         have hg3b := HM3.out.block (g := g3) rfl
         have hne : g3 ≠ g2 := by omega
         have hne' : g2 ≠ g3 := by omega
         obtain ⟨x1, x2⟩ := HM23.out.cellAt one (by omega)
         obtain ⟨x3, x4⟩ := HM23.out.cellAt both (by omega)
         obtain ⟨x5, x6⟩ := HM3.out.cellAt both (by omega)
         clear hm3 hg3 hat3))
    --@
    have hc2' : 114 ≤ c2 := by omega
    have hc3' : 114 ≤ c3 := by omega
    have hA1b : ∀ q, (Value.slice A1 114 114).ownBlock = some q → q < w1.heap.size := fun q hq => (HM1.out.block hq).2
    have HW := Lib.hid (show Below w.heap.size w (((w3.setCell ⟨g2, one, none⟩ (.int .u8 0)).setCell ⟨g2, both, none⟩ (.int .u8 7)).setCell ⟨g3, both, none⟩ (.int .u8 0)) from
      (((Bw.step HB1.out (Bw.step HB2.out HB3.out)).setCell (p := ⟨g2, one, none⟩) (by have := HB1.out.size; show w.heap.size ≤ g2; omega) _).setCell (p := ⟨g2, both, none⟩) (by have := HB1.out.size; show w.heap.size ≤ g2; omega) _).setCell (p := ⟨g3, both, none⟩) (by have := HB1.out.size; have := HB2.out.size; show w.heap.size ≤ g3; omega) _)
    have HN := Lib.hid (show Mn (((w3.setCell ⟨g2, one, none⟩ (.int .u8 0)).setCell ⟨g2, both, none⟩ (.int .u8 7)).setCell ⟨g3, both, none⟩ (.int .u8 0)) w1.heap.size 50 1 (.slice (some ⟨g2, 0, none⟩) 114 c2) 114 (nums .u8 xs) from by
      rw [← HXS.out]
      exact ((HM23.out.set one (by omega) 0).set both (by omega) 7).other (by simp [Value.ownBlock]; omega))
    have HF := Lib.hid (show Mn (((w3.setCell ⟨g2, one, none⟩ (.int .u8 0)).setCell ⟨g2, both, none⟩ (.int .u8 7)).setCell ⟨g3, both, none⟩ (.int .u8 0)) w2.heap.size 50 1 (.slice (some ⟨g3, 0, none⟩) 114 c3) 114 (nums .u8 ys) from by
      rw [← HYS.out]
      exact ((HM3.out.other (by simp [Value.ownBlock]; omega)).other (by simp [Value.ownBlock]; omega)).set both (by omega) 0)
    have HSR := Lib.hid (show Mn (((w3.setCell ⟨g2, one, none⟩ (.int .u8 0)).setCell ⟨g2, both, none⟩ (.int .u8 7)).setCell ⟨g3, both, none⟩ (.int .u8 0)) w.heap.size 50 1 (.slice A1 114 114) 114 (nums .u8 S) from
      ((HM13.out.other (fun e => by have := hA1b _ e; omega)).other (fun e => by have := hA1b _ e; omega)).other (fun e => by have := hA1b _ e; have := HB2.out.size; omega))
    clear x1 x2 x3 x4 x5 x6 hc2 hc3 y0 y1 hA1b
    generalize (((w3.setCell ⟨g2, one, none⟩ (.int .u8 0)).setCell ⟨g2, both, none⟩ (.int .u8 7)).setCell ⟨g3, both, none⟩ (.int .u8 0)) = W at *
    obtain ⟨g1, rfl⟩ := HSR.out.ex (by omega)
    refine (HNEW.out _).mono ?_; rintro e w4 ⟨rfl, hcs4, hb4⟩
    have HCS4 := Lib.hid hcs4
    have HB4 := Lib.hid hb4
    clear hcs4 hb4
    go_wp2_with fail
    go_loopw [15] (fun i wr => ∃ (k : Nat) (r : Option Nat), k ≤ 114 ∧ i = .int .i64 k ∧ Hid (CS wr W.heap.size W.heap.size r (stN (o : Int) (atN xs) (atN ys) k)) ∧ Hid (Below W.heap.size W wr)) (fun i _ => 114 - (intOf i).toNat)
    case atStart => exact ⟨0, none, by omega, rfl, HCS4.out, HB4.out⟩
    case round =>
      obtain ⟨i, r, hi, rfl, HCS, HB⟩ := hrel
      by_cases hlt : i < 114
      · have HK : Hid (∀ w', Below W.heap.size W w' → w'.cell? ⟨g2, i, none⟩ = some (.int .u8 (atN xs i)) ∧ w'.cell? ⟨g3, i, none⟩ = some (.int .u8 (atN ys i))) := fun w' h => by
          have h1 := ((HN.out.below h).cellAt i hlt).1
          have h2 := ((HF.out.below h).cellAt i hlt).1
          rw [HX.out i hlt] at h1
          rw [HY.out i hlt] at h2
          exact ⟨h1, h2⟩
        have HK8 : Hid (∀ w', Below W.heap.size W w' → w'.cell? ⟨g1, i, none⟩ = some (.int .u8 (gt S i))) := fun w' h => ((HSR.out.below h).cellAt i hlt).1
        obtain ⟨e1, e2⟩ := HK.out _ HB.out
        by_cases hib : i < both
        · have HSK : Hid (∀ (B g : Nat) (r : Option Nat) (w : World), CS w B g r (stN (o : Int) (atN xs) (atN ys) i) → Calls Try.prog 80 #[.pointer (some ⟨g, 0, none⟩), .int .u8 (atN xs i), .int .u8 (atN ys i)] w fun e w' => e = .returned (.int .u8 (gt S i)) ∧ ∃ r', CS w' B g r' (stN o (atN xs) (atN ys) (i + 1)) ∧ Keep w w' g r r' ∧ Below B w w') := fun B g r w h => by
            have := HST.out i B g r w h
            rw [HR1.out i hib] at this
            exact this
          go_wp2_with fail
          go_region_held3 (fun w' => w'.cell? ⟨g2, i, none⟩ = some (.int .u8 (atN xs i)) ∧ w'.cell? ⟨g3, i, none⟩ = some (.int .u8 (atN ys i))) (first | assumption | exact HK.out _ (by first | assumption | (exact Bw.step HB.out (by repeat (first | exact Below.refl _ _ | apply Bw.alloc | apply Bw.drewN | apply Bw.drew | (refine Bw.step ?_ (by assumption)))))))
            (first
              | (go_at_call 80; refine (HSK.out _ _ _ _ (HCS.out.below (by repeat (first | exact Below.refl _ _ | apply Bw.alloc | apply Bw.drewN | apply Bw.drew | (refine Bw.step ?_ (by assumption)))))).mono ?_; rintro e w5 ⟨rfl, r5, hcs5, -, hb5⟩; have HCS5 := Lib.hid hcs5; have HB5 := Lib.hid ((show Below W.heap.size W _ from Bw.step HB.out (by repeat (first | exact Below.refl _ _ | apply Bw.alloc | apply Bw.drewN | apply Bw.drew | (refine Bw.step ?_ (by assumption))))).trans hb5); have e8 := HK8.out _ HB5.out; clear hcs5 hb5))
          go_wp2
          go_roundw
          case rel => exact ⟨i + 1, r5, by omega, by go_num, HCS5, HB5⟩
          case measure => simp [intOf]; omega
        · have HSK : Hid (∀ (B g : Nat) (r : Option Nat) (w : World), CS w B g r (stN (o : Int) (atN xs) (atN ys) i) → Calls Try.prog 80 #[.pointer (some ⟨g, 0, none⟩), .int .u8 (atN xs i), .int .u8 (atN ys i)] w fun e w' => e = .returned (.int .u8 0) ∧ ∃ r', CS w' B g r' (stN o (atN xs) (atN ys) (i + 1)) ∧ Keep w w' g r r' ∧ Below B w w') := fun B g r w h => by
            have := HST.out i B g r w h
            rw [HR2.out i (by omega)] at this
            exact this
          have hbi : both ≤ i := by omega
          go_wp2_with fail
          go_region_held3 (fun w' => w'.cell? ⟨g2, i, none⟩ = some (.int .u8 (atN xs i)) ∧ w'.cell? ⟨g3, i, none⟩ = some (.int .u8 (atN ys i))) (first | assumption | exact HK.out _ (by first | assumption | (exact Bw.step HB.out (by repeat (first | exact Below.refl _ _ | apply Bw.alloc | apply Bw.drewN | apply Bw.drew | (refine Bw.step ?_ (by assumption)))))))
            (first
              | (go_at_call 80; refine (HSK.out _ _ _ _ (HCS.out.below (by repeat (first | exact Below.refl _ _ | apply Bw.alloc | apply Bw.drewN | apply Bw.drew | (refine Bw.step ?_ (by assumption)))))).mono ?_; rintro e w5 ⟨rfl, r5, hcs5, -, hb5⟩; have HCS5 := Lib.hid hcs5; have HB5 := Lib.hid ((show Below W.heap.size W _ from Bw.step HB.out (by repeat (first | exact Below.refl _ _ | apply Bw.alloc | apply Bw.drewN | apply Bw.drew | (refine Bw.step ?_ (by assumption))))).trans hb5); clear hcs5 hb5))
          go_wp2
          go_roundw
          case rel => exact ⟨i + 1, r5, by omega, by go_num, HCS5, HB5⟩
          case measure => simp [intOf]; omega
      · have HCE := Lib.hid (HSTE.out _ _ _ _ i (by omega) HCS.out)
        have hi4 : i = 114 := by omega
        clear HCS
        subst hi4
        go_wp2_with fail
        refine (HHI.out _ _ _ _ HCE.out).mono ?_; rintro e w5 ⟨rfl, hb5⟩
        have HCE5 := Lib.hid (HCE.out.below (Bw.alloc hb5 (.cells #[.int .i64 0, .int .u8 0, .int .u8 0, .int .u32 0, .int .u32 0] 89)))
        have HB5 := Lib.hid (Bw.step HB.out (Bw.alloc hb5 (.cells #[.int .i64 0, .int .u8 0, .int .u8 0, .int .u32 0, .int .u32 0] 89)))
        clear hb5
        go_wp2_with fail
        refine (HUL.out _ _ _ _ HCE5.out).mono ?_; rintro e w' ⟨rfl, rfl⟩
        go_wp2_with fail
        refine (HHD.out _ _ _ _ HCE5.out).mono ?_; rintro e w' ⟨rfl, rfl⟩
        go_wp2_with fail
        refine (HST2.out _ _ _ _ HCE5.out).mono ?_; rintro e w7 ⟨rfl, r7, hcs7, hb7⟩
        have HCE7 := Lib.hid hcs7
        have HB7 := Lib.hid (HB5.out.trans hb7)
        clear hcs7 hb7
        go_wp2_with fail
        refine (HHD.out _ _ _ _ HCE7.out).mono ?_; rintro e w' ⟨rfl, rfl⟩
        go_wp2_with fail
        refine (lives09 _).mono ?_; rintro e w8 ⟨rfl, hb8⟩
        go_wp2
        go_ret
        exact ⟨rfl, Bw.step HW.out (Bw.step HB7.out hb8)⟩
end Go.Proofs.Ytnmhhjgiakijgaa
