/- CatchesChain: what the call returns. -/
import Derived.Test.YtnmhhjgiakijgaaM14
import Derived.Test.YtnmhhjgiakijgaaB15
namespace Go.Proofs.Ytnmhhjgiakijgaa
open Go.RowKit
set_option linter.unusedVariables false
set_option linter.unusedSimpArgs false

theorem small64 (x : Nat) (h : x ≤ 60000) : IntKind.i64.wrap (x : Int) = (x : Int) := by
  simp [IntKind.wrap, IntKind.signed, IntKind.bits]; omega
theorem modN (x m : Nat) (h : x ≤ 255) (hm : 0 < m) (hm2 : m ≤ 60000) : ((x : Int) % (m : Int) = ((x % m : Nat) : Int)) ∧ ((x : Int).tmod (m : Int) = ((x % m : Nat) : Int)) ∧ x % m < m := by
  refine ⟨by omega, by rw [Int.tmod_eq_emod_of_nonneg (by omega)]; omega, Nat.mod_lt _ hm⟩

set_option maxHeartbeats 25600000 in
set_option maxRecDepth 20000 in
theorem chain_walk (ow k s q v z0 z1 z2 z3 : Nat) (w : World) (how : ow ≤ 255) (hk : k ≤ 255) (hs : s ≤ 255) (hq : q < 4294967296) (hv : v < 4294967296) (hz0 : z0 ≤ 255) (hz1 : z1 ≤ 255) (hz2 : z2 ≤ 255) (hz3 : z3 ≤ 255) :
    Calls Try.prog 17 #[.int .u8 ow, .agg #[.int .u8 k, .int .u8 s, .int .u32 q, .int .u32 v], .agg #[.int .u8 z0, .int .u8 z1, .int .u8 z2, .int .u8 z3]] w fun e w' => e = .returned (.bool true) ∧ Below w.heap.size w w' := by
  obtain ⟨k1, k2, k3, k4, k5⟩ := kind2 k hk
  obtain ⟨m1, m2, m3, m4, m5⟩ := mod8 ow how
  obtain ⟨K, hK⟩ : ∃ K, 1 + k % 2 = K := ⟨_, rfl⟩
  obtain ⟨o, ho⟩ : ∃ o, ow % 8 = o := ⟨_, rfl⟩
  obtain ⟨k', hk'⟩ : ∃ x, k % 2 = x := ⟨_, rfl⟩
  rw [hK] at k4
  rw [hk'] at k1 k2 k3 k4 k5 hK
  rw [ho] at m1 m2 m3 m4 m5
  obtain ⟨a1, a2, a3⟩ := modN z0 16 hz0 (by omega) (by omega)
  obtain ⟨r0, hr0⟩ : ∃ x, z0 % 16 = x := ⟨_, rfl⟩
  rw [hr0] at a1 a2 a3
  have a1 : (z0 : Int) % 16 = (r0 : Int) := a1
  have a2 : (z0 : Int).tmod 16 = (r0 : Int) := a2
  have a4 := small64 z0 (by omega)
  have a5 := small64 r0 (by omega)
  obtain ⟨N, hN⟩ : ∃ N, 3 + r0 = N := ⟨_, rfl⟩
  have a6 : IntKind.i64.wrap (3 + (r0 : Int)) = (N : Int) := by rw [show 3 + (r0 : Int) = (N : Int) by omega]; exact small64 N (by omega)
  have a7 : 3 + (r0 : Int) = (N : Int) := by omega
  obtain ⟨N1, hN1⟩ : ∃ N1, N + 1 = N1 := ⟨_, rfl⟩
  have b8 : (N : Int) + 1 = (N1 : Int) := by omega
  have b0 : IntKind.i64.wrap ((N : Int) + 1) = (N1 : Int) := by rw [show (N : Int) + 1 = (N1 : Int) by omega]; exact small64 N1 (by omega)
  obtain ⟨b1, b2, b3⟩ := modN z1 N1 hz1 (by omega) (by omega)
  obtain ⟨bad, hbad⟩ : ∃ x, z1 % N1 = x := ⟨_, rfl⟩
  rw [hbad] at b1 b2 b3
  have b4 := small64 z1 (by omega)
  have b5 := small64 bad (by omega)
  have b6 : ((N1 : Int) == 0) = false := by simp; omega
  have b7 : ¬ ((N1 : Int) = 0) := by omega
  obtain ⟨c1, c2, c3⟩ := modN z2 114 hz2 (by omega) (by omega)
  obtain ⟨pl, hpl⟩ : ∃ x, z2 % 114 = x := ⟨_, rfl⟩
  rw [hpl] at c1 c2 c3
  have c1 : (z2 : Int) % 114 = (pl : Int) := c1
  have c2 : (z2 : Int).tmod 114 = (pl : Int) := c2
  have c4 := small64 z2 (by omega)
  have c5 := small64 pl (by omega)
  obtain ⟨q2, hq2⟩ : ∃ q, bits .and .u8 (z3 : Int) 2 = q := ⟨_, rfl⟩
  obtain ⟨q1, hq1⟩ : ∃ q, bits .and .u8 (z3 : Int) 1 = q := ⟨_, rfl⟩
  obtain ⟨t2, ht2⟩ : ∃ t, (q2 == 2) = t := ⟨_, rfl⟩
  obtain ⟨t1, ht1⟩ : ∃ t, (q1 == 1) = t := ⟨_, rfl⟩
  have hmay : mayB (o : Int) K = true := by
    have : K = 1 ∨ K = 2 := by omega
    unfold mayB
    rw [decide_eq_true (by omega : (0 : Int) ≤ (o : Int)), decide_eq_true (by omega : (o : Int) < 8)]
    rcases this with rfl | rfl <;> rfl
  obtain ⟨S, hS⟩ : ∃ S, syP (o : Int) K s q v true false = S := ⟨_, rfl⟩
  have hl := syP_length (o : Int) K s q v true false hmay
  have hrd := rdOk_sy (s := s) (q := q) (v := v) (a := true) (b := false) hmay
  have hSb := sy_bytes (s := s) (q := q) (v := v) hmay
  have hf := f5_good (s := s) (q := q) (v := v) hmay hs hq hv
  have hgood := both_good (s := s) (q := q) (v := v) hmay hs hq hv
  have HG := Lib.hid (fun w => good74_calls (o : Int) K s q v w hmay hs hq hv)
  have HOF := Lib.hid (fun w => of58_calls (o : Int) K s q v w)
  rw [hS] at hl HG hrd hSb hf hgood
  simp only [rdOk, Bool.and_eq_true, decide_eq_true_eq] at hrd
  have hw := (wholeL_iff S).1 hrd.2
  have hx12 := wholeB_cases (hw pl (by omega))
  obtain ⟨x0, hx0⟩ : ∃ x, gt S pl = x := ⟨_, rfl⟩
  rw [hx0] at hx12
  obtain ⟨y0, hy0⟩ : ∃ y, 3 - x0 = y := ⟨_, rfl⟩
  have e1 : IntKind.u8.wrap (3 - x0) = y0 := by rw [hy0, show IntKind.u8.wrap y0 = y0 % 256 from rfl]; omega
  -- what comes of a catch
  have HRUN : Hid (∀ (A D : Option Addr) (c d : Nat) (L1 L0 : List Int) (w' : World), Rd w' .u8 A 114 L1 → Rd w' .u8 D 114 L0 → 114 ≤ c → 114 ≤ d → bytesOk L1 → bytesOk L0 → hiL (o : Int) L1 L0 = false →
      Calls Try.prog 75 #[.int .i64 o, .slice A 114 c, .slice D 114 d] w' fun e w'' => ∃ A' c', e = .returned (.tuple #[.slice A' 114 c', .agg #[.int .i64 0, .int .u8 0, .int .u8 0, .int .u32 0, .int .u32 0], .bool false]) ∧ 114 ≤ c' ∧
        Mn w'' w'.heap.size 50 1 (.slice A' 114 c') 114 (nums .u8 (outsL (o : Int) L1 L0)) ∧ Below w'.heap.size w' w'') := fun A D c d L1 L0 w' h1 h2 h3 h4 h5 h6 h7 => by
    have h := run75_calls (o : Int) A D 114 c 114 d L1 L0 w' (by omega) (by omega) h1 h3 (by omega) h5 h2 h4 (by omega) h6
    rw [show hB (o : Int) L1 L0 = [] by unfold hB; rw [h7]; rfl, h7, Nat.max_self] at h
    exact h
  have HRUNS : Hid (∀ (A D : Option Addr) (c d : Nat) (w' : World), Rd w' .u8 A 114 S → Rd w' .u8 D 114 S → 114 ≤ c → 114 ≤ d →
      Calls Try.prog 75 #[.int .i64 o, .slice A 114 c, .slice D 114 d] w' fun e w'' => ∃ A' c', e = .returned (.tuple #[.slice A' 114 c', .agg #[.int .i64 o, .int .u8 K, .int .u8 s, .int .u32 q, .int .u32 v], .bool true]) ∧ 114 ≤ c' ∧
        Mn w'' w'.heap.size 50 1 (.slice A' 114 c') 114 (nums .u8 S) ∧ Below w'.heap.size w' w'') := fun A D c d w' h1 h2 h3 h4 => by
    have h := run75_calls (o : Int) A D 114 c 114 d S S w' (by omega) (by omega) h1 h3 (by omega) hSb h2 h4 (by omega) hSb
    rw [hB_high hl hl hSb hgood, hf, hgood, high_outs hl hl hSb hgood, Nat.max_self] at h
    exact h
  have HOUT : Hid (∀ (L1 L0 : List Int), L1.length = 114 → L0.length = 114 → bytesOk L1 → bytesOk L0 → hiL (o : Int) L1 L0 = false → goodR (outsL (o : Int) L1 L0) = false ∧ bytesOk (outsL (o : Int) L1 L0)) := fun L1 L0 h1 h2 h3 h4 h5 => by
    refine ⟨?_, outs_bytes h3 h4⟩
    have := good_outs (o := (o : Int)) h1 h2 h3 h4
    rw [h5] at this
    exact this
  have HHB : Hid (∀ (L1 L0 : List Int), L1.length = 114 → L0.length = 114 → bytesOk L1 → bytesOk L0 → goodR L1 = false → hiL (o : Int) L1 L0 = false) := fun L1 L0 h1 h2 h3 h4 h5 => hi_bad h1 h2 h3 h4 h5
  have HHA : Hid (∀ (L1 L0 : List Int), L1.length = 114 → L0.length = 114 → bytesOk L1 → bytesOk L0 → L1 ≠ L0 → hiL (o : Int) L1 L0 = false) := fun L1 L0 h1 h2 h3 h4 h5 => hi_apart h1 h2 h3 h4 h5
  have HSL := Lib.hid hl
  have HSB := Lib.hid hSb
  have HSS := Lib.hid (sameL_self S)
  have HX0 := Lib.hid hx0
  -- the changed lists
  have HCH1 : Hid ((S.set pl y0) ≠ S ∧ (S.set pl y0).length = 114 ∧ bytesOk (S.set pl y0)) := ⟨set_ne (by omega) (by rw [hx0]; omega), by rw [List.length_set, hl], bytesOk_set hSb _ (by omega)⟩
  have HCH2 : Hid (((S.set pl y0).set pl 0) ≠ S ∧ ((S.set pl y0).set pl 0).length = 114 ∧ bytesOk ((S.set pl y0).set pl 0)) := ⟨fun e => by
    have h1 : gt ((S.set pl y0).set pl 0) pl = gt S pl := by rw [e]
    rw [gt_set _ _ _ _ (by rw [List.length_set]; omega), if_pos rfl, hx0] at h1
    omega, by rw [List.length_set, List.length_set, hl], bytesOk_set (bytesOk_set hSb _ (by omega)) _ (by omega)⟩
  clear hS hl hrd hSb hf hgood hw hx0 hy0 hmay hk' ho hr0 hN hbad hpl m5 hK a3 hx12 k5 hN1
  have HP0 := Lib.hid (show Below w.heap.size w ((w.alloc (.cells #[.int .u8 K, .int .u8 s, .int .u32 q, .int .u32 v] 82)).alloc (.cells #[.int .u8 z0, .int .u8 z1, .int .u8 z2, .int .u8 z3] 123)) from (by repeat (first | exact Below.refl _ _ | apply Bw.alloc | apply Bw.drewN | apply Bw.drew | (refine Bw.step ?_ (by assumption)))))
  have HPP := Lib.hid (show Blk ((w.alloc (.cells #[.int .u8 K, .int .u8 s, .int .u32 q, .int .u32 v] 82)).alloc (.cells #[.int .u8 z0, .int .u8 z1, .int .u8 z2, .int .u8 z3] 123)) w.heap.size #[.int .u8 K, .int .u8 s, .int .u32 q, .int .u32 v] 82 from (Blk.new (w := w) rfl).below (by repeat (first | exact Below.refl _ _ | apply Bw.alloc | apply Bw.drewN | apply Bw.drew | (refine Bw.step ?_ (by assumption)))))
  have HZ0 := Lib.hid (show Blk ((w.alloc (.cells #[.int .u8 K, .int .u8 s, .int .u32 q, .int .u32 v] 82)).alloc (.cells #[.int .u8 z0, .int .u8 z1, .int .u8 z2, .int .u8 z3] 123)) (w.heap.size + 1) #[.int .u8 z0, .int .u8 z1, .int .u8 z2, .int .u8 z3] 123 from Blk.new (by simp))
  have P0 : Blk ((w.alloc (.cells #[.int .u8 k, .int .u8 s, .int .u32 q, .int .u32 v] 82)).alloc (.cells #[.int .u8 z0, .int .u8 z1, .int .u8 z2, .int .u8 z3] 123)) w.heap.size #[.int .u8 k, .int .u8 s, .int .u32 q, .int .u32 v] 82 := (Blk.new (w := w) rfl).below (by repeat (first | exact Below.refl _ _ | apply Bw.alloc | apply Bw.drewN | apply Bw.drew | (refine Bw.step ?_ (by assumption))))
  have c0 := P0.cell 0 (.int .u8 k) rfl
  have f0 := P0.frozen 0
  clear P0
  go_enter Try.func17, Try.ntmps17
  go_wp2_with fail
  refine (HG.out _).mono ?_; rintro e W ⟨A1, rfl, hmW, hbW⟩
  have HBW := Lib.hid (Bw.step HP0.out hbW)
  have HSW := Lib.hid hmW
  have HPW := Lib.hid (HPP.out.below hbW)
  have HZW := Lib.hid (HZ0.out.below hbW)
  have y0c := HZW.out.cell 0 (.int .u8 z0) rfl
  have y1c := HZW.out.cell 1 (.int .u8 z1) rfl
  have y2c := HZW.out.cell 2 (.int .u8 z2) rfl
  clear hbW hmW c0 f0
  go_wp2_with fail
  clear y0c y1c y2c
  have HST0 := Lib.hid (chR_start (bad := bad) (N := N) HSW.out HSB.out)
  go_loopw [12, 13] (fun v i wr => ∃ (j n2 cO : Nat) (AO : Option Addr) (hs : List Value) (Ax Ay : Option Addr) (cx cy : Nat) (L1 L0 : List Int), i = .int .i64 j ∧ v = .slice AO n2 cO ∧ Hid (ChR W wr S bad N j n2 cO AO hs Ax Ay cx cy L1 L0)) (fun _ i _ => N - (intOf i).toNat)
  case atStart => exact ⟨0, 2, 2, _, _, A1, A1, 114, 114, S, S, rfl, rfl, HST0⟩
  case round =>
    obtain ⟨i, n2, cO, AO, hs, Ax, Ay, cx, cy, L1, L0, rfl, rfl, HR⟩ := hrel
    by_cases hlt : i < N
    · have hi20 : i ≤ 20 := by omega
      have hn2 := HR.out.len
      have hn22 : n2 ≤ 30 := by omega
      obtain ⟨gO, rfl⟩ := HR.out.out.ex (by omega)
      obtain ⟨i1, hi1⟩ : ∃ i1, i + 1 = i1 := ⟨_, rfl⟩
      have hlt1 : i1 < n2 := by omega
      have hlt0 : i < n2 := by omega
      have g1 : IntKind.i64.wrap ((n2 : Int) - 1) = (i1 : Int) := by rw [show (n2 : Int) - 1 = (i1 : Int) by omega]; exact small64 i1 (by omega)
      have g0 : IntKind.i64.wrap ((n2 : Int) - 2) = (i : Int) := by rw [show (n2 : Int) - 2 = (i : Int) by omega]; exact small64 i (by omega)
      have d1 : wr.cell? ⟨gO, i1, none⟩ = some (.slice Ax 114 cx) := (HR.out.out.cellV i1 _ (by rw [← hi1]; exact HR.out.h1)).1
      have d0 : wr.cell? ⟨gO, i, none⟩ = some (.slice Ay 114 cy) := (HR.out.out.cellV i _ HR.out.h0).1
      have HI1 := Lib.hid hi1
      have HN2 := Lib.hid hn2
      clear hi1 hn2
      by_cases hib : i = bad
      · have hq0 : ((i : Int) == (bad : Int)) = true := by simp [hib]
        have hnl : ¬ (i < bad) := by omega
        obtain ⟨hL1, hL0⟩ := HR.out.low (by omega)
        have HR2 : Hid (ChR W wr S bad N i n2 cO (some ⟨gO, 0, none⟩) hs Ax Ay cx cy S S) := by rw [hL1, hL0] at HR; exact HR
        have HIB := Lib.hid hib
        clear hL1 hL0 hib HR L1 L0
        have HR := HR2
        clear HR2
        have y3 := (HZW.out.below HR.out.bel).cell 3 (.int .u8 z3) rfl
        cases t2 <;> cases t1
        · have HNE := Lib.hid (HHA.out (S.set pl y0) S HCH1.out.2.1 HSL.out HCH1.out.2.2 HSB.out HCH1.out.1)
          have HGZ := Lib.hid (HOUT.out (S.set pl y0) S HCH1.out.2.1 HSL.out HCH1.out.2.2 HSB.out HNE.out)
          go_wp2_with (first
            | (at_builtin
               refine wpList_append_mn _ rfl _ _ _ rfl wr.heap.size 50 _ 1 1 Try.underlying22 info50 rfl (by omega) (.slice none 0 0) 0 [] rfl (Mn.nil _ _ _ _) Ax 114 cx (nums .u8 S) rfl HR.out.x1.reads (nums_one _ _) (by omega) (by omega) (Nat.le_refl wr.heap.size) ?_
               intro A2 c2 w2 hc2 hm2 hg2 hat2
               have HB2 := Lib.hid ((Below.refl wr.heap.size wr).grown hg2 (Nat.le_refl _) (fun q hq => by cases hq))
               rw [Nat.zero_add, List.nil_append] at hm2
               obtain ⟨g2, rfl⟩ := hm2.ex (by omega)
               have HM2 := Lib.hid hm2
               have hc2' : 114 ≤ c2 := by omega
               have y3 := (HZW.out.below (Bw.step HR.out.bel HB2.out)).cell 3 (.int .u8 z3) rfl
               obtain ⟨x1, x2⟩ := HM2.out.cellAt pl (by omega)
               rw [HX0.out] at x1
               have hgz : ¬ (g2 = w.heap.size + 1) := by have := HZW.out.lt; have := HR.out.bel.size; have := HB2.out.size; have := (HM2.out.block (g := g2) rfl).1; omega
               have hgz' : ¬ (w.heap.size + 1 = g2) := fun e => hgz e.symm
               clear hm2 hg2 hat2 hc2)
            | (at_builtin; fail))
          have HBB := HB2
          have HMC := HM2
          have hgb := (HM2.out.block (g := g2) rfl).1
          have hgb2 := HB2.out.size
          have HBX := Lib.hid (show Below wr.heap.size wr (w2.setCell ⟨g2, pl, none⟩ (.int .u8 y0)) from (HBB.out.setCell (p := ⟨g2, pl, none⟩) (by show wr.heap.size ≤ g2; omega) (.int .u8 y0)))
          have HMX := Lib.hid (show Mn (w2.setCell ⟨g2, pl, none⟩ (.int .u8 y0)) wr.heap.size 50 1 (.slice (some ⟨g2, 0, none⟩) 114 c2) 114 (nums .u8 (S.set pl y0)) from (HMC.out.set pl (by omega) y0))
          generalize (w2.setCell ⟨g2, pl, none⟩ (.int .u8 y0)) = X at *
          obtain ⟨Z, hZ⟩ : ∃ Z, outsL (o : Int) (S.set pl y0) S = Z := ⟨_, rfl⟩
          have HRU := Lib.hid (HRUN.out (some ⟨g2, 0, none⟩) Ay c2 cy (S.set pl y0) S X HMX.out.rd (HR.out.x0.below HBX.out).rd hc2' HR.out.gy HCH1.out.2.2 HSB.out HNE.out)
          rw [hZ] at HRU HGZ
          clear hZ d1 d0 g1 g0 y3 x1 x2
          refine HRU.out.mono ?_
          rintro e w5 ⟨A5, c5, rfl, hc5, hm5, hb5⟩
          have HM5 := Lib.hid hm5
          have HC5 := Lib.hid hc5
          have HB5 := Lib.hid (show Below wr.heap.size wr (w5.alloc (.cells #[.int .i64 0, .int .u8 0, .int .u8 0, .int .u32 0, .int .u32 0] 89)) from Bw.step HBX.out (Bw.alloc hb5 _))
          have HM5' := Lib.hid ((hm5.mono HBX.out.size).alloc (.cells #[.int .i64 0, .int .u8 0, .int .u8 0, .int .u32 0, .int .u32 0] 89))
          clear hm5 hb5 hc5
          go_wp2_with fail
          generalize (w5.alloc (.cells #[.int .i64 0, .int .u8 0, .int .u8 0, .int .u32 0, .int .u32 0] 89)) = wB at *
          refine wp_region_noPanic ?_
          refine wp_region_held_drew (S := fun _ => True) (by kernel_rfl) trivial (fun hHeld => ?_)
          refine wpAnyH_take (i := 0) (v := .bool false) (by simp only [List.getElem?_toArray, List.getElem?_cons_zero, List.getElem?_cons_succ]; rfl) (by kernel_rfl) (by kernel_rfl) (by kernel_rfl) (fun _ _ _ h => h) (Or.inl ⟨by rfl, ?_⟩) (by assumption) ?_
          · intro w hSw
            try dsimp only at hSw
            go_simp
          try simp only [Act.put, List.setIfInBounds_toArray, List.set_cons_zero, List.set_cons_succ]
          refine wpAnyH_take (i := 1) (v := .int .i64 i) (by simp only [List.getElem?_toArray, List.getElem?_cons_zero, List.getElem?_cons_succ]; rfl) (by kernel_rfl) (by kernel_rfl) (by kernel_rfl) (fun _ _ _ h => h) (Or.inl ⟨by rfl, ?_⟩) (by assumption) ?_
          · intro w hSw
            try dsimp only at hSw
            go_simp
          try simp only [Act.put, List.setIfInBounds_toArray, List.set_cons_zero, List.set_cons_succ]
          refine wpAnyH_take (i := 2) (v := .int .i64 bad) (by simp only [List.getElem?_toArray, List.getElem?_cons_zero, List.getElem?_cons_succ]; rfl) (by kernel_rfl) (by kernel_rfl) (by kernel_rfl) (fun _ _ _ h => h) (Or.inl ⟨by rfl, ?_⟩) (by assumption) ?_
          · intro w hSw
            try dsimp only at hSw
            go_simp
          try simp only [Act.put, List.setIfInBounds_toArray, List.set_cons_zero, List.set_cons_succ]
          refine wpAnyH_take (i := 3) (v := .bool false) (by simp only [List.getElem?_toArray, List.getElem?_cons_zero, List.getElem?_cons_succ]; rfl) (by kernel_rfl) (by kernel_rfl) (by kernel_rfl) (fun _ _ _ h => h) (Or.inl ⟨by rfl, ?_⟩) (by assumption) ?_
          · intro w hSw
            try dsimp only at hSw
            go_simp
          try simp only [Act.put, List.setIfInBounds_toArray, List.set_cons_zero, List.set_cons_succ]
          refine wpAnyH_take (i := 4) (v := .bool false) (by simp only [List.getElem?_toArray, List.getElem?_cons_zero, List.getElem?_cons_succ]; rfl) (by kernel_rfl) (by kernel_rfl) (by kernel_rfl) (fun _ _ _ h => h) (Or.inl ⟨by rfl, ?_⟩) (by assumption) ?_
          · intro w hSw
            try dsimp only at hSw
            go_simp
          try simp only [Act.put, List.setIfInBounds_toArray, List.set_cons_zero, List.set_cons_succ]
          refine wpAnyH_take (i := 5) (v := .bool false) (by simp only [List.getElem?_toArray, List.getElem?_cons_zero, List.getElem?_cons_succ]; rfl) (by kernel_rfl) (by kernel_rfl) (by kernel_rfl) (fun _ _ _ h => h) (Or.inl ⟨by rfl, ?_⟩) (by assumption) ?_
          · intro w hSw
            try dsimp only at hSw
            go_simp
          try simp only [Act.put, List.setIfInBounds_toArray, List.set_cons_zero, List.set_cons_succ]
          refine wpAnyH_take (i := 6) (v := .bool false) (by simp only [List.getElem?_toArray, List.getElem?_cons_zero, List.getElem?_cons_succ]; rfl) (by kernel_rfl) (by kernel_rfl) (by kernel_rfl) (fun _ _ _ h => h) (Or.inl ⟨by rfl, ?_⟩) (by assumption) ?_
          · intro w hSw
            try dsimp only at hSw
            go_simp
          try simp only [Act.put, List.setIfInBounds_toArray, List.set_cons_zero, List.set_cons_succ]
          refine wpAnyH_take (i := 7) (v := .bool false) (by simp only [List.getElem?_toArray, List.getElem?_cons_zero, List.getElem?_cons_succ]; rfl) (by kernel_rfl) (by kernel_rfl) (by kernel_rfl) (fun _ _ _ h => h) (Or.inl ⟨by rfl, ?_⟩) (by assumption) ?_
          · intro w hSw
            try dsimp only at hSw
            go_simp
          try simp only [Act.put, List.setIfInBounds_toArray, List.set_cons_zero, List.set_cons_succ]
          refine wpAnyH_take (i := 8) (v := undef) (by simp only [List.getElem?_toArray, List.getElem?_cons_zero, List.getElem?_cons_succ]; rfl) (by kernel_rfl) (by kernel_rfl) (by kernel_rfl) (fun _ _ _ h => h) (Or.inr ⟨by rfl, rfl⟩) (by assumption) ?_
          try simp only [Act.put, List.setIfInBounds_toArray, List.set_cons_zero, List.set_cons_succ]
          refine wpAnyH_take (i := 9) (v := undef) (by simp only [List.getElem?_toArray, List.getElem?_cons_zero, List.getElem?_cons_succ]; rfl) (by kernel_rfl) (by kernel_rfl) (by kernel_rfl) (fun _ _ _ h => h) (Or.inr ⟨by rfl, rfl⟩) (by assumption) ?_
          try simp only [Act.put, List.setIfInBounds_toArray, List.set_cons_zero, List.set_cons_succ]
          refine wpAnyH_take (i := 10) (v := undef) (by simp only [List.getElem?_toArray, List.getElem?_cons_zero, List.getElem?_cons_succ]; rfl) (by kernel_rfl) (by kernel_rfl) (by kernel_rfl) (fun _ _ _ h => h) (Or.inr ⟨by rfl, rfl⟩) (by assumption) ?_
          try simp only [Act.put, List.setIfInBounds_toArray, List.set_cons_zero, List.set_cons_succ]
          refine wpAnyH_take (i := 11) (v := undef) (by simp only [List.getElem?_toArray, List.getElem?_cons_zero, List.getElem?_cons_succ]; rfl) (by kernel_rfl) (by kernel_rfl) (by kernel_rfl) (fun _ _ _ h => h) (Or.inr ⟨by rfl, rfl⟩) (by assumption) ?_
          try simp only [Act.put, List.setIfInBounds_toArray, List.set_cons_zero, List.set_cons_succ]
          refine wpAnyH_take (i := 12) (v := undef) (by simp only [List.getElem?_toArray, List.getElem?_cons_zero, List.getElem?_cons_succ]; rfl) (by kernel_rfl) (by kernel_rfl) (by kernel_rfl) (fun _ _ _ h => h) (Or.inr ⟨by rfl, rfl⟩) (by assumption) ?_
          try simp only [Act.put, List.setIfInBounds_toArray, List.set_cons_zero, List.set_cons_succ]
          refine wpAnyH_take (i := 13) (v := undef) (by simp only [List.getElem?_toArray, List.getElem?_cons_zero, List.getElem?_cons_succ]; rfl) (by kernel_rfl) (by kernel_rfl) (by kernel_rfl) (fun _ _ _ h => h) (Or.inr ⟨by rfl, rfl⟩) (by assumption) ?_
          try simp only [Act.put, List.setIfInBounds_toArray, List.set_cons_zero, List.set_cons_succ]
          refine wpAnyH_take (i := 14) (v := undef) (by simp only [List.getElem?_toArray, List.getElem?_cons_zero, List.getElem?_cons_succ]; rfl) (by kernel_rfl) (by kernel_rfl) (by kernel_rfl) (fun _ _ _ h => h) (Or.inr ⟨by rfl, rfl⟩) (by assumption) ?_
          try simp only [Act.put, List.setIfInBounds_toArray, List.set_cons_zero, List.set_cons_succ]
          refine wpAnyH_take (i := 15) (v := undef) (by simp only [List.getElem?_toArray, List.getElem?_cons_zero, List.getElem?_cons_succ]; rfl) (by kernel_rfl) (by kernel_rfl) (by kernel_rfl) (fun _ _ _ h => h) (Or.inr ⟨by rfl, rfl⟩) (by assumption) ?_
          try simp only [Act.put, List.setIfInBounds_toArray, List.set_cons_zero, List.set_cons_succ]
          refine wpAnyH_take (i := 16) (v := undef) (by simp only [List.getElem?_toArray, List.getElem?_cons_zero, List.getElem?_cons_succ]; rfl) (by kernel_rfl) (by kernel_rfl) (by kernel_rfl) (fun _ _ _ h => h) (Or.inr ⟨by rfl, rfl⟩) (by assumption) ?_
          try simp only [Act.put, List.setIfInBounds_toArray, List.set_cons_zero, List.set_cons_succ]
          refine wpAnyH_take (i := 17) (v := undef) (by simp only [List.getElem?_toArray, List.getElem?_cons_zero, List.getElem?_cons_succ]; rfl) (by kernel_rfl) (by kernel_rfl) (by kernel_rfl) (fun _ _ _ h => h) (Or.inr ⟨by rfl, rfl⟩) (by assumption) ?_
          try simp only [Act.put, List.setIfInBounds_toArray, List.set_cons_zero, List.set_cons_succ]
          refine wpAnyH_take (i := 18) (v := undef) (by simp only [List.getElem?_toArray, List.getElem?_cons_zero, List.getElem?_cons_succ]; rfl) (by kernel_rfl) (by kernel_rfl) (by kernel_rfl) (fun _ _ _ h => h) (Or.inr ⟨by rfl, rfl⟩) (by assumption) ?_
          try simp only [Act.put, List.setIfInBounds_toArray, List.set_cons_zero, List.set_cons_succ]
          refine wpAnyH_take (i := 19) (v := .bool false) (by simp only [List.getElem?_toArray, List.getElem?_cons_zero, List.getElem?_cons_succ]; rfl) (by kernel_rfl) (by kernel_rfl) (by kernel_rfl) (fun _ _ _ h => h) (Or.inl ⟨by rfl, ?_⟩) (by assumption) ?_
          · intro w hSw
            try dsimp only at hSw
            go_simp
          try simp only [Act.put, List.setIfInBounds_toArray, List.set_cons_zero, List.set_cons_succ]
          refine wpAnyH_take (i := 20) (v := .bool false) (by simp only [List.getElem?_toArray, List.getElem?_cons_zero, List.getElem?_cons_succ]; rfl) (by kernel_rfl) (by kernel_rfl) (by kernel_rfl) (fun _ _ _ h => h) (Or.inl ⟨by rfl, ?_⟩) (by assumption) ?_
          · intro w hSw
            try dsimp only at hSw
            go_simp
          try simp only [Act.put, List.setIfInBounds_toArray, List.set_cons_zero, List.set_cons_succ]
          refine wpAnyH_done (by kernel_rfl) ?_ _
          refine NoPanic.normal ?_
          have HBD := Lib.hid (show Below wr.heap.size wr wB.drew from Bw.step HB5.out (by repeat (first | exact Below.refl _ _ | apply Bw.alloc | apply Bw.drewN | apply Bw.drew | (refine Bw.step ?_ (by assumption)))))
          go_wp2_with (at_builtin; refine wpList_append_mn _ rfl _ _ _ rfl W.heap.size 22 _ 1 24 Try.underlying32 info22 rfl (by omega) (.slice (some ⟨gO, 0, none⟩) n2 cO) n2 hs rfl ((HR.out.out.below HBD.out).alloc _) _ 1 1 [.slice A5 114 c5] rfl (rv_row rfl) (by intro u hu; simp at hu; subst hu; rfl) (by omega) (by omega) (by have := HR.out.bel.size; have h2 : wr.heap.size ≤ wB.heap.size := HBD.out.size; simp; omega) ?_; intro A9 c9 w9 hc9 hm9 hg9 hat9)
          go_roundw
          case measure => simp [intOf]; omega
          case rel => exact ⟨i + 1, n2 + 1, c9, A9, hs ++ [.slice A5 114 c5], A5, Ax, c5, cx, _, _, by go_num, rfl, Lib.hid (HR.out.next hlt HBD.out (HM5'.out.below (by repeat (first | exact Below.refl _ _ | apply Bw.alloc | apply Bw.drewN | apply Bw.drew | (refine Bw.step ?_ (by assumption))))) hg9 hm9 hat9 HC5.out hc9 HGZ.out.2 (fun h => absurd h (by have := HIB.out; omega)) (fun _ => HGZ.out.1))⟩
        · have HNE := Lib.hid (HHA.out ((S.set pl y0).set pl 0) S HCH2.out.2.1 HSL.out HCH2.out.2.2 HSB.out HCH2.out.1)
          have HGZ := Lib.hid (HOUT.out ((S.set pl y0).set pl 0) S HCH2.out.2.1 HSL.out HCH2.out.2.2 HSB.out HNE.out)
          go_wp2_with (first
            | (at_builtin
               refine wpList_append_mn _ rfl _ _ _ rfl wr.heap.size 50 _ 1 1 Try.underlying22 info50 rfl (by omega) (.slice none 0 0) 0 [] rfl (Mn.nil _ _ _ _) Ax 114 cx (nums .u8 S) rfl HR.out.x1.reads (nums_one _ _) (by omega) (by omega) (Nat.le_refl wr.heap.size) ?_
               intro A2 c2 w2 hc2 hm2 hg2 hat2
               have HB2 := Lib.hid ((Below.refl wr.heap.size wr).grown hg2 (Nat.le_refl _) (fun q hq => by cases hq))
               rw [Nat.zero_add, List.nil_append] at hm2
               obtain ⟨g2, rfl⟩ := hm2.ex (by omega)
               have HM2 := Lib.hid hm2
               have hc2' : 114 ≤ c2 := by omega
               have y3 := (HZW.out.below (Bw.step HR.out.bel HB2.out)).cell 3 (.int .u8 z3) rfl
               obtain ⟨x1, x2⟩ := HM2.out.cellAt pl (by omega)
               rw [HX0.out] at x1
               have hgz : ¬ (g2 = w.heap.size + 1) := by have := HZW.out.lt; have := HR.out.bel.size; have := HB2.out.size; have := (HM2.out.block (g := g2) rfl).1; omega
               have hgz' : ¬ (w.heap.size + 1 = g2) := fun e => hgz e.symm
               clear hm2 hg2 hat2 hc2)
            | (at_builtin; fail))
          have HBB := HB2
          have HMC := HM2
          have hgb := (HM2.out.block (g := g2) rfl).1
          have hgb2 := HB2.out.size
          have HBX := Lib.hid (show Below wr.heap.size wr ((w2.setCell ⟨g2, pl, none⟩ (.int .u8 y0)).setCell ⟨g2, pl, none⟩ (.int .u8 0)) from ((HBB.out.setCell (p := ⟨g2, pl, none⟩) (by show wr.heap.size ≤ g2; omega) (.int .u8 y0)).setCell (p := ⟨g2, pl, none⟩) (by show wr.heap.size ≤ g2; omega) (.int .u8 0)))
          have HMX := Lib.hid (show Mn ((w2.setCell ⟨g2, pl, none⟩ (.int .u8 y0)).setCell ⟨g2, pl, none⟩ (.int .u8 0)) wr.heap.size 50 1 (.slice (some ⟨g2, 0, none⟩) 114 c2) 114 (nums .u8 ((S.set pl y0).set pl 0)) from ((HMC.out.set pl (by omega) y0).set pl (by omega) 0))
          generalize ((w2.setCell ⟨g2, pl, none⟩ (.int .u8 y0)).setCell ⟨g2, pl, none⟩ (.int .u8 0)) = X at *
          obtain ⟨Z, hZ⟩ : ∃ Z, outsL (o : Int) ((S.set pl y0).set pl 0) S = Z := ⟨_, rfl⟩
          have HRU := Lib.hid (HRUN.out (some ⟨g2, 0, none⟩) Ay c2 cy ((S.set pl y0).set pl 0) S X HMX.out.rd (HR.out.x0.below HBX.out).rd hc2' HR.out.gy HCH2.out.2.2 HSB.out HNE.out)
          rw [hZ] at HRU HGZ
          clear hZ d1 d0 g1 g0 y3 x1 x2
          refine HRU.out.mono ?_
          rintro e w5 ⟨A5, c5, rfl, hc5, hm5, hb5⟩
          have HM5 := Lib.hid hm5
          have HC5 := Lib.hid hc5
          have HB5 := Lib.hid (show Below wr.heap.size wr (w5.alloc (.cells #[.int .i64 0, .int .u8 0, .int .u8 0, .int .u32 0, .int .u32 0] 89)) from Bw.step HBX.out (Bw.alloc hb5 _))
          have HM5' := Lib.hid ((hm5.mono HBX.out.size).alloc (.cells #[.int .i64 0, .int .u8 0, .int .u8 0, .int .u32 0, .int .u32 0] 89))
          clear hm5 hb5 hc5
          go_wp2_with fail
          generalize (w5.alloc (.cells #[.int .i64 0, .int .u8 0, .int .u8 0, .int .u32 0, .int .u32 0] 89)) = wB at *
          refine wp_region_noPanic ?_
          refine wp_region_held_drew (S := fun _ => True) (by kernel_rfl) trivial (fun hHeld => ?_)
          refine wpAnyH_take (i := 0) (v := .bool false) (by simp only [List.getElem?_toArray, List.getElem?_cons_zero, List.getElem?_cons_succ]; rfl) (by kernel_rfl) (by kernel_rfl) (by kernel_rfl) (fun _ _ _ h => h) (Or.inl ⟨by rfl, ?_⟩) (by assumption) ?_
          · intro w hSw
            try dsimp only at hSw
            go_simp
          try simp only [Act.put, List.setIfInBounds_toArray, List.set_cons_zero, List.set_cons_succ]
          refine wpAnyH_take (i := 1) (v := .int .i64 i) (by simp only [List.getElem?_toArray, List.getElem?_cons_zero, List.getElem?_cons_succ]; rfl) (by kernel_rfl) (by kernel_rfl) (by kernel_rfl) (fun _ _ _ h => h) (Or.inl ⟨by rfl, ?_⟩) (by assumption) ?_
          · intro w hSw
            try dsimp only at hSw
            go_simp
          try simp only [Act.put, List.setIfInBounds_toArray, List.set_cons_zero, List.set_cons_succ]
          refine wpAnyH_take (i := 2) (v := .int .i64 bad) (by simp only [List.getElem?_toArray, List.getElem?_cons_zero, List.getElem?_cons_succ]; rfl) (by kernel_rfl) (by kernel_rfl) (by kernel_rfl) (fun _ _ _ h => h) (Or.inl ⟨by rfl, ?_⟩) (by assumption) ?_
          · intro w hSw
            try dsimp only at hSw
            go_simp
          try simp only [Act.put, List.setIfInBounds_toArray, List.set_cons_zero, List.set_cons_succ]
          refine wpAnyH_take (i := 3) (v := .bool false) (by simp only [List.getElem?_toArray, List.getElem?_cons_zero, List.getElem?_cons_succ]; rfl) (by kernel_rfl) (by kernel_rfl) (by kernel_rfl) (fun _ _ _ h => h) (Or.inl ⟨by rfl, ?_⟩) (by assumption) ?_
          · intro w hSw
            try dsimp only at hSw
            go_simp
          try simp only [Act.put, List.setIfInBounds_toArray, List.set_cons_zero, List.set_cons_succ]
          refine wpAnyH_take (i := 4) (v := .bool false) (by simp only [List.getElem?_toArray, List.getElem?_cons_zero, List.getElem?_cons_succ]; rfl) (by kernel_rfl) (by kernel_rfl) (by kernel_rfl) (fun _ _ _ h => h) (Or.inl ⟨by rfl, ?_⟩) (by assumption) ?_
          · intro w hSw
            try dsimp only at hSw
            go_simp
          try simp only [Act.put, List.setIfInBounds_toArray, List.set_cons_zero, List.set_cons_succ]
          refine wpAnyH_take (i := 5) (v := .bool false) (by simp only [List.getElem?_toArray, List.getElem?_cons_zero, List.getElem?_cons_succ]; rfl) (by kernel_rfl) (by kernel_rfl) (by kernel_rfl) (fun _ _ _ h => h) (Or.inl ⟨by rfl, ?_⟩) (by assumption) ?_
          · intro w hSw
            try dsimp only at hSw
            go_simp
          try simp only [Act.put, List.setIfInBounds_toArray, List.set_cons_zero, List.set_cons_succ]
          refine wpAnyH_take (i := 6) (v := .bool false) (by simp only [List.getElem?_toArray, List.getElem?_cons_zero, List.getElem?_cons_succ]; rfl) (by kernel_rfl) (by kernel_rfl) (by kernel_rfl) (fun _ _ _ h => h) (Or.inl ⟨by rfl, ?_⟩) (by assumption) ?_
          · intro w hSw
            try dsimp only at hSw
            go_simp
          try simp only [Act.put, List.setIfInBounds_toArray, List.set_cons_zero, List.set_cons_succ]
          refine wpAnyH_take (i := 7) (v := .bool false) (by simp only [List.getElem?_toArray, List.getElem?_cons_zero, List.getElem?_cons_succ]; rfl) (by kernel_rfl) (by kernel_rfl) (by kernel_rfl) (fun _ _ _ h => h) (Or.inl ⟨by rfl, ?_⟩) (by assumption) ?_
          · intro w hSw
            try dsimp only at hSw
            go_simp
          try simp only [Act.put, List.setIfInBounds_toArray, List.set_cons_zero, List.set_cons_succ]
          refine wpAnyH_take (i := 8) (v := undef) (by simp only [List.getElem?_toArray, List.getElem?_cons_zero, List.getElem?_cons_succ]; rfl) (by kernel_rfl) (by kernel_rfl) (by kernel_rfl) (fun _ _ _ h => h) (Or.inr ⟨by rfl, rfl⟩) (by assumption) ?_
          try simp only [Act.put, List.setIfInBounds_toArray, List.set_cons_zero, List.set_cons_succ]
          refine wpAnyH_take (i := 9) (v := undef) (by simp only [List.getElem?_toArray, List.getElem?_cons_zero, List.getElem?_cons_succ]; rfl) (by kernel_rfl) (by kernel_rfl) (by kernel_rfl) (fun _ _ _ h => h) (Or.inr ⟨by rfl, rfl⟩) (by assumption) ?_
          try simp only [Act.put, List.setIfInBounds_toArray, List.set_cons_zero, List.set_cons_succ]
          refine wpAnyH_take (i := 10) (v := undef) (by simp only [List.getElem?_toArray, List.getElem?_cons_zero, List.getElem?_cons_succ]; rfl) (by kernel_rfl) (by kernel_rfl) (by kernel_rfl) (fun _ _ _ h => h) (Or.inr ⟨by rfl, rfl⟩) (by assumption) ?_
          try simp only [Act.put, List.setIfInBounds_toArray, List.set_cons_zero, List.set_cons_succ]
          refine wpAnyH_take (i := 11) (v := undef) (by simp only [List.getElem?_toArray, List.getElem?_cons_zero, List.getElem?_cons_succ]; rfl) (by kernel_rfl) (by kernel_rfl) (by kernel_rfl) (fun _ _ _ h => h) (Or.inr ⟨by rfl, rfl⟩) (by assumption) ?_
          try simp only [Act.put, List.setIfInBounds_toArray, List.set_cons_zero, List.set_cons_succ]
          refine wpAnyH_take (i := 12) (v := undef) (by simp only [List.getElem?_toArray, List.getElem?_cons_zero, List.getElem?_cons_succ]; rfl) (by kernel_rfl) (by kernel_rfl) (by kernel_rfl) (fun _ _ _ h => h) (Or.inr ⟨by rfl, rfl⟩) (by assumption) ?_
          try simp only [Act.put, List.setIfInBounds_toArray, List.set_cons_zero, List.set_cons_succ]
          refine wpAnyH_take (i := 13) (v := undef) (by simp only [List.getElem?_toArray, List.getElem?_cons_zero, List.getElem?_cons_succ]; rfl) (by kernel_rfl) (by kernel_rfl) (by kernel_rfl) (fun _ _ _ h => h) (Or.inr ⟨by rfl, rfl⟩) (by assumption) ?_
          try simp only [Act.put, List.setIfInBounds_toArray, List.set_cons_zero, List.set_cons_succ]
          refine wpAnyH_take (i := 14) (v := undef) (by simp only [List.getElem?_toArray, List.getElem?_cons_zero, List.getElem?_cons_succ]; rfl) (by kernel_rfl) (by kernel_rfl) (by kernel_rfl) (fun _ _ _ h => h) (Or.inr ⟨by rfl, rfl⟩) (by assumption) ?_
          try simp only [Act.put, List.setIfInBounds_toArray, List.set_cons_zero, List.set_cons_succ]
          refine wpAnyH_take (i := 15) (v := undef) (by simp only [List.getElem?_toArray, List.getElem?_cons_zero, List.getElem?_cons_succ]; rfl) (by kernel_rfl) (by kernel_rfl) (by kernel_rfl) (fun _ _ _ h => h) (Or.inr ⟨by rfl, rfl⟩) (by assumption) ?_
          try simp only [Act.put, List.setIfInBounds_toArray, List.set_cons_zero, List.set_cons_succ]
          refine wpAnyH_take (i := 16) (v := undef) (by simp only [List.getElem?_toArray, List.getElem?_cons_zero, List.getElem?_cons_succ]; rfl) (by kernel_rfl) (by kernel_rfl) (by kernel_rfl) (fun _ _ _ h => h) (Or.inr ⟨by rfl, rfl⟩) (by assumption) ?_
          try simp only [Act.put, List.setIfInBounds_toArray, List.set_cons_zero, List.set_cons_succ]
          refine wpAnyH_take (i := 17) (v := undef) (by simp only [List.getElem?_toArray, List.getElem?_cons_zero, List.getElem?_cons_succ]; rfl) (by kernel_rfl) (by kernel_rfl) (by kernel_rfl) (fun _ _ _ h => h) (Or.inr ⟨by rfl, rfl⟩) (by assumption) ?_
          try simp only [Act.put, List.setIfInBounds_toArray, List.set_cons_zero, List.set_cons_succ]
          refine wpAnyH_take (i := 18) (v := undef) (by simp only [List.getElem?_toArray, List.getElem?_cons_zero, List.getElem?_cons_succ]; rfl) (by kernel_rfl) (by kernel_rfl) (by kernel_rfl) (fun _ _ _ h => h) (Or.inr ⟨by rfl, rfl⟩) (by assumption) ?_
          try simp only [Act.put, List.setIfInBounds_toArray, List.set_cons_zero, List.set_cons_succ]
          refine wpAnyH_take (i := 19) (v := .bool false) (by simp only [List.getElem?_toArray, List.getElem?_cons_zero, List.getElem?_cons_succ]; rfl) (by kernel_rfl) (by kernel_rfl) (by kernel_rfl) (fun _ _ _ h => h) (Or.inl ⟨by rfl, ?_⟩) (by assumption) ?_
          · intro w hSw
            try dsimp only at hSw
            go_simp
          try simp only [Act.put, List.setIfInBounds_toArray, List.set_cons_zero, List.set_cons_succ]
          refine wpAnyH_take (i := 20) (v := .bool false) (by simp only [List.getElem?_toArray, List.getElem?_cons_zero, List.getElem?_cons_succ]; rfl) (by kernel_rfl) (by kernel_rfl) (by kernel_rfl) (fun _ _ _ h => h) (Or.inl ⟨by rfl, ?_⟩) (by assumption) ?_
          · intro w hSw
            try dsimp only at hSw
            go_simp
          try simp only [Act.put, List.setIfInBounds_toArray, List.set_cons_zero, List.set_cons_succ]
          refine wpAnyH_done (by kernel_rfl) ?_ _
          refine NoPanic.normal ?_
          have HBD := Lib.hid (show Below wr.heap.size wr wB.drew from Bw.step HB5.out (by repeat (first | exact Below.refl _ _ | apply Bw.alloc | apply Bw.drewN | apply Bw.drew | (refine Bw.step ?_ (by assumption)))))
          go_wp2_with (at_builtin; refine wpList_append_mn _ rfl _ _ _ rfl W.heap.size 22 _ 1 24 Try.underlying32 info22 rfl (by omega) (.slice (some ⟨gO, 0, none⟩) n2 cO) n2 hs rfl ((HR.out.out.below HBD.out).alloc _) _ 1 1 [.slice A5 114 c5] rfl (rv_row rfl) (by intro u hu; simp at hu; subst hu; rfl) (by omega) (by omega) (by have := HR.out.bel.size; have h2 : wr.heap.size ≤ wB.heap.size := HBD.out.size; simp; omega) ?_; intro A9 c9 w9 hc9 hm9 hg9 hat9)
          go_roundw
          case measure => simp [intOf]; omega
          case rel => exact ⟨i + 1, n2 + 1, c9, A9, hs ++ [.slice A5 114 c5], A5, Ax, c5, cx, _, _, by go_num, rfl, Lib.hid (HR.out.next hlt HBD.out (HM5'.out.below (by repeat (first | exact Below.refl _ _ | apply Bw.alloc | apply Bw.drewN | apply Bw.drew | (refine Bw.step ?_ (by assumption))))) hg9 hm9 hat9 HC5.out hc9 HGZ.out.2 (fun h => absurd h (by have := HIB.out; omega)) (fun _ => HGZ.out.1))⟩
        · have HNE := Lib.hid (HHA.out S (S.set pl y0) HSL.out HCH1.out.2.1 HSB.out HCH1.out.2.2 (Ne.symm HCH1.out.1))
          have HGZ := Lib.hid (HOUT.out S (S.set pl y0) HSL.out HCH1.out.2.1 HSB.out HCH1.out.2.2 HNE.out)
          go_wp2_with (first
            | (at_builtin
               refine wpList_append_mn _ rfl _ _ _ rfl wr.heap.size 50 _ 1 1 Try.underlying22 info50 rfl (by omega) (.slice none 0 0) 0 [] rfl (Mn.nil _ _ _ _) Ax 114 cx (nums .u8 S) rfl HR.out.x1.reads (nums_one _ _) (by omega) (by omega) (Nat.le_refl wr.heap.size) ?_
               intro A2 c2 w2 hc2 hm2 hg2 hat2
               have HB2 := Lib.hid ((Below.refl wr.heap.size wr).grown hg2 (Nat.le_refl _) (fun q hq => by cases hq))
               rw [Nat.zero_add, List.nil_append] at hm2
               obtain ⟨g2, rfl⟩ := hm2.ex (by omega)
               have HM2 := Lib.hid hm2
               have hc2' : 114 ≤ c2 := by omega
               have y3 := (HZW.out.below (Bw.step HR.out.bel HB2.out)).cell 3 (.int .u8 z3) rfl
               clear hm2 hg2 hat2 hc2)
            | (at_builtin
               refine wpList_append_mn _ rfl _ _ _ rfl w2.heap.size 50 _ 1 1 Try.underlying22 info50 rfl (by omega) (.slice none 0 0) 0 [] rfl (Mn.nil _ _ _ _) Ay 114 cy (nums .u8 S) rfl (HR.out.x0.below HB2.out).reads (nums_one _ _) (by omega) (by omega) (Nat.le_refl w2.heap.size) ?_
               intro A3 c3 w3 hc3 hm3 hg3 hat3
               have HB3 := Lib.hid ((Below.refl w2.heap.size w2).grown hg3 (Nat.le_refl _) (fun q hq => by cases hq))
               rw [Nat.zero_add, List.nil_append] at hm3
               obtain ⟨g3, rfl⟩ := hm3.ex (by omega)
               have HM3 := Lib.hid hm3
               have hc3' : 114 ≤ c3 := by omega
               have y3 := (HZW.out.below (Bw.step HR.out.bel (Bw.step HB2.out HB3.out))).cell 3 (.int .u8 z3) rfl
               obtain ⟨x1, x2⟩ := HM3.out.cellAt pl (by omega)
               rw [HX0.out] at x1
               have hgz : ¬ (g3 = w.heap.size + 1) := by have := HZW.out.lt; have := HR.out.bel.size; have := HB2.out.size; have := (HM3.out.block (g := g3) rfl).1; omega
               have hgz' : ¬ (w.heap.size + 1 = g3) := fun e => hgz e.symm
               clear hm3 hg3 hat3 hc3))
          have HBB := Lib.hid (Bw.step HB2.out HB3.out)
          have HMC := HM3
          have hgb := (HM3.out.block (g := g3) rfl).1
          have hgb2 := HB2.out.size
          have HBX := Lib.hid (show Below wr.heap.size wr (w3.setCell ⟨g3, pl, none⟩ (.int .u8 y0)) from (HBB.out.setCell (p := ⟨g3, pl, none⟩) (by show wr.heap.size ≤ g3; omega) (.int .u8 y0)))
          have HMX := Lib.hid (show Mn (w3.setCell ⟨g3, pl, none⟩ (.int .u8 y0)) w2.heap.size 50 1 (.slice (some ⟨g3, 0, none⟩) 114 c3) 114 (nums .u8 (S.set pl y0)) from (HMC.out.set pl (by omega) y0))
          generalize (w3.setCell ⟨g3, pl, none⟩ (.int .u8 y0)) = X at *
          obtain ⟨Z, hZ⟩ : ∃ Z, outsL (o : Int) S (S.set pl y0) = Z := ⟨_, rfl⟩
          have HRU := Lib.hid (HRUN.out Ax (some ⟨g3, 0, none⟩) cx c3 S (S.set pl y0) X (HR.out.x1.below HBX.out).rd HMX.out.rd HR.out.gx hc3' HSB.out HCH1.out.2.2 HNE.out)
          rw [hZ] at HRU HGZ
          clear hZ d1 d0 g1 g0 y3 x1 x2
          refine HRU.out.mono ?_
          rintro e w5 ⟨A5, c5, rfl, hc5, hm5, hb5⟩
          have HM5 := Lib.hid hm5
          have HC5 := Lib.hid hc5
          have HB5 := Lib.hid (show Below wr.heap.size wr (w5.alloc (.cells #[.int .i64 0, .int .u8 0, .int .u8 0, .int .u32 0, .int .u32 0] 89)) from Bw.step HBX.out (Bw.alloc hb5 _))
          have HM5' := Lib.hid ((hm5.mono HBX.out.size).alloc (.cells #[.int .i64 0, .int .u8 0, .int .u8 0, .int .u32 0, .int .u32 0] 89))
          clear hm5 hb5 hc5
          go_wp2_with fail
          generalize (w5.alloc (.cells #[.int .i64 0, .int .u8 0, .int .u8 0, .int .u32 0, .int .u32 0] 89)) = wB at *
          refine wp_region_noPanic ?_
          refine wp_region_held_drew (S := fun _ => True) (by kernel_rfl) trivial (fun hHeld => ?_)
          refine wpAnyH_take (i := 0) (v := .bool false) (by simp only [List.getElem?_toArray, List.getElem?_cons_zero, List.getElem?_cons_succ]; rfl) (by kernel_rfl) (by kernel_rfl) (by kernel_rfl) (fun _ _ _ h => h) (Or.inl ⟨by rfl, ?_⟩) (by assumption) ?_
          · intro w hSw
            try dsimp only at hSw
            go_simp
          try simp only [Act.put, List.setIfInBounds_toArray, List.set_cons_zero, List.set_cons_succ]
          refine wpAnyH_take (i := 1) (v := .int .i64 i) (by simp only [List.getElem?_toArray, List.getElem?_cons_zero, List.getElem?_cons_succ]; rfl) (by kernel_rfl) (by kernel_rfl) (by kernel_rfl) (fun _ _ _ h => h) (Or.inl ⟨by rfl, ?_⟩) (by assumption) ?_
          · intro w hSw
            try dsimp only at hSw
            go_simp
          try simp only [Act.put, List.setIfInBounds_toArray, List.set_cons_zero, List.set_cons_succ]
          refine wpAnyH_take (i := 2) (v := .int .i64 bad) (by simp only [List.getElem?_toArray, List.getElem?_cons_zero, List.getElem?_cons_succ]; rfl) (by kernel_rfl) (by kernel_rfl) (by kernel_rfl) (fun _ _ _ h => h) (Or.inl ⟨by rfl, ?_⟩) (by assumption) ?_
          · intro w hSw
            try dsimp only at hSw
            go_simp
          try simp only [Act.put, List.setIfInBounds_toArray, List.set_cons_zero, List.set_cons_succ]
          refine wpAnyH_take (i := 3) (v := .bool false) (by simp only [List.getElem?_toArray, List.getElem?_cons_zero, List.getElem?_cons_succ]; rfl) (by kernel_rfl) (by kernel_rfl) (by kernel_rfl) (fun _ _ _ h => h) (Or.inl ⟨by rfl, ?_⟩) (by assumption) ?_
          · intro w hSw
            try dsimp only at hSw
            go_simp
          try simp only [Act.put, List.setIfInBounds_toArray, List.set_cons_zero, List.set_cons_succ]
          refine wpAnyH_take (i := 4) (v := .bool false) (by simp only [List.getElem?_toArray, List.getElem?_cons_zero, List.getElem?_cons_succ]; rfl) (by kernel_rfl) (by kernel_rfl) (by kernel_rfl) (fun _ _ _ h => h) (Or.inl ⟨by rfl, ?_⟩) (by assumption) ?_
          · intro w hSw
            try dsimp only at hSw
            go_simp
          try simp only [Act.put, List.setIfInBounds_toArray, List.set_cons_zero, List.set_cons_succ]
          refine wpAnyH_take (i := 5) (v := .bool false) (by simp only [List.getElem?_toArray, List.getElem?_cons_zero, List.getElem?_cons_succ]; rfl) (by kernel_rfl) (by kernel_rfl) (by kernel_rfl) (fun _ _ _ h => h) (Or.inl ⟨by rfl, ?_⟩) (by assumption) ?_
          · intro w hSw
            try dsimp only at hSw
            go_simp
          try simp only [Act.put, List.setIfInBounds_toArray, List.set_cons_zero, List.set_cons_succ]
          refine wpAnyH_take (i := 6) (v := .bool false) (by simp only [List.getElem?_toArray, List.getElem?_cons_zero, List.getElem?_cons_succ]; rfl) (by kernel_rfl) (by kernel_rfl) (by kernel_rfl) (fun _ _ _ h => h) (Or.inl ⟨by rfl, ?_⟩) (by assumption) ?_
          · intro w hSw
            try dsimp only at hSw
            go_simp
          try simp only [Act.put, List.setIfInBounds_toArray, List.set_cons_zero, List.set_cons_succ]
          refine wpAnyH_take (i := 7) (v := .bool false) (by simp only [List.getElem?_toArray, List.getElem?_cons_zero, List.getElem?_cons_succ]; rfl) (by kernel_rfl) (by kernel_rfl) (by kernel_rfl) (fun _ _ _ h => h) (Or.inl ⟨by rfl, ?_⟩) (by assumption) ?_
          · intro w hSw
            try dsimp only at hSw
            go_simp
          try simp only [Act.put, List.setIfInBounds_toArray, List.set_cons_zero, List.set_cons_succ]
          refine wpAnyH_take (i := 8) (v := undef) (by simp only [List.getElem?_toArray, List.getElem?_cons_zero, List.getElem?_cons_succ]; rfl) (by kernel_rfl) (by kernel_rfl) (by kernel_rfl) (fun _ _ _ h => h) (Or.inr ⟨by rfl, rfl⟩) (by assumption) ?_
          try simp only [Act.put, List.setIfInBounds_toArray, List.set_cons_zero, List.set_cons_succ]
          refine wpAnyH_take (i := 9) (v := undef) (by simp only [List.getElem?_toArray, List.getElem?_cons_zero, List.getElem?_cons_succ]; rfl) (by kernel_rfl) (by kernel_rfl) (by kernel_rfl) (fun _ _ _ h => h) (Or.inr ⟨by rfl, rfl⟩) (by assumption) ?_
          try simp only [Act.put, List.setIfInBounds_toArray, List.set_cons_zero, List.set_cons_succ]
          refine wpAnyH_take (i := 10) (v := undef) (by simp only [List.getElem?_toArray, List.getElem?_cons_zero, List.getElem?_cons_succ]; rfl) (by kernel_rfl) (by kernel_rfl) (by kernel_rfl) (fun _ _ _ h => h) (Or.inr ⟨by rfl, rfl⟩) (by assumption) ?_
          try simp only [Act.put, List.setIfInBounds_toArray, List.set_cons_zero, List.set_cons_succ]
          refine wpAnyH_take (i := 11) (v := undef) (by simp only [List.getElem?_toArray, List.getElem?_cons_zero, List.getElem?_cons_succ]; rfl) (by kernel_rfl) (by kernel_rfl) (by kernel_rfl) (fun _ _ _ h => h) (Or.inr ⟨by rfl, rfl⟩) (by assumption) ?_
          try simp only [Act.put, List.setIfInBounds_toArray, List.set_cons_zero, List.set_cons_succ]
          refine wpAnyH_take (i := 12) (v := undef) (by simp only [List.getElem?_toArray, List.getElem?_cons_zero, List.getElem?_cons_succ]; rfl) (by kernel_rfl) (by kernel_rfl) (by kernel_rfl) (fun _ _ _ h => h) (Or.inr ⟨by rfl, rfl⟩) (by assumption) ?_
          try simp only [Act.put, List.setIfInBounds_toArray, List.set_cons_zero, List.set_cons_succ]
          refine wpAnyH_take (i := 13) (v := undef) (by simp only [List.getElem?_toArray, List.getElem?_cons_zero, List.getElem?_cons_succ]; rfl) (by kernel_rfl) (by kernel_rfl) (by kernel_rfl) (fun _ _ _ h => h) (Or.inr ⟨by rfl, rfl⟩) (by assumption) ?_
          try simp only [Act.put, List.setIfInBounds_toArray, List.set_cons_zero, List.set_cons_succ]
          refine wpAnyH_take (i := 14) (v := undef) (by simp only [List.getElem?_toArray, List.getElem?_cons_zero, List.getElem?_cons_succ]; rfl) (by kernel_rfl) (by kernel_rfl) (by kernel_rfl) (fun _ _ _ h => h) (Or.inr ⟨by rfl, rfl⟩) (by assumption) ?_
          try simp only [Act.put, List.setIfInBounds_toArray, List.set_cons_zero, List.set_cons_succ]
          refine wpAnyH_take (i := 15) (v := undef) (by simp only [List.getElem?_toArray, List.getElem?_cons_zero, List.getElem?_cons_succ]; rfl) (by kernel_rfl) (by kernel_rfl) (by kernel_rfl) (fun _ _ _ h => h) (Or.inr ⟨by rfl, rfl⟩) (by assumption) ?_
          try simp only [Act.put, List.setIfInBounds_toArray, List.set_cons_zero, List.set_cons_succ]
          refine wpAnyH_take (i := 16) (v := undef) (by simp only [List.getElem?_toArray, List.getElem?_cons_zero, List.getElem?_cons_succ]; rfl) (by kernel_rfl) (by kernel_rfl) (by kernel_rfl) (fun _ _ _ h => h) (Or.inr ⟨by rfl, rfl⟩) (by assumption) ?_
          try simp only [Act.put, List.setIfInBounds_toArray, List.set_cons_zero, List.set_cons_succ]
          refine wpAnyH_take (i := 17) (v := undef) (by simp only [List.getElem?_toArray, List.getElem?_cons_zero, List.getElem?_cons_succ]; rfl) (by kernel_rfl) (by kernel_rfl) (by kernel_rfl) (fun _ _ _ h => h) (Or.inr ⟨by rfl, rfl⟩) (by assumption) ?_
          try simp only [Act.put, List.setIfInBounds_toArray, List.set_cons_zero, List.set_cons_succ]
          refine wpAnyH_take (i := 18) (v := undef) (by simp only [List.getElem?_toArray, List.getElem?_cons_zero, List.getElem?_cons_succ]; rfl) (by kernel_rfl) (by kernel_rfl) (by kernel_rfl) (fun _ _ _ h => h) (Or.inr ⟨by rfl, rfl⟩) (by assumption) ?_
          try simp only [Act.put, List.setIfInBounds_toArray, List.set_cons_zero, List.set_cons_succ]
          refine wpAnyH_take (i := 19) (v := .bool false) (by simp only [List.getElem?_toArray, List.getElem?_cons_zero, List.getElem?_cons_succ]; rfl) (by kernel_rfl) (by kernel_rfl) (by kernel_rfl) (fun _ _ _ h => h) (Or.inl ⟨by rfl, ?_⟩) (by assumption) ?_
          · intro w hSw
            try dsimp only at hSw
            go_simp
          try simp only [Act.put, List.setIfInBounds_toArray, List.set_cons_zero, List.set_cons_succ]
          refine wpAnyH_take (i := 20) (v := .bool false) (by simp only [List.getElem?_toArray, List.getElem?_cons_zero, List.getElem?_cons_succ]; rfl) (by kernel_rfl) (by kernel_rfl) (by kernel_rfl) (fun _ _ _ h => h) (Or.inl ⟨by rfl, ?_⟩) (by assumption) ?_
          · intro w hSw
            try dsimp only at hSw
            go_simp
          try simp only [Act.put, List.setIfInBounds_toArray, List.set_cons_zero, List.set_cons_succ]
          refine wpAnyH_done (by kernel_rfl) ?_ _
          refine NoPanic.normal ?_
          have HBD := Lib.hid (show Below wr.heap.size wr wB.drew from Bw.step HB5.out (by repeat (first | exact Below.refl _ _ | apply Bw.alloc | apply Bw.drewN | apply Bw.drew | (refine Bw.step ?_ (by assumption)))))
          go_wp2_with (at_builtin; refine wpList_append_mn _ rfl _ _ _ rfl W.heap.size 22 _ 1 24 Try.underlying32 info22 rfl (by omega) (.slice (some ⟨gO, 0, none⟩) n2 cO) n2 hs rfl ((HR.out.out.below HBD.out).alloc _) _ 1 1 [.slice A5 114 c5] rfl (rv_row rfl) (by intro u hu; simp at hu; subst hu; rfl) (by omega) (by omega) (by have := HR.out.bel.size; have h2 : wr.heap.size ≤ wB.heap.size := HBD.out.size; simp; omega) ?_; intro A9 c9 w9 hc9 hm9 hg9 hat9)
          go_roundw
          case measure => simp [intOf]; omega
          case rel => exact ⟨i + 1, n2 + 1, c9, A9, hs ++ [.slice A5 114 c5], A5, Ax, c5, cx, _, _, by go_num, rfl, Lib.hid (HR.out.next hlt HBD.out (HM5'.out.below (by repeat (first | exact Below.refl _ _ | apply Bw.alloc | apply Bw.drewN | apply Bw.drew | (refine Bw.step ?_ (by assumption))))) hg9 hm9 hat9 HC5.out hc9 HGZ.out.2 (fun h => absurd h (by have := HIB.out; omega)) (fun _ => HGZ.out.1))⟩
        · have HNE := Lib.hid (HHA.out S ((S.set pl y0).set pl 0) HSL.out HCH2.out.2.1 HSB.out HCH2.out.2.2 (Ne.symm HCH2.out.1))
          have HGZ := Lib.hid (HOUT.out S ((S.set pl y0).set pl 0) HSL.out HCH2.out.2.1 HSB.out HCH2.out.2.2 HNE.out)
          go_wp2_with (first
            | (at_builtin
               refine wpList_append_mn _ rfl _ _ _ rfl wr.heap.size 50 _ 1 1 Try.underlying22 info50 rfl (by omega) (.slice none 0 0) 0 [] rfl (Mn.nil _ _ _ _) Ax 114 cx (nums .u8 S) rfl HR.out.x1.reads (nums_one _ _) (by omega) (by omega) (Nat.le_refl wr.heap.size) ?_
               intro A2 c2 w2 hc2 hm2 hg2 hat2
               have HB2 := Lib.hid ((Below.refl wr.heap.size wr).grown hg2 (Nat.le_refl _) (fun q hq => by cases hq))
               rw [Nat.zero_add, List.nil_append] at hm2
               obtain ⟨g2, rfl⟩ := hm2.ex (by omega)
               have HM2 := Lib.hid hm2
               have hc2' : 114 ≤ c2 := by omega
               have y3 := (HZW.out.below (Bw.step HR.out.bel HB2.out)).cell 3 (.int .u8 z3) rfl
               clear hm2 hg2 hat2 hc2)
            | (at_builtin
               refine wpList_append_mn _ rfl _ _ _ rfl w2.heap.size 50 _ 1 1 Try.underlying22 info50 rfl (by omega) (.slice none 0 0) 0 [] rfl (Mn.nil _ _ _ _) Ay 114 cy (nums .u8 S) rfl (HR.out.x0.below HB2.out).reads (nums_one _ _) (by omega) (by omega) (Nat.le_refl w2.heap.size) ?_
               intro A3 c3 w3 hc3 hm3 hg3 hat3
               have HB3 := Lib.hid ((Below.refl w2.heap.size w2).grown hg3 (Nat.le_refl _) (fun q hq => by cases hq))
               rw [Nat.zero_add, List.nil_append] at hm3
               obtain ⟨g3, rfl⟩ := hm3.ex (by omega)
               have HM3 := Lib.hid hm3
               have hc3' : 114 ≤ c3 := by omega
               have y3 := (HZW.out.below (Bw.step HR.out.bel (Bw.step HB2.out HB3.out))).cell 3 (.int .u8 z3) rfl
               obtain ⟨x1, x2⟩ := HM3.out.cellAt pl (by omega)
               rw [HX0.out] at x1
               have hgz : ¬ (g3 = w.heap.size + 1) := by have := HZW.out.lt; have := HR.out.bel.size; have := HB2.out.size; have := (HM3.out.block (g := g3) rfl).1; omega
               have hgz' : ¬ (w.heap.size + 1 = g3) := fun e => hgz e.symm
               clear hm3 hg3 hat3 hc3))
          have HBB := Lib.hid (Bw.step HB2.out HB3.out)
          have HMC := HM3
          have hgb := (HM3.out.block (g := g3) rfl).1
          have hgb2 := HB2.out.size
          have HBX := Lib.hid (show Below wr.heap.size wr ((w3.setCell ⟨g3, pl, none⟩ (.int .u8 y0)).setCell ⟨g3, pl, none⟩ (.int .u8 0)) from ((HBB.out.setCell (p := ⟨g3, pl, none⟩) (by show wr.heap.size ≤ g3; omega) (.int .u8 y0)).setCell (p := ⟨g3, pl, none⟩) (by show wr.heap.size ≤ g3; omega) (.int .u8 0)))
          have HMX := Lib.hid (show Mn ((w3.setCell ⟨g3, pl, none⟩ (.int .u8 y0)).setCell ⟨g3, pl, none⟩ (.int .u8 0)) w2.heap.size 50 1 (.slice (some ⟨g3, 0, none⟩) 114 c3) 114 (nums .u8 ((S.set pl y0).set pl 0)) from ((HMC.out.set pl (by omega) y0).set pl (by omega) 0))
          generalize ((w3.setCell ⟨g3, pl, none⟩ (.int .u8 y0)).setCell ⟨g3, pl, none⟩ (.int .u8 0)) = X at *
          obtain ⟨Z, hZ⟩ : ∃ Z, outsL (o : Int) S ((S.set pl y0).set pl 0) = Z := ⟨_, rfl⟩
          have HRU := Lib.hid (HRUN.out Ax (some ⟨g3, 0, none⟩) cx c3 S ((S.set pl y0).set pl 0) X (HR.out.x1.below HBX.out).rd HMX.out.rd HR.out.gx hc3' HSB.out HCH2.out.2.2 HNE.out)
          rw [hZ] at HRU HGZ
          clear hZ d1 d0 g1 g0 y3 x1 x2
          refine HRU.out.mono ?_
          rintro e w5 ⟨A5, c5, rfl, hc5, hm5, hb5⟩
          have HM5 := Lib.hid hm5
          have HC5 := Lib.hid hc5
          have HB5 := Lib.hid (show Below wr.heap.size wr (w5.alloc (.cells #[.int .i64 0, .int .u8 0, .int .u8 0, .int .u32 0, .int .u32 0] 89)) from Bw.step HBX.out (Bw.alloc hb5 _))
          have HM5' := Lib.hid ((hm5.mono HBX.out.size).alloc (.cells #[.int .i64 0, .int .u8 0, .int .u8 0, .int .u32 0, .int .u32 0] 89))
          clear hm5 hb5 hc5
          go_wp2_with fail
          generalize (w5.alloc (.cells #[.int .i64 0, .int .u8 0, .int .u8 0, .int .u32 0, .int .u32 0] 89)) = wB at *
          refine wp_region_noPanic ?_
          refine wp_region_held_drew (S := fun _ => True) (by kernel_rfl) trivial (fun hHeld => ?_)
          refine wpAnyH_take (i := 0) (v := .bool false) (by simp only [List.getElem?_toArray, List.getElem?_cons_zero, List.getElem?_cons_succ]; rfl) (by kernel_rfl) (by kernel_rfl) (by kernel_rfl) (fun _ _ _ h => h) (Or.inl ⟨by rfl, ?_⟩) (by assumption) ?_
          · intro w hSw
            try dsimp only at hSw
            go_simp
          try simp only [Act.put, List.setIfInBounds_toArray, List.set_cons_zero, List.set_cons_succ]
          refine wpAnyH_take (i := 1) (v := .int .i64 i) (by simp only [List.getElem?_toArray, List.getElem?_cons_zero, List.getElem?_cons_succ]; rfl) (by kernel_rfl) (by kernel_rfl) (by kernel_rfl) (fun _ _ _ h => h) (Or.inl ⟨by rfl, ?_⟩) (by assumption) ?_
          · intro w hSw
            try dsimp only at hSw
            go_simp
          try simp only [Act.put, List.setIfInBounds_toArray, List.set_cons_zero, List.set_cons_succ]
          refine wpAnyH_take (i := 2) (v := .int .i64 bad) (by simp only [List.getElem?_toArray, List.getElem?_cons_zero, List.getElem?_cons_succ]; rfl) (by kernel_rfl) (by kernel_rfl) (by kernel_rfl) (fun _ _ _ h => h) (Or.inl ⟨by rfl, ?_⟩) (by assumption) ?_
          · intro w hSw
            try dsimp only at hSw
            go_simp
          try simp only [Act.put, List.setIfInBounds_toArray, List.set_cons_zero, List.set_cons_succ]
          refine wpAnyH_take (i := 3) (v := .bool false) (by simp only [List.getElem?_toArray, List.getElem?_cons_zero, List.getElem?_cons_succ]; rfl) (by kernel_rfl) (by kernel_rfl) (by kernel_rfl) (fun _ _ _ h => h) (Or.inl ⟨by rfl, ?_⟩) (by assumption) ?_
          · intro w hSw
            try dsimp only at hSw
            go_simp
          try simp only [Act.put, List.setIfInBounds_toArray, List.set_cons_zero, List.set_cons_succ]
          refine wpAnyH_take (i := 4) (v := .bool false) (by simp only [List.getElem?_toArray, List.getElem?_cons_zero, List.getElem?_cons_succ]; rfl) (by kernel_rfl) (by kernel_rfl) (by kernel_rfl) (fun _ _ _ h => h) (Or.inl ⟨by rfl, ?_⟩) (by assumption) ?_
          · intro w hSw
            try dsimp only at hSw
            go_simp
          try simp only [Act.put, List.setIfInBounds_toArray, List.set_cons_zero, List.set_cons_succ]
          refine wpAnyH_take (i := 5) (v := .bool false) (by simp only [List.getElem?_toArray, List.getElem?_cons_zero, List.getElem?_cons_succ]; rfl) (by kernel_rfl) (by kernel_rfl) (by kernel_rfl) (fun _ _ _ h => h) (Or.inl ⟨by rfl, ?_⟩) (by assumption) ?_
          · intro w hSw
            try dsimp only at hSw
            go_simp
          try simp only [Act.put, List.setIfInBounds_toArray, List.set_cons_zero, List.set_cons_succ]
          refine wpAnyH_take (i := 6) (v := .bool false) (by simp only [List.getElem?_toArray, List.getElem?_cons_zero, List.getElem?_cons_succ]; rfl) (by kernel_rfl) (by kernel_rfl) (by kernel_rfl) (fun _ _ _ h => h) (Or.inl ⟨by rfl, ?_⟩) (by assumption) ?_
          · intro w hSw
            try dsimp only at hSw
            go_simp
          try simp only [Act.put, List.setIfInBounds_toArray, List.set_cons_zero, List.set_cons_succ]
          refine wpAnyH_take (i := 7) (v := .bool false) (by simp only [List.getElem?_toArray, List.getElem?_cons_zero, List.getElem?_cons_succ]; rfl) (by kernel_rfl) (by kernel_rfl) (by kernel_rfl) (fun _ _ _ h => h) (Or.inl ⟨by rfl, ?_⟩) (by assumption) ?_
          · intro w hSw
            try dsimp only at hSw
            go_simp
          try simp only [Act.put, List.setIfInBounds_toArray, List.set_cons_zero, List.set_cons_succ]
          refine wpAnyH_take (i := 8) (v := undef) (by simp only [List.getElem?_toArray, List.getElem?_cons_zero, List.getElem?_cons_succ]; rfl) (by kernel_rfl) (by kernel_rfl) (by kernel_rfl) (fun _ _ _ h => h) (Or.inr ⟨by rfl, rfl⟩) (by assumption) ?_
          try simp only [Act.put, List.setIfInBounds_toArray, List.set_cons_zero, List.set_cons_succ]
          refine wpAnyH_take (i := 9) (v := undef) (by simp only [List.getElem?_toArray, List.getElem?_cons_zero, List.getElem?_cons_succ]; rfl) (by kernel_rfl) (by kernel_rfl) (by kernel_rfl) (fun _ _ _ h => h) (Or.inr ⟨by rfl, rfl⟩) (by assumption) ?_
          try simp only [Act.put, List.setIfInBounds_toArray, List.set_cons_zero, List.set_cons_succ]
          refine wpAnyH_take (i := 10) (v := undef) (by simp only [List.getElem?_toArray, List.getElem?_cons_zero, List.getElem?_cons_succ]; rfl) (by kernel_rfl) (by kernel_rfl) (by kernel_rfl) (fun _ _ _ h => h) (Or.inr ⟨by rfl, rfl⟩) (by assumption) ?_
          try simp only [Act.put, List.setIfInBounds_toArray, List.set_cons_zero, List.set_cons_succ]
          refine wpAnyH_take (i := 11) (v := undef) (by simp only [List.getElem?_toArray, List.getElem?_cons_zero, List.getElem?_cons_succ]; rfl) (by kernel_rfl) (by kernel_rfl) (by kernel_rfl) (fun _ _ _ h => h) (Or.inr ⟨by rfl, rfl⟩) (by assumption) ?_
          try simp only [Act.put, List.setIfInBounds_toArray, List.set_cons_zero, List.set_cons_succ]
          refine wpAnyH_take (i := 12) (v := undef) (by simp only [List.getElem?_toArray, List.getElem?_cons_zero, List.getElem?_cons_succ]; rfl) (by kernel_rfl) (by kernel_rfl) (by kernel_rfl) (fun _ _ _ h => h) (Or.inr ⟨by rfl, rfl⟩) (by assumption) ?_
          try simp only [Act.put, List.setIfInBounds_toArray, List.set_cons_zero, List.set_cons_succ]
          refine wpAnyH_take (i := 13) (v := undef) (by simp only [List.getElem?_toArray, List.getElem?_cons_zero, List.getElem?_cons_succ]; rfl) (by kernel_rfl) (by kernel_rfl) (by kernel_rfl) (fun _ _ _ h => h) (Or.inr ⟨by rfl, rfl⟩) (by assumption) ?_
          try simp only [Act.put, List.setIfInBounds_toArray, List.set_cons_zero, List.set_cons_succ]
          refine wpAnyH_take (i := 14) (v := undef) (by simp only [List.getElem?_toArray, List.getElem?_cons_zero, List.getElem?_cons_succ]; rfl) (by kernel_rfl) (by kernel_rfl) (by kernel_rfl) (fun _ _ _ h => h) (Or.inr ⟨by rfl, rfl⟩) (by assumption) ?_
          try simp only [Act.put, List.setIfInBounds_toArray, List.set_cons_zero, List.set_cons_succ]
          refine wpAnyH_take (i := 15) (v := undef) (by simp only [List.getElem?_toArray, List.getElem?_cons_zero, List.getElem?_cons_succ]; rfl) (by kernel_rfl) (by kernel_rfl) (by kernel_rfl) (fun _ _ _ h => h) (Or.inr ⟨by rfl, rfl⟩) (by assumption) ?_
          try simp only [Act.put, List.setIfInBounds_toArray, List.set_cons_zero, List.set_cons_succ]
          refine wpAnyH_take (i := 16) (v := undef) (by simp only [List.getElem?_toArray, List.getElem?_cons_zero, List.getElem?_cons_succ]; rfl) (by kernel_rfl) (by kernel_rfl) (by kernel_rfl) (fun _ _ _ h => h) (Or.inr ⟨by rfl, rfl⟩) (by assumption) ?_
          try simp only [Act.put, List.setIfInBounds_toArray, List.set_cons_zero, List.set_cons_succ]
          refine wpAnyH_take (i := 17) (v := undef) (by simp only [List.getElem?_toArray, List.getElem?_cons_zero, List.getElem?_cons_succ]; rfl) (by kernel_rfl) (by kernel_rfl) (by kernel_rfl) (fun _ _ _ h => h) (Or.inr ⟨by rfl, rfl⟩) (by assumption) ?_
          try simp only [Act.put, List.setIfInBounds_toArray, List.set_cons_zero, List.set_cons_succ]
          refine wpAnyH_take (i := 18) (v := undef) (by simp only [List.getElem?_toArray, List.getElem?_cons_zero, List.getElem?_cons_succ]; rfl) (by kernel_rfl) (by kernel_rfl) (by kernel_rfl) (fun _ _ _ h => h) (Or.inr ⟨by rfl, rfl⟩) (by assumption) ?_
          try simp only [Act.put, List.setIfInBounds_toArray, List.set_cons_zero, List.set_cons_succ]
          refine wpAnyH_take (i := 19) (v := .bool false) (by simp only [List.getElem?_toArray, List.getElem?_cons_zero, List.getElem?_cons_succ]; rfl) (by kernel_rfl) (by kernel_rfl) (by kernel_rfl) (fun _ _ _ h => h) (Or.inl ⟨by rfl, ?_⟩) (by assumption) ?_
          · intro w hSw
            try dsimp only at hSw
            go_simp
          try simp only [Act.put, List.setIfInBounds_toArray, List.set_cons_zero, List.set_cons_succ]
          refine wpAnyH_take (i := 20) (v := .bool false) (by simp only [List.getElem?_toArray, List.getElem?_cons_zero, List.getElem?_cons_succ]; rfl) (by kernel_rfl) (by kernel_rfl) (by kernel_rfl) (fun _ _ _ h => h) (Or.inl ⟨by rfl, ?_⟩) (by assumption) ?_
          · intro w hSw
            try dsimp only at hSw
            go_simp
          try simp only [Act.put, List.setIfInBounds_toArray, List.set_cons_zero, List.set_cons_succ]
          refine wpAnyH_done (by kernel_rfl) ?_ _
          refine NoPanic.normal ?_
          have HBD := Lib.hid (show Below wr.heap.size wr wB.drew from Bw.step HB5.out (by repeat (first | exact Below.refl _ _ | apply Bw.alloc | apply Bw.drewN | apply Bw.drew | (refine Bw.step ?_ (by assumption)))))
          go_wp2_with (at_builtin; refine wpList_append_mn _ rfl _ _ _ rfl W.heap.size 22 _ 1 24 Try.underlying32 info22 rfl (by omega) (.slice (some ⟨gO, 0, none⟩) n2 cO) n2 hs rfl ((HR.out.out.below HBD.out).alloc _) _ 1 1 [.slice A5 114 c5] rfl (rv_row rfl) (by intro u hu; simp at hu; subst hu; rfl) (by omega) (by omega) (by have := HR.out.bel.size; have h2 : wr.heap.size ≤ wB.heap.size := HBD.out.size; simp; omega) ?_; intro A9 c9 w9 hc9 hm9 hg9 hat9)
          go_roundw
          case measure => simp [intOf]; omega
          case rel => exact ⟨i + 1, n2 + 1, c9, A9, hs ++ [.slice A5 114 c5], A5, Ax, c5, cx, _, _, by go_num, rfl, Lib.hid (HR.out.next hlt HBD.out (HM5'.out.below (by repeat (first | exact Below.refl _ _ | apply Bw.alloc | apply Bw.drewN | apply Bw.drew | (refine Bw.step ?_ (by assumption))))) hg9 hm9 hat9 HC5.out hc9 HGZ.out.2 (fun h => absurd h (by have := HIB.out; omega)) (fun _ => HGZ.out.1))⟩
      · have hq0 : ((i : Int) == (bad : Int)) = false := by simp; omega
        have HIB := Lib.hid hib
        clear hib
        by_cases hlow : i < bad
        · obtain ⟨hL1, hL0⟩ := HR.out.low (by omega)
          have HR2 : Hid (ChR W wr S bad N i n2 cO (some ⟨gO, 0, none⟩) hs Ax Ay cx cy S S) := by rw [hL1, hL0] at HR; exact HR
          clear hL1 hL0 HR L1 L0
          have HR := HR2
          clear HR2
          have HRU := Lib.hid (HRUNS.out Ax Ay cx cy wr HR.out.x1.rd HR.out.x0.rd HR.out.gx HR.out.gy)
          go_wp2_with fail
          clear d1 d0 g1 g0
          refine HRU.out.mono ?_
          rintro e w5 ⟨A5, c5, rfl, hc5, hm5, hb5⟩
          have HC5 := Lib.hid hc5
          have HB5 := Lib.hid (show Below wr.heap.size wr (w5.alloc (.cells #[.int .i64 o, .int .u8 K, .int .u8 s, .int .u32 q, .int .u32 v] 89)) from Bw.alloc hb5 _)
          have HM5' := Lib.hid (hm5.alloc (.cells #[.int .i64 o, .int .u8 K, .int .u8 s, .int .u32 q, .int .u32 v] 89))
          have HBF := Lib.hid (show Blk (w5.alloc (.cells #[.int .i64 o, .int .u8 K, .int .u8 s, .int .u32 q, .int .u32 v] 89)) w5.heap.size #[.int .i64 o, .int .u8 K, .int .u8 s, .int .u32 q, .int .u32 v] 89 from Blk.new rfl)
          clear hm5 hb5 hc5
          go_wp2_with fail
          generalize (w5.alloc (.cells #[.int .i64 o, .int .u8 K, .int .u8 s, .int .u32 q, .int .u32 v] 89)) = wB at *
          have HKK : Hid (∀ w', Below wB.heap.size wB w' → (fun w' => w'.cell? ⟨w.heap.size, 0, none⟩ = some (.int .u8 K) ∧ w'.cell? ⟨w.heap.size, 1, none⟩ = some (.int .u8 s) ∧ w'.cell? ⟨w.heap.size, 2, none⟩ = some (.int .u32 q) ∧ w'.cell? ⟨w.heap.size, 3, none⟩ = some (.int .u32 v) ∧ w'.cell? ⟨w5.heap.size, 0, none⟩ = some (.int .i64 o) ∧ w'.cell? ⟨w5.heap.size, 1, none⟩ = some (.int .u8 K) ∧ w'.cell? ⟨w5.heap.size, 2, none⟩ = some (.int .u8 s) ∧ w'.cell? ⟨w5.heap.size, 3, none⟩ = some (.int .u32 q) ∧ w'.cell? ⟨w5.heap.size, 4, none⟩ = some (.int .u32 v)) w') := fun w' h => by
            have x1 := HPW.out.below (Bw.step HR.out.bel (Bw.step HB5.out h))
            have x2 := HBF.out.below h
            exact ⟨x1.cell 0 _ rfl, x1.cell 1 _ rfl, x1.cell 2 _ rfl, x1.cell 3 _ rfl, x2.cell 0 _ rfl, x2.cell 1 _ rfl, x2.cell 2 _ rfl, x2.cell 3 _ rfl, x2.cell 4 _ rfl⟩
          go_region_held3 (fun w' => w'.cell? ⟨w.heap.size, 0, none⟩ = some (.int .u8 K) ∧ w'.cell? ⟨w.heap.size, 1, none⟩ = some (.int .u8 s) ∧ w'.cell? ⟨w.heap.size, 2, none⟩ = some (.int .u32 q) ∧ w'.cell? ⟨w.heap.size, 3, none⟩ = some (.int .u32 v) ∧ w'.cell? ⟨w5.heap.size, 0, none⟩ = some (.int .i64 o) ∧ w'.cell? ⟨w5.heap.size, 1, none⟩ = some (.int .u8 K) ∧ w'.cell? ⟨w5.heap.size, 2, none⟩ = some (.int .u8 s) ∧ w'.cell? ⟨w5.heap.size, 3, none⟩ = some (.int .u32 q) ∧ w'.cell? ⟨w5.heap.size, 4, none⟩ = some (.int .u32 v)) (first | assumption | exact HKK.out _ (by repeat (first | exact Below.refl _ _ | apply Bw.alloc | apply Bw.drewN | apply Bw.drew | (refine Bw.step ?_ (by assumption)))))
            (first
              | (go_at_call 58; refine (HOF.out _).mono ?_; rintro e w6 ⟨rfl, hb6⟩)
              | (go_at_call 32; refine (samesyms_calls _ _ _ _ _ _ S S _ (HM5'.out.rd.below (by repeat (first | exact Below.refl _ _ | apply Bw.alloc | apply Bw.drewN | apply Bw.drew | (refine Bw.step ?_ (by assumption))))) (HSW.out.rd.below (Bw.step HR.out.bel (Bw.step HB5.out (by repeat (first | exact Below.refl _ _ | apply Bw.alloc | apply Bw.drewN | apply Bw.drew | (refine Bw.step ?_ (by assumption))))))) HC5.out (by omega) (by omega)).mono ?_; rintro e w' ⟨rfl, q7, rfl⟩; rewrite [HSS.out]))
          have HBD := Lib.hid (show Below wr.heap.size wr (w6.drewN q7) from Bw.step HB5.out (by repeat (first | exact Below.refl _ _ | apply Bw.alloc | apply Bw.drewN | apply Bw.drew | (refine Bw.step ?_ (by assumption)))))
          have HB6 := Lib.hid (show Below wB.heap.size wB (w6.drewN q7) from (by repeat (first | exact Below.refl _ _ | apply Bw.alloc | apply Bw.drewN | apply Bw.drew | (refine Bw.step ?_ (by assumption)))))
          clear hb6
          go_wp2_with (at_builtin; refine wpList_append_mn _ rfl _ _ _ rfl W.heap.size 22 _ 1 24 Try.underlying32 info22 rfl (by omega) (.slice (some ⟨gO, 0, none⟩) n2 cO) n2 hs rfl ((HR.out.out.below HBD.out).alloc _) _ 1 1 [.slice A5 114 c5] rfl (rv_row rfl) (by intro u hu; simp at hu; subst hu; rfl) (by omega) (by omega) (by have := HR.out.bel.size; have h2 : wr.heap.size ≤ w6.heap.size := HBD.out.size; simp; omega) ?_; intro A9 c9 w9 hc9 hm9 hg9 hat9)
          go_roundw
          case measure => simp [intOf]; omega
          case rel => exact ⟨i + 1, n2 + 1, c9, A9, hs ++ [.slice A5 114 c5], A5, Ax, c5, cx, _, _, by go_num, rfl, Lib.hid (HR.out.next hlt HBD.out (HM5'.out.below HB6.out) hg9 hm9 hat9 HC5.out hc9 HSB.out (fun _ => rfl) (fun h => absurd h (by omega)))⟩
        · have hl1 := HR.out.x1.rd.len
          have hl0 := HR.out.x0.rd.len
          have HF := Lib.hid (HHB.out L1 L0 hl1 hl0 HR.out.b1 HR.out.b0 (HR.out.high (by have := HIB.out; omega)))
          have HGZ := Lib.hid (HOUT.out L1 L0 hl1 hl0 HR.out.b1 HR.out.b0 HF.out)
          have HRU := Lib.hid (HRUN.out Ax Ay cx cy L1 L0 wr HR.out.x1.rd HR.out.x0.rd HR.out.gx HR.out.gy HR.out.b1 HR.out.b0 HF.out)
          have HBX := Lib.hid (Below.refl wr.heap.size wr)
          clear hl1 hl0
          obtain ⟨Z, hZ⟩ : ∃ Z, outsL (o : Int) L1 L0 = Z := ⟨_, rfl⟩
          rw [hZ] at HRU HGZ
          clear hZ
          go_wp2_with fail
          clear d1 d0 g1 g0
          refine HRU.out.mono ?_
          rintro e w5 ⟨A5, c5, rfl, hc5, hm5, hb5⟩
          have HM5 := Lib.hid hm5
          have HC5 := Lib.hid hc5
          have HB5 := Lib.hid (show Below wr.heap.size wr (w5.alloc (.cells #[.int .i64 0, .int .u8 0, .int .u8 0, .int .u32 0, .int .u32 0] 89)) from Bw.step HBX.out (Bw.alloc hb5 _))
          have HM5' := Lib.hid ((hm5.mono HBX.out.size).alloc (.cells #[.int .i64 0, .int .u8 0, .int .u8 0, .int .u32 0, .int .u32 0] 89))
          clear hm5 hb5 hc5
          go_wp2_with fail
          generalize (w5.alloc (.cells #[.int .i64 0, .int .u8 0, .int .u8 0, .int .u32 0, .int .u32 0] 89)) = wB at *
          refine wp_region_noPanic ?_
          refine wp_region_held_drew (S := fun _ => True) (by kernel_rfl) trivial (fun hHeld => ?_)
          refine wpAnyH_take (i := 0) (v := .bool false) (by simp only [List.getElem?_toArray, List.getElem?_cons_zero, List.getElem?_cons_succ]; rfl) (by kernel_rfl) (by kernel_rfl) (by kernel_rfl) (fun _ _ _ h => h) (Or.inl ⟨by rfl, ?_⟩) (by assumption) ?_
          · intro w hSw
            try dsimp only at hSw
            go_simp
          try simp only [Act.put, List.setIfInBounds_toArray, List.set_cons_zero, List.set_cons_succ]
          refine wpAnyH_take (i := 1) (v := .int .i64 i) (by simp only [List.getElem?_toArray, List.getElem?_cons_zero, List.getElem?_cons_succ]; rfl) (by kernel_rfl) (by kernel_rfl) (by kernel_rfl) (fun _ _ _ h => h) (Or.inl ⟨by rfl, ?_⟩) (by assumption) ?_
          · intro w hSw
            try dsimp only at hSw
            go_simp
          try simp only [Act.put, List.setIfInBounds_toArray, List.set_cons_zero, List.set_cons_succ]
          refine wpAnyH_take (i := 2) (v := .int .i64 bad) (by simp only [List.getElem?_toArray, List.getElem?_cons_zero, List.getElem?_cons_succ]; rfl) (by kernel_rfl) (by kernel_rfl) (by kernel_rfl) (fun _ _ _ h => h) (Or.inl ⟨by rfl, ?_⟩) (by assumption) ?_
          · intro w hSw
            try dsimp only at hSw
            go_simp
          try simp only [Act.put, List.setIfInBounds_toArray, List.set_cons_zero, List.set_cons_succ]
          refine wpAnyH_take (i := 3) (v := .bool false) (by simp only [List.getElem?_toArray, List.getElem?_cons_zero, List.getElem?_cons_succ]; rfl) (by kernel_rfl) (by kernel_rfl) (by kernel_rfl) (fun _ _ _ h => h) (Or.inl ⟨by rfl, ?_⟩) (by assumption) ?_
          · intro w hSw
            try dsimp only at hSw
            go_simp
          try simp only [Act.put, List.setIfInBounds_toArray, List.set_cons_zero, List.set_cons_succ]
          refine wpAnyH_take (i := 4) (v := .bool false) (by simp only [List.getElem?_toArray, List.getElem?_cons_zero, List.getElem?_cons_succ]; rfl) (by kernel_rfl) (by kernel_rfl) (by kernel_rfl) (fun _ _ _ h => h) (Or.inl ⟨by rfl, ?_⟩) (by assumption) ?_
          · intro w hSw
            try dsimp only at hSw
            go_simp
          try simp only [Act.put, List.setIfInBounds_toArray, List.set_cons_zero, List.set_cons_succ]
          refine wpAnyH_take (i := 5) (v := .bool false) (by simp only [List.getElem?_toArray, List.getElem?_cons_zero, List.getElem?_cons_succ]; rfl) (by kernel_rfl) (by kernel_rfl) (by kernel_rfl) (fun _ _ _ h => h) (Or.inl ⟨by rfl, ?_⟩) (by assumption) ?_
          · intro w hSw
            try dsimp only at hSw
            go_simp
          try simp only [Act.put, List.setIfInBounds_toArray, List.set_cons_zero, List.set_cons_succ]
          refine wpAnyH_take (i := 6) (v := .bool false) (by simp only [List.getElem?_toArray, List.getElem?_cons_zero, List.getElem?_cons_succ]; rfl) (by kernel_rfl) (by kernel_rfl) (by kernel_rfl) (fun _ _ _ h => h) (Or.inl ⟨by rfl, ?_⟩) (by assumption) ?_
          · intro w hSw
            try dsimp only at hSw
            go_simp
          try simp only [Act.put, List.setIfInBounds_toArray, List.set_cons_zero, List.set_cons_succ]
          refine wpAnyH_take (i := 7) (v := .bool false) (by simp only [List.getElem?_toArray, List.getElem?_cons_zero, List.getElem?_cons_succ]; rfl) (by kernel_rfl) (by kernel_rfl) (by kernel_rfl) (fun _ _ _ h => h) (Or.inl ⟨by rfl, ?_⟩) (by assumption) ?_
          · intro w hSw
            try dsimp only at hSw
            go_simp
          try simp only [Act.put, List.setIfInBounds_toArray, List.set_cons_zero, List.set_cons_succ]
          refine wpAnyH_take (i := 8) (v := undef) (by simp only [List.getElem?_toArray, List.getElem?_cons_zero, List.getElem?_cons_succ]; rfl) (by kernel_rfl) (by kernel_rfl) (by kernel_rfl) (fun _ _ _ h => h) (Or.inr ⟨by rfl, rfl⟩) (by assumption) ?_
          try simp only [Act.put, List.setIfInBounds_toArray, List.set_cons_zero, List.set_cons_succ]
          refine wpAnyH_take (i := 9) (v := undef) (by simp only [List.getElem?_toArray, List.getElem?_cons_zero, List.getElem?_cons_succ]; rfl) (by kernel_rfl) (by kernel_rfl) (by kernel_rfl) (fun _ _ _ h => h) (Or.inr ⟨by rfl, rfl⟩) (by assumption) ?_
          try simp only [Act.put, List.setIfInBounds_toArray, List.set_cons_zero, List.set_cons_succ]
          refine wpAnyH_take (i := 10) (v := undef) (by simp only [List.getElem?_toArray, List.getElem?_cons_zero, List.getElem?_cons_succ]; rfl) (by kernel_rfl) (by kernel_rfl) (by kernel_rfl) (fun _ _ _ h => h) (Or.inr ⟨by rfl, rfl⟩) (by assumption) ?_
          try simp only [Act.put, List.setIfInBounds_toArray, List.set_cons_zero, List.set_cons_succ]
          refine wpAnyH_take (i := 11) (v := undef) (by simp only [List.getElem?_toArray, List.getElem?_cons_zero, List.getElem?_cons_succ]; rfl) (by kernel_rfl) (by kernel_rfl) (by kernel_rfl) (fun _ _ _ h => h) (Or.inr ⟨by rfl, rfl⟩) (by assumption) ?_
          try simp only [Act.put, List.setIfInBounds_toArray, List.set_cons_zero, List.set_cons_succ]
          refine wpAnyH_take (i := 12) (v := undef) (by simp only [List.getElem?_toArray, List.getElem?_cons_zero, List.getElem?_cons_succ]; rfl) (by kernel_rfl) (by kernel_rfl) (by kernel_rfl) (fun _ _ _ h => h) (Or.inr ⟨by rfl, rfl⟩) (by assumption) ?_
          try simp only [Act.put, List.setIfInBounds_toArray, List.set_cons_zero, List.set_cons_succ]
          refine wpAnyH_take (i := 13) (v := undef) (by simp only [List.getElem?_toArray, List.getElem?_cons_zero, List.getElem?_cons_succ]; rfl) (by kernel_rfl) (by kernel_rfl) (by kernel_rfl) (fun _ _ _ h => h) (Or.inr ⟨by rfl, rfl⟩) (by assumption) ?_
          try simp only [Act.put, List.setIfInBounds_toArray, List.set_cons_zero, List.set_cons_succ]
          refine wpAnyH_take (i := 14) (v := undef) (by simp only [List.getElem?_toArray, List.getElem?_cons_zero, List.getElem?_cons_succ]; rfl) (by kernel_rfl) (by kernel_rfl) (by kernel_rfl) (fun _ _ _ h => h) (Or.inr ⟨by rfl, rfl⟩) (by assumption) ?_
          try simp only [Act.put, List.setIfInBounds_toArray, List.set_cons_zero, List.set_cons_succ]
          refine wpAnyH_take (i := 15) (v := undef) (by simp only [List.getElem?_toArray, List.getElem?_cons_zero, List.getElem?_cons_succ]; rfl) (by kernel_rfl) (by kernel_rfl) (by kernel_rfl) (fun _ _ _ h => h) (Or.inr ⟨by rfl, rfl⟩) (by assumption) ?_
          try simp only [Act.put, List.setIfInBounds_toArray, List.set_cons_zero, List.set_cons_succ]
          refine wpAnyH_take (i := 16) (v := undef) (by simp only [List.getElem?_toArray, List.getElem?_cons_zero, List.getElem?_cons_succ]; rfl) (by kernel_rfl) (by kernel_rfl) (by kernel_rfl) (fun _ _ _ h => h) (Or.inr ⟨by rfl, rfl⟩) (by assumption) ?_
          try simp only [Act.put, List.setIfInBounds_toArray, List.set_cons_zero, List.set_cons_succ]
          refine wpAnyH_take (i := 17) (v := undef) (by simp only [List.getElem?_toArray, List.getElem?_cons_zero, List.getElem?_cons_succ]; rfl) (by kernel_rfl) (by kernel_rfl) (by kernel_rfl) (fun _ _ _ h => h) (Or.inr ⟨by rfl, rfl⟩) (by assumption) ?_
          try simp only [Act.put, List.setIfInBounds_toArray, List.set_cons_zero, List.set_cons_succ]
          refine wpAnyH_take (i := 18) (v := undef) (by simp only [List.getElem?_toArray, List.getElem?_cons_zero, List.getElem?_cons_succ]; rfl) (by kernel_rfl) (by kernel_rfl) (by kernel_rfl) (fun _ _ _ h => h) (Or.inr ⟨by rfl, rfl⟩) (by assumption) ?_
          try simp only [Act.put, List.setIfInBounds_toArray, List.set_cons_zero, List.set_cons_succ]
          refine wpAnyH_take (i := 19) (v := .bool false) (by simp only [List.getElem?_toArray, List.getElem?_cons_zero, List.getElem?_cons_succ]; rfl) (by kernel_rfl) (by kernel_rfl) (by kernel_rfl) (fun _ _ _ h => h) (Or.inl ⟨by rfl, ?_⟩) (by assumption) ?_
          · intro w hSw
            try dsimp only at hSw
            go_simp
          try simp only [Act.put, List.setIfInBounds_toArray, List.set_cons_zero, List.set_cons_succ]
          refine wpAnyH_take (i := 20) (v := .bool false) (by simp only [List.getElem?_toArray, List.getElem?_cons_zero, List.getElem?_cons_succ]; rfl) (by kernel_rfl) (by kernel_rfl) (by kernel_rfl) (fun _ _ _ h => h) (Or.inl ⟨by rfl, ?_⟩) (by assumption) ?_
          · intro w hSw
            try dsimp only at hSw
            go_simp
          try simp only [Act.put, List.setIfInBounds_toArray, List.set_cons_zero, List.set_cons_succ]
          refine wpAnyH_done (by kernel_rfl) ?_ _
          refine NoPanic.normal ?_
          have HBD := Lib.hid (show Below wr.heap.size wr wB.drew from Bw.step HB5.out (by repeat (first | exact Below.refl _ _ | apply Bw.alloc | apply Bw.drewN | apply Bw.drew | (refine Bw.step ?_ (by assumption)))))
          go_wp2_with (at_builtin; refine wpList_append_mn _ rfl _ _ _ rfl W.heap.size 22 _ 1 24 Try.underlying32 info22 rfl (by omega) (.slice (some ⟨gO, 0, none⟩) n2 cO) n2 hs rfl ((HR.out.out.below HBD.out).alloc _) _ 1 1 [.slice A5 114 c5] rfl (rv_row rfl) (by intro u hu; simp at hu; subst hu; rfl) (by omega) (by omega) (by have := HR.out.bel.size; have h2 : wr.heap.size ≤ wB.heap.size := HBD.out.size; simp; omega) ?_; intro A9 c9 w9 hc9 hm9 hg9 hat9)
          go_roundw
          case measure => simp [intOf]; omega
          case rel => exact ⟨i + 1, n2 + 1, c9, A9, hs ++ [.slice A5 114 c5], A5, Ax, c5, cx, _, _, by go_num, rfl, Lib.hid (HR.out.next hlt HBD.out (HM5'.out.below (by repeat (first | exact Below.refl _ _ | apply Bw.alloc | apply Bw.drewN | apply Bw.drew | (refine Bw.step ?_ (by assumption))))) hg9 hm9 hat9 HC5.out hc9 HGZ.out.2 (fun h => absurd h (by omega)) (fun _ => HGZ.out.1))⟩
    · go_wp2_with fail
      refine (lives09 _).mono ?_; rintro e w8 ⟨rfl, hb8⟩
      go_wp2
      go_ret
      exact ⟨rfl, Bw.step HBW.out (Bw.step HR.out.bel hb8)⟩
end Go.Proofs.Ytnmhhjgiakijgaa
