/- Catches: a frame's good symbols; the chapter's examples. -/
import Derived.Test.YtnmhhjgiakijgaaE1
namespace Go.Proofs.Ytnmhhjgiakijgaa
open Go.RowKit
set_option linter.unusedVariables false
set_option linter.unusedSimpArgs false

set_option maxHeartbeats 1600000 in
set_option maxRecDepth 20000 in
theorem good74_calls (o : Int) (k s q v : Nat) (w : World) (hm : mayB o k = true) (hs : s ≤ 255) (hq : q < 4294967296) (hv : v < 4294967296) :
    Calls Try.prog 74 #[.int .i64 o, .agg #[.int .u8 k, .int .u8 s, .int .u32 q, .int .u32 v]] w fun e w' => ∃ A, e = .returned (.slice A 114 114) ∧ Mn w' w.heap.size 50 1 (.slice A 114 114) 114 (nums .u8 (syP o k s q v true false)) ∧ Below w.heap.size w w' := by
  have H58 := Lib.hid (fun w => of58_calls o k s q v w)
  have HS : Hid (∀ w, Calls Try.prog 60 #[.agg #[.int .i64 o, .int .u8 k, .int .u8 s, .int .u32 q, .int .u32 v], .agg #[.bool true, .bool false]] w fun e w' => ∃ A, e = .returned (.tuple #[.slice A 114 114, .int .i64 0]) ∧ Mn w' w.heap.size 50 1 (.slice A 114 114) 114 (nums .u8 (syP o k s q v true false)) ∧ Below w.heap.size w w') := fun w => by
    have h := syms_calls o k s q v true false w hs hq hv
    unfold SymsPost at h
    rw [syP_length o k s q v true false hm, show errP o k = 0 by unfold errP; rw [if_pos hm]] at h
    exact h
  clear hm hs hq hv
  go_enter Try.func74, Try.ntmps74
  go_wp2_with fail
  refine (H58.out _).mono ?_; rintro e w1 ⟨rfl, hb1⟩
  go_wp2_with fail
  refine (HS.out _).mono ?_; rintro e w2 ⟨A2, rfl, hm2, hb2⟩
  go_wp2
  go_ret
  exact ⟨A2, rfl, hm2.mono (show w.heap.size ≤ w1.heap.size from (show Below w.heap.size w w1 from (by repeat (first | exact Below.refl _ _ | apply Bw.alloc | apply Bw.drewN | apply Bw.drew | (refine Bw.step ?_ (by assumption))))).size), (by repeat (first | exact Below.refl _ _ | apply Bw.alloc | apply Bw.drewN | apply Bw.drew | (refine Bw.step ?_ (by assumption))))⟩

/-- the frame of a run that is high, of a frame's good symbols -/
theorem f5_good {o : Int} {k s q v : Nat} (h : mayB o k = true) (hs : s ≤ 255) (hq : q < 4294967296) (hv : v < 4294967296) :
    f5 (rdB (syP o k s q v true false)) = #[.int .i64 o, .int .u8 k, .int .u8 s, .int .u32 q, .int .u32 v] := by
  obtain ⟨g0, g1, g2, g3, g4, g5⟩ := got_put o k s q v h hs hq hv
  obtain ⟨y1, y2, y3, y4, y5⟩ := fullG g0
  rw [rdB_sy h hs]
  unfold f5
  rw [y1, y2, y3, y4, y5, g1, g2, g3, g4, g5]
theorem sy_bytes {o : Int} {k s q v : Nat} (h : mayB o k = true) : bytesOk (syP o k s q v true false) := by
  rw [syP_eq h]
  exact bytesOk_append (ofL_ok _) (sy_ok _ _)
theorem hB_high {o : Int} {xs ys : List Int} (hx : xs.length = 114) (hy : ys.length = 114) (bx : bytesOk xs) (h : hiL o xs ys = true) : hB o xs ys = rdB xs := by
  unfold hB
  rw [if_pos h, (high_body hx hy bx h).1]

set_option maxHeartbeats 6400000 in
set_option maxRecDepth 20000 in
theorem lives09 (w : World) : Calls Try.prog 76 #[] w fun e w' => e = .returned (.bool true) ∧ Below w.heap.size w w' := by
  have hmay : mayB 1 1 = true := rfl
  obtain ⟨S, hS⟩ : ∃ S, syP 1 1 0 0 9 true false = S := ⟨_, rfl⟩
  have hl := syP_length 1 1 0 0 9 true false hmay
  have hb := sy_bytes (s := 0) (q := 0) (v := 9) hmay
  have hh := both_good (s := 0) (q := 0) (v := 9) hmay (by omega) (by omega) (by omega)
  have hf := f5_good (s := 0) (q := 0) (v := 9) hmay (by omega) (by omega) (by omega)
  have hrd := rdOk_sy (s := 0) (q := 0) (v := 9) (a := true) (b := false) hmay
  have HG := Lib.hid (fun w => good74_calls 1 1 0 0 9 w hmay (by omega) (by omega) (by omega))
  rw [hS] at hl hb hh hf HG hrd
  simp only [rdOk, Bool.and_eq_true, decide_eq_true_eq] at hrd
  have hw := (wholeL_iff S).1 hrd.2
  obtain ⟨v1, v2, v3, v4⟩ := far_only (o := 1) hl (fun j hj => hw j (by omega))
  have HRUN : Hid (∀ (A : Option Addr) (w : World), Rd w .u8 A 114 S → Calls Try.prog 75 #[.int .i64 1, .slice A 114 114, .slice A 114 114] w fun e w' => ∃ A' c', e = .returned (.tuple #[.slice A' 114 c', .agg #[.int .i64 1, .int .u8 1, .int .u8 0, .int .u32 0, .int .u32 9], .bool true]) ∧ 114 ≤ c' ∧
      Mn w' w.heap.size 50 1 (.slice A' 114 c') 114 (nums .u8 S) ∧ Below w.heap.size w w') := fun A w hr => by
    have h := run75_calls 1 A A 114 114 114 114 S S w (by omega) (by omega) hr (Nat.le_refl _) (by omega) hb hr (Nat.le_refl _) (by omega) hb
    rw [hB_high hl hl hb hh, hf, hh, high_outs hl hl hb hh, Nat.max_self] at h
    exact h
  obtain ⟨T, hT⟩ : ∃ T, outsL 1 [] S = T := ⟨_, rfl⟩
  have hTl : T.length = 114 := by rw [← hT, outsL_length]; simp [hl]
  have HRUN2 : Hid (∀ (A : Option Addr) (w : World), Rd w .u8 A 114 S → Calls Try.prog 75 #[.int .i64 1, .slice none 0 0, .slice A 114 114] w fun e w' => ∃ A' c', e = .returned (.tuple #[.slice A' 114 c', .agg #[.int .i64 0, .int .u8 0, .int .u8 0, .int .u32 0, .int .u32 0], .bool false]) ∧ 114 ≤ c' ∧
      Mn w' w.heap.size 50 1 (.slice A' 114 c') 114 (nums .u8 T) ∧ Below w.heap.size w w') := fun A w hr => by
    have h := run75_calls 1 none A 0 0 114 114 [] S w (by omega) (by omega) Rd.nil (Nat.le_refl _) (by omega) (by intro x hx; cases hx) hr (Nat.le_refl _) (by omega) hb
    rw [show hB 1 [] S = [] by unfold hB; rw [v1]; rfl, v1, hT, show max 0 114 = 114 from rfl] at h
    exact h
  rw [hT] at v2 v3 v4
  have HS1 := Lib.hid (sameL_self S)
  have HS2 := Lib.hid (sameL_eq v2)
  have HV3 := Lib.hid v3
  have HV4 := Lib.hid v4
  clear hS hl hb hh hf hrd hw v1 v2 v3 v4 hT hTl
  go_enter Try.func76, Try.ntmps76
  go_wp2_with fail
  refine (HG.out _).mono ?_; rintro e w1 ⟨A1, rfl, hm1, hb1⟩
  go_wp2_with fail
  refine (HRUN.out A1 _ hm1.rd).mono ?_; rintro e w2 ⟨A2, c2, rfl, hc2, hm2, hb2⟩; have HC2 := Lib.hid hc2
  go_wp2_with fail
  refine (HRUN2.out A1 _ (hm1.rd.below (by repeat (first | exact Below.refl _ _ | apply Bw.alloc | apply Bw.drewN | apply Bw.drew | (refine Bw.step ?_ (by assumption)))))).mono ?_; rintro e w3 ⟨A3, c3, rfl, hc3, hm3, hb3⟩
  go_wp2_with fail
  have hbX : Below w.heap.size w (w3.alloc (.cells #[.int .i64 0, .int .u8 0, .int .u8 0, .int .u32 0, .int .u32 0] 89)) := (by repeat (first | exact Below.refl _ _ | apply Bw.alloc | apply Bw.drewN | apply Bw.drew | (refine Bw.step ?_ (by assumption))))
  have BP := Lib.hid ((show Blk (w.alloc (.cells #[.int .u8 1, .int .u8 0, .int .u32 0, .int .u32 9] 82)) w.heap.size #[.int .u8 1, .int .u8 0, .int .u32 0, .int .u32 9] 82 from Blk.new rfl).below (show Below (w.alloc (.cells #[.int .u8 1, .int .u8 0, .int .u32 0, .int .u32 9] 82)).heap.size (w.alloc (.cells #[.int .u8 1, .int .u8 0, .int .u32 0, .int .u32 9] 82)) (w3.alloc (.cells #[.int .i64 0, .int .u8 0, .int .u8 0, .int .u32 0, .int .u32 0] 89)) from (by repeat (first | exact Below.refl _ _ | apply Bw.alloc | apply Bw.drewN | apply Bw.drew | (refine Bw.step ?_ (by assumption))))))
  have BF := Lib.hid (((show Blk (w2.alloc (.cells #[.int .i64 1, .int .u8 1, .int .u8 0, .int .u32 0, .int .u32 9] 89)) w2.heap.size #[.int .i64 1, .int .u8 1, .int .u8 0, .int .u32 0, .int .u32 9] 89 from Blk.new rfl).below hb3).below (show Below w3.heap.size w3 (w3.alloc (.cells #[.int .i64 0, .int .u8 0, .int .u8 0, .int .u32 0, .int .u32 0] 89)) from (by repeat (first | exact Below.refl _ _ | apply Bw.alloc | apply Bw.drewN | apply Bw.drew | (refine Bw.step ?_ (by assumption))))))
  have RA := Lib.hid (hm2.rd.below (show Below w2.heap.size w2 (w3.alloc (.cells #[.int .i64 0, .int .u8 0, .int .u8 0, .int .u32 0, .int .u32 0] 89)) from (by repeat (first | exact Below.refl _ _ | apply Bw.alloc | apply Bw.drewN | apply Bw.drew | (refine Bw.step ?_ (by assumption))))))
  have RSS := Lib.hid (hm1.rd.below (show Below w1.heap.size w1 (w3.alloc (.cells #[.int .i64 0, .int .u8 0, .int .u8 0, .int .u32 0, .int .u32 0] 89)) from (by repeat (first | exact Below.refl _ _ | apply Bw.alloc | apply Bw.drewN | apply Bw.drew | (refine Bw.step ?_ (by assumption))))))
  have RB := Lib.hid (hm3.rd.below (show Below w3.heap.size w3 (w3.alloc (.cells #[.int .i64 0, .int .u8 0, .int .u8 0, .int .u32 0, .int .u32 0] 89)) from (by repeat (first | exact Below.refl _ _ | apply Bw.alloc | apply Bw.drewN | apply Bw.drew | (refine Bw.step ?_ (by assumption))))))
  have HC3 := Lib.hid hc3
  have HBX := Lib.hid hbX
  clear hm1 hm2 hm3 hb1 hb2 hb3 hbX
  generalize (w3.alloc (.cells #[.int .i64 0, .int .u8 0, .int .u8 0, .int .u32 0, .int .u32 0] 89)) = X at *
  obtain ⟨b, o, rfl, hblt, -⟩ := Rv.at_ RB.out (by omega)
  have HK : Hid (∀ w', Below X.heap.size X w' → w'.cell? ⟨w.heap.size, 0, none⟩ = some (.int .u8 1) ∧ w'.cell? ⟨w.heap.size, 1, none⟩ = some (.int .u8 0) ∧ w'.cell? ⟨w.heap.size, 2, none⟩ = some (.int .u32 0) ∧ w'.cell? ⟨w.heap.size, 3, none⟩ = some (.int .u32 9) ∧ w'.cell? ⟨w2.heap.size, 0, none⟩ = some (.int .i64 1) ∧ w'.cell? ⟨w2.heap.size, 1, none⟩ = some (.int .u8 1) ∧ w'.cell? ⟨w2.heap.size, 2, none⟩ = some (.int .u8 0) ∧ w'.cell? ⟨w2.heap.size, 3, none⟩ = some (.int .u32 0) ∧ w'.cell? ⟨w2.heap.size, 4, none⟩ = some (.int .u32 9)) := fun w' h => by
    have x1 := BP.out.below h
    have x2 := BF.out.below h
    exact ⟨x1.cell 0 _ rfl, x1.cell 1 _ rfl, x1.cell 2 _ rfl, x1.cell 3 _ rfl, x2.cell 0 _ rfl, x2.cell 1 _ rfl, x2.cell 2 _ rfl, x2.cell 3 _ rfl, x2.cell 4 _ rfl⟩
  have HK2 : Hid (∀ w', Below X.heap.size X w' → w'.cell? ⟨b, o + 112, none⟩ = some (.int .u8 1) ∧ w'.cell? ⟨b, o + 113, none⟩ = some (.int .u8 2)) := fun w' h => by
    have x1 := gt_cell (RB.out.below h) 112 1 (by omega) HV3.out
    have x2 := gt_cell (RB.out.below h) 113 2 (by omega) HV4.out
    exact ⟨x1, x2⟩
  have H58 := Lib.hid (fun w => of58_calls 1 1 0 0 9 w)
  go_region_held3 (fun w' => w'.cell? ⟨w.heap.size, 0, none⟩ = some (.int .u8 1) ∧ w'.cell? ⟨w.heap.size, 1, none⟩ = some (.int .u8 0) ∧ w'.cell? ⟨w.heap.size, 2, none⟩ = some (.int .u32 0) ∧ w'.cell? ⟨w.heap.size, 3, none⟩ = some (.int .u32 9) ∧ w'.cell? ⟨w2.heap.size, 0, none⟩ = some (.int .i64 1) ∧ w'.cell? ⟨w2.heap.size, 1, none⟩ = some (.int .u8 1) ∧ w'.cell? ⟨w2.heap.size, 2, none⟩ = some (.int .u8 0) ∧ w'.cell? ⟨w2.heap.size, 3, none⟩ = some (.int .u32 0) ∧ w'.cell? ⟨w2.heap.size, 4, none⟩ = some (.int .u32 9)) (first | assumption | exact HK.out _ (by repeat (first | exact Below.refl _ _ | apply Bw.alloc | apply Bw.drewN | apply Bw.drew | (refine Bw.step ?_ (by assumption)))))
    (first
      | (go_at_call 32; refine (samesyms_calls _ _ _ _ _ _ S S _ (RA.out.below (by repeat (first | exact Below.refl _ _ | apply Bw.alloc | apply Bw.drewN | apply Bw.drew | (refine Bw.step ?_ (by assumption))))) (RSS.out.below (by repeat (first | exact Below.refl _ _ | apply Bw.alloc | apply Bw.drewN | apply Bw.drew | (refine Bw.step ?_ (by assumption))))) HC2.out (by omega) (by omega)).mono ?_; rintro e w' ⟨rfl, q1, rfl⟩; rewrite [HS1.out])
      | (go_at_call 58; refine (H58.out _).mono ?_; rintro e w5 ⟨rfl, hb5⟩))
  have HBY := Lib.hid (show Below X.heap.size X w5 from (by repeat (first | exact Below.refl _ _ | apply Bw.alloc | apply Bw.drewN | apply Bw.drew | (refine Bw.step ?_ (by assumption)))))
  clear hb5 HK
  have hc3i : (112 : Int) ≤ (c3 : Int) := by omega
  have hc3n : 112 ≤ c3 := by omega
  go_wp2_with fail
  go_region_held3 (fun w' => w'.cell? ⟨b, o + 112, none⟩ = some (.int .u8 1) ∧ w'.cell? ⟨b, o + 113, none⟩ = some (.int .u8 2)) (first | assumption | exact HK2.out _ (Bw.step HBY.out (by repeat (first | exact Below.refl _ _ | apply Bw.alloc | apply Bw.drewN | apply Bw.drew | (refine Bw.step ?_ (by assumption))))))
    (first
      | (go_at_call 32; refine (samesyms_calls _ _ _ _ _ _ (T.take 112) (S.take 112) _ ((RB.out.take 112 (by omega)).below (Bw.step HBY.out (by repeat (first | exact Below.refl _ _ | apply Bw.alloc | apply Bw.drewN | apply Bw.drew | (refine Bw.step ?_ (by assumption)))))) ((RSS.out.take 112 (by omega)).below (Bw.step HBY.out (by repeat (first | exact Below.refl _ _ | apply Bw.alloc | apply Bw.drewN | apply Bw.drew | (refine Bw.step ?_ (by assumption)))))) (by omega) (by omega) (by omega)).mono ?_; rintro e w' ⟨rfl, q2, rfl⟩; rewrite [HS2.out]))
  all_goals
    go_wp2
    go_ret
    exact ⟨rfl, Bw.step HBX.out (Bw.step HBY.out (by repeat (first | exact Below.refl _ _ | apply Bw.alloc | apply Bw.drewN | apply Bw.drew | (refine Bw.step ?_ (by assumption)))))⟩
end Go.Proofs.Ytnmhhjgiakijgaa
