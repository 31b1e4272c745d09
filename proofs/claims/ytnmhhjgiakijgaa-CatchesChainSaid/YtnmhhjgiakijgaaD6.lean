/- Catches: Step. -/
import Derived.Test.YtnmhhjgiakijgaaD5
namespace Go.Proofs.Ytnmhhjgiakijgaa
open Go.RowKit
set_option linter.unusedVariables false
set_option linter.unusedSimpArgs false

/-- what a pair leaves behind in any case -/
def mkC (s : Ct) (n f : Nat) : Ct := { s with un := if ((s.un == -1) && (((n : Int) != (f : Int)) || ((n : Int) == 0))) = true then (s.had : Int) else s.un, had := s.had + 1 }
/-- one step: the state, what goes out -/
def stepC (s : Ct) (near far : Nat) : Ct × Int :=
  if ((s.had : Int) == 114 || (decide (3 ≤ s.nx) && !s.cu)) = true then (s, 0)
  else if s.cu = true then (mkC s (knw near) (knw far), 0)
  else match s.nx with
    | 0 => (fstC (mkC s (knw near) (knw far)) (if knw near = 0 then knw far else knw near), ((if knw near = 0 then knw far else knw near : Nat) : Int))
    | 1 => (tlC (mkC s (knw near) (knw far)) (knw near) (knw far), sy (tlC (mkC s (knw near) (knw far)) (knw near) (knw far)).wh)
    | 2 => (laC (mkC s (knw near) (knw far)) (knw near) (knw far), sy (!(laC (mkC s (knw near) (knw far)) (knw near) (knw far)).hi))
    | _ => (mkC s (knw near) (knw far), 0)

theorem CS.set1 {w w3 : World} {B g : Nat} {r : Option Nat} {s t : Ct} {A : Option Addr} {c i : Nat} {u : Value} (hBg : B ≤ g) (hlc : s.bd.length ≤ c) (how : (Value.slice A s.bd.length c).ownBlock = r) (hbd : t.bd = s.bd)
    (hb : Blk w3 g (ctV g s (.slice A s.bd.length c)) 146) (hm : Mn w3 (g + 1) 50 1 (.slice A s.bd.length c) s.bd.length (nums .u8 s.bd)) (hk : Keep w w3 g r r) (hbel : Below B w w3)
    (he : (ctV g s (.slice A s.bd.length c)).setIfInBounds i u = ctV g t (.slice A s.bd.length c)) :
    CS (w3.setCell ⟨g, i, none⟩ u) B g r t ∧ Keep w (w3.setCell ⟨g, i, none⟩ u) g r r ∧ Below B w (w3.setCell ⟨g, i, none⟩ u) := by
  refine ⟨⟨hBg, A, c, ?_, ?_, ?_, ?_⟩, hk.set i _, hbel.setCell (p := ⟨g, i, none⟩) hBg _⟩
  · rw [hbd, ← he]
    exact hb.set i u
  · rw [hbd]
    exact hm.setOther (B := B)
  · rw [hbd]; exact hlc
  · rw [hbd]; exact how
/-- what 'Step' answers -/
def StepPost (B g : Nat) (r : Option Nat) (w : World) (q : Ct × Int) (e : Ending) (w' : World) : Prop := e = .returned (.int .u8 q.2) ∧ ∃ r', CS w' B g r' q.1 ∧ Keep w w' g r r' ∧ Below B w w'

set_option maxHeartbeats 3200000 in
set_option maxRecDepth 20000 in
theorem step_stop (B g : Nat) (r : Option Nat) (s : Ct) (near far : Nat) (w : World) (h : CS w B g r s) (hs : ((s.had : Int) == 114 || (decide (3 ≤ s.nx) && !s.cu)) = true) :
    Calls Try.prog 80 #[.pointer (some ⟨g, 0, none⟩), .int .u8 near, .int .u8 far] w (StepPost B g r w (stepC s near far)) := by
  have H := Lib.hid h
  have HR := Lib.hid (show stepC s near far = (s, 0) by unfold stepC; rw [if_pos hs])
  rw [HR.out]
  obtain ⟨-, A, c, hb, -, -, -⟩ := h
  have c1 := hb.cell 1 (nxV g s.nx) rfl
  have c3 := hb.cell 3 (.int .i64 s.had) rfl
  have c5 := hb.cell 5 (.bool s.cu) rfl
  clear hb
  obtain ⟨b1, h1⟩ : ∃ b, ((s.had : Int) == 114) = b := ⟨_, rfl⟩
  obtain ⟨b2, h2⟩ : ∃ b, decide (3 ≤ s.nx) = b := ⟨_, rfl⟩
  obtain ⟨b3, h3⟩ : ∃ b, s.cu = b := ⟨_, rfl⟩
  rw [h1, h2, h3] at hs
  rw [h3] at c5
  have e2 : ∀ w, (binOp .eql 136 (nxV g s.nx) .nilFunc).run Try.prog w = .ok (.bool b2) w := fun w => by rw [eql136, h2]
  clear h2 h3 HR
  cases b1 <;> cases b2 <;> cases b3
  all_goals first | (exfalso; revert hs; decide) | skip
  all_goals clear hs
  all_goals
    go_enter Try.func80, Try.ntmps80
    go_wp2
    go_ret
    exact ⟨rfl, _, H.out, Keep.refl _ _ _, Below.refl _ _⟩

set_option maxHeartbeats 6400000 in
set_option maxRecDepth 20000 in
theorem step_cutf (B g : Nat) (r : Option Nat) (s : Ct) (near far : Nat) (w : World) (h : CS w B g r s) (hs : s.had < 114) (hcu : s.cu = true) (h4 : decide (3 ≤ s.nx) = false) :
    Calls Try.prog 80 #[.pointer (some ⟨g, 0, none⟩), .int .u8 near, .int .u8 far] w (StepPost B g r w (stepC s near far)) := by
  have HR : stepC s near far = (mkC s (knw near) (knw far), 0) := by
    unfold stepC
    rw [if_neg (by rw [hcu]; simp; omega), if_pos hcu]
  have e2 : ∀ w, (binOp .eql 136 (nxV g s.nx) .nilFunc).run Try.prog w = .ok (.bool false) w := fun w => by rw [eql136, h4]
  clear h4
  have HR0 := Lib.hid HR
  clear HR
  rewrite [HR0.out]
  obtain ⟨hBg, A, c, hb, hm, hlc, how⟩ := h
  have HOW := Lib.hid how
  clear how
  have HM := Lib.hid hm
  have HB := Lib.hid hb
  have hglt := hb.lt
  have HBg := Lib.hid hBg
  have HLC := Lib.hid hlc
  have c1 := hb.cell 1 (nxV g s.nx) rfl
  have c3 := hb.cell 3 (.int .i64 s.had) rfl
  have c5 := hb.cell 5 (.bool s.cu) rfl
  rw [hcu] at c5
  clear hb hm hBg hlc
  have h114 : ((s.had : Int) == 114) = false := by simp; omega
  obtain ⟨n, hn⟩ : ∃ n, n = knw near := ⟨_, rfl⟩
  obtain ⟨f, hf⟩ : ∃ f, f = knw far := ⟨_, rfl⟩
  have HN := Lib.hid hn
  have HF := Lib.hid hf
  rewrite [← hn, ← hf]
  clear hn hf
  obtain ⟨b1, h1⟩ : ∃ b, (s.un == -1) = b := ⟨_, rfl⟩
  obtain ⟨b2, h2⟩ : ∃ b, ((n : Int) != (f : Int)) = b := ⟨_, rfl⟩
  obtain ⟨b3, h3⟩ : ∃ b, ((n : Int) == 0) = b := ⟨_, rfl⟩
  have HT := Lib.hid (show mkC s n f = { s with un := if (b1 && (b2 || b3)) = true then (s.had : Int) else s.un, had := s.had + 1 } by unfold mkC; rw [h1, h2, h3])
  have ST : Hid (∀ w3, Below w.heap.size w w3 → (b1 && (b2 || b3)) = true → CS ((w3.setCell ⟨g, 4, none⟩ (.int .i64 s.had)).setCell ⟨g, 3, none⟩ (.int .i64 ((s.had : Int) + 1))) B g r (mkC s n f) ∧ Keep w ((w3.setCell ⟨g, 4, none⟩ (.int .i64 s.had)).setCell ⟨g, 3, none⟩ (.int .i64 ((s.had : Int) + 1))) g r r ∧ Below B w ((w3.setCell ⟨g, 4, none⟩ (.int .i64 s.had)).setCell ⟨g, 3, none⟩ (.int .i64 ((s.had : Int) + 1)))) := fun w3 h3 hc =>
    CS.set2 HBg.out HLC.out HOW.out (by rw [HT.out]) (HB.out.below h3) (HM.out.below h3) (Keep.of h3 g r) (h3.mono (by have := HBg.out; omega)) (by rw [HT.out, if_pos hc]; rfl)
  have SF : Hid (∀ w3, Below w.heap.size w w3 → (b1 && (b2 || b3)) = false → CS (w3.setCell ⟨g, 3, none⟩ (.int .i64 ((s.had : Int) + 1))) B g r (mkC s n f) ∧ Keep w (w3.setCell ⟨g, 3, none⟩ (.int .i64 ((s.had : Int) + 1))) g r r ∧ Below B w (w3.setCell ⟨g, 3, none⟩ (.int .i64 ((s.had : Int) + 1)))) := fun w3 h3 hc =>
    CS.set1 HBg.out HLC.out HOW.out (by rw [HT.out]) (HB.out.below h3) (HM.out.below h3) (Keep.of h3 g r) (h3.mono (by have := HBg.out; omega)) (by rw [HT.out, if_neg (by rw [hc]; decide)]; rfl)
  clear HT
  go_enter Try.func80, Try.ntmps80
  go_wp2_with fail
  refine (known_calls near _).mono ?_
  rintro e w1 ⟨rfl, hb1⟩
  rewrite [← HN.out]
  go_wp2_with fail
  refine (known_calls far _).mono ?_
  rintro e w2 ⟨rfl, hb2⟩
  rewrite [← HF.out]
  have hbw : Below w.heap.size w w2 := (by repeat (first | exact Below.refl _ _ | apply Bw.alloc | apply Bw.drewN | apply Bw.drew | (refine Bw.step ?_ (by assumption))))
  have hB2 := HB.out.below hbw
  have k4 := hB2.cell 4 (.int .i64 s.un) rfl
  have k1 := hB2.cell 1 (nxV g s.nx) rfl
  have k3 := hB2.cell 3 (.int .i64 s.had) rfl
  have k5 := hB2.cell 5 (.bool s.cu) rfl
  rw [hcu] at k5
  have j4 := hB2.frozen 4
  have j3 := hB2.frozen 3
  have HBW := Lib.hid hbw
  clear hB2 hbw hb1 hb2 c1 c3 c5
  cases b1 <;> cases b2 <;> cases b3
  all_goals
    go_wp2_with fail
    go_ret
    first | exact ⟨rfl, _, ST.out _ HBW.out rfl⟩ | exact ⟨rfl, _, SF.out _ HBW.out rfl⟩

set_option maxHeartbeats 6400000 in
set_option maxRecDepth 20000 in
theorem step_cutt (B g : Nat) (r : Option Nat) (s : Ct) (near far : Nat) (w : World) (h : CS w B g r s) (hs : s.had < 114) (hcu : s.cu = true) (h4 : decide (3 ≤ s.nx) = true) :
    Calls Try.prog 80 #[.pointer (some ⟨g, 0, none⟩), .int .u8 near, .int .u8 far] w (StepPost B g r w (stepC s near far)) := by
  have HR : stepC s near far = (mkC s (knw near) (knw far), 0) := by
    unfold stepC
    rw [if_neg (by rw [hcu]; simp; omega), if_pos hcu]
  have e2 : ∀ w, (binOp .eql 136 (nxV g s.nx) .nilFunc).run Try.prog w = .ok (.bool true) w := fun w => by rw [eql136, h4]
  clear h4
  have HR0 := Lib.hid HR
  clear HR
  rewrite [HR0.out]
  obtain ⟨hBg, A, c, hb, hm, hlc, how⟩ := h
  have HOW := Lib.hid how
  clear how
  have HM := Lib.hid hm
  have HB := Lib.hid hb
  have hglt := hb.lt
  have HBg := Lib.hid hBg
  have HLC := Lib.hid hlc
  have c1 := hb.cell 1 (nxV g s.nx) rfl
  have c3 := hb.cell 3 (.int .i64 s.had) rfl
  have c5 := hb.cell 5 (.bool s.cu) rfl
  rw [hcu] at c5
  clear hb hm hBg hlc
  have h114 : ((s.had : Int) == 114) = false := by simp; omega
  obtain ⟨n, hn⟩ : ∃ n, n = knw near := ⟨_, rfl⟩
  obtain ⟨f, hf⟩ : ∃ f, f = knw far := ⟨_, rfl⟩
  have HN := Lib.hid hn
  have HF := Lib.hid hf
  rewrite [← hn, ← hf]
  clear hn hf
  obtain ⟨b1, h1⟩ : ∃ b, (s.un == -1) = b := ⟨_, rfl⟩
  obtain ⟨b2, h2⟩ : ∃ b, ((n : Int) != (f : Int)) = b := ⟨_, rfl⟩
  obtain ⟨b3, h3⟩ : ∃ b, ((n : Int) == 0) = b := ⟨_, rfl⟩
  have HT := Lib.hid (show mkC s n f = { s with un := if (b1 && (b2 || b3)) = true then (s.had : Int) else s.un, had := s.had + 1 } by unfold mkC; rw [h1, h2, h3])
  have ST : Hid (∀ w3, Below w.heap.size w w3 → (b1 && (b2 || b3)) = true → CS ((w3.setCell ⟨g, 4, none⟩ (.int .i64 s.had)).setCell ⟨g, 3, none⟩ (.int .i64 ((s.had : Int) + 1))) B g r (mkC s n f) ∧ Keep w ((w3.setCell ⟨g, 4, none⟩ (.int .i64 s.had)).setCell ⟨g, 3, none⟩ (.int .i64 ((s.had : Int) + 1))) g r r ∧ Below B w ((w3.setCell ⟨g, 4, none⟩ (.int .i64 s.had)).setCell ⟨g, 3, none⟩ (.int .i64 ((s.had : Int) + 1)))) := fun w3 h3 hc =>
    CS.set2 HBg.out HLC.out HOW.out (by rw [HT.out]) (HB.out.below h3) (HM.out.below h3) (Keep.of h3 g r) (h3.mono (by have := HBg.out; omega)) (by rw [HT.out, if_pos hc]; rfl)
  have SF : Hid (∀ w3, Below w.heap.size w w3 → (b1 && (b2 || b3)) = false → CS (w3.setCell ⟨g, 3, none⟩ (.int .i64 ((s.had : Int) + 1))) B g r (mkC s n f) ∧ Keep w (w3.setCell ⟨g, 3, none⟩ (.int .i64 ((s.had : Int) + 1))) g r r ∧ Below B w (w3.setCell ⟨g, 3, none⟩ (.int .i64 ((s.had : Int) + 1)))) := fun w3 h3 hc =>
    CS.set1 HBg.out HLC.out HOW.out (by rw [HT.out]) (HB.out.below h3) (HM.out.below h3) (Keep.of h3 g r) (h3.mono (by have := HBg.out; omega)) (by rw [HT.out, if_neg (by rw [hc]; decide)]; rfl)
  clear HT
  go_enter Try.func80, Try.ntmps80
  go_wp2_with fail
  refine (known_calls near _).mono ?_
  rintro e w1 ⟨rfl, hb1⟩
  rewrite [← HN.out]
  go_wp2_with fail
  refine (known_calls far _).mono ?_
  rintro e w2 ⟨rfl, hb2⟩
  rewrite [← HF.out]
  have hbw : Below w.heap.size w w2 := (by repeat (first | exact Below.refl _ _ | apply Bw.alloc | apply Bw.drewN | apply Bw.drew | (refine Bw.step ?_ (by assumption))))
  have hB2 := HB.out.below hbw
  have k4 := hB2.cell 4 (.int .i64 s.un) rfl
  have k1 := hB2.cell 1 (nxV g s.nx) rfl
  have k3 := hB2.cell 3 (.int .i64 s.had) rfl
  have k5 := hB2.cell 5 (.bool s.cu) rfl
  rw [hcu] at k5
  have j4 := hB2.frozen 4
  have j3 := hB2.frozen 3
  have HBW := Lib.hid hbw
  clear hB2 hbw hb1 hb2 c1 c3 c5
  cases b1 <;> cases b2 <;> cases b3
  all_goals
    go_wp2_with fail
    go_ret
    first | exact ⟨rfl, _, ST.out _ HBW.out rfl⟩ | exact ⟨rfl, _, SF.out _ HBW.out rfl⟩

set_option maxHeartbeats 6400000 in
set_option maxRecDepth 20000 in
theorem step_first (B g : Nat) (r : Option Nat) (s : Ct) (near far : Nat) (w : World) (h : CS w B g r s) (hs : s.had < 114) (hcu : s.cu = false) (hnx : s.nx = 0) (hl : s.bd.length < 112) :
    Calls Try.prog 80 #[.pointer (some ⟨g, 0, none⟩), .int .u8 near, .int .u8 far] w (StepPost B g r w (stepC s near far)) := by
  have HR : stepC s near far = (fstC (mkC s (knw near) (knw far)) (if knw near = 0 then knw far else knw near), ((if knw near = 0 then knw far else knw near : Nat) : Int)) := by
    unfold stepC
    rw [if_neg (by rw [hcu, hnx]; simp; omega), if_neg (by rw [hcu]; decide), hnx]
    rfl
  have e2 : ∀ w, (binOp .eql 136 (.func (Fn.func 132) #[.pointer (some ⟨g, 0, none⟩)] #[]) .nilFunc).run Try.prog w = .ok (.bool false) w := fun w => eql136 g 0 w
  have HR0 := Lib.hid HR
  clear HR
  rewrite [HR0.out]
  obtain ⟨hBg, A, c, hb, hm, hlc, how⟩ := h
  have HOW := Lib.hid how
  clear how
  have HM := Lib.hid hm
  have HB := Lib.hid hb
  have hglt := hb.lt
  have HBg := Lib.hid hBg
  have HLC := Lib.hid hlc
  have c1 := hb.cell 1 (.func (Fn.func 132) #[.pointer (some ⟨g, 0, none⟩)] #[]) (by show some (nxV g s.nx) = _; rw [hnx]; rfl)
  have c3 := hb.cell 3 (.int .i64 s.had) rfl
  have c5 := hb.cell 5 (.bool s.cu) rfl
  rw [hcu] at c5
  clear hb hm hBg hlc
  have h114 : ((s.had : Int) == 114) = false := by simp; omega
  obtain ⟨n, hn⟩ : ∃ n, n = knw near := ⟨_, rfl⟩
  obtain ⟨f, hf⟩ : ∃ f, f = knw far := ⟨_, rfl⟩
  have HN := Lib.hid hn
  have HF := Lib.hid hf
  rewrite [← hn, ← hf]
  clear hn hf
  obtain ⟨o, ho⟩ : ∃ o, o = (if n = 0 then f else n) := ⟨_, rfl⟩
  rewrite [← ho]
  have HO := Lib.hid ho
  clear ho
  obtain ⟨b1, h1⟩ : ∃ b, (s.un == -1) = b := ⟨_, rfl⟩
  obtain ⟨b2, h2⟩ : ∃ b, ((n : Int) != (f : Int)) = b := ⟨_, rfl⟩
  obtain ⟨b3, h3⟩ : ∃ b, ((n : Int) == 0) = b := ⟨_, rfl⟩
  have HT := Lib.hid (show mkC s n f = { s with un := if (b1 && (b2 || b3)) = true then (s.had : Int) else s.un, had := s.had + 1 } by unfold mkC; rw [h1, h2, h3])
  have ST : Hid (∀ w3, Below w.heap.size w w3 → (b1 && (b2 || b3)) = true → CS ((w3.setCell ⟨g, 4, none⟩ (.int .i64 s.had)).setCell ⟨g, 3, none⟩ (.int .i64 ((s.had : Int) + 1))) B g r (mkC s n f) ∧ Keep w ((w3.setCell ⟨g, 4, none⟩ (.int .i64 s.had)).setCell ⟨g, 3, none⟩ (.int .i64 ((s.had : Int) + 1))) g r r ∧ Below B w ((w3.setCell ⟨g, 4, none⟩ (.int .i64 s.had)).setCell ⟨g, 3, none⟩ (.int .i64 ((s.had : Int) + 1)))) := fun w3 h3 hc =>
    CS.set2 HBg.out HLC.out HOW.out (by rw [HT.out]) (HB.out.below h3) (HM.out.below h3) (Keep.of h3 g r) (h3.mono (by have := HBg.out; omega)) (by rw [HT.out, if_pos hc]; rfl)
  have SF : Hid (∀ w3, Below w.heap.size w w3 → (b1 && (b2 || b3)) = false → CS (w3.setCell ⟨g, 3, none⟩ (.int .i64 ((s.had : Int) + 1))) B g r (mkC s n f) ∧ Keep w (w3.setCell ⟨g, 3, none⟩ (.int .i64 ((s.had : Int) + 1))) g r r ∧ Below B w (w3.setCell ⟨g, 3, none⟩ (.int .i64 ((s.had : Int) + 1)))) := fun w3 h3 hc =>
    CS.set1 HBg.out HLC.out HOW.out (by rw [HT.out]) (HB.out.below h3) (HM.out.below h3) (Keep.of h3 g r) (h3.mono (by have := HBg.out; omega)) (by rw [HT.out, if_neg (by rw [hc]; decide)]; rfl)
  clear HT
  go_enter Try.func80, Try.ntmps80
  go_wp2_with fail
  refine (known_calls near _).mono ?_
  rintro e w1 ⟨rfl, hb1⟩
  rewrite [← HN.out]
  go_wp2_with fail
  refine (known_calls far _).mono ?_
  rintro e w2 ⟨rfl, hb2⟩
  rewrite [← HF.out]
  have hbw : Below w.heap.size w w2 := (by repeat (first | exact Below.refl _ _ | apply Bw.alloc | apply Bw.drewN | apply Bw.drew | (refine Bw.step ?_ (by assumption))))
  have hB2 := HB.out.below hbw
  have k4 := hB2.cell 4 (.int .i64 s.un) rfl
  have k1 := hB2.cell 1 (.func (Fn.func 132) #[.pointer (some ⟨g, 0, none⟩)] #[]) (by show some (nxV g s.nx) = _; rw [hnx]; rfl)
  have k3 := hB2.cell 3 (.int .i64 s.had) rfl
  have k5 := hB2.cell 5 (.bool s.cu) rfl
  rw [hcu] at k5
  have j4 := hB2.frozen 4
  have j3 := hB2.frozen 3
  have HBW := Lib.hid hbw
  clear hB2 hbw hb1 hb2 c1 c3 c5
  cases b1 <;> cases b2 <;> cases b3
  all_goals
    go_wp2_with fail
    first
    | (refine (first_calls B g r (mkC s n f) n f o _ (ST.out _ HBW.out rfl).1 hnx hl HO.out).mono ?_; rintro e w4 ⟨rfl, r4, hcs, hk4, hb4⟩; have hKF := (ST.out _ HBW.out rfl).2.1.trans hk4 (ST.out _ HBW.out rfl).2.2.size; have hBF := (ST.out _ HBW.out rfl).2.2.trans hb4)
    | (refine (first_calls B g r (mkC s n f) n f o _ (SF.out _ HBW.out rfl).1 hnx hl HO.out).mono ?_; rintro e w4 ⟨rfl, r4, hcs, hk4, hb4⟩; have hKF := (SF.out _ HBW.out rfl).2.1.trans hk4 (SF.out _ HBW.out rfl).2.2.size; have hBF := (SF.out _ HBW.out rfl).2.2.trans hb4)
    have HCS := Lib.hid hcs
    have HBF := Lib.hid hBF
    have HKF := Lib.hid hKF
    clear hcs hb4 hBF hk4 hKF
    go_wp2
    go_ret
    exact ⟨rfl, _, HCS.out, HKF.out, HBF.out⟩

set_option maxHeartbeats 6400000 in
set_option maxRecDepth 20000 in
theorem step_tail (B g : Nat) (r : Option Nat) (s : Ct) (near far : Nat) (w : World) (h : CS w B g r s) (hs : s.had < 114) (hcu : s.cu = false) (hnx : s.nx = 1) (hl : s.bd.length ≤ 112) :
    Calls Try.prog 80 #[.pointer (some ⟨g, 0, none⟩), .int .u8 near, .int .u8 far] w (StepPost B g r w (stepC s near far)) := by
  have HR : stepC s near far = (tlC (mkC s (knw near) (knw far)) (knw near) (knw far), sy (tlC (mkC s (knw near) (knw far)) (knw near) (knw far)).wh) := by
    unfold stepC
    rw [if_neg (by rw [hcu, hnx]; simp; omega), if_neg (by rw [hcu]; decide), hnx]
    rfl
  have e2 : ∀ w, (binOp .eql 136 (.func (Fn.func 167) #[.pointer (some ⟨g, 0, none⟩)] #[]) .nilFunc).run Try.prog w = .ok (.bool false) w := fun w => eql136 g 1 w
  have HR0 := Lib.hid HR
  clear HR
  rewrite [HR0.out]
  obtain ⟨hBg, A, c, hb, hm, hlc, how⟩ := h
  have HOW := Lib.hid how
  clear how
  have HM := Lib.hid hm
  have HB := Lib.hid hb
  have hglt := hb.lt
  have HBg := Lib.hid hBg
  have HLC := Lib.hid hlc
  have c1 := hb.cell 1 (.func (Fn.func 167) #[.pointer (some ⟨g, 0, none⟩)] #[]) (by show some (nxV g s.nx) = _; rw [hnx]; rfl)
  have c3 := hb.cell 3 (.int .i64 s.had) rfl
  have c5 := hb.cell 5 (.bool s.cu) rfl
  rw [hcu] at c5
  clear hb hm hBg hlc
  have h114 : ((s.had : Int) == 114) = false := by simp; omega
  obtain ⟨n, hn⟩ : ∃ n, n = knw near := ⟨_, rfl⟩
  obtain ⟨f, hf⟩ : ∃ f, f = knw far := ⟨_, rfl⟩
  have HN := Lib.hid hn
  have HF := Lib.hid hf
  rewrite [← hn, ← hf]
  clear hn hf
  obtain ⟨b1, h1⟩ : ∃ b, (s.un == -1) = b := ⟨_, rfl⟩
  obtain ⟨b2, h2⟩ : ∃ b, ((n : Int) != (f : Int)) = b := ⟨_, rfl⟩
  obtain ⟨b3, h3⟩ : ∃ b, ((n : Int) == 0) = b := ⟨_, rfl⟩
  have HT := Lib.hid (show mkC s n f = { s with un := if (b1 && (b2 || b3)) = true then (s.had : Int) else s.un, had := s.had + 1 } by unfold mkC; rw [h1, h2, h3])
  have ST : Hid (∀ w3, Below w.heap.size w w3 → (b1 && (b2 || b3)) = true → CS ((w3.setCell ⟨g, 4, none⟩ (.int .i64 s.had)).setCell ⟨g, 3, none⟩ (.int .i64 ((s.had : Int) + 1))) B g r (mkC s n f) ∧ Keep w ((w3.setCell ⟨g, 4, none⟩ (.int .i64 s.had)).setCell ⟨g, 3, none⟩ (.int .i64 ((s.had : Int) + 1))) g r r ∧ Below B w ((w3.setCell ⟨g, 4, none⟩ (.int .i64 s.had)).setCell ⟨g, 3, none⟩ (.int .i64 ((s.had : Int) + 1)))) := fun w3 h3 hc =>
    CS.set2 HBg.out HLC.out HOW.out (by rw [HT.out]) (HB.out.below h3) (HM.out.below h3) (Keep.of h3 g r) (h3.mono (by have := HBg.out; omega)) (by rw [HT.out, if_pos hc]; rfl)
  have SF : Hid (∀ w3, Below w.heap.size w w3 → (b1 && (b2 || b3)) = false → CS (w3.setCell ⟨g, 3, none⟩ (.int .i64 ((s.had : Int) + 1))) B g r (mkC s n f) ∧ Keep w (w3.setCell ⟨g, 3, none⟩ (.int .i64 ((s.had : Int) + 1))) g r r ∧ Below B w (w3.setCell ⟨g, 3, none⟩ (.int .i64 ((s.had : Int) + 1)))) := fun w3 h3 hc =>
    CS.set1 HBg.out HLC.out HOW.out (by rw [HT.out]) (HB.out.below h3) (HM.out.below h3) (Keep.of h3 g r) (h3.mono (by have := HBg.out; omega)) (by rw [HT.out, if_neg (by rw [hc]; decide)]; rfl)
  clear HT
  go_enter Try.func80, Try.ntmps80
  go_wp2_with fail
  refine (known_calls near _).mono ?_
  rintro e w1 ⟨rfl, hb1⟩
  rewrite [← HN.out]
  go_wp2_with fail
  refine (known_calls far _).mono ?_
  rintro e w2 ⟨rfl, hb2⟩
  rewrite [← HF.out]
  have hbw : Below w.heap.size w w2 := (by repeat (first | exact Below.refl _ _ | apply Bw.alloc | apply Bw.drewN | apply Bw.drew | (refine Bw.step ?_ (by assumption))))
  have hB2 := HB.out.below hbw
  have k4 := hB2.cell 4 (.int .i64 s.un) rfl
  have k1 := hB2.cell 1 (.func (Fn.func 167) #[.pointer (some ⟨g, 0, none⟩)] #[]) (by show some (nxV g s.nx) = _; rw [hnx]; rfl)
  have k3 := hB2.cell 3 (.int .i64 s.had) rfl
  have k5 := hB2.cell 5 (.bool s.cu) rfl
  rw [hcu] at k5
  have j4 := hB2.frozen 4
  have j3 := hB2.frozen 3
  have HBW := Lib.hid hbw
  clear hB2 hbw hb1 hb2 c1 c3 c5
  cases b1 <;> cases b2 <;> cases b3
  all_goals
    go_wp2_with fail
    first
    | (refine (ctail_calls B g r (mkC s n f) n f _ (ST.out _ HBW.out rfl).1 (Nat.le_trans hl (by omega))).mono ?_; rintro e w4 ⟨rfl, hcs, hk4, hb4⟩; have hKF := (ST.out _ HBW.out rfl).2.1.trans hk4 (ST.out _ HBW.out rfl).2.2.size; have hBF := (ST.out _ HBW.out rfl).2.2.trans hb4)
    | (refine (ctail_calls B g r (mkC s n f) n f _ (SF.out _ HBW.out rfl).1 (Nat.le_trans hl (by omega))).mono ?_; rintro e w4 ⟨rfl, hcs, hk4, hb4⟩; have hKF := (SF.out _ HBW.out rfl).2.1.trans hk4 (SF.out _ HBW.out rfl).2.2.size; have hBF := (SF.out _ HBW.out rfl).2.2.trans hb4)
    have HCS := Lib.hid hcs
    have HBF := Lib.hid hBF
    have HKF := Lib.hid hKF
    clear hcs hb4 hBF hk4 hKF
    go_wp2
    go_ret
    exact ⟨rfl, _, HCS.out, HKF.out, HBF.out⟩

set_option maxHeartbeats 6400000 in
set_option maxRecDepth 20000 in
theorem step_last (B g : Nat) (r : Option Nat) (s : Ct) (near far : Nat) (w : World) (h : CS w B g r s) (hs : s.had < 114) (hcu : s.cu = false) (hnx : s.nx = 2) (hl : s.bd.length ≤ 112) :
    Calls Try.prog 80 #[.pointer (some ⟨g, 0, none⟩), .int .u8 near, .int .u8 far] w (StepPost B g r w (stepC s near far)) := by
  have HR : stepC s near far = (laC (mkC s (knw near) (knw far)) (knw near) (knw far), sy (!(laC (mkC s (knw near) (knw far)) (knw near) (knw far)).hi)) := by
    unfold stepC
    rw [if_neg (by rw [hcu, hnx]; simp; omega), if_neg (by rw [hcu]; decide), hnx]
    rfl
  have e2 : ∀ w, (binOp .eql 136 (.func (Fn.func 179) #[.pointer (some ⟨g, 0, none⟩)] #[]) .nilFunc).run Try.prog w = .ok (.bool false) w := fun w => eql136 g 2 w
  have HR0 := Lib.hid HR
  clear HR
  rewrite [HR0.out]
  obtain ⟨hBg, A, c, hb, hm, hlc, how⟩ := h
  have HOW := Lib.hid how
  clear how
  have HM := Lib.hid hm
  have HB := Lib.hid hb
  have hglt := hb.lt
  have HBg := Lib.hid hBg
  have HLC := Lib.hid hlc
  have c1 := hb.cell 1 (.func (Fn.func 179) #[.pointer (some ⟨g, 0, none⟩)] #[]) (by show some (nxV g s.nx) = _; rw [hnx]; rfl)
  have c3 := hb.cell 3 (.int .i64 s.had) rfl
  have c5 := hb.cell 5 (.bool s.cu) rfl
  rw [hcu] at c5
  clear hb hm hBg hlc
  have h114 : ((s.had : Int) == 114) = false := by simp; omega
  obtain ⟨n, hn⟩ : ∃ n, n = knw near := ⟨_, rfl⟩
  obtain ⟨f, hf⟩ : ∃ f, f = knw far := ⟨_, rfl⟩
  have HN := Lib.hid hn
  have HF := Lib.hid hf
  rewrite [← hn, ← hf]
  clear hn hf
  obtain ⟨b1, h1⟩ : ∃ b, (s.un == -1) = b := ⟨_, rfl⟩
  obtain ⟨b2, h2⟩ : ∃ b, ((n : Int) != (f : Int)) = b := ⟨_, rfl⟩
  obtain ⟨b3, h3⟩ : ∃ b, ((n : Int) == 0) = b := ⟨_, rfl⟩
  have HT := Lib.hid (show mkC s n f = { s with un := if (b1 && (b2 || b3)) = true then (s.had : Int) else s.un, had := s.had + 1 } by unfold mkC; rw [h1, h2, h3])
  have ST : Hid (∀ w3, Below w.heap.size w w3 → (b1 && (b2 || b3)) = true → CS ((w3.setCell ⟨g, 4, none⟩ (.int .i64 s.had)).setCell ⟨g, 3, none⟩ (.int .i64 ((s.had : Int) + 1))) B g r (mkC s n f) ∧ Keep w ((w3.setCell ⟨g, 4, none⟩ (.int .i64 s.had)).setCell ⟨g, 3, none⟩ (.int .i64 ((s.had : Int) + 1))) g r r ∧ Below B w ((w3.setCell ⟨g, 4, none⟩ (.int .i64 s.had)).setCell ⟨g, 3, none⟩ (.int .i64 ((s.had : Int) + 1)))) := fun w3 h3 hc =>
    CS.set2 HBg.out HLC.out HOW.out (by rw [HT.out]) (HB.out.below h3) (HM.out.below h3) (Keep.of h3 g r) (h3.mono (by have := HBg.out; omega)) (by rw [HT.out, if_pos hc]; rfl)
  have SF : Hid (∀ w3, Below w.heap.size w w3 → (b1 && (b2 || b3)) = false → CS (w3.setCell ⟨g, 3, none⟩ (.int .i64 ((s.had : Int) + 1))) B g r (mkC s n f) ∧ Keep w (w3.setCell ⟨g, 3, none⟩ (.int .i64 ((s.had : Int) + 1))) g r r ∧ Below B w (w3.setCell ⟨g, 3, none⟩ (.int .i64 ((s.had : Int) + 1)))) := fun w3 h3 hc =>
    CS.set1 HBg.out HLC.out HOW.out (by rw [HT.out]) (HB.out.below h3) (HM.out.below h3) (Keep.of h3 g r) (h3.mono (by have := HBg.out; omega)) (by rw [HT.out, if_neg (by rw [hc]; decide)]; rfl)
  clear HT
  go_enter Try.func80, Try.ntmps80
  go_wp2_with fail
  refine (known_calls near _).mono ?_
  rintro e w1 ⟨rfl, hb1⟩
  rewrite [← HN.out]
  go_wp2_with fail
  refine (known_calls far _).mono ?_
  rintro e w2 ⟨rfl, hb2⟩
  rewrite [← HF.out]
  have hbw : Below w.heap.size w w2 := (by repeat (first | exact Below.refl _ _ | apply Bw.alloc | apply Bw.drewN | apply Bw.drew | (refine Bw.step ?_ (by assumption))))
  have hB2 := HB.out.below hbw
  have k4 := hB2.cell 4 (.int .i64 s.un) rfl
  have k1 := hB2.cell 1 (.func (Fn.func 179) #[.pointer (some ⟨g, 0, none⟩)] #[]) (by show some (nxV g s.nx) = _; rw [hnx]; rfl)
  have k3 := hB2.cell 3 (.int .i64 s.had) rfl
  have k5 := hB2.cell 5 (.bool s.cu) rfl
  rw [hcu] at k5
  have j4 := hB2.frozen 4
  have j3 := hB2.frozen 3
  have HBW := Lib.hid hbw
  clear hB2 hbw hb1 hb2 c1 c3 c5
  cases b1 <;> cases b2 <;> cases b3
  all_goals
    go_wp2_with fail
    first
    | (refine (clast_calls B g r (mkC s n f) n f _ (ST.out _ HBW.out rfl).1).mono ?_; rintro e w4 ⟨rfl, hcs, hk4, hb4⟩; have hKF := (ST.out _ HBW.out rfl).2.1.trans hk4 (ST.out _ HBW.out rfl).2.2.size; have hBF := (ST.out _ HBW.out rfl).2.2.trans hb4)
    | (refine (clast_calls B g r (mkC s n f) n f _ (SF.out _ HBW.out rfl).1).mono ?_; rintro e w4 ⟨rfl, hcs, hk4, hb4⟩; have hKF := (SF.out _ HBW.out rfl).2.1.trans hk4 (SF.out _ HBW.out rfl).2.2.size; have hBF := (SF.out _ HBW.out rfl).2.2.trans hb4)
    have HCS := Lib.hid hcs
    have HBF := Lib.hid hBF
    have HKF := Lib.hid hKF
    clear hcs hb4 hBF hk4 hKF
    go_wp2
    go_ret
    exact ⟨rfl, _, HCS.out, HKF.out, HBF.out⟩

end Go.Proofs.Ytnmhhjgiakijgaa
