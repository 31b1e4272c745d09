/- Catches: the tail's two pairs. -/
import Derived.Test.YtnmhhjgiakijgaaD3
namespace Go.Proofs.Ytnmhhjgiakijgaa
open Go.RowKit
set_option linter.unusedVariables false
set_option linter.unusedSimpArgs false

/-- the state behind the tail's first pair -/
def tlC (s : Ct) (near far : Nat) : Ct := { s with wh := isF s && (s.un == -1) && ((near : Int) == 2) && ((far : Int) == 2), nx := 2 }
/-- the state behind the tail's second pair -/
def laC (s : Ct) (near far : Nat) : Ct := { s with hi := s.wh && ((near : Int) == 1) && ((far : Int) == 1), nx := 3 }

theorem CS.set2 {w w3 : World} {B g : Nat} {r : Option Nat} {s t : Ct} {A : Option Addr} {c i j : Nat} {u v : Value} (hBg : B ≤ g) (hlc : s.bd.length ≤ c) (how : (Value.slice A s.bd.length c).ownBlock = r) (hbd : t.bd = s.bd)
    (hb : Blk w3 g (ctV g s (.slice A s.bd.length c)) 146) (hm : Mn w3 (g + 1) 50 1 (.slice A s.bd.length c) s.bd.length (nums .u8 s.bd)) (hk : Keep w w3 g r r) (hbel : Below B w w3)
    (he : ((ctV g s (.slice A s.bd.length c)).setIfInBounds i u).setIfInBounds j v = ctV g t (.slice A s.bd.length c)) :
    CS ((w3.setCell ⟨g, i, none⟩ u).setCell ⟨g, j, none⟩ v) B g r t ∧ Keep w ((w3.setCell ⟨g, i, none⟩ u).setCell ⟨g, j, none⟩ v) g r r ∧ Below B w ((w3.setCell ⟨g, i, none⟩ u).setCell ⟨g, j, none⟩ v) := by
  refine ⟨⟨hBg, A, c, ?_, ?_, ?_, ?_⟩, (hk.set i _).set j _, (hbel.setCell (p := ⟨g, i, none⟩) hBg _).setCell (p := ⟨g, j, none⟩) hBg _⟩
  · rw [hbd, ← he]
    exact (hb.set i u).set j v
  · rw [hbd]
    exact (hm.setOther (B := B)).setOther (B := B)
  · rw [hbd]; exact hlc
  · rw [hbd]; exact how

set_option maxHeartbeats 3200000 in
set_option maxRecDepth 20000 in
theorem ctail_calls (B g : Nat) (r : Option Nat) (s : Ct) (near far : Nat) (w : World) (h : CS w B g r s) (hlen : s.bd.length ≤ 56000) :
    Calls Try.prog 167 #[.pointer (some ⟨g, 0, none⟩), .int .u8 near, .int .u8 far] w fun e w' => e = .returned (.int .u8 (sy (tlC s near far).wh)) ∧ CS w' B g r (tlC s near far) ∧ Keep w w' g r r ∧ Below B w w' := by
  have H := Lib.hid h
  have H0 := h
  obtain ⟨hBg, A, c, hb, hm, hlc, how⟩ := h
  have HOW := Lib.hid how
  clear how
  have HM := Lib.hid hm
  have HB := Lib.hid hb
  have hglt := hb.lt
  have HBg := Lib.hid hBg
  have HLC := Lib.hid hlc
  clear hb hm H0 hBg hlc
  obtain ⟨b2, hb2⟩ : ∃ b, (s.un == -1) = b := ⟨_, rfl⟩
  obtain ⟨b3, hb3⟩ : ∃ b, ((near : Int) == 2) = b := ⟨_, rfl⟩
  obtain ⟨b4, hb4⟩ : ∃ b, ((far : Int) == 2) = b := ⟨_, rfl⟩
  obtain ⟨b1, hb1⟩ : ∃ b, isF s = b := ⟨_, rfl⟩
  have HW := Lib.hid (show tlC s near far = { s with wh := b1 && b2 && b3 && b4, nx := 2 } by unfold tlC; rw [hb1, hb2, hb3, hb4])
  have HF := Lib.hid hb1
  clear hb1
  rewrite [HW.out]
  have FIN : Hid (∀ w3 : World, Below w.heap.size w w3 → CS ((w3.setCell ⟨g, 6, none⟩ (.bool (b1 && b2 && b3 && b4))).setCell ⟨g, 1, none⟩ (nxV g 2)) B g r { s with wh := b1 && b2 && b3 && b4, nx := 2 } ∧ Keep w ((w3.setCell ⟨g, 6, none⟩ (.bool (b1 && b2 && b3 && b4))).setCell ⟨g, 1, none⟩ (nxV g 2)) g r r ∧ Below B w ((w3.setCell ⟨g, 6, none⟩ (.bool (b1 && b2 && b3 && b4))).setCell ⟨g, 1, none⟩ (nxV g 2))) := fun w3 h3 =>
    CS.set2 HBg.out HLC.out HOW.out rfl (HB.out.below h3) (HM.out.below h3) (Keep.of h3 g r) (h3.mono (by have := HBg.out; omega)) rfl
  clear HW
  go_enter Try.func167, Try.ntmps167
  go_wp2_with fail
  refine (frame_calls B g r s _ (H.out.below (by repeat (first | exact Below.refl _ _ | apply Bw.alloc | apply Bw.drewN | apply Bw.drew | (refine Bw.step ?_ (by assumption))))) hlen).mono ?_
  rintro e w1 ⟨rfl, hbel⟩
  rewrite [HF.out]
  have hbw : Below w.heap.size w w1 := (by repeat (first | exact Below.refl _ _ | apply Bw.alloc | apply Bw.drewN | apply Bw.drew | (refine Bw.step ?_ (by assumption))))
  have hXB : Below w.heap.size w (w1.alloc (.cells #[.int .i64 (fO (byV s.bd)), .int .u8 (fK (byV s.bd)), .int .u8 (fS (byV s.bd)), .int .u32 (fQ (byV s.bd)), .int .u32 (fV (byV s.bd))] 89)) := (by repeat (first | exact Below.refl _ _ | apply Bw.alloc | apply Bw.drewN | apply Bw.drew | (refine Bw.step ?_ (by assumption))))
  have hB1 := HB.out.below hbw
  have k6 := hB1.cell 6 (.bool s.wh) rfl
  have k1 := hB1.cell 1 (nxV g s.nx) rfl
  have hBX := HB.out.below hXB
  have k4 := hBX.cell 4 (.int .i64 s.un) rfl
  have y6 := hBX.cell 6 (.bool s.wh) rfl
  have y1 := hBX.cell 1 (nxV g s.nx) rfl
  have j6 := hBX.frozen 6
  have j1 := hBX.frozen 1
  have HXB := Lib.hid hXB
  clear hB1 hBX hXB hbw hbel
  unfold f5
  cases b1 <;> cases b2 <;> cases b3 <;> cases b4
  all_goals
    go_wp2_with (go_at_call 180; refine (of180_calls _ _).mono ?_; rintro e w' ⟨rfl, rfl⟩)
    go_ret
    exact ⟨rfl, FIN.out _ HXB.out⟩

set_option maxHeartbeats 3200000 in
set_option maxRecDepth 20000 in
theorem clast_calls (B g : Nat) (r : Option Nat) (s : Ct) (near far : Nat) (w : World) (h : CS w B g r s) :
    Calls Try.prog 179 #[.pointer (some ⟨g, 0, none⟩), .int .u8 near, .int .u8 far] w fun e w' => e = .returned (.int .u8 (sy (!(laC s near far).hi))) ∧ CS w' B g r (laC s near far) ∧ Keep w w' g r r ∧ Below B w w' := by
  obtain ⟨hBg, A, c, hb, hm, hlc, how⟩ := h
  have HOW := Lib.hid how
  clear how
  have HM := Lib.hid hm
  have HB := Lib.hid hb
  have hglt := hb.lt
  have HBg := Lib.hid hBg
  have HLC := Lib.hid hlc
  obtain ⟨b2, hb2⟩ : ∃ b, s.wh = b := ⟨_, rfl⟩
  have k6 := hb.cell 6 (.bool s.wh) rfl
  rw [hb2] at k6
  have k7 := hb.cell 7 (.bool s.hi) rfl
  have k1 := hb.cell 1 (nxV g s.nx) rfl
  have j7 := hb.frozen 7
  have j1 := hb.frozen 1
  clear hb hm hBg hlc
  obtain ⟨b3, hb3⟩ : ∃ b, ((near : Int) == 1) = b := ⟨_, rfl⟩
  obtain ⟨b4, hb4⟩ : ∃ b, ((far : Int) == 1) = b := ⟨_, rfl⟩
  have HW := Lib.hid (show laC s near far = { s with hi := b2 && b3 && b4, nx := 3 } by unfold laC; rw [hb2, hb3, hb4])
  clear hb2
  rewrite [HW.out]
  have FIN : Hid (CS ((w.setCell ⟨g, 7, none⟩ (.bool (b2 && b3 && b4))).setCell ⟨g, 1, none⟩ (nxV g 3)) B g r { s with hi := b2 && b3 && b4, nx := 3 } ∧ Keep w ((w.setCell ⟨g, 7, none⟩ (.bool (b2 && b3 && b4))).setCell ⟨g, 1, none⟩ (nxV g 3)) g r r ∧ Below B w ((w.setCell ⟨g, 7, none⟩ (.bool (b2 && b3 && b4))).setCell ⟨g, 1, none⟩ (nxV g 3))) := 
    CS.set2 HBg.out HLC.out HOW.out rfl HB.out HM.out (Keep.refl _ _ _) (Below.refl _ _) rfl
  clear HW
  cases b2 <;> cases b3 <;> cases b4
  all_goals
    go_enter Try.func179, Try.ntmps179
    go_wp2_with (go_at_call 180; refine (of180_calls _ _).mono ?_; rintro e w' ⟨rfl, rfl⟩)
    go_ret
    exact ⟨rfl, FIN.out⟩
end Go.Proofs.Ytnmhhjgiakijgaa
