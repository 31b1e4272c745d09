/- Catches: what takes the next pair: contracts. -/
import Derived.Test.YtnmhhjgiakijgaaD1
namespace Go.Proofs.Ytnmhhjgiakijgaa
open Go.RowKit
set_option linter.unusedVariables false

theorem Mn.setOther {w : World} {B : Nat} {e : TypeId} {size n : Nat} {v : Value} {cs : List Value} {g j : Nat} {u : Value} (h : Mn w (g + 1) e size v n cs) : Mn (w.setCell ⟨g, j, none⟩ u) (g + 1) e size v n cs :=
  h.same fun g' hg' _ => setCell_other w g j g' u (by have := (h.block hg').1; omega)
theorem Blk.grown {w w' : World} {g : Nat} {cs : Array Value} {e : TypeId} {row : Option Nat} (h : Blk w g cs e) (hg : w.grownBy w' row) (hne : row ≠ some g) : Blk w' g cs e :=
  (hg.block g h.lt (fun e => hne e.symm)).trans h

theorem Keep.set {w w1 : World} {g : Nat} {r r' : Option Nat} (h : Keep w w1 g r r') (j : Nat) (v : Value) : Keep w (w1.setCell ⟨g, j, none⟩ v) g r r' :=
  ⟨fun k hk hg hr => (setCell_other w1 g j k v hg).trans (h.1 k hk hg hr), h.2⟩
theorem Keep.alloc {w w1 : World} {g : Nat} {r r' : Option Nat} (h : Keep w w1 g r r') (hs : w.heap.size ≤ w1.heap.size) (o : Obj) : Keep w (w1.alloc o) g r r' :=
  ⟨fun k hk hg hr => (((Below.refl w1.heap.size w1).alloc (Nat.le_refl _) o).block k (by omega)).trans (h.1 k hk hg hr), h.2⟩
theorem Keep.grown {w w1 w2 : World} {g : Nat} {r r' : Option Nat} (h : Keep w w1 g r r) (hs : w.heap.size ≤ w1.heap.size) (hg : w1.grownBy w2 r) (hr : r' = r ∨ r' = some w1.heap.size) : Keep w w2 g r r' := by
  refine ⟨fun k hk hk2 hk3 => (hg.block k (by omega) (fun e => hk3 e.symm)).trans (h.1 k hk hk2 hk3), ?_⟩
  rcases hr with h1 | h1
  · exact .inl h1
  · exact .inr ⟨_, h1, hs⟩

/-- the state behind a pair of the body -/
def fstC (s : Ct) (out : Nat) : Ct := { s with cu := decide (out = 0), bd := s.bd ++ [(out : Int)], nx := if s.bd.length + 1 = 112 then 1 else 0 }

set_option maxHeartbeats 3200000 in
set_option maxRecDepth 20000 in
theorem first_calls (B g : Nat) (r : Option Nat) (s : Ct) (near far out : Nat) (w : World) (h : CS w B g r s) (hnx : s.nx = 0) (hl : s.bd.length < 112) (hout : out = if near = 0 then far else near) :
    Calls Try.prog 132 #[.pointer (some ⟨g, 0, none⟩), .int .u8 near, .int .u8 far] w fun e w' => e = .returned (.int .u8 out) ∧ ∃ r', CS w' B g r' (fstC s out) ∧ Keep w w' g r r' ∧ Below B w w' := by
  obtain ⟨hBg, A, c, hb, hm, hlc, how⟩ := h
  obtain ⟨l, hll⟩ : ∃ l, l = s.bd.length := ⟨_, rfl⟩
  rw [← hll] at hb hm hlc hl how
  have HOW := Lib.hid how
  clear how
  obtain ⟨b0, hb0⟩ : ∃ b0, ((out : Int) == 0) = b0 := ⟨_, rfl⟩
  have hb0d : decide (out = 0) = b0 := by rw [← hb0]; by_cases h : out = 0 <;> simp [h]
  have c5 := hb.cell 5 (.bool s.cu) rfl
  have f5 := hb.frozen 5
  have c2 := hb.cell 2 (.slice A l c) rfl
  have HLL := Lib.hid hll
  have HM := Lib.hid hm
  have HB := Lib.hid hb
  have hglt := hb.lt
  have hB1 : Blk ((w.setCell ⟨g, 5, none⟩ (.bool b0)).alloc (.cells #[.int .u8 out] 50)) g (ctV g { s with cu := b0 } (.slice A l c)) 146 := (show Blk (w.setCell ⟨g, 5, none⟩ (.bool b0)) g (ctV g { s with cu := b0 } (.slice A l c)) 146 from hb.set 5 _).below (Bw.alloc (Below.refl _ _) _)
  have hM1 : Mn ((w.setCell ⟨g, 5, none⟩ (.bool b0)).alloc (.cells #[.int .u8 out] 50)) (g + 1) 50 1 (.slice A l c) l (nums .u8 s.bd) := (hm.setOther (B := B)).alloc _
  have hsz : (w.setCell ⟨g, 5, none⟩ (.bool b0)).heap.size = w.heap.size := by simp [World.setCell]
  have hbel : Below B w ((w.setCell ⟨g, 5, none⟩ (.bool b0)).alloc (.cells #[.int .u8 out] 50)) := ((Below.refl B w).setCell (p := ⟨g, 5, none⟩) hBg (.bool b0)).alloc (by rw [hsz]; omega) _
  have hkp : Keep w ((w.setCell ⟨g, 5, none⟩ (.bool b0)).alloc (.cells #[.int .u8 out] 50)) g r r := ((Keep.refl w g r).set 5 _).alloc (by rw [hsz]; exact Nat.le_refl _) _
  have HKP := Lib.hid hkp
  have HB1 := Lib.hid hB1
  have HM1 := Lib.hid hM1
  have HBEL := Lib.hid hbel
  have HSZ := Lib.hid hsz
  clear hb hm hB1 hM1 hbel hsz hll hkp
  have HRV := Lib.hid (show Rv ((w.setCell ⟨g, 5, none⟩ (.bool b0)).alloc (.cells #[.int .u8 out] 50)) (some ⟨w.heap.size, 0, none⟩) (1 * 1) (nums .u8 [(out : Int)]) from rd_cells HSZ.out.symm [(out : Int)])
  have FIN1 : Hid (∀ (A3 : Option Addr) (c3 : Nat) (w3 w4 : World), w4 = (w3.setCell ⟨g, 2, none⟩ (.slice A3 (l + 1) c3)).setCell ⟨g, 1, none⟩ (nxV g 1) → l + 1 ≤ c3 → Mn w3 (g + 1) 50 1 (.slice A3 (l + 1) c3) (l + 1) (nums .u8 (s.bd ++ [(out : Int)])) → Blk w3 g (ctV g { s with cu := b0 } (.slice A l c)) 146 → Below B w w3 → l + 1 = 112 → Keep w w3 g r (Value.slice A3 (l + 1) c3).ownBlock → CS w4 B g (Value.slice A3 (l + 1) c3).ownBlock (fstC s out) ∧ Keep w w4 g r (Value.slice A3 (l + 1) c3).ownBlock ∧ Below B w w4) := by
    rintro A3 c3 w3 w4 rfl h1 h2 h3 h4 h5 h9
    have hlen : (s.bd ++ [(out : Int)]).length = l + 1 := by rw [List.length_append, ← HLL.out]; rfl
    refine ⟨⟨hBg, A3, c3, ?_, ?_, ?_, by cases A3 <;> rfl⟩, (h9.set 2 _).set 1 _, (h4.setCell (p := ⟨g, 2, none⟩) hBg _).setCell (p := ⟨g, 1, none⟩) hBg _⟩
    · have h6 := (h3.set 2 (.slice A3 (l + 1) c3)).set 1 (nxV g 1)
      show Blk _ g (ctV g (fstC s out) (.slice A3 (s.bd ++ [(out : Int)]).length c3)) 146
      rw [hlen]
      unfold fstC
      rw [← HLL.out, if_pos h5, hb0d]
      exact h6
    · show Mn _ (g + 1) 50 1 (.slice A3 (s.bd ++ [(out : Int)]).length c3) (s.bd ++ [(out : Int)]).length (nums .u8 (s.bd ++ [(out : Int)]))
      rw [hlen]
      exact (h2.setOther (B := B)).setOther (B := B)
    · show (s.bd ++ [(out : Int)]).length ≤ c3
      rw [hlen]; exact h1
  have FIN2 : Hid (∀ (A3 : Option Addr) (c3 : Nat) (w3 w4 : World), w4 = w3.setCell ⟨g, 2, none⟩ (.slice A3 (l + 1) c3) → l + 1 ≤ c3 → Mn w3 (g + 1) 50 1 (.slice A3 (l + 1) c3) (l + 1) (nums .u8 (s.bd ++ [(out : Int)])) → Blk w3 g (ctV g { s with cu := b0 } (.slice A l c)) 146 → Below B w w3 → ¬ (l + 1 = 112) → Keep w w3 g r (Value.slice A3 (l + 1) c3).ownBlock → CS w4 B g (Value.slice A3 (l + 1) c3).ownBlock (fstC s out) ∧ Keep w w4 g r (Value.slice A3 (l + 1) c3).ownBlock ∧ Below B w w4) := by
    rintro A3 c3 w3 w4 rfl h1 h2 h3 h4 h5 h9
    have hlen : (s.bd ++ [(out : Int)]).length = l + 1 := by rw [List.length_append, ← HLL.out]; rfl
    refine ⟨⟨hBg, A3, c3, ?_, ?_, ?_, by cases A3 <;> rfl⟩, h9.set 2 _, h4.setCell (p := ⟨g, 2, none⟩) hBg _⟩
    · have h6 := h3.set 2 (.slice A3 (l + 1) c3)
      show Blk _ g (ctV g (fstC s out) (.slice A3 (s.bd ++ [(out : Int)]).length c3)) 146
      rw [hlen]
      unfold fstC
      rw [← HLL.out, if_neg h5, hb0d]
      have h7 : ctV g { s with cu := b0, bd := s.bd ++ [(out : Int)], nx := 0 } (.slice A3 (l + 1) c3) = (ctV g { s with cu := b0 } (.slice A l c)).setIfInBounds 2 (.slice A3 (l + 1) c3) := by unfold ctV; rw [hnx]; rfl
      rw [h7]
      exact h6
    · show Mn _ (g + 1) 50 1 (.slice A3 (s.bd ++ [(out : Int)]).length c3) (s.bd ++ [(out : Int)]).length (nums .u8 (s.bd ++ [(out : Int)]))
      rw [hlen]
      exact h2.setOther (B := B)
    · show (s.bd ++ [(out : Int)]).length ≤ c3
      rw [hlen]; exact h1
  by_cases hn : near = 0
  · have ho : out = far := by rw [hout, if_pos hn]
    subst ho
    subst hn
    clear hout hb0d
    by_cases h111 : l + 1 = 112
    · have hq1 : ((l : Int) + 1 == 112) = true := by simp; omega
      go_enter Try.func132, Try.ntmps132
      go_wp2_with (at_builtin; refine wpList_append_mn _ rfl _ _ _ rfl (g + 1) 50 _ 1 1 Try.underlying22 info50 rfl (by omega) (.slice A l c) l (nums .u8 s.bd) rfl HM1.out _ 1 1 (nums .u8 [(out : Int)]) rfl HRV.out (nums_one _ _) (by omega) (by omega) (by have := HBEL.out.size; omega) ?_; intro A3 c3 w3 hc3 hm3 hg3 hat3; have hb3 : Blk w3 g (ctV g { s with cu := b0 } (.slice A l c)) 146 := HB1.out.grown hg3 (fun e => by have := (HM1.out.block e).1; omega); have hbel3 : Below B w w3 := HBEL.out.grown hg3 (by have := HBEL.out.size; omega) (fun q hq => by have := (HM1.out.block hq).1; omega); have k2 := hb3.cell 2 (.slice A l c) rfl; have k1 := hb3.cell 1 (nxV g s.nx) rfl; have j2 := hb3.frozen 2; have j1 := hb3.frozen 1; have HK3 := Lib.hid (HKP.out.grown (w2 := w3) (r' := (Value.slice A3 (l + 1) c3).ownBlock) (by have := HBEL.out.size; omega) (by rw [← HOW.out]; exact hg3) (by rw [← HOW.out]; cases A3 <;> exact hat3)); have HB3 := Lib.hid hb3; have HBEL3 := Lib.hid hbel3; rw [← nums_append] at hm3; have HM3 := Lib.hid hm3; clear hg3 hat3 hb3 hbel3 hm3)
      go_ret
      exact ⟨rfl, _, FIN1.out A3 c3 w3 _ (by first | rfl | (rw [h111]; rfl)) hc3 HM3.out HB3.out HBEL3.out h111 HK3.out⟩
    · have hq1 : ((l : Int) + 1 == 112) = false := by simp; omega
      go_enter Try.func132, Try.ntmps132
      go_wp2_with (at_builtin; refine wpList_append_mn _ rfl _ _ _ rfl (g + 1) 50 _ 1 1 Try.underlying22 info50 rfl (by omega) (.slice A l c) l (nums .u8 s.bd) rfl HM1.out _ 1 1 (nums .u8 [(out : Int)]) rfl HRV.out (nums_one _ _) (by omega) (by omega) (by have := HBEL.out.size; omega) ?_; intro A3 c3 w3 hc3 hm3 hg3 hat3; have hb3 : Blk w3 g (ctV g { s with cu := b0 } (.slice A l c)) 146 := HB1.out.grown hg3 (fun e => by have := (HM1.out.block e).1; omega); have hbel3 : Below B w w3 := HBEL.out.grown hg3 (by have := HBEL.out.size; omega) (fun q hq => by have := (HM1.out.block hq).1; omega); have k2 := hb3.cell 2 (.slice A l c) rfl; have k1 := hb3.cell 1 (nxV g s.nx) rfl; have j2 := hb3.frozen 2; have j1 := hb3.frozen 1; have HK3 := Lib.hid (HKP.out.grown (w2 := w3) (r' := (Value.slice A3 (l + 1) c3).ownBlock) (by have := HBEL.out.size; omega) (by rw [← HOW.out]; exact hg3) (by rw [← HOW.out]; cases A3 <;> exact hat3)); have HB3 := Lib.hid hb3; have HBEL3 := Lib.hid hbel3; rw [← nums_append] at hm3; have HM3 := Lib.hid hm3; clear hg3 hat3 hb3 hbel3 hm3)
      go_ret
      exact ⟨rfl, _, FIN2.out A3 c3 w3 _ (by first | rfl | (rw [h111]; rfl)) hc3 HM3.out HB3.out HBEL3.out h111 HK3.out⟩
  · have ho : out = near := by rw [hout, if_neg hn]
    subst ho
    have hn1 : ((out : Int) == 0) = false := by simp; omega
    have hb0f : b0 = false := by rw [← hb0, hn1]
    clear hout hb0d hb0
    subst hb0f
    by_cases h111 : l + 1 = 112
    · have hq1 : ((l : Int) + 1 == 112) = true := by simp; omega
      go_enter Try.func132, Try.ntmps132
      go_wp2_with (at_builtin; refine wpList_append_mn _ rfl _ _ _ rfl (g + 1) 50 _ 1 1 Try.underlying22 info50 rfl (by omega) (.slice A l c) l (nums .u8 s.bd) rfl HM1.out _ 1 1 (nums .u8 [(out : Int)]) rfl HRV.out (nums_one _ _) (by omega) (by omega) (by have := HBEL.out.size; omega) ?_; intro A3 c3 w3 hc3 hm3 hg3 hat3; have hb3 : Blk w3 g (ctV g { s with cu := false } (.slice A l c)) 146 := HB1.out.grown hg3 (fun e => by have := (HM1.out.block e).1; omega); have hbel3 : Below B w w3 := HBEL.out.grown hg3 (by have := HBEL.out.size; omega) (fun q hq => by have := (HM1.out.block hq).1; omega); have k2 := hb3.cell 2 (.slice A l c) rfl; have k1 := hb3.cell 1 (nxV g s.nx) rfl; have j2 := hb3.frozen 2; have j1 := hb3.frozen 1; have HK3 := Lib.hid (HKP.out.grown (w2 := w3) (r' := (Value.slice A3 (l + 1) c3).ownBlock) (by have := HBEL.out.size; omega) (by rw [← HOW.out]; exact hg3) (by rw [← HOW.out]; cases A3 <;> exact hat3)); have HB3 := Lib.hid hb3; have HBEL3 := Lib.hid hbel3; rw [← nums_append] at hm3; have HM3 := Lib.hid hm3; clear hg3 hat3 hb3 hbel3 hm3)
      go_ret
      exact ⟨rfl, _, FIN1.out A3 c3 w3 _ (by first | rfl | (rw [h111]; rfl)) hc3 HM3.out HB3.out HBEL3.out h111 HK3.out⟩
    · have hq1 : ((l : Int) + 1 == 112) = false := by simp; omega
      go_enter Try.func132, Try.ntmps132
      go_wp2_with (at_builtin; refine wpList_append_mn _ rfl _ _ _ rfl (g + 1) 50 _ 1 1 Try.underlying22 info50 rfl (by omega) (.slice A l c) l (nums .u8 s.bd) rfl HM1.out _ 1 1 (nums .u8 [(out : Int)]) rfl HRV.out (nums_one _ _) (by omega) (by omega) (by have := HBEL.out.size; omega) ?_; intro A3 c3 w3 hc3 hm3 hg3 hat3; have hb3 : Blk w3 g (ctV g { s with cu := false } (.slice A l c)) 146 := HB1.out.grown hg3 (fun e => by have := (HM1.out.block e).1; omega); have hbel3 : Below B w w3 := HBEL.out.grown hg3 (by have := HBEL.out.size; omega) (fun q hq => by have := (HM1.out.block hq).1; omega); have k2 := hb3.cell 2 (.slice A l c) rfl; have k1 := hb3.cell 1 (nxV g s.nx) rfl; have j2 := hb3.frozen 2; have j1 := hb3.frozen 1; have HK3 := Lib.hid (HKP.out.grown (w2 := w3) (r' := (Value.slice A3 (l + 1) c3).ownBlock) (by have := HBEL.out.size; omega) (by rw [← HOW.out]; exact hg3) (by rw [← HOW.out]; cases A3 <;> exact hat3)); have HB3 := Lib.hid hb3; have HBEL3 := Lib.hid hbel3; rw [← nums_append] at hm3; have HM3 := Lib.hid hm3; clear hg3 hat3 hb3 hbel3 hm3)
      go_ret
      exact ⟨rfl, _, FIN2.out A3 c3 w3 _ (by first | rfl | (rw [h111]; rfl)) hc3 HM3.out HB3.out HBEL3.out h111 HK3.out⟩
end Go.Proofs.Ytnmhhjgiakijgaa
