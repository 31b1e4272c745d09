/- 'Book.Syms', 'Book.Bytes', 'mark': contracts. -/
import Derived.Test.YtnmhhjgiakijgaaA12
namespace Go.Proofs.Ytnmhhjgiakijgaa
open Go.RowKit
set_option linter.unusedVariables false

/-- the mark of row i at a turn -/
def markOf (i t : Nat) : Nat := if t = 0 then i % 200 else i / 200 % 200
theorem markOf_lt (i t : Nat) : markOf i t < 200 := by unfold markOf; split <;> omega

set_option maxHeartbeats 800000 in
set_option maxRecDepth 20000 in
theorem mark_calls (i t : Nat) (hi : i ≤ 1000) (ht : t ≤ 2) (w : World) :
    Calls Try.prog 103 #[.int .i64 i, .int .i64 t] w fun e w' => e = .returned (.int .i64 (markOf i t)) ∧ w' = w := by
  by_cases h0 : t = 0
  · subst h0
    have hm : markOf i 0 = i % 200 := if_pos rfl
    have h1 : (i : Int) % 200 = ((i % 200 : Nat) : Int) := by omega
    have h2 : (i : Int).tmod 200 = ((i % 200 : Nat) : Int) := by rw [Int.tmod_eq_emod_of_nonneg (by omega)]; exact h1
    rw [hm]
    generalize i % 200 = r at *
    go_enter Try.func103, Try.ntmps103
    go_wp2
    go_ret
    exact ⟨rfl, rfl⟩
  · have hm : markOf i t = i / 200 % 200 := if_neg h0
    have ht0 : ((t : Int) == 0) = false := by simp; omega
    have h1 : (i : Int).tdiv 200 = ((i / 200 : Nat) : Int) := by rw [Int.tdiv_eq_ediv_of_nonneg (by omega)]; omega
    have h1' : (i : Int) / 200 = ((i / 200 : Nat) : Int) := by omega
    have h2 : ((i / 200 : Nat) : Int) % 200 = ((i / 200 % 200 : Nat) : Int) := by omega
    have h3 : ((i / 200 : Nat) : Int).tmod 200 = ((i / 200 % 200 : Nat) : Int) := by rw [Int.tmod_eq_emod_of_nonneg (by omega)]; exact h2
    have hb : i / 200 ≤ 5 := by omega
    rw [hm]
    generalize i / 200 % 200 = r at *
    generalize i / 200 = d at *
    go_enter Try.func103, Try.ntmps103
    go_wp2
    go_ret
    exact ⟨rfl, rfl⟩

theorem info43 : (Try.prog.info? 43).map (fun i => (i.zero, i.size, i.bytes)) = some (some (.slice none 0 0), 1, 24) := by kernel_rfl
theorem info22 : (Try.prog.info? 22).map (fun i => (i.zero, i.size, i.bytes)) = some (some (.slice none 0 0), 1, 24) := by kernel_rfl

theorem setCell_other (w : World) (k j g : Nat) (v : Value) (hg : g ≠ k) : (w.setCell ⟨k, j, none⟩ v).heap[g]? = w.heap[g]? := by
  simp [World.setCell, Array.getElem?_modify, Ne.symm hg]
theorem setCell_row (w : World) (k j : Nat) (v : Value) (cur : Array Value) (e : TypeId) (hh : w.heap[k]? = some (.cells cur e (0, 0))) : (w.setCell ⟨k, j, none⟩ v).heap[k]? = some (.cells (cur.setIfInBounds j v) e (0, 0)) := by
  simp [World.setCell, Array.getElem?_modify, hh]
/-- one slice in a block of its own -/
theorem rv_row {w : World} {e : TypeId} {v : Value} {a : Nat} (ha : a = w.heap.size) : Rv (w.alloc (.cells #[v] e)) (some ⟨a, 0, none⟩) (1 * 1) [v] := by
  subst ha
  refine ⟨rfl, fun _ => ⟨w.heap.size, 0, rfl, fun j u hu => ?_⟩⟩
  rw [Nat.zero_add, cell_of_row _ w.heap.size j #[v] e (0, 0) (heap_alloc_new w _)]
  simpa using hu

set_option maxHeartbeats 1600000 in
set_option maxRecDepth 20000 in
theorem book_syms (B k : Nat) (Bv Sv : Value) (bs ss : List Row) (r : Row) (w : World) (h : BS w B k Bv Sv bs ss) (hf : Fits w B k Bv Sv bs ss 50 r) (hfew : ss.length + 1 ≤ 100) :
    Calls Try.prog 35 #[.pointer (some ⟨k, 0, none⟩), .slice r.1 r.2 r.2] w fun e w' => e = .returned (.tuple #[]) ∧ ∃ Sv', BS w' B k Bv Sv' bs (ss ++ [r]) ∧ Below k w w' ∧ (Sv'.ownBlock = Sv.ownBlock ∨ ∃ q, Sv'.ownBlock = some q ∧ w.heap.size ≤ q) := by
  have c2 : w.cell? ⟨k, 2, none⟩ = some Sv := h.cell 2
  have c3 : w.cell? ⟨k, 3, none⟩ = some (.bool false) := h.cell 3
  have f2 := h.frozen 2
  have f3 := h.frozen 3
  obtain ⟨A, cap, rfl, hcap⟩ := h.hs.form
  have HB := Lib.hid h
  have HF := Lib.hid hf
  have HC := Lib.hid hcap
  have HW := Lib.hid hfew
  have hs1 : Mn (w.setCell ⟨k, 3, none⟩ (.bool false)) (k + 1) 22 1 (.slice A ss.length cap) ss.length (ss.map Row.val) :=
    h.hs.same fun g hg _ => setCell_other w k 3 g _ (by have := (h.hs.block hg).1; omega)
  have HS1 := Lib.hid hs1
  have hk1 : (w.setCell ⟨k, 3, none⟩ (.bool false)).heap.size = w.heap.size := by simp [World.setCell]
  have HK1 := Lib.hid hk1
  clear h hf hcap hfew hs1 hk1
  go_enter Try.func35, Try.ntmps35
  go_wp2_with (at_builtin
               refine wpList_append_mn _ rfl _ _ _ rfl (k + 1) 22 _ 1 24 Try.underlying32 info22 rfl (by omega) (.slice A ss.length cap) ss.length (ss.map Row.val) rfl (HS1.out.alloc _) _ 1 1 [r.val] rfl (rv_row (by simp)) (by simp [Row.val, Value.oneCell']) (by have := HW.out; omega) (by have := HW.out; omega) (by have := HB.out.lt; simp; omega) ?_
               intro A' cap' w1 hc1 hm1 hg1 hat1
               have hbk : w1.heap[k]? = some (.cells #[Bv, .slice none 0 0, .slice A ss.length cap, .bool false] 34 (0, 0)) := by
                 rw [hg1.block k (by have := HB.out.lt; simp [HK1.out]; omega) (fun e => by have := (HB.out.hs.block e.symm).1; omega), Below.heap_alloc _ _ k (by have := HB.out.lt; rw [HK1.out]; exact this), setCell_row _ _ _ _ _ _ HB.out.book]
                 rfl
               have hfr : w1.frozen? ⟨k, 2, none⟩ = false := by simp [World.frozen?, hbk]
               have hcl : w1.cell? ⟨k, 2, none⟩ = some (.slice A ss.length cap) := cell_of_row w1 k 2 _ 34 (0, 0) hbk
               have HBK := Lib.hid hbk
               clear hbk)
  refine bodyPost_end (v := .tuple #[]) (by simp [results, Try.f35, go_sem]) rfl ?_
  have hkk : ∀ g, g < w.heap.size → g ≠ k → (Value.slice A ss.length cap).ownBlock ≠ some g → (w1.setCell ⟨k, 2, none⟩ (.slice A' (ss.length + 1) cap')).heap[g]? = w.heap[g]? := by
    intro g hl hg hne
    rw [setCell_other _ _ _ _ _ hg, hg1.block g (by simp [HK1.out]; omega) (fun e => hne e.symm), Below.heap_alloc _ _ g (by rw [HK1.out]; exact hl), setCell_other _ _ _ _ _ hg]
  have hat2 : (Value.slice A' (ss.length + 1) cap').ownBlock = (Value.slice A ss.length cap).ownBlock ∨ ∃ q, (Value.slice A' (ss.length + 1) cap').ownBlock = some q ∧ w.heap.size ≤ q := by
    rcases hat1 with h1 | h1
    · exact .inl (by cases A' <;> simpa [Value.ownBlock] using h1)
    · exact .inr ⟨_, (by cases A' with
        | none => cases h1
        | some a => simpa [Value.ownBlock] using h1), by simp⟩
  refine ⟨rfl, _, HB.out.addS HF.out (by rw [setCell_row _ _ _ _ _ _ HBK.out]; rfl) (hm1.same fun g hg _ => setCell_other _ _ _ _ _ (by have := (hm1.block hg).1; omega)) hkk hat2 HW.out, ?_, hat2⟩
  have hlt := HB.out.lt
  refine ⟨hg1.os, hg1.tape, hg1.output, ?_, fun g hg => hkk g (by omega) (by omega) (fun e => by have := (HB.out.hs.block e).1; omega)⟩
  have := hg1.size
  simp [World.setCell] at this ⊢
  omega
set_option maxHeartbeats 1600000 in
set_option maxRecDepth 20000 in
theorem book_bytes (B k : Nat) (Bv Sv : Value) (bs ss : List Row) (r : Row) (w : World) (h : BS w B k Bv Sv bs ss) (hf : Fits w B k Bv Sv bs ss 5 r) (hfew : bs.length + 1 ≤ 100) :
    Calls Try.prog 50 #[.pointer (some ⟨k, 0, none⟩), .slice r.1 r.2 r.2] w fun e w' => e = .returned (.tuple #[]) ∧ ∃ Bv', BS w' B k Bv' Sv (bs ++ [r]) ss ∧ Below k w w' ∧ (Bv'.ownBlock = Bv.ownBlock ∨ ∃ q, Bv'.ownBlock = some q ∧ w.heap.size ≤ q) := by
  have c2 : w.cell? ⟨k, 0, none⟩ = some Bv := h.cell 0
  have c3 : w.cell? ⟨k, 3, none⟩ = some (.bool false) := h.cell 3
  have f2 := h.frozen 0
  have f3 := h.frozen 3
  obtain ⟨A, cap, rfl, hcap⟩ := h.hb.form
  have HB := Lib.hid h
  have HF := Lib.hid hf
  have HC := Lib.hid hcap
  have HW := Lib.hid hfew
  have hs1 : Mn (w.setCell ⟨k, 3, none⟩ (.bool false)) (k + 1) 43 1 (.slice A bs.length cap) bs.length (bs.map Row.val) :=
    h.hb.same fun g hg _ => setCell_other w k 3 g _ (by have := (h.hb.block hg).1; omega)
  have HS1 := Lib.hid hs1
  have hk1 : (w.setCell ⟨k, 3, none⟩ (.bool false)).heap.size = w.heap.size := by simp [World.setCell]
  have HK1 := Lib.hid hk1
  clear h hf hcap hfew hs1 hk1
  go_enter Try.func50, Try.ntmps50
  go_wp2_with (at_builtin
               refine wpList_append_mn _ rfl _ _ _ rfl (k + 1) 43 _ 1 24 Try.underlying30 info43 rfl (by omega) (.slice A bs.length cap) bs.length (bs.map Row.val) rfl (HS1.out.alloc _) _ 1 1 [r.val] rfl (rv_row (by simp)) (by simp [Row.val, Value.oneCell']) (by have := HW.out; omega) (by have := HW.out; omega) (by have := HB.out.lt; simp; omega) ?_
               intro A' cap' w1 hc1 hm1 hg1 hat1
               have hbk : w1.heap[k]? = some (.cells #[.slice A bs.length cap, .slice none 0 0, Sv, .bool false] 34 (0, 0)) := by
                 rw [hg1.block k (by have := HB.out.lt; simp [HK1.out]; omega) (fun e => by have := (HB.out.hb.block e.symm).1; omega), Below.heap_alloc _ _ k (by have := HB.out.lt; rw [HK1.out]; exact this), setCell_row _ _ _ _ _ _ HB.out.book]
                 rfl
               have hfr : w1.frozen? ⟨k, 0, none⟩ = false := by simp [World.frozen?, hbk]
               have hcl : w1.cell? ⟨k, 0, none⟩ = some (.slice A bs.length cap) := cell_of_row w1 k 0 _ 34 (0, 0) hbk
               have HBK := Lib.hid hbk
               clear hbk)
  refine bodyPost_end (v := .tuple #[]) (by simp [results, Try.f50, go_sem]) rfl ?_
  have hkk : ∀ g, g < w.heap.size → g ≠ k → (Value.slice A bs.length cap).ownBlock ≠ some g → (w1.setCell ⟨k, 0, none⟩ (.slice A' (bs.length + 1) cap')).heap[g]? = w.heap[g]? := by
    intro g hl hg hne
    rw [setCell_other _ _ _ _ _ hg, hg1.block g (by simp [HK1.out]; omega) (fun e => hne e.symm), Below.heap_alloc _ _ g (by rw [HK1.out]; exact hl), setCell_other _ _ _ _ _ hg]
  have hat2 : (Value.slice A' (bs.length + 1) cap').ownBlock = (Value.slice A bs.length cap).ownBlock ∨ ∃ q, (Value.slice A' (bs.length + 1) cap').ownBlock = some q ∧ w.heap.size ≤ q := by
    rcases hat1 with h1 | h1
    · exact .inl (by cases A' <;> simpa [Value.ownBlock] using h1)
    · exact .inr ⟨_, (by cases A' with
        | none => cases h1
        | some a => simpa [Value.ownBlock] using h1), by simp⟩
  refine ⟨rfl, _, HB.out.addB HF.out (by rw [setCell_row _ _ _ _ _ _ HBK.out]; rfl) (hm1.same fun g hg _ => setCell_other _ _ _ _ _ (by have := (hm1.block hg).1; omega)) hkk hat2 HW.out, ?_, hat2⟩
  have hlt := HB.out.lt
  refine ⟨hg1.os, hg1.tape, hg1.output, ?_, fun g hg => hkk g (by omega) (by omega) (fun e => by have := (HB.out.hb.block e).1; omega)⟩
  have := hg1.size
  simp [World.setCell] at this ⊢
  omega
end Go.Proofs.Ytnmhhjgiakijgaa
