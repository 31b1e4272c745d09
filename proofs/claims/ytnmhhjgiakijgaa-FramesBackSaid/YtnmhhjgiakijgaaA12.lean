/- The book of rows: what it holds in memory, 'Book.Syms', 'Book.Bytes', 'mark'. -/
import Derived.Test.YtnmhhjgiakijgaaB0
namespace Go.Proofs.Ytnmhhjgiakijgaa
open Go.RowKit
set_option linter.unusedVariables false

/-- a row of a book: where it lies and how long it is (its capacity is its length) -/
abbrev Row := Option Addr × Nat
def Row.val (r : Row) : Value := .slice r.1 r.2 r.2
def Row.blk (r : Row) : Option Nat := if r.2 = 0 then none else r.1.map (·.block)
/-- a row's block: its own, from B on -/
def RowAt (w : World) (B : Nat) (e : TypeId) (r : Row) : Prop :=
  r.2 ≤ 60000000 ∧ (0 < r.2 → ∃ g cur, r.1 = some ⟨g, 0, none⟩ ∧ B ≤ g ∧ w.heap[g]? = some (.cells cur e (0, 0)) ∧ r.2 ≤ cur.size)

theorem RowAt.of_mn {w : World} {B : Nat} {e : TypeId} {A : Option Addr} {n c : Nat} {cs : List Value} (h : Mn w B e 1 (.slice A n c) n cs) (hn : n ≤ 60000000) : RowAt w B e (A, n) := by
  refine ⟨hn, fun hp => ?_⟩
  rcases h.2 with ⟨hv, h0⟩ | ⟨g, cap, cur, hv, hb, hh, hc, hm, hs, ht⟩
  · simp only at hp; omega
  · injection hv with h1 h2 h3
    exact ⟨g, cur, h1, hb, hh, by simp only; omega⟩
theorem RowAt.empty {w : World} {B : Nat} {e : TypeId} {A : Option Addr} : RowAt w B e (A, 0) := ⟨by simp, fun h => by simp at h⟩
theorem Row.blk_empty (A : Option Addr) : Row.blk (A, 0) = none := rfl
theorem RowAt.mono {w : World} {B B' : Nat} {e : TypeId} {r : Row} (h : RowAt w B e r) (hB : B' ≤ B) : RowAt w B' e r :=
  ⟨h.1, fun hp => by obtain ⟨g, cur, h1, h2, h3⟩ := h.2 hp; exact ⟨g, cur, h1, by omega, h3⟩⟩
theorem RowAt.same {w w' : World} {B : Nat} {e : TypeId} {r : Row} (h : RowAt w B e r) (hk : ∀ g, r.blk = some g → g < w.heap.size → w'.heap[g]? = w.heap[g]?) : RowAt w' B e r :=
  ⟨h.1, fun hp => by
    obtain ⟨g, cur, h1, h2, h3, h4⟩ := h.2 hp
    refine ⟨g, cur, h1, h2, ?_, h4⟩
    rw [hk g (by unfold Row.blk; rw [if_neg (by omega), h1]; rfl) (Array.getElem?_eq_some_iff.1 h3).1]
    exact h3⟩
theorem RowAt.below {w w' : World} {B : Nat} {e : TypeId} {r : Row} (h : RowAt w B e r) (hb : Below w.heap.size w w') : RowAt w' B e r := h.same fun g _ hg => hb.block g hg
theorem RowAt.blk_ge {w : World} {B : Nat} {e : TypeId} {r : Row} (h : RowAt w B e r) {g : Nat} (hg : r.blk = some g) : B ≤ g ∧ g < w.heap.size := by
  unfold Row.blk at hg
  split at hg
  · cases hg
  · rename_i hne
    obtain ⟨g', cur, h1, h2, h3, h4⟩ := h.2 (by omega)
    rw [h1] at hg
    have : g' = g := by simpa using hg
    subst this
    exact ⟨h2, (Array.getElem?_eq_some_iff.1 h3).1⟩

theorem Mn.same {w w' : World} {B : Nat} {e : TypeId} {size n : Nat} {v : Value} {cs : List Value} (h : Mn w B e size v n cs) (hk : ∀ g, v.ownBlock = some g → g < w.heap.size → w'.heap[g]? = w.heap[g]?) : Mn w' B e size v n cs := by
  refine ⟨h.1, ?_⟩
  rcases h.2 with h2 | ⟨g, cap, cur, rfl, hb, hh, r⟩
  · exact .inl h2
  · refine .inr ⟨g, cap, cur, rfl, hb, ?_, r⟩
    rw [hk g rfl (Array.getElem?_eq_some_iff.1 hh).1]
    exact hh

/-- A book at block k: the rows of bytes and of symbols that it holds, all apart; all that it may write lies from B on. -/
structure BS (w : World) (B k : Nat) (Bv Sv : Value) (bs ss : List Row) : Prop where
  book : w.heap[k]? = some (.cells #[Bv, .slice none 0 0, Sv, .bool false] 34 (0, 0))
  hB : B ≤ k
  hb : Mn w (k + 1) 43 1 Bv bs.length (bs.map Row.val)
  hs : Mn w (k + 1) 22 1 Sv ss.length (ss.map Row.val)
  rb : ∀ r ∈ bs, RowAt w B 5 r
  rs : ∀ r ∈ ss, RowAt w B 50 r
  apart : (bs ++ ss).Pairwise fun r r' => r.blk = r'.blk → r.blk = none
  off : ∀ r ∈ bs ++ ss, ∀ g, r.blk = some g → g ≠ k ∧ Bv.ownBlock ≠ some g ∧ Sv.ownBlock ≠ some g
  heads : ∀ g, Bv.ownBlock = some g → Sv.ownBlock ≠ some g
  few : bs.length ≤ 100 ∧ ss.length ≤ 100

section
variable {w w' : World} {B k : Nat} {Bv Sv : Value} {bs ss : List Row}

theorem BS.lt (h : BS w B k Bv Sv bs ss) : k < w.heap.size := (Array.getElem?_eq_some_iff.1 h.book).1
theorem BS.cell (h : BS w B k Bv Sv bs ss) (j : Nat) : w.cell? ⟨k, j, none⟩ = #[Bv, .slice none 0 0, Sv, .bool false][j]? := cell_of_row w k j _ 34 (0, 0) h.book
theorem BS.frozen (h : BS w B k Bv Sv bs ss) (j : Nat) : w.frozen? ⟨k, j, none⟩ = false := by simp [World.frozen?, h.book]
/-- a new book -/
theorem BS.new {a : Nat} (ha : a = w.heap.size) (hB : B ≤ w.heap.size) : BS (w.alloc (.cells #[.slice none 0 0, .slice none 0 0, .slice none 0 0, .bool false] 34)) B a (.slice none 0 0) (.slice none 0 0) [] [] := by
  subst ha
  refine ⟨heap_alloc_new w _, hB, Mn.nil .., Mn.nil .., ?_, ?_, ?_, ?_, ?_, ?_⟩ <;> simp [Value.ownBlock]
/-- all that the book names is as it was -/
theorem BS.same (h : BS w B k Bv Sv bs ss) (hk : ∀ g, g < w.heap.size → w'.heap[g]? = w.heap[g]?) : BS w' B k Bv Sv bs ss :=
  ⟨(hk k h.lt).trans h.book, h.hB, h.hb.same fun g _ hg => hk g hg, h.hs.same fun g _ hg => hk g hg, fun r hr => (h.rb r hr).same fun g _ hg => hk g hg, fun r hr => (h.rs r hr).same fun g _ hg => hk g hg, h.apart, h.off, h.heads, h.few⟩
theorem BS.below (h : BS w B k Bv Sv bs ss) (hb : Below w.heap.size w w') : BS w' B k Bv Sv bs ss := h.same fun g hg => hb.block g hg
theorem BS.drewN (h : BS w B k Bv Sv bs ss) (q : Nat) : BS (w.drewN q) B k Bv Sv bs ss := h.same fun _ _ => rfl
end

/-- what a row must be to be put into the book -/
structure Fits (w : World) (B k : Nat) (Bv Sv : Value) (bs ss : List Row) (e : TypeId) (r : Row) : Prop where
  at_ : RowAt w B e r
  new : ∀ r' ∈ bs ++ ss, r'.blk = r.blk → r.blk = none
  off : ∀ g, r.blk = some g → g ≠ k ∧ Bv.ownBlock ≠ some g ∧ Sv.ownBlock ≠ some g

/-- a row enters: the sides of bytes -/
theorem BS.addB {w w' : World} {B k : Nat} {Bv Sv Bv' : Value} {bs ss : List Row} {r : Row} (h : BS w B k Bv Sv bs ss) (hf : Fits w B k Bv Sv bs ss 5 r)
    (hbook : w'.heap[k]? = some (.cells #[Bv', .slice none 0 0, Sv, .bool false] 34 (0, 0)))
    (hm : Mn w' (k + 1) 43 1 Bv' (bs.length + 1) (bs.map Row.val ++ [r.val]))
    (hk : ∀ g, g < w.heap.size → g ≠ k → Bv.ownBlock ≠ some g → w'.heap[g]? = w.heap[g]?)
    (hat : Bv'.ownBlock = Bv.ownBlock ∨ ∃ q, Bv'.ownBlock = some q ∧ w.heap.size ≤ q) (hfew : bs.length + 1 ≤ 100) : BS w' B k Bv' Sv (bs ++ [r]) ss := by
  have hoff' : ∀ r' ∈ bs ++ ss, ∀ g, r'.blk = some g → Bv'.ownBlock ≠ some g := by
    intro r' hr' g hg e
    rcases hat with h1 | ⟨q, h1, h2⟩
    · exact (h.off r' hr' g hg).2.1 (h1 ▸ e)
    · rw [h1] at e
      injection e with e
      have : g < w.heap.size := by
        rcases List.mem_append.1 hr' with h3 | h3
        · exact ((h.rb r' h3).blk_ge hg).2
        · exact ((h.rs r' h3).blk_ge hg).2
      omega
  have hoffr : ∀ g, r.blk = some g → Bv'.ownBlock ≠ some g := by
    intro g hg e
    rcases hat with h1 | ⟨q, h1, h2⟩
    · exact (hf.off g hg).2.1 (h1 ▸ e)
    · rw [h1] at e
      injection e with e
      have := (hf.at_.blk_ge hg).2
      omega
  have hks : ∀ g, Sv.ownBlock = some g → g < w.heap.size → w'.heap[g]? = w.heap[g]? := fun g hg hl => hk g hl
    (by have := (h.hs.block hg).1; omega) (fun e => h.heads g e hg)
  refine ⟨hbook, h.hB, by simpa using hm, h.hs.same hks, ?_, ?_, ?_, ?_, ?_, by simp; have := h.few; omega⟩
  · intro r' hr'
    rcases List.mem_append.1 hr' with h3 | h3
    · exact (h.rb r' h3).same fun g hg hl => hk g hl (h.off r' (List.mem_append_left _ h3) g hg).1 (h.off r' (List.mem_append_left _ h3) g hg).2.1
    · rw [List.mem_singleton.1 h3]
      exact hf.at_.same fun g hg hl => hk g hl (hf.off g hg).1 (hf.off g hg).2.1
  · intro r' hr'
    exact (h.rs r' hr').same fun g hg hl => hk g hl (h.off r' (List.mem_append_right _ hr') g hg).1 (h.off r' (List.mem_append_right _ hr') g hg).2.1
  · have hp := List.pairwise_append.1 h.apart
    refine List.pairwise_append.2 ⟨List.pairwise_append.2 ⟨hp.1, by simp, ?_⟩, hp.2.1, ?_⟩
    · intro a ha b hb e
      rw [List.mem_singleton.1 hb] at e
      rw [e]
      exact hf.new a (List.mem_append_left _ ha) e
    · intro a ha b hb e
      rcases List.mem_append.1 ha with h3 | h3
      · exact hp.2.2 a h3 b hb e
      · rw [List.mem_singleton.1 h3] at e ⊢
        exact hf.new b (List.mem_append_right _ hb) e.symm
  · intro r' hr' g hg
    have hcase : r' ∈ bs ++ ss ∨ r' = r := by
      simp only [List.mem_append, List.mem_singleton] at hr' ⊢
      rcases hr' with (h1 | h1) | h1
      · exact .inl (.inl h1)
      · exact .inr h1
      · exact .inl (.inr h1)
    rcases hcase with h1 | rfl
    · exact ⟨(h.off r' h1 g hg).1, hoff' r' h1 g hg, (h.off r' h1 g hg).2.2⟩
    · exact ⟨(hf.off g hg).1, hoffr g hg, (hf.off g hg).2.2⟩
  · intro g hg e
    rcases hat with h1 | ⟨q, h1, h2⟩
    · exact h.heads g (h1 ▸ hg) e
    · rw [h1] at hg
      injection hg with hg
      have := (h.hs.block e).2
      omega

/-- a row enters: the side of symbols -/
theorem BS.addS {w w' : World} {B k : Nat} {Bv Sv Sv' : Value} {bs ss : List Row} {r : Row} (h : BS w B k Bv Sv bs ss) (hf : Fits w B k Bv Sv bs ss 50 r)
    (hbook : w'.heap[k]? = some (.cells #[Bv, .slice none 0 0, Sv', .bool false] 34 (0, 0)))
    (hm : Mn w' (k + 1) 22 1 Sv' (ss.length + 1) (ss.map Row.val ++ [r.val]))
    (hk : ∀ g, g < w.heap.size → g ≠ k → Sv.ownBlock ≠ some g → w'.heap[g]? = w.heap[g]?)
    (hat : Sv'.ownBlock = Sv.ownBlock ∨ ∃ q, Sv'.ownBlock = some q ∧ w.heap.size ≤ q) (hfew : ss.length + 1 ≤ 100) : BS w' B k Bv Sv' bs (ss ++ [r]) := by
  have hoff' : ∀ r' ∈ bs ++ ss, ∀ g, r'.blk = some g → Sv'.ownBlock ≠ some g := by
    intro r' hr' g hg e
    rcases hat with h1 | ⟨q, h1, h2⟩
    · exact (h.off r' hr' g hg).2.2 (h1 ▸ e)
    · rw [h1] at e
      injection e with e
      have : g < w.heap.size := by
        rcases List.mem_append.1 hr' with h3 | h3
        · exact ((h.rb r' h3).blk_ge hg).2
        · exact ((h.rs r' h3).blk_ge hg).2
      omega
  have hoffr : ∀ g, r.blk = some g → Sv'.ownBlock ≠ some g := by
    intro g hg e
    rcases hat with h1 | ⟨q, h1, h2⟩
    · exact (hf.off g hg).2.2 (h1 ▸ e)
    · rw [h1] at e
      injection e with e
      have := (hf.at_.blk_ge hg).2
      omega
  have hkb : ∀ g, Bv.ownBlock = some g → g < w.heap.size → w'.heap[g]? = w.heap[g]? := fun g hg hl => hk g hl
    (by have := (h.hb.block hg).1; omega) (fun e => h.heads g hg e)
  refine ⟨hbook, h.hB, h.hb.same hkb, by simpa using hm, ?_, ?_, ?_, ?_, ?_, by simp; have := h.few; omega⟩
  · intro r' hr'
    exact (h.rb r' hr').same fun g hg hl => hk g hl (h.off r' (List.mem_append_left _ hr') g hg).1 (h.off r' (List.mem_append_left _ hr') g hg).2.2
  · intro r' hr'
    rcases List.mem_append.1 hr' with h3 | h3
    · exact (h.rs r' h3).same fun g hg hl => hk g hl (h.off r' (List.mem_append_right _ h3) g hg).1 (h.off r' (List.mem_append_right _ h3) g hg).2.2
    · rw [List.mem_singleton.1 h3]
      exact hf.at_.same fun g hg hl => hk g hl (hf.off g hg).1 (hf.off g hg).2.2
  · rw [← List.append_assoc]
    refine List.pairwise_append.2 ⟨h.apart, by simp, ?_⟩
    intro a ha b hb e
    rw [List.mem_singleton.1 hb] at e
    rw [e]
    exact hf.new a ha e
  · intro r' hr' g hg
    rw [← List.append_assoc] at hr'
    rcases List.mem_append.1 hr' with h1 | h1
    · exact ⟨(h.off r' h1 g hg).1, (h.off r' h1 g hg).2.1, hoff' r' h1 g hg⟩
    · rw [List.mem_singleton.1 h1] at hg
      exact ⟨(hf.off g hg).1, (hf.off g hg).2.1, hoffr g hg⟩
  · intro g hg e
    rcases hat with h1 | ⟨q, h1, h2⟩
    · exact h.heads g hg (h1 ▸ e)
    · rw [h1] at e
      injection e with e
      have := (h.hb.block hg).2
      omega
end Go.Proofs.Ytnmhhjgiakijgaa
