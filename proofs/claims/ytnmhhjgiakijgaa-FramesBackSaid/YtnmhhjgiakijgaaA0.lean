/- Words for memory that the walks of this seat share: a slice that reads as a list, a row of the call's own (its capacity may be cut), and what append does to them. -/
import Derived.Test.YtnmhhjgiakijgaaProg
import Derived.Test.YtnmhhjgiakijgaaM0
import Derived.WalkKit
import Derived.WalkSpells
import Derived.WalkLawsBesides
import Derived.KernelRfl
import Derived.Lib.Hide
import Derived.Deep.QuietTactic
import Derived.BigQuiet
import Derived.Deep.LoopGhost
import Derived.Deep.Draws
import Derived.Maps.AppendAt
import Derived.Deep.AppendLies
namespace Go.Proofs.Ytnmhhjgiakijgaa
open Go.RowKit
set_option linter.unusedVariables false

/-- numbers as values -/
def nums (k : IntKind) (xs : List Int) : List Value := xs.map (Value.int k)

theorem nums_length (k : IntKind) (xs : List Int) : (nums k xs).length = xs.length := by simp [nums]
theorem nums_append (k : IntKind) (xs ys : List Int) : nums k (xs ++ ys) = nums k xs ++ nums k ys := by simp [nums]
theorem nums_get (k : IntKind) (xs : List Int) (j : Nat) (h : j < xs.length) : (nums k xs)[j]? = some (.int k (gt xs j)) := by
  simp [nums, gt, List.getElem?_eq_getElem h, List.getD_eq_getElem?_getD]
theorem nums_one (k : IntKind) (xs : List Int) : ∀ u ∈ nums k xs, u.oneCell' = true := by
  intro u hu
  simp only [nums, List.mem_map] at hu
  obtain ⟨q, _, rfl⟩ := hu
  rfl

theorem add_lit0 (g j : Nat) : (⟨g, 0, none⟩ : Addr).add j = ⟨g, j, none⟩ := by unfold Addr.add; split <;> simp_all
theorem add_lit (g o j : Nat) : (⟨g, o, none⟩ : Addr).add j = ⟨g, o + j, none⟩ := by unfold Addr.add; split <;> simp_all

/-- m cells that can be read at an address; no address is wanted where there is none -/
def Rv (w : World) (A : Option Addr) (m : Nat) (cs : List Value) : Prop :=
  cs.length = m ∧ (0 < m → ∃ b o, A = some ⟨b, o, none⟩ ∧ ∀ j u, cs[j]? = some u → w.cell? ⟨b, o + j, none⟩ = some u)

/-- a slice of numbers that can be read -/
def Rd (w : World) (k : IntKind) (A : Option Addr) (n : Nat) (xs : List Int) : Prop := Rv w A n (nums k xs)

section
variable {w w' : World} {k : IntKind} {A : Option Addr} {n m : Nat} {xs : List Int} {cs : List Value}

theorem Rv.nil : Rv w A 0 [] := ⟨rfl, fun h => absurd h (by omega)⟩
theorem Rv.at_ (h : Rv w A m cs) (hm : 0 < m) : ∃ b o, A = some ⟨b, o, none⟩ ∧ b < w.heap.size ∧ ∀ j u, cs[j]? = some u → w.cell? ⟨b, o + j, none⟩ = some u := by
  obtain ⟨b, o, e, hc⟩ := h.2 hm
  have h0 : cs[0]? = some (cs[0]'(by have := h.1; omega)) := List.getElem?_eq_getElem _
  exact ⟨b, o, e, World.block_lt_of_cell? w ⟨b, o + 0, none⟩ (hc 0 _ h0), hc⟩
theorem Rv.below (h : Rv w A m cs) (hb : Below w.heap.size w w') : Rv w' A m cs :=
  ⟨h.1, fun hm => by
    obtain ⟨b, o, e, hlt, hc⟩ := h.at_ hm
    exact ⟨b, o, e, fun j u hu => (hb.cell (p := ⟨b, o + j, none⟩) hlt).trans (hc j u hu)⟩⟩
theorem Rv.drewN (h : Rv w A m cs) (q : Nat) : Rv (w.drewN q) A m cs := h
theorem Rv.drew (h : Rv w A m cs) : Rv w.drew A m cs := h
theorem Rv.alloc (h : Rv w A m cs) (o : Obj) : Rv (w.alloc o) A m cs := h.below ((Below.refl _ _).alloc (Nat.le_refl _) o)

theorem Rd.len (h : Rd w k A n xs) : xs.length = n := by have := h.1; rwa [nums_length] at this
theorem Rd.at_ (h : Rd w k A n xs) (j : Nat) (hj : j < n) : ∃ b o, A = some ⟨b, o, none⟩ ∧ w.cell? ⟨b, o + j, none⟩ = some (.int k (gt xs j)) := by
  obtain ⟨b, o, e, hc⟩ := h.2 (by omega)
  exact ⟨b, o, e, hc j _ (nums_get k xs j (by have := h.len; omega))⟩
theorem Rd.below (h : Rd w k A n xs) (hb : Below w.heap.size w w') : Rd w' k A n xs := Rv.below h hb
theorem Rd.drewN (h : Rd w k A n xs) (q : Nat) : Rd (w.drewN q) k A n xs := h
theorem Rd.nil : Rd w k A 0 [] := Rv.nil
theorem Rd.take (h : Rd w k A n xs) (i : Nat) (hi : i ≤ n) : Rd w k A i (xs.take i) := by
  have hl := h.len
  refine ⟨by rw [nums_length, List.length_take]; omega, fun hp => ?_⟩
  obtain ⟨b, o, e, hc⟩ := h.2 (by omega)
  refine ⟨b, o, e, fun j u hu => hc j u ?_⟩
  simp only [nums, List.getElem?_map] at hu ⊢
  rw [List.getElem?_take] at hu
  split at hu
  · exact hu
  · simp at hu
/-- 'xs[i:]' with the walk's 'if' in its address -/
theorem Rd.drop (h : Rd w k A n xs) (i c : Nat) (hi : i ≤ n) (hc : n ≤ c) : Rd w k (if c = i then A else A.map (·.add i)) (n - i) (xs.drop i) := by
  have hl := h.len
  refine ⟨by rw [nums_length, List.length_drop]; omega, fun hp => ?_⟩
  obtain ⟨b, o, rfl, hcell⟩ := h.2 (by omega)
  rw [if_neg (by omega)]
  refine ⟨b, o + i, by simp [add_lit], fun j u hu => ?_⟩
  rw [Nat.add_assoc]
  refine hcell (i + j) u ?_
  simp only [nums, List.getElem?_map, List.getElem?_drop] at hu ⊢
  exact hu
end

/-- n elements of 'size' cells each, in a row of one's own from block B on; its capacity may be cut -/
def Mn (w : World) (B : Nat) (e : TypeId) (size : Nat) (v : Value) (n : Nat) (cs : List Value) : Prop :=
  cs.length = n * size ∧
  ((v = .slice none 0 0 ∧ n = 0) ∨
   ∃ g cap cur, v = .slice (some ⟨g, 0, none⟩) n cap ∧ B ≤ g ∧ w.heap[g]? = some (.cells cur e (0, 0)) ∧ n ≤ cap ∧ cap ≤ maxLen ∧ cap * size ≤ cur.size ∧ cur.toList.take (n * size) = cs)

section
variable {w w' : World} {B B' : Nat} {e : TypeId} {size n : Nat} {v : Value} {cs : List Value}

theorem Mn.nil (w : World) (B : Nat) (e : TypeId) (size : Nat) : Mn w B e size (.slice none 0 0) 0 [] := ⟨by simp, .inl ⟨rfl, rfl⟩⟩
theorem Mn.form (h : Mn w B e size v n cs) : ∃ A cap, v = .slice A n cap ∧ n ≤ cap := by
  rcases h.2 with ⟨rfl, rfl⟩ | ⟨g, cap, cur, rfl, _, _, hc, _⟩
  · exact ⟨none, 0, rfl, Nat.le_refl _⟩
  · exact ⟨_, cap, rfl, hc⟩
theorem Mn.block (h : Mn w B e size v n cs) {g : Nat} (hg : v.ownBlock = some g) : B ≤ g ∧ g < w.heap.size := by
  rcases h.2 with ⟨rfl, _⟩ | ⟨g', cap, cur, rfl, hb, hh, _⟩
  · simp [Value.ownBlock] at hg
  · have : g' = g := by simpa [Value.ownBlock] using hg
    subst this
    exact ⟨hb, (Array.getElem?_eq_some_iff.1 hh).1⟩
theorem Mn.mono (h : Mn w B e size v n cs) (hB : B' ≤ B) : Mn w B' e size v n cs := by
  refine ⟨h.1, ?_⟩
  rcases h.2 with h2 | ⟨g, cap, cur, hv, hb, r⟩
  · exact .inl h2
  · exact .inr ⟨g, cap, cur, hv, by omega, r⟩
theorem Mn.kept {row : Option Nat} (h : Mn w B e size v n cs) (hg : w.grownBy w' row) (hne : v.ownBlock = none ∨ v.ownBlock ≠ row) : Mn w' B e size v n cs := by
  refine ⟨h.1, ?_⟩
  rcases h.2 with h2 | ⟨g, cap, cur, rfl, hb, hh, r⟩
  · exact .inl h2
  · refine .inr ⟨g, cap, cur, rfl, hb, ?_, r⟩
    rw [hg.block g (Array.getElem?_eq_some_iff.1 hh).1 (by simpa [Value.ownBlock] using hne)]
    exact hh
theorem Mn.below (h : Mn w B e size v n cs) (hb : Below w.heap.size w w') : Mn w' B e size v n cs := by
  refine h.kept (row := none) ⟨hb.os, hb.tape, hb.output, hb.size, fun k hk _ => hb.block k hk⟩ ?_
  cases v.ownBlock <;> simp
theorem Mn.drewN (h : Mn w B e size v n cs) (q : Nat) : Mn (w.drewN q) B e size v n cs := h
theorem Mn.alloc (h : Mn w B e size v n cs) (o : Obj) : Mn (w.alloc o) B e size v n cs := h.below ((Below.refl _ _).alloc (Nat.le_refl _) o)
theorem Mn.cap_le {A : Option Addr} {c : Nat} (h : Mn w B e size (.slice A n c) n cs) : c ≤ maxLen := by
  rcases h.2 with ⟨hv, h0⟩ | ⟨g, cap, cur, hv, hb, hh, hc, hm, hs, ht⟩
  · injection hv with h1 h2 h3
    omega
  · injection hv with h1 h2 h3
    omega
/-- its capacity cut to its length -/
theorem Mn.clip {A : Option Addr} {c : Nat} (h : Mn w B e size (.slice A n c) n cs) : Mn w B e size (.slice A n n) n cs := by
  refine ⟨h.1, ?_⟩
  rcases h.2 with ⟨hv, h0⟩ | ⟨g, cap, cur, hv, hb, hh, hc, hm, hs, ht⟩
  · injection hv with h1 h2 h3
    exact .inl ⟨by rw [h1, h0], h0⟩
  · injection hv with h1 h2 h3
    refine .inr ⟨g, n, cur, by rw [h1], hb, hh, Nat.le_refl _, Nat.le_trans hc hm, Nat.le_trans (Nat.mul_le_mul_right _ hc) hs, ht⟩
/-- what is owned can be read -/
theorem Mn.reads {A : Option Addr} {c : Nat} (h : Mn w B e size (.slice A n c) n cs) : Rv w A (n * size) cs := by
  refine ⟨h.1, fun hm => ?_⟩
  rcases h.2 with ⟨hv, h0⟩ | ⟨g, cap, cur, hv, hb, hh, hc, _, hs, ht⟩
  · subst h0
    simp at hm
  · injection hv with h1 h2 h3
    refine ⟨g, 0, h1, fun j u hu => ?_⟩
    rw [← ht, List.getElem?_take] at hu
    split at hu
    · rw [Nat.zero_add, cell_of_row w g j cur e (0, 0) hh]
      simpa using hu
    · cases hu
theorem Mn.rd {A : Option Addr} {c : Nat} {k : IntKind} {xs : List Int} (h : Mn w B e 1 (.slice A n c) n (nums k xs)) : Rd w k A n xs := by
  have := h.reads
  rwa [Nat.mul_one] at this
theorem Mn.lit (w : World) (e : TypeId) (size n : Nat) (cs : Array Value) (hB : B ≤ w.heap.size) (hs : cs.size = n * size) (hn : n ≤ maxLen) :
    Mn (w.alloc (.cells cs e)) B e size (.slice (some ⟨w.heap.size, 0, none⟩) n n) n cs.toList :=
  ⟨by simp [hs], .inr ⟨w.heap.size, n, cs, rfl, hB, heap_alloc_new w _, Nat.le_refl _, hn, by omega, by rw [← hs]; exact List.take_of_length_le (by simp)⟩⟩
end

/-- one number in a block of its own -/
theorem rv_one {w : World} {e : TypeId} {k : IntKind} {x : Int} : Rv (w.alloc (.cells #[.int k x] e)) (some ⟨w.heap.size, 0, none⟩) (1 * 1) (nums k [x]) := by
  refine ⟨rfl, fun _ => ⟨w.heap.size, 0, rfl, fun j u hu => ?_⟩⟩
  rw [Nat.zero_add, cell_of_row _ w.heap.size j #[.int k x] e (0, 0) (heap_alloc_new w _)]
  simpa [nums] using hu

theorem rv_two {w : World} {e : TypeId} {k : IntKind} {x y : Int} : Rv (w.alloc (.cells #[.int k x, .int k y] e)) (some ⟨w.heap.size, 0, none⟩) (2 * 1) (nums k [x, y]) := by
  refine ⟨rfl, fun _ => ⟨w.heap.size, 0, rfl, fun j u hu => ?_⟩⟩
  rw [Nat.zero_add, cell_of_row _ w.heap.size j #[.int k x, .int k y] e (0, 0) (heap_alloc_new w _)]
  simpa [nums] using hu
theorem Mn.ex {w : World} {B : Nat} {e : TypeId} {size n c : Nat} {A : Option Addr} {cs : List Value} (h : Mn w B e size (.slice A n c) n cs) (hn : 0 < n) : ∃ g, A = some ⟨g, 0, none⟩ := by
  rcases h.2 with ⟨hv, h0⟩ | ⟨g, cap, cur, hv, hb, hh, hc, hm, hs, ht⟩
  · omega
  · injection hv with h1 h2 h3
    exact ⟨g, h1⟩

/-! ### append onto a row of one's own -/
section
variable {P : Program} (w : World)

theorem grownBy_refl (w : World) (row : Option Nat) : w.grownBy w row := ⟨rfl, rfl, rfl, Nat.le_refl _, fun _ _ _ => rfl⟩

theorem run_append_mn (B : Nat) (t ty e : TypeId) (i : TypeInfo) (z : Value) (size bytes : Nat) (ht : P.underlying t = some (.slice e)) (hi : P.info? e = some i) (hz : i.zero = some z)
    (hsize : i.size = size) (hby : i.bytes = bytes) (hzs : z.cells.size = size) (hsz : 0 < size)
    (v : Value) (n : Nat) (xs : List Value) (hown : Mn w B e size v n xs)
    (A : Option Addr) (m c : Nat) (news : List Value) (hr : Rv w A (m * size) news) (h1 : ∀ u ∈ news, u.oneCell' = true)
    (hbytes : (n + m) * bytes ≤ 140737488355328) (hn : n + m ≤ 140737488355328) (hbase : B ≤ w.heap.size) :
    ∃ v' w', (Builtin.append_ #[t, t] ty #[v, .slice A m c]).run P w = .ok v' w' ∧ Mn w' B e size v' (n + m) (xs ++ news) ∧ w.grownBy w' v.ownBlock ∧
      (v'.ownBlock = v.ownBlock ∨ v'.ownBlock = some w.heap.size) := by
  subst hsize
  subst hby
  have h63 : n + m ≤ maxLen := by simp only [maxLen]; omega
  rcases Nat.eq_zero_or_pos m with hm0 | hmp
  · subst hm0
    have hnn : news = [] := List.eq_nil_of_length_eq_zero (by simpa using hr.1)
    subst hnn
    refine ⟨v, w, ?_, by simpa using hown, grownBy_refl w _, .inl rfl⟩
    rcases hown.2 with ⟨rfl, rfl⟩ | ⟨g, cap, cur, rfl, _, hh, hnc, _, hcs, _⟩
    · cases A <;> simp [Builtin.append_, run_underlying ht, sizeOf, typeInfo, hi, Builtin.lenOf, Builtin.firstCells, loadCells, loadCellsFrom]
    · cases A <;> simp [Builtin.append_, run_underlying ht, sizeOf, typeInfo, hi, Builtin.lenOf, Builtin.firstCells, hnc, storeCells, loadCells, loadCellsFrom]
  · obtain ⟨b, o, rfl, hcell⟩ := hr.2 (Nat.mul_pos hmp hsz)
    have hnews : ∀ j u, news[j]? = some u → w.cell? ((⟨b, o, none⟩ : Addr).add j) = some u := fun j u hu => by rw [add_lit]; exact hcell j u hu
    have hl := hr.1
    have hlen : (xs ++ news).length = (n + m) * i.size := by rw [List.length_append, hown.1, hl, Nat.add_mul]
    have grown : ∀ (old : Nat) (row : Option Nat),
        Mn (w.drew.alloc (.cells (xs.toArray ++ news.toArray ++ Builtin.zeroCells z.cells (grownCap w (n + m) old e - (n + m))) e)) B e i.size
          (.slice (some ⟨w.heap.size, 0, none⟩) (n + m) (grownCap w (n + m) old e)) (n + m) (xs ++ news) ∧
        w.grownBy (w.drew.alloc (.cells (xs.toArray ++ news.toArray ++ Builtin.zeroCells z.cells (grownCap w (n + m) old e - (n + m))) e)) row := by
      intro old row
      have hge := grownCap_ge w (n + m) old e
      have hcm : grownCap w (n + m) old e ≤ maxLen := grownCap_le_maxLen w (n + m) old e h63
      refine ⟨⟨hlen, .inr ⟨w.heap.size, _, _, rfl, hbase, heap_alloc_new w.drew _, hge, hcm, ?_, ?_⟩⟩, ⟨rfl, rfl, rfl, by simp, fun k hk _ => Below.heap_alloc w.drew _ k hk⟩⟩
      · refine Nat.le_of_eq ?_
        simp only [Array.size_append, List.size_toArray, size_zeroCells, hzs, hown.1, hl, ← Nat.add_mul]
        congr 1
        omega
      · simp only [Array.toList_append, List.append_assoc]
        rw [← List.append_assoc, ← hlen]
        exact List.take_left
    rcases hown.2 with ⟨rfl, rfl⟩ | ⟨g, cap, cur, rfl, hbg, hg, hnc, hcm, hcs, htake⟩
    · have hx : xs = [] := List.eq_nil_of_length_eq_zero (by simpa using hown.1)
      subst hx
      have hr' := run_append_nil (P := P) w t ty e i z ht hi hz ⟨b, o, none⟩ m c news hl hnews (by omega) (by omega) (by have hb := hbytes; simp only [Nat.zero_add] at hb; omega)
      have hgr := grown 0 (Value.ownBlock (.slice none 0 0))
      simp only [Nat.zero_add, List.nil_append, Array.empty_append] at hgr ⊢
      exact ⟨_, _, hr', hgr.1, hgr.2, .inr rfl⟩
    · by_cases hroom : n + m ≤ cap
      · have hfit : n * i.size + news.length ≤ cur.size := by rw [hl, ← Nat.add_mul]; exact Nat.le_trans (Nat.mul_le_mul_right _ hroom) hcs
        have hr' := run_append_room (P := P) w t ty e i ht hi g n cap cur hg ⟨b, o, none⟩ m c news hl hnews h1 hroom hfit
        refine ⟨_, _, hr', ⟨hlen, .inr ⟨g, cap, _, rfl, hbg, setRow_heap w g cur _ e _ hg, hroom, hcm, ?_, ?_⟩⟩, ⟨rfl, rfl, rfl, by simp, fun k hk hne => setRow_other w g k _ (fun e => hne (by simp [Value.ownBlock, e]))⟩, .inl rfl⟩
        · simp only [List.size_toArray, List.length_append, List.length_take, List.length_drop, Array.length_toList]
          omega
        · rw [htake, ← hlen]
          exact List.take_left
      · have holds : ∀ j u, xs[j]? = some u → w.cell? ((⟨g, 0, none⟩ : Addr).add j) = some u := by
          intro j u hu
          rw [add_lit0, cell_of_row w g j cur e (0, 0) hg]
          rw [← htake, List.getElem?_take] at hu
          split at hu
          · simpa using hu
          · cases hu
        have hr' := run_append_grow (P := P) w t ty e i z ht hi hz ⟨g, 0, none⟩ n cap xs hown.1 holds ⟨b, o, none⟩ m c news hl hnews (by omega) (by omega) (growslice_fits (by omega) hbytes)
        have hgr := grown cap (Value.ownBlock (.slice (some ⟨g, 0, none⟩) n cap))
        exact ⟨_, _, hr', hgr.1, hgr.2, .inr rfl⟩

/-- In a walk: behind 'at_builtin'. -/
theorem wpList_append_mn {ops : Array Oper} {rest : List Oper} {o : Oper} {a : Act} {Q : Exit → Act → World → Prop} (hgd : o.guard = none) (s x : Operand) (t : TypeId)
    (ho : o.op = .call { callee := .builtin .append, args := #[s, x], argTypes := #[t, t] })
    (B : Nat) (e : TypeId) (z : Value) (size bytes : Nat) (ht : P.underlying t = some (.slice e)) (hinfo : (P.info? e).map (fun i => (i.zero, i.size, i.bytes)) = some (some z, size, bytes))
    (hzs : z.cells.size = size) (hsz : 0 < size)
    (v : Value) (n : Nat) (xs : List Value) (hs : a.eval s = v) (hown : Mn w B e size v n xs)
    (A : Option Addr) (m c : Nat) (news : List Value) (hx : a.eval x = .slice A m c) (hr : Rv w A (m * size) news) (h1 : ∀ u ∈ news, u.oneCell' = true)
    (hbytes : (n + m) * bytes ≤ 140737488355328) (hn : n + m ≤ 140737488355328) (hbase : B ≤ w.heap.size)
    (h : ∀ A' cap' w', n + m ≤ cap' → Mn w' B e size (.slice A' (n + m) cap') (n + m) (xs ++ news) → w.grownBy w' v.ownBlock → (A'.map (·.block) = v.ownBlock ∨ A'.map (·.block) = some w.heap.size) → wpList P ops Q rest (a.put o.dst (.slice A' (n + m) cap')) w') :
    wpList P ops Q (o :: rest) a w := by
  obtain ⟨i0, hi, hz, hi1, hi2⟩ := info_parts hinfo
  obtain ⟨v', w', hrun, h2, h3, h4⟩ := run_append_mn (P := P) w B t o.type e i0 z size bytes ht hi hz hi1 hi2 hzs hsz v n xs hown A m c news hr h1 hbytes hn hbase
  obtain ⟨A', cap', rfl, hcap⟩ := h2.form
  refine wpList_plain hgd fun K hK => ?_
  unfold Oper.wp execOp
  simp only [ho, resolve, invoke, builtin, Sem.run_bind, Sem.run_pure, Result.andThen_ok, List.map_toArray, List.map_cons, List.map_nil, hs, hx, hrun]
  refine hK _ _ (h A' cap' w' hcap h2 h3 ?_)
  cases A' <;> simpa [Value.ownBlock] using h4
end

end Go.Proofs.Ytnmhhjgiakijgaa
