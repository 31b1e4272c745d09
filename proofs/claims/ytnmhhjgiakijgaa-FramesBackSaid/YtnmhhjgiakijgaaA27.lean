/- The symbols of a frame: their contracts; layer 5's examples. -/
import Derived.Test.YtnmhhjgiakijgaaA26
import Derived.Test.YtnmhhjgiakijgaaM8
namespace Go.Proofs.Ytnmhhjgiakijgaa
open Go.RowKit
set_option linter.unusedVariables false

/-- append onto a row of one's own, in a region that draws its order -/
theorem step_append_mn {P : Program} {w : World} {ops : Array Oper} {o : Oper} {a : Act} {K : Act → World → Prop} {Q : Exit → Act → World → Prop} {E : Prop} (hgd : o.guard = none) (s x : Operand) (t : TypeId)
    (ho : o.op = .call { callee := .builtin .append, args := #[s, x], argTypes := #[t, t] })
    (B : Nat) (e : TypeId) (z : Value) (size bytes : Nat) (ht : P.underlying t = some (.slice e)) (hinfo : (P.info? e).map (fun i => (i.zero, i.size, i.bytes)) = some (some z, size, bytes))
    (hzs : z.cells.size = size) (hsz : 0 < size)
    (v : Value) (n : Nat) (xs : List Value) (hs : a.eval s = v) (hown : Mn w B e size v n xs)
    (A : Option Addr) (m c : Nat) (news : List Value) (hx : a.eval x = .slice A m c) (hr : Rv w A (m * size) news) (h1 : ∀ u ∈ news, u.oneCell' = true)
    (hbytes : (n + m) * bytes ≤ 140737488355328) (hn : n + m ≤ 140737488355328) (hbase : B ≤ w.heap.size)
    (h : ∀ A' cap' w', n + m ≤ cap' → Mn w' B e size (.slice A' (n + m) cap') (n + m) (xs ++ news) → w.grownBy w' v.ownBlock → (A'.map (·.block) = v.ownBlock ∨ A'.map (·.block) = some w.heap.size) → K (a.put o.dst (.slice A' (n + m) cap')) w') :
    if Region.wanted o (yielded ops a.tmps) = true then Oper.wp P o a w K Q else E := by
  have hw : Region.wanted o (yielded ops a.tmps) = true := by simp [Region.wanted, hgd]
  rw [if_pos hw]
  obtain ⟨i0, hi, hz, hi1, hi2⟩ := info_parts hinfo
  obtain ⟨v', w', hrun, h2, h3, h4⟩ := run_append_mn (P := P) w B t o.type e i0 z size bytes ht hi hz hi1 hi2 hzs hsz v n xs hown A m c news hr h1 hbytes hn hbase
  obtain ⟨A', cap', rfl, hcap⟩ := h2.form
  unfold Oper.wp execOp
  simp only [ho, resolve, invoke, builtin, Sem.run_bind, Sem.run_pure, Result.andThen_ok, List.map_toArray, List.map_cons, List.map_nil, hs, hx, hrun]
  refine h A' cap' w' hcap h2 h3 ?_
  cases A' <;> simpa [Value.ownBlock] using h4

/-- the symbols of a frame with a tail, or none -/
def syP (o : Int) (k s q v : Nat) (a b : Bool) : List Int := if mayB o k = true then ofL (frP o k s q v) ++ tailL a b else []
theorem frP_length (o : Int) (k s q v : Nat) (h : mayB o k = true) : (frP o k s q v).length = 14 := by
  unfold frP; rw [if_pos h, putS_length, frB_length]
theorem frP_ok (o : Int) (k s q v : Nat) (hs : s ≤ 255) : bytesOk (frP o k s q v) := by
  unfold frP
  split
  · exact putS_ok (frB_ok _ _ _ _ _ (by assumption) hs)
  · intro x hx; cases hx
theorem syP_length (o : Int) (k s q v : Nat) (a b : Bool) (h : mayB o k = true) : (syP o k s q v a b).length = 114 := by
  unfold syP; rw [if_pos h, List.length_append, ofL_length, frP_length _ _ _ _ _ h]; rfl
theorem ofL_ok (bs : List Int) : bytesOk (ofL bs) := by
  intro x hx
  obtain ⟨j, hj, rfl⟩ := List.mem_iff_getElem.1 hx
  have h1 := of_bit bs j (by rw [ofL_length] at hj; exact hj)
  have h2 : (ofL bs)[j] = gt (ofL bs) j := by simp [gt, List.getD_eq_getElem?_getD, List.getElem?_eq_getElem hj]
  rw [h2, h1]
  split <;> omega
theorem sy_ok (a b : Bool) : bytesOk (tailL a b) := by
  intro x hx
  simp only [tailL, List.mem_cons, List.not_mem_nil, or_false] at hx
  rcases hx with rfl | rfl <;> unfold sy <;> split <;> omega

/-- what 'Syms' answers -/
def SymsPost (o : Int) (k s q v : Nat) (a b : Bool) (w : World) (e : Ending) (w' : World) : Prop :=
  ∃ A, e = .returned (.tuple #[.slice A (syP o k s q v a b).length (syP o k s q v a b).length, .int .i64 (errP o k)]) ∧ Mn w' w.heap.size 50 1 (.slice A (syP o k s q v a b).length (syP o k s q v a b).length) (syP o k s q v a b).length (nums .u8 (syP o k s q v a b)) ∧ Below w.heap.size w w'

set_option maxHeartbeats 6400000 in
set_option maxRecDepth 20000 in
theorem syms_calls (o : Int) (k s q v : Nat) (a b : Bool) (w : World) (hs : s ≤ 255) (hq : q < 4294967296) (hv : v < 4294967296) :
    Calls Try.prog 60 #[.agg #[.int .i64 o, .int .u8 k, .int .u8 s, .int .u32 q, .int .u32 v], .agg #[.bool a, .bool b]] w (SymsPost o k s q v a b w) := by
  have HP := Lib.hid (fun w => put5_calls o k s q v w hs hq hv)
  cases hm : mayB o k with
  | false =>
    have HM := Lib.hid hm
    have HE := Lib.hid (show syP o k s q v a b = [] ∧ errP o k = 1 by simp [syP, errP, hm])
    clear hm
    go_enter Try.func60, Try.ntmps60
    go_wp2_with fail
    refine (HP.out _).mono ?_; rintro e w1 ⟨A1, rfl, hm1, hb1⟩
    rewrite [HE.out.2]
    go_wp2
    go_ret2
    refine ⟨none, ?_, ?_, (by repeat (first | exact Below.refl _ _ | apply Bw.alloc | apply Bw.drewN | apply Bw.drew | (refine Bw.step ?_ (by assumption))))⟩ <;> rw [HE.out.1] <;> first | exact Mn.nil _ _ _ _ | (rw [HE.out.2]; rfl)
  | true =>
    have HM := Lib.hid hm
    have HE := Lib.hid (show syP o k s q v a b = ofL (frP o k s q v) ++ tailL a b ∧ errP o k = 0 by simp [syP, errP, hm])
    have HL := Lib.hid (frP_length o k s q v hm)
    have HL2 := Lib.hid (syP_length o k s q v a b hm)
    have HOK := Lib.hid (frP_ok o k s q v hs)
    have HFL := Lib.hid (show [ofL (frP o k s q v), tailL a b].flatten = syP o k s q v a b by rw [HE.out.1]; simp)
    clear hm
    go_enter Try.func60, Try.ntmps60
    go_wp2_with fail
    refine (HP.out _).mono ?_; rintro e W ⟨A1, he, hm1, hbW⟩
    rw [HE.out.2, HL.out] at he
    rw [HL.out] at hm1
    subst he
    have hKa : W.cell? ⟨w.heap.size + 1, 0, none⟩ = some (.bool a) := by rw [hbW.cell (p := ⟨w.heap.size + 1, 0, none⟩) (by simp)]; simp [go_sem]
    have hKb : W.cell? ⟨w.heap.size + 1, 1, none⟩ = some (.bool b) := by rw [hbW.cell (p := ⟨w.heap.size + 1, 1, none⟩) (by simp)]; simp [go_sem]
    have hlt : w.heap.size + 1 < W.heap.size := by have := hbW.size; simp at this; omega
    have HK : Hid (∀ w', Below W.heap.size W w' → w'.cell? ⟨w.heap.size + 1, 0, none⟩ = some (.bool a) ∧ w'.cell? ⟨w.heap.size + 1, 1, none⟩ = some (.bool b)) := fun w' h =>
      ⟨(h.cell (p := ⟨w.heap.size + 1, 0, none⟩) hlt).trans hKa, (h.cell (p := ⟨w.heap.size + 1, 1, none⟩) hlt).trans hKb⟩
    have HBW : Below w.heap.size w W := (by repeat (first | exact Below.refl _ _ | apply Bw.alloc | apply Bw.drewN | apply Bw.drew | (refine Bw.step ?_ (by assumption))))
    clear hKa hKb hlt hbW
    go_wp2_with fail
    go_region_held3 (fun w' => w'.cell? ⟨w.heap.size + 1, 0, none⟩ = some (.bool a) ∧ w'.cell? ⟨w.heap.size + 1, 1, none⟩ = some (.bool b)) (first | assumption | exact HK.out _ (by repeat (first | exact Below.refl _ _ | apply Bw.alloc | apply Bw.drewN | apply Bw.drew | (refine Bw.step ?_ (by assumption)))))
      (first
        | (go_at_call 41; refine (of_calls _ _ _ (frP o k s q v) _ (hm1.rd.below (by repeat (first | exact Below.refl _ _ | apply Bw.alloc | apply Bw.drewN | apply Bw.drew | (refine Bw.step ?_ (by assumption))))) (Nat.le_refl _) (by omega) HOK.out).mono ?_; rintro e w8 ⟨A8, m8, rfl, hl8, hm8, hb8⟩; have e8 : m8 = 112 := (by rw [hl8]); subst e8; clear hl8)
        | (go_at_call 64; refine (tail_calls a b _).mono ?_; rintro e w9 ⟨A9, rfl, hm9, hb9⟩)
        | (go_at_call 123
           refine (concat123_calls _ 2 2 [ofL (frP o k s q v), tailL a b] _ (Parts.lit (by simp) [(_, ofL (frP o k s q v)), (_, tailL a b)] (by
             intro r hr
             rcases List.mem_cons.1 hr with rfl | hr
             · exact ⟨_, 112, 112, rfl, by omega, by omega, hm8.rd.below (by repeat (first | exact Below.refl _ _ | apply Bw.alloc | apply Bw.drewN | apply Bw.drew | (refine Bw.step ?_ (by assumption)))), ofL_ok _⟩
             rcases List.mem_cons.1 hr with rfl | hr
             · exact ⟨_, 2, 2, rfl, by omega, by omega, hm9.rd.below (by repeat (first | exact Below.refl _ _ | apply Bw.alloc | apply Bw.drewN | apply Bw.drew | (refine Bw.step ?_ (by assumption)))), sy_ok _ _⟩
             cases hr)) (by omega) (by omega) (by rw [HFL.out, HL2.out]; omega)).mono ?_
           rintro e w10 ⟨A10, m10, c10, rfl, hl10, hc10, hm10, hb10⟩
           rw [HFL.out] at hl10 hm10
           rw [HL2.out] at hl10
           subst hl10
           have hm11 := hm10.mono (Below.size (show Below w.heap.size w _ from (by repeat (first | exact Below.refl _ _ | apply Bw.alloc | apply Bw.drewN | apply Bw.drew | (refine Bw.step ?_ (by assumption))))))
           have hcm := hm10.cap_le
           simp only [maxLen] at hcm
           have hci : (114 : Int) ≤ (c10 : Int) := by omega
           clear hm10))
    all_goals
      go_wp2
      go_ret2
      refine ⟨A10, ?_, ?_, (by repeat (first | exact Below.refl _ _ | apply Bw.alloc | apply Bw.drewN | apply Bw.drew | (refine Bw.step ?_ (by assumption))))⟩
      · rw [HE.out.2, HL2.out]; rfl
      · rw [HL2.out]; exact hm11.clip

/-- what 'Syms' answers, in the reference -/
def RefSymsPost (o : Int) (k s q v : Nat) (a b : Bool) (w : World) (e : Ending) (w' : World) : Prop :=
  ∃ A c, e = .returned (.tuple #[.slice A (syP o k s q v a b).length c, .int .i64 (errP o k)]) ∧ (syP o k s q v a b).length ≤ c ∧ Mn w' w.heap.size 50 1 (.slice A (syP o k s q v a b).length c) (syP o k s q v a b).length (nums .u8 (syP o k s q v a b)) ∧ Below w.heap.size w w'

set_option maxHeartbeats 6400000 in
set_option maxRecDepth 20000 in
theorem refsyms_calls (o : Int) (k s q v : Nat) (a b : Bool) (w : World) (hs : s ≤ 255) (hq : q < 4294967296) (hv : v < 4294967296) :
    Calls Try.prog 61 #[.agg #[.int .i64 o, .int .u8 k, .int .u8 s, .int .u32 q, .int .u32 v], .agg #[.bool a, .bool b]] w (RefSymsPost o k s q v a b w) := by
  have HP := Lib.hid (fun w => refput5_calls o k s q v w hs hq hv)
  cases hm : mayB o k with
  | false =>
    have HM := Lib.hid hm
    have HE := Lib.hid (show syP o k s q v a b = [] ∧ errP o k = 1 by simp [syP, errP, hm])
    clear hm
    go_enter Try.func61, Try.ntmps61
    go_wp2_with fail
    refine (HP.out _).mono ?_; rintro e w1 ⟨A1, c1, rfl, hc1, hm1, hb1⟩
    rewrite [HE.out.2]
    go_wp2
    go_ret2
    refine ⟨none, 0, ?_, ?_, ?_, (by repeat (first | exact Below.refl _ _ | apply Bw.alloc | apply Bw.drewN | apply Bw.drew | (refine Bw.step ?_ (by assumption))))⟩ <;> rw [HE.out.1] <;> first | exact Nat.le_refl _ | exact Mn.nil _ _ _ _ | (rw [HE.out.2]; rfl)
  | true =>
    have HM := Lib.hid hm
    have HE := Lib.hid (show syP o k s q v a b = ofL (frP o k s q v) ++ tailL a b ∧ errP o k = 0 by simp [syP, errP, hm])
    have HL := Lib.hid (frP_length o k s q v hm)
    have HL2 := Lib.hid (syP_length o k s q v a b hm)
    have HOK := Lib.hid (frP_ok o k s q v hs)
    clear hm
    go_enter Try.func61, Try.ntmps61
    go_wp2_with fail
    refine (HP.out _).mono ?_; rintro e W ⟨A1, c1, he, hc1, hm1, hbW⟩
    rw [HE.out.2, HL.out] at he
    rw [HL.out] at hm1 hc1
    subst he
    have hKa : W.cell? ⟨w.heap.size + 1, 0, none⟩ = some (.bool a) := by rw [hbW.cell (p := ⟨w.heap.size + 1, 0, none⟩) (by simp)]; simp [go_sem]
    have hKb : W.cell? ⟨w.heap.size + 1, 1, none⟩ = some (.bool b) := by rw [hbW.cell (p := ⟨w.heap.size + 1, 1, none⟩) (by simp)]; simp [go_sem]
    have hlt : w.heap.size + 1 < W.heap.size := by have := hbW.size; simp at this; omega
    have HK : Hid (∀ w', Below W.heap.size W w' → w'.cell? ⟨w.heap.size + 1, 0, none⟩ = some (.bool a) ∧ w'.cell? ⟨w.heap.size + 1, 1, none⟩ = some (.bool b)) := fun w' h =>
      ⟨(h.cell (p := ⟨w.heap.size + 1, 0, none⟩) hlt).trans hKa, (h.cell (p := ⟨w.heap.size + 1, 1, none⟩) hlt).trans hKb⟩
    have HBW : Below w.heap.size w W := (by repeat (first | exact Below.refl _ _ | apply Bw.alloc | apply Bw.drewN | apply Bw.drew | (refine Bw.step ?_ (by assumption))))
    clear hKa hKb hlt hbW
    go_wp2_with fail
    go_region_held3 (fun w' => w'.cell? ⟨w.heap.size + 1, 0, none⟩ = some (.bool a) ∧ w'.cell? ⟨w.heap.size + 1, 1, none⟩ = some (.bool b)) (first | assumption | exact HK.out _ (by repeat (first | exact Below.refl _ _ | apply Bw.alloc | apply Bw.drewN | apply Bw.drew | (refine Bw.step ?_ (by assumption)))))
      (first
        | (go_at_call 46; refine (refof_calls _ _ _ (frP o k s q v) _ (hm1.rd.below (by repeat (first | exact Below.refl _ _ | apply Bw.alloc | apply Bw.drewN | apply Bw.drew | (refine Bw.step ?_ (by assumption))))) hc1 (by omega) HOK.out).mono ?_; rintro e w8 ⟨A8, m8, c8, rfl, hl8, hc8, hm8, hb8⟩; have e8 : m8 = 112 := (by rw [hl8]); subst e8; clear hl8)
        | (go_at_call 65; refine (reftail_calls a b _).mono ?_; rintro e w9 ⟨A9, rfl, hm9, hb9⟩; have hm8' := hm8.below hb9)
        | (refine step_append_mn rfl _ _ _ rfl W.heap.size 50 _ 1 1 Try.underlying22 info50 rfl (by omega) (.slice A8 112 c8) 112 (nums .u8 (ofL (frP o k s q v))) rfl (hm8'.mono (Nat.le_refl _)) A9 2 2 (nums .u8 (tailL a b)) rfl hm9.reads (nums_one _ _) (by omega) (by omega) (by have := hb8.size; have := hb9.size; simp at *; omega) ?_
           intro A10 c10 w10 hc10 hm10 hg10 hat10
           have hb10 : Below W.heap.size W w10 := (show Below W.heap.size W w9 from (by repeat (first | exact Below.refl _ _ | apply Bw.alloc | apply Bw.drewN | apply Bw.drew | (refine Bw.step ?_ (by assumption))))).grown hg10 (by have := hb8.size; have := hb9.size; simp at *; omega) (fun q hq => (hm8'.block hq).1)
           clear hg10 hat10))
    all_goals
      go_wp2
      go_ret2
      refine ⟨A10, c10, ?_, ?_, ?_, (by repeat (first | exact Below.refl _ _ | apply Bw.alloc | apply Bw.drewN | apply Bw.drew | (refine Bw.step ?_ (by assumption))))⟩
      · rw [HE.out.2, HL2.out]; rfl
      · rw [HL2.out]; exact hc10
      · rw [HL2.out, HE.out.1, nums_append]; exact hm10.mono HBW.size
end Go.Proofs.Ytnmhhjgiakijgaa
