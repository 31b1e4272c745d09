/- 'Book.Apart': the rows of a book lie apart. -/
import Derived.Test.YtnmhhjgiakijgaaA14
import Derived.Deep.RegionHeld3
namespace Go.Proofs.Ytnmhhjgiakijgaa
open Go.RowKit
set_option linter.unusedVariables false

theorem Row.blk_some {g m : Nat} (hm : 0 < m) : Row.blk (some ⟨g, 0, none⟩, m) = some g := by
  unfold Row.blk
  rw [if_neg (by simp only; omega)]
  rfl
theorem Mk.other {w : World} {r : Row} {m g j : Nat} {v : Value} (h : Mk w r m r.2) (hne : r.blk ≠ some g) : Mk (w.setCell ⟨g, j, none⟩ v) r m r.2 := by
  intro q hq g' hg'
  have hb : r.blk = some g' := by unfold Row.blk; rw [if_neg (by omega), hg']; rfl
  have hgg : g' ≠ g := fun e => hne (e ▸ hb)
  rw [World.cell?_of_block (w := w) (setCell_other w g j g' v hgg)]
  exact h q hq g' hg'
theorem Mk.next {w : World} {B g n m j : Nat} {e : TypeId} (h : Mk w (some ⟨g, 0, none⟩, n) m j) (hr : RowAt w B e (some ⟨g, 0, none⟩, n)) (hj : j < n) : Mk (w.setCell ⟨g, j, none⟩ (.int .u8 m)) (some ⟨g, 0, none⟩, n) m (j + 1) := by
  intro q hq g' hg'
  obtain ⟨g2, cur, h1, h2, h3, h4⟩ := hr.2 (by simp only; omega)
  have e1 : g = g2 := by simpa using h1
  have e2 : g = g' := by simpa using hg'
  subst e1
  subst e2
  rw [cell_of_row _ g q _ e (0, 0) (setCell_row w g j _ cur e h3)]
  by_cases hqj : q = j
  · subst hqj
    simp only at h4
    rw [Array.getElem?_setIfInBounds_self_of_lt (by omega)]
  · rw [Array.getElem?_setIfInBounds_ne (Ne.symm hqj), ← cell_of_row w g q cur e (0, 0) h3]
    exact h q (by omega) g rfl

section
variable {w : World} {B k : Nat} {Bv Sv : Value} {bs ss : List Row} {g m i j t : Nat} {v : Value}

/-- an element of a row may be written -/
theorem RowAt.cell {e : TypeId} (h : RowAt w B e (some ⟨g, 0, none⟩, m)) (hj : j < m) : (∃ u, w.cell? ⟨g, j, none⟩ = some u) ∧ w.frozen? ⟨g, j, none⟩ = false := by
  obtain ⟨g2, cur, h1, h2, h3, h4⟩ := h.2 (by simp only; omega)
  have e1 : g = g2 := by simpa using h1
  subst e1
  simp only at h4
  refine ⟨⟨cur[j]'(by omega), ?_⟩, by simp [World.frozen?, h3]⟩
  rw [cell_of_row w g j cur e (0, 0) h3]
  exact Array.getElem?_eq_getElem _
theorem RowAt.set {e : TypeId} {r : Row} (h : RowAt w B e r) : RowAt (w.setCell ⟨g, j, none⟩ v) B e r := by
  refine ⟨h.1, fun hp => ?_⟩
  obtain ⟨g2, cur, h1, h2, h3, h4⟩ := h.2 hp
  by_cases hg : g2 = g
  · subst hg
    exact ⟨g2, _, h1, h2, setCell_row w g2 j v cur e h3, by simpa using h4⟩
  · exact ⟨g2, cur, h1, h2, (setCell_other w g j g2 v hg).trans h3, h4⟩
/-- an element of a row is written: the book stands -/
theorem BS.store (h : BS w B k Bv Sv bs ss) {r : Row} (hr : r ∈ bs ++ ss) (hg : r.blk = some g) : BS (w.setCell ⟨g, j, none⟩ v) B k Bv Sv bs ss := by
  have ho := h.off r hr g hg
  exact ⟨(setCell_other w g j k v (Ne.symm ho.1)).trans h.book, h.hB, h.hb.same fun q hq _ => setCell_other w g j q v (fun e => ho.2.1 (e ▸ hq)), h.hs.same fun q hq _ => setCell_other w g j q v (fun e => ho.2.2 (e ▸ hq)),
    fun r hr => (h.rb r hr).set, fun r hr => (h.rs r hr).set, h.apart, h.off, h.heads, h.few⟩
theorem BS.fullB (h : BS w B k Bv Sv bs ss) {r : Row} (hr : bs[i]? = some r) (hg : r.blk = some g) (hf : Full w bs t i) : Full (w.setCell ⟨g, j, none⟩ v) bs t i := by
  intro i' hi' r' hr'
  refine (hf i' hi' r' hr').other fun e => ?_
  have hp := List.pairwise_iff_getElem.1 (List.pairwise_append.1 h.apart).1
  obtain ⟨h1, h2⟩ := List.getElem?_eq_some_iff.1 hr'
  obtain ⟨h3, h4⟩ := List.getElem?_eq_some_iff.1 hr
  have := hp i' i h1 h3 hi'
  rw [h2, h4, e, hg] at this
  cases this rfl
theorem BS.fullS (h : BS w B k Bv Sv bs ss) {r : Row} (hr : ss[i]? = some r) (hg : r.blk = some g) (hf : Full w ss t i) : Full (w.setCell ⟨g, j, none⟩ v) ss t i := by
  intro i' hi' r' hr'
  refine (hf i' hi' r' hr').other fun e => ?_
  have hp := List.pairwise_iff_getElem.1 (List.pairwise_append.1 h.apart).2.1
  obtain ⟨h1, h2⟩ := List.getElem?_eq_some_iff.1 hr'
  obtain ⟨h3, h4⟩ := List.getElem?_eq_some_iff.1 hr
  have := hp i' i h1 h3 hi'
  rw [h2, h4, e, hg] at this
  cases this rfl
theorem BS.fullBS (h : BS w B k Bv Sv bs ss) {r : Row} (hr : ss[i]? = some r) (hg : r.blk = some g) {c : Nat} (hf : Full w bs t c) : Full (w.setCell ⟨g, j, none⟩ v) bs t c := by
  intro i' hi' r' hr'
  refine (hf i' hi' r' hr').other fun e => ?_
  have := (List.pairwise_append.1 h.apart).2.2 r' (List.mem_of_getElem? hr') r (List.mem_of_getElem? hr)
  rw [e, hg] at this
  cases this rfl
theorem Full.next {rs : List Row} {r : Row} (h : Full w rs t i) (hr : rs[i]? = some r) (hm : Mk w r (markOf i t) r.2) : Full w rs t (i + 1) := by
  intro i' hi' r' hr'
  rcases Nat.lt_succ_iff_lt_or_eq.1 hi' with h1 | h1
  · exact h i' h1 r' hr'
  · subst h1
    have : r' = r := Option.some.inj (hr'.symm.trans hr)
    rw [this]
    exact hm
end

theorem below_drew {B : Nat} {w W : World} (h : Below B w W) : Below B w W.drew := ⟨h.os, h.tape, h.output, h.size, h.block⟩
theorem hdr_cell {w : World} {B : Nat} {e : TypeId} {b o n c i m : Nat} {P : Option Addr} {rs : List Row} (h : Mn w B e 1 (.slice (some ⟨b, o, none⟩) n c) n (rs.map Row.val)) (hr : rs[i]? = some (P, m)) (hi : i < n) : w.cell? ⟨b, o + i, none⟩ = some (.slice P m m) := by
  obtain ⟨b', o', h1, hc⟩ := h.reads.2 (by omega)
  injection h1 with h1
  injection h1 with h1 h2
  subst h1
  subst h2
  refine hc i _ ?_
  rw [List.getElem?_map, hr]
  rfl

set_option maxHeartbeats 6400000 in
set_option maxRecDepth 20000 in
theorem apart_calls (B k nb ns : Nat) (Bv Sv : Value) (bs ss : List Row) (w : World) (h : BS w B k Bv Sv bs ss) (hnb : bs.length = nb) (hns : ss.length = ns) :
    Calls Try.prog 36 #[.pointer (some ⟨k, 0, none⟩)] w fun e w' => e = .returned (.bool true) ∧ Below B w w' := by
  have hmb := h.hb
  have hms := h.hs
  rw [hnb] at hmb
  rw [hns] at hms
  obtain ⟨A, cap, rfl, hcap⟩ := hmb.form
  obtain ⟨D, dap, rfl, hdap⟩ := hms.form
  have h100 : nb ≤ 100 := hnb ▸ h.few.1
  have h100' : ns ≤ 100 := hns ▸ h.few.2
  have c3 : w.cell? ⟨k, 3, none⟩ = some (.bool false) := h.cell 3
  have HB := Lib.hid h
  have HNB := Lib.hid hnb
  have HNS := Lib.hid hns
  have HC := Lib.hid hcap
  have HD := Lib.hid hdap
  clear h hmb hms hnb hns hcap hdap
  go_enter Try.func36, Try.ntmps36
  go_wp2
  clear c3
  go_loopg [3] 2 (fun g v w' => ∃ t : Nat, g + t = 2 ∧ v = .int .i64 t ∧ BS w' B k (.slice A nb cap) (.slice D ns dap) bs ss ∧ Below B w w')
  case atStart => exact ⟨0, rfl, rfl, HB.out, Below.refl _ _⟩
  case round =>
    obtain ⟨t, ht, rfl, hbs, hbw⟩ := hrel
    by_cases htl : t < 2
    · have HT := Lib.hid ht
      have HS := Lib.hid hbs
      have HW := Lib.hid hbw
      clear ht hbs hbw
      have htd : decide ((t : Int) < 2) = true := decide_eq_true (by omega)
      go_wp2
      go_loopg [4] nb (fun g v w' => ∃ i : Nat, g + i = nb ∧ v = .int .i64 i ∧ BS w' B k (.slice A nb cap) (.slice D ns dap) bs ss ∧ Below B w w' ∧ Full w' bs t i)
      case atStart => exact ⟨0, rfl, rfl, HS.out, HW.out, fun i hi => by omega⟩
      case round =>
        clear HS HW
        obtain ⟨i, hi, rfl, hbs, hbw, hfu⟩ := hrel
        have c0 : wr.cell? ⟨k, 0, none⟩ = some (.slice A nb cap) := hbs.cell 0
        by_cases hlt : i < nb
        · have HI := Lib.hid hi
          have HS := Lib.hid hbs
          have HW := Lib.hid hbw
          have HF := Lib.hid hfu
          clear hi hbs hbw hfu
          obtain ⟨b, o, P, m, rfl, hri, hrow⟩ := hdr_at (by have := HS.out.hb; rwa [HNB.out] at this) HNB.out i hlt
          have HRI := Lib.hid hri
          have hm6 : m ≤ 60000000 := (HS.out.rb _ (List.mem_of_getElem? hri)).1
          clear hri
          have HMC := Lib.hid (fun w => mark_calls i t (by omega) (by omega) w)
          go_wp2
          go_loopg [5] m (fun g v w' => ∃ j : Nat, g + j = m ∧ v = .int .i64 j ∧ BS w' B k (.slice (some ⟨b, o, none⟩) nb cap) (.slice D ns dap) bs ss ∧ Below B w w' ∧ Full w' bs t i ∧ Mk w' (P, m) (markOf i t) j)
          case atStart => exact ⟨0, rfl, rfl, HS.out, HW.out, HF.out, fun j hj => by omega⟩
          case round =>
            clear HS HW HF hrow c0
            obtain ⟨j, hj, rfl, hbs, hbw, hfu, hmk⟩ := hrel
            have c0 : wr.cell? ⟨k, 0, none⟩ = some (.slice (some ⟨b, o, none⟩) nb cap) := hbs.cell 0
            have hrow : wr.cell? ⟨b, o + i, none⟩ = some (.slice P m m) := hdr_cell (by have := hbs.hb; rwa [HNB.out] at this) HRI.out hlt
            have HJ := Lib.hid hj
            have HS := Lib.hid hbs
            have HW := Lib.hid hbw
            have HF := Lib.hid hfu
            have HM := Lib.hid hmk
            clear hj hbs hbw hfu hmk
            by_cases hjl : j < m
            · obtain ⟨g, cur, hP, hBg, -⟩ := (HS.out.rb _ (List.mem_of_getElem? HRI.out)).2 (by simp only; omega)
              simp only at hP
              subst hP
              obtain ⟨⟨u, hcu⟩, hfr⟩ := (HS.out.rb _ (List.mem_of_getElem? HRI.out)).cell hjl
              have HBG := Lib.hid hBg
              clear hBg
              have hm2 := markOf_lt i t
              generalize markOf i t = x at *
              have hx8 : IntKind.u8.wrap (x : Int) = x := by have : (x : Int) < 200 := by omega
                                                             rw [show IntKind.u8.wrap (x : Int) = (x : Int) % 256 from rfl]; omega
              have hst := HS.out.store (j := j) (v := .int .u8 x) (List.mem_append_left _ (List.mem_of_getElem? HRI.out)) (Row.blk_some (g := g) (m := m) (by omega))
              have k0 : (wr.setCell ⟨g, j, none⟩ (.int .u8 x)).drew.cell? ⟨k, 0, none⟩ = some (.slice (some ⟨b, o, none⟩) nb cap) := hst.cell 0
              have k1 : (wr.setCell ⟨g, j, none⟩ (.int .u8 x)).drew.cell? ⟨b, o + i, none⟩ = some (.slice (some ⟨g, 0, none⟩) m m) := hdr_cell (by have := hst.hb; rwa [HNB.out] at this) HRI.out hlt
              have HST := Lib.hid hst
              clear hst
              go_wp2
              go_region_held3 (fun w' => w'.cell? ⟨k, 0, none⟩ = some (.slice (some ⟨b, o, none⟩) nb cap) ∧ w'.cell? ⟨b, o + i, none⟩ = some (.slice (some ⟨g, 0, none⟩) m m)) (first | assumption | exact ⟨by assumption, by assumption⟩)
                (first | (go_at_call 103; (with_reducible refine (HMC.out _).mono ?_); rintro e w' ⟨rfl, rfl⟩))
              clear k0 k1 hcu hfr c0 hrow
              go_wp2
              obtain ⟨g', rfl⟩ : ∃ g', gk = g' + 1 := ⟨gk - 1, by have := HJ.out; omega⟩
              go_roundg g'
              case measure => omega
              case rel => exact ⟨j + 1, by have := HJ.out; omega, by go_num, HST.out.same fun _ _ => rfl, below_drew (HW.out.setCell (p := ⟨g, j, none⟩) HBG.out _), HS.out.fullB HRI.out (Row.blk_some (by omega)) HF.out, HM.out.next (HS.out.rb _ (List.mem_of_getElem? HRI.out)) hjl⟩
            · have hjm : j = m := by have := HJ.out; omega
              subst hjm
              go_wp2
              obtain ⟨g', hg'⟩ : ∃ g', nb = g' + (i + 1) := ⟨nb - (i + 1), by omega⟩
              have hg2 := HI.out
              go_roundg g'
              case measure => omega
              case rel => exact ⟨i + 1, by omega, by go_num, HS.out, HW.out, HF.out.next HRI.out HM.out⟩
        · have hin : nb = i := by omega
          subst hin
          have HS := Lib.hid hbs
          have HW := Lib.hid hbw
          have HF := Lib.hid hfu
          clear hi hbs hbw hfu
          have c1 : wr.cell? ⟨k, 1, none⟩ = some (.slice none 0 0) := HS.out.cell 1
          go_wp2
          go_loop [6] (fun v => v = .int .i64 0) (fun _ => 0)
          case atStart => rfl
          case round =>
            subst hrel
            go_wp2
            clear c0 c1
            go_loopg [8] ns (fun g v w' => ∃ i' : Nat, g + i' = ns ∧ v = .int .i64 i' ∧ BS w' B k (.slice A nb cap) (.slice D ns dap) bs ss ∧ Below B w w' ∧ Full w' bs t nb ∧ Full w' ss t i')
            case atStart => exact ⟨0, rfl, rfl, HS.out, HW.out, HF.out, fun i hi => by omega⟩
            case round =>
              obtain ⟨i, hi, rfl, hbs, hbw, hfb, hfu⟩ := hrel
              have c0 : wr.cell? ⟨k, 2, none⟩ = some (.slice D ns dap) := hbs.cell 2
              by_cases hlt : i < ns
              · have HI := Lib.hid hi
                have HS := Lib.hid hbs
                have HW := Lib.hid hbw
                have HF := Lib.hid hfu
                have HFB := Lib.hid hfb
                clear hi hbs hbw hfu hfb
                obtain ⟨b, o, P, m, rfl, hri, hrow⟩ := hdr_at (by have := HS.out.hs; rwa [HNS.out] at this) HNS.out i hlt
                have HRI := Lib.hid hri
                have hm6 : m ≤ 60000000 := (HS.out.rs _ (List.mem_of_getElem? hri)).1
                clear hri
                have HMC := Lib.hid (fun w => mark_calls i t (by omega) (by omega) w)
                go_wp2
                go_loopg [9] m (fun g v w' => ∃ j : Nat, g + j = m ∧ v = .int .i64 j ∧ BS w' B k (.slice A nb cap) (.slice (some ⟨b, o, none⟩) ns dap) bs ss ∧ Below B w w' ∧ Full w' bs t nb ∧ Full w' ss t i ∧ Mk w' (P, m) (markOf i t) j)
                case atStart => exact ⟨0, rfl, rfl, HS.out, HW.out, HFB.out, HF.out, fun j hj => by omega⟩
                case round =>
                  clear HS HW HF HFB hrow c0
                  obtain ⟨j, hj, rfl, hbs, hbw, hfb, hfu, hmk⟩ := hrel
                  have c0 : wr.cell? ⟨k, 2, none⟩ = some (.slice (some ⟨b, o, none⟩) ns dap) := hbs.cell 2
                  have hrow : wr.cell? ⟨b, o + i, none⟩ = some (.slice P m m) := hdr_cell (by have := hbs.hs; rwa [HNS.out] at this) HRI.out hlt
                  have HJ := Lib.hid hj
                  have HS := Lib.hid hbs
                  have HW := Lib.hid hbw
                  have HF := Lib.hid hfu
                  have HFB := Lib.hid hfb
                  have HM := Lib.hid hmk
                  clear hj hbs hbw hfu hmk hfb
                  by_cases hjl : j < m
                  · obtain ⟨g, cur, hP, hBg, -⟩ := (HS.out.rs _ (List.mem_of_getElem? HRI.out)).2 (by simp only; omega)
                    simp only at hP
                    subst hP
                    obtain ⟨⟨u, hcu⟩, hfr⟩ := (HS.out.rs _ (List.mem_of_getElem? HRI.out)).cell hjl
                    have HBG := Lib.hid hBg
                    clear hBg
                    have hm2 := markOf_lt i t
                    generalize markOf i t = x at *
                    have hx8 : IntKind.u8.wrap (x : Int) = x := by have : (x : Int) < 200 := by omega
                                                                   rw [show IntKind.u8.wrap (x : Int) = (x : Int) % 256 from rfl]; omega
                    have hst := HS.out.store (j := j) (v := .int .u8 x) (List.mem_append_right _ (List.mem_of_getElem? HRI.out)) (Row.blk_some (g := g) (m := m) (by omega))
                    have k0 : (wr.setCell ⟨g, j, none⟩ (.int .u8 x)).drew.cell? ⟨k, 2, none⟩ = some (.slice (some ⟨b, o, none⟩) ns dap) := hst.cell 2
                    have k1 : (wr.setCell ⟨g, j, none⟩ (.int .u8 x)).drew.cell? ⟨b, o + i, none⟩ = some (.slice (some ⟨g, 0, none⟩) m m) := hdr_cell (by have := hst.hs; rwa [HNS.out] at this) HRI.out hlt
                    have HST := Lib.hid hst
                    clear hst
                    go_wp2
                    go_region_held3 (fun w' => w'.cell? ⟨k, 2, none⟩ = some (.slice (some ⟨b, o, none⟩) ns dap) ∧ w'.cell? ⟨b, o + i, none⟩ = some (.slice (some ⟨g, 0, none⟩) m m)) (first | assumption | exact ⟨by assumption, by assumption⟩)
                      (first | (go_at_call 103; (with_reducible refine (HMC.out _).mono ?_); rintro e w' ⟨rfl, rfl⟩))
                    clear k0 k1 hcu hfr c0 hrow
                    go_wp2
                    obtain ⟨g', rfl⟩ : ∃ g', gk = g' + 1 := ⟨gk - 1, by have := HJ.out; omega⟩
                    go_roundg g'
                    case measure => omega
                    case rel => exact ⟨j + 1, by have := HJ.out; omega, by go_num, HST.out.same fun _ _ => rfl, below_drew (HW.out.setCell (p := ⟨g, j, none⟩) HBG.out _), HS.out.fullBS HRI.out (Row.blk_some (by omega)) HFB.out, HS.out.fullS HRI.out (Row.blk_some (by omega)) HF.out, HM.out.next (HS.out.rs _ (List.mem_of_getElem? HRI.out)) hjl⟩
                  · have hjm : j = m := by have := HJ.out; omega
                    subst hjm
                    go_wp2
                    obtain ⟨g', hg'⟩ : ∃ g', ns = g' + (i + 1) := ⟨ns - (i + 1), by omega⟩
                    have hg2 := HI.out
                    go_roundg g'
                    case measure => omega
                    case rel => exact ⟨i + 1, by omega, by go_num, HS.out, HW.out, HFB.out, HF.out.next HRI.out HM.out⟩
              · have hin : ns = i := by omega
                subst hin
                clear HS HW HF
                have HS := Lib.hid hbs
                have HW := Lib.hid hbw
                have HF := Lib.hid hfu
                have HFB := Lib.hid hfb
                clear hi hbs hbw hfu hfb
                go_wp2_with fail
                refine (kept_calls B k t nb ns _ _ bs ss _ HS.out HNB.out HNS.out (by omega) HFB.out HF.out).mono ?_
                rintro e w2 ⟨rfl, q, rfl⟩
                go_wp2
                obtain ⟨g', hg'⟩ : ∃ g', 2 = g' + (t + 1) := ⟨2 - (t + 1), by omega⟩
                have hg2 := HT.out
                go_roundg g'
                case measure => omega
                case rel => exact ⟨t + 1, by omega, by go_num, HS.out.drewN q, ⟨HW.out.os, HW.out.tape, HW.out.output, HW.out.size, HW.out.block⟩⟩
    · go_wp2
      go_ret
      exact ⟨rfl, hbw⟩
end Go.Proofs.Ytnmhhjgiakijgaa
