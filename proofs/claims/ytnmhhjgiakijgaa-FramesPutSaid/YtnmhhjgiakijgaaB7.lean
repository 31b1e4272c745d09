/- FramesPut: what the call returns. -/
import Derived.Test.YtnmhhjgiakijgaaA28
import Derived.Test.YtnmhhjgiakijgaaB5
namespace Go.Proofs.Ytnmhhjgiakijgaa
open Go.RowKit
set_option linter.unusedVariables false


/-- a block that holds cells -/
def Bx (w : World) (g : Nat) (cs : List Value) : Prop := g < w.heap.size ∧ ∀ j v, cs[j]? = some v → w.cell? ⟨g, j, none⟩ = some v
theorem Bx.new {w : World} {cs : Array Value} {e : TypeId} {a : Nat} (ha : a = w.heap.size) : Bx (w.alloc (.cells cs e)) a cs.toList := by
  subst ha
  refine ⟨by simp, fun j v hj => ?_⟩
  rw [cell_of_row _ w.heap.size j cs e (0, 0) (heap_alloc_new w _)]
  simpa using hj
theorem Bx.below {w w' : World} {g : Nat} {cs : List Value} (h : Bx w g cs) (hb : Below w.heap.size w w') : Bx w' g cs :=
  ⟨Nat.lt_of_lt_of_le h.1 hb.size, fun j v hj => (hb.cell (p := ⟨g, j, none⟩) h.1).trans (h.2 j v hj)⟩
theorem Bx.old {w w' : World} {g k : Nat} {cs : List Value} (h : Bx w g cs) (hb : Below k w w') (hg : g < k) : Bx w' g cs :=
  ⟨Nat.lt_of_lt_of_le h.1 hb.size, fun j v hj => (hb.cell (p := ⟨g, j, none⟩) hg).trans (h.2 j v hj)⟩
theorem Bx.c2 {w : World} {g : Nat} {a b : Value} (h : Bx w g [a, b]) : w.cell? ⟨g, 0, none⟩ = some a ∧ w.cell? ⟨g, 1, none⟩ = some b := ⟨h.2 0 _ rfl, h.2 1 _ rfl⟩
theorem Bx.c4 {w : World} {g : Nat} {a b c d : Value} (h : Bx w g [a, b, c, d]) : w.cell? ⟨g, 0, none⟩ = some a ∧ w.cell? ⟨g, 1, none⟩ = some b ∧ w.cell? ⟨g, 2, none⟩ = some c ∧ w.cell? ⟨g, 3, none⟩ = some d := ⟨h.2 0 _ rfl, h.2 1 _ rfl, h.2 2 _ rfl, h.2 3 _ rfl⟩
theorem Bx.c5 {w : World} {g : Nat} {a b c d e : Value} (h : Bx w g [a, b, c, d, e]) : w.cell? ⟨g, 0, none⟩ = some a ∧ w.cell? ⟨g, 1, none⟩ = some b ∧ w.cell? ⟨g, 2, none⟩ = some c ∧ w.cell? ⟨g, 3, none⟩ = some d ∧ w.cell? ⟨g, 4, none⟩ = some e := ⟨h.2 0 _ rfl, h.2 1 _ rfl, h.2 2 _ rfl, h.2 3 _ rfl, h.2 4 _ rfl⟩

set_option maxHeartbeats 6400000 in
set_option maxRecDepth 20000 in
theorem framesput_walk (o : Int) (k s q v : Nat) (a b : Bool) (w : World) (hs : s ≤ 255) (hq : q < 4294967296) (hv : v < 4294967296) :
    Calls Try.prog 10 #[.int .i64 o, .agg #[.int .u8 k, .int .u8 s, .int .u32 q, .int .u32 v], .agg #[.bool a, .bool b]] w fun e w' => e = .returned (.bool true) ∧ Below w.heap.size w w' := by
  have HP := Lib.hid (fun w => put5_calls o k s q v w hs hq hv)
  have HRP := Lib.hid (fun w => refput5_calls o k s q v w hs hq hv)
  have HS := Lib.hid (fun w => syms_calls o k s q v a b w hs hq hv)
  have HRS := Lib.hid (fun w => refsyms_calls o k s q v a b w hs hq hv)
  have H58 := Lib.hid (fun w => of58_calls o k s q v w)
  have S1 := Lib.hid (sameL_self (frP o k s q v))
  have S2 := Lib.hid (sameL_self (syP o k s q v a b))
  have S3 := Lib.hid (sameL_self (tailL a b))
  have HOK := Lib.hid (frP_ok o k s q v hs)
  obtain ⟨m, hm⟩ : ∃ m, (frP o k s q v).length = m := ⟨_, rfl⟩
  obtain ⟨n, hn⟩ : ∃ n, (syP o k s q v a b).length = n := ⟨_, rfl⟩
  obtain ⟨er, her⟩ : ∃ er, errP o k = er := ⟨_, rfl⟩
  have HMN := Lib.hid (show m ≤ 14 ∧ n ≤ 114 from by
    cases hmay : mayB o k with
    | true => rw [← hm, ← hn, frP_length _ _ _ _ _ hmay, syP_length _ _ _ _ _ _ _ hmay]; omega
    | false => rw [← hm, ← hn]; simp [frP, syP, hmay])
  have HM := Lib.hid hm
  have HN := Lib.hid hn
  have HER := Lib.hid her
  clear hm hn her
  go_enter Try.func10, Try.ntmps10
  go_wp2_with fail
  refine (H58.out _).mono ?_; rintro e w1 ⟨rfl, hb1⟩
  go_wp2_with fail
  refine (HP.out _).mono ?_; rintro e w2 ⟨A2, rfl, hm2, hb2⟩
  rewrite [HM.out, HER.out]
  rw [HM.out] at hm2
  have B4 := Lib.hid (show Bx w2 w.heap.size [.int .u8 k, .int .u8 s, .int .u32 q, .int .u32 v] from (Bx.new (w := w) (e := 82) rfl).below (by repeat (first | exact Below.refl _ _ | apply Bw.alloc | apply Bw.drewN | apply Bw.drew | (refine Bw.step ?_ (by assumption)))))
  have B2 := Lib.hid (show Bx w2 (w.heap.size + 1) [.bool a, .bool b] from (Bx.new (w := w.alloc (.cells #[.int .u8 k, .int .u8 s, .int .u32 q, .int .u32 v] 82)) (cs := #[.bool a, .bool b]) (e := 83) (by simp)).below (by repeat (first | exact Below.refl _ _ | apply Bw.alloc | apply Bw.drewN | apply Bw.drew | (refine Bw.step ?_ (by assumption)))))
  have B5 := Lib.hid (show Bx w2 (w.heap.size + 1 + 1) [.int .i64 o, .int .u8 k, .int .u8 s, .int .u32 q, .int .u32 v] from (Bx.new (w := (w.alloc (.cells #[.int .u8 k, .int .u8 s, .int .u32 q, .int .u32 v] 82)).alloc (.cells #[.bool a, .bool b] 83)) (e := 85) (by simp)).below (by repeat (first | exact Below.refl _ _ | apply Bw.alloc | apply Bw.drewN | apply Bw.drew | (refine Bw.step ?_ (by assumption)))))
  have HW2 : Below w.heap.size w w2 := (by repeat (first | exact Below.refl _ _ | apply Bw.alloc | apply Bw.drewN | apply Bw.drew | (refine Bw.step ?_ (by assumption))))
  have hw1 : w.heap.size ≤ w1.heap.size := (show Below w.heap.size w w1 from (by repeat (first | exact Below.refl _ _ | apply Bw.alloc | apply Bw.drewN | apply Bw.drew | (refine Bw.step ?_ (by assumption))))).size
  clear hb1 hb2
  have HM2 := Lib.hid (hm2.mono hw1)
  clear hm2
  obtain ⟨c0, c1, c2, c3, c4⟩ := B5.out.c5
  go_wp2_with fail
  clear c0 c1 c2 c3 c4
  refine (HRP.out _).mono ?_; rintro e w3 ⟨A3, d3, rfl, hd3, hm3, hb3⟩
  rewrite [HM.out, HER.out]
  rw [HM.out] at hm3 hd3
  obtain ⟨c0, c1⟩ := (B2.out.below hb3).c2
  obtain ⟨c2, c3⟩ := ((B2.out.below hb3).below (Bw.alloc (Below.refl _ _) (.cells #[.bool a, .bool b] 93))).c2
  have B93 := Lib.hid (show Bx ((w3.alloc (.cells #[.bool a, .bool b] 93)).alloc (.cells #[.bool a, .bool b] 94)) w3.heap.size [.bool a, .bool b] from (Bx.new (w := w3) (cs := #[.bool a, .bool b]) (e := 93) rfl).below (by repeat (first | exact Below.refl _ _ | apply Bw.alloc | apply Bw.drewN | apply Bw.drew | (refine Bw.step ?_ (by assumption)))))
  have B94 := Lib.hid (show Bx ((w3.alloc (.cells #[.bool a, .bool b] 93)).alloc (.cells #[.bool a, .bool b] 94)) (w3.heap.size + 1) [.bool a, .bool b] from (Bx.new (w := w3.alloc (.cells #[.bool a, .bool b] 93)) (cs := #[.bool a, .bool b]) (e := 94) (by simp)))
  have hb5 : Below w2.heap.size w2 ((w3.alloc (.cells #[.bool a, .bool b] 93)).alloc (.cells #[.bool a, .bool b] 94)) := (by repeat (first | exact Below.refl _ _ | apply Bw.alloc | apply Bw.drewN | apply Bw.drew | (refine Bw.step ?_ (by assumption))))
  have hb5' : Below w3.heap.size w3 ((w3.alloc (.cells #[.bool a, .bool b] 93)).alloc (.cells #[.bool a, .bool b] 94)) := (by repeat (first | exact Below.refl _ _ | apply Bw.alloc | apply Bw.drewN | apply Bw.drew | (refine Bw.step ?_ (by assumption))))
  go_wp2_with fail
  clear c0 c1 c2 c3
  generalize (w3.alloc (.cells #[.bool a, .bool b] 93)).alloc (.cells #[.bool a, .bool b] 94) = W at *
  have hm3' := hm3.below hb5'
  have hlt12 : w3.heap.size < W.heap.size := B93.out.1
  generalize w3.heap.size = g12 at *
  have HWW : Below w.heap.size w W := Bw.step HW2 hb5
  have HM2' := Lib.hid (HM2.out.below hb5)
  have C4 := Lib.hid (B4.out.below hb5)
  have C5 := Lib.hid (B5.out.below hb5)
  clear B4 B5 B2 HM2 hm3 hb3 hb5 hb5' HW2
  have HK : Hid (∀ w', Below W.heap.size W w' → w'.cell? ⟨w.heap.size, 0, none⟩ = some (.int .u8 k) ∧ w'.cell? ⟨w.heap.size, 1, none⟩ = some (.int .u8 s) ∧ w'.cell? ⟨w.heap.size, 2, none⟩ = some (.int .u32 q) ∧ w'.cell? ⟨w.heap.size, 3, none⟩ = some (.int .u32 v) ∧ w'.cell? ⟨g12, 0, none⟩ = some (.bool a) ∧ w'.cell? ⟨g12, 1, none⟩ = some (.bool b)) := fun w' h =>
    ⟨(C4.out.below h).c4.1, (C4.out.below h).c4.2.1, (C4.out.below h).c4.2.2.1, (C4.out.below h).c4.2.2.2, (B93.out.below h).c2.1, (B93.out.below h).c2.2⟩
  go_region_held3 (fun w' => w'.cell? ⟨w.heap.size, 0, none⟩ = some (.int .u8 k) ∧ w'.cell? ⟨w.heap.size, 1, none⟩ = some (.int .u8 s) ∧ w'.cell? ⟨w.heap.size, 2, none⟩ = some (.int .u32 q) ∧ w'.cell? ⟨w.heap.size, 3, none⟩ = some (.int .u32 v) ∧ w'.cell? ⟨g12, 0, none⟩ = some (.bool a) ∧ w'.cell? ⟨g12, 1, none⟩ = some (.bool b)) (first | assumption | exact HK.out _ (by repeat (first | exact Below.refl _ _ | apply Bw.alloc | apply Bw.drewN | apply Bw.drew | (refine Bw.step ?_ (by assumption)))))
    (first
      | (go_at_call 58; refine (H58.out _).mono ?_; rintro e w8 ⟨rfl, hb8⟩)
      | (go_at_call 60; refine (HS.out _).mono ?_; rintro e w9 ⟨A9, rfl, hm9, hb9⟩; rewrite [HN.out, HER.out]; rw [HN.out] at hm9))
  have H3 := Lib.hid hm3'
  have H9 := Lib.hid hm9
  have HW9 : Below W.heap.size W w9 := (by repeat (first | exact Below.refl _ _ | apply Bw.alloc | apply Bw.drewN | apply Bw.drew | (refine Bw.step ?_ (by assumption))))
  have HD3 := Lib.hid hd3
  have hsz8 : W.heap.size ≤ w8.heap.size := hb8.size
  clear hm3' hm9 hb8 hb9 hd3
  obtain ⟨c0, c1, c2, c3, c4⟩ := (C5.out.below HW9).c5
  obtain ⟨c5, c6⟩ := (B94.out.below HW9).c2
  go_wp2_with fail
  clear c0 c1 c2 c3 c4 c5 c6
  refine (HRS.out _).mono ?_; rintro e X ⟨A10, d10, rfl, hd10, hm10, hb10⟩
  rewrite [HN.out, HER.out]
  rw [HN.out] at hm10 hd10
  have H10 := Lib.hid hm10
  have HX : Below W.heap.size W X := Bw.step HW9 hb10
  have HX9 := Lib.hid hb10
  have HD10 := Lib.hid hd10
  clear hm10 hb10 hd10
  go_wp2_with fail
  have HKX : Hid (∀ w', Below X.heap.size X w' → w'.cell? ⟨g12, 0, none⟩ = some (.bool a) ∧ w'.cell? ⟨g12, 1, none⟩ = some (.bool b) ∧ w'.cell? ⟨g12 + 1, 0, none⟩ = some (.bool a) ∧ w'.cell? ⟨g12 + 1, 1, none⟩ = some (.bool b)) := fun w' h =>
    ⟨((B93.out.below HX).below h).c2.1, ((B93.out.below HX).below h).c2.2, ((B94.out.below HX).below h).c2.1, ((B94.out.below HX).below h).c2.2⟩
  have HS2 := Lib.hid (fun w' (h : Below X.heap.size X w') => samesyms_calls A9 A10 n n n d10 (syP o k s q v a b) (syP o k s q v a b) w' (H9.out.rd.below (HX9.out.trans (h.mono HX9.out.size))) (H10.out.rd.below h) (Nat.le_refl _) HD10.out (by have := HMN.out; omega))
  obtain ⟨gd, hgd⟩ : ∃ gd, (a && !b) = gd := ⟨_, rfl⟩
  have HGD := Lib.hid hgd
  clear hgd
  go_region_held3 (fun w' => w'.cell? ⟨g12, 0, none⟩ = some (.bool a) ∧ w'.cell? ⟨g12, 1, none⟩ = some (.bool b) ∧ w'.cell? ⟨g12 + 1, 0, none⟩ = some (.bool a) ∧ w'.cell? ⟨g12 + 1, 1, none⟩ = some (.bool b)) (first | assumption | exact HKX.out _ (by repeat (first | exact Below.refl _ _ | apply Bw.alloc | apply Bw.drewN | apply Bw.drew | (refine Bw.step ?_ (by assumption)))))
    (first
      | (go_at_call 47; refine (samebytes_calls _ _ _ _ _ _ (frP o k s q v) (frP o k s q v) _ ((HM2'.out.rd).below (by repeat (first | exact Below.refl _ _ | apply Bw.alloc | apply Bw.drewN | apply Bw.drew | (refine Bw.step ?_ (by assumption))))) (H3.out.rd.below (by repeat (first | exact Below.refl _ _ | apply Bw.alloc | apply Bw.drewN | apply Bw.drew | (refine Bw.step ?_ (by assumption))))) HOK.out HOK.out).mono ?_; rintro e w' ⟨rfl, rfl⟩; rewrite [S1.out])
      | (go_at_call 32; (with_reducible refine (HS2.out _ ?hb).mono ?_); (case hb => exact (by repeat (first | exact Below.refl _ _ | apply Bw.alloc | apply Bw.drewN | apply Bw.drew | (refine Bw.step ?_ (by assumption))))); rintro e w' ⟨rfl, q1, rfl⟩; rewrite [S2.out])
      | (go_at_call 62; refine (good_calls a b _).mono ?_; rintro e w11 ⟨rfl, hb11⟩; rewrite [HGD.out])
      | (go_at_call 63; refine (refgood_calls a b _).mono ?_; rintro e w12 ⟨rfl, hb12⟩; rewrite [HGD.out])
      | (go_at_call 64; refine (tail_calls a b _).mono ?_; rintro e w13 ⟨A13, rfl, hm13, hb13⟩)
      | (go_at_call 65; refine (reftail_calls a b _).mono ?_; rintro e w14 ⟨A14, rfl, hm14, hb14⟩)
      | (go_at_call 32; refine (samesyms_calls _ _ _ _ _ _ (tailL a b) (tailL a b) _ (hm13.rd.below (by repeat (first | exact Below.refl _ _ | apply Bw.alloc | apply Bw.drewN | apply Bw.drew | (refine Bw.step ?_ (by assumption))))) (hm14.rd.below (by repeat (first | exact Below.refl _ _ | apply Bw.alloc | apply Bw.drewN | apply Bw.drew | (refine Bw.step ?_ (by assumption))))) (Nat.le_refl _) (Nat.le_refl _) (by omega)).mono ?_; rintro e w' ⟨rfl, q2, rfl⟩; rewrite [S3.out]))
  have hz : Below X.heap.size X (w14.drewN q2) := (by repeat (first | exact Below.refl _ _ | apply Bw.alloc | apply Bw.drewN | apply Bw.drew | (refine Bw.step ?_ (by assumption))))
  clear hb11 hb12 hm13 hb13 hm14 hb14
  generalize hZe : w14.drewN q2 = Z at *
  clear hZe
  have hz9 : Below w9.heap.size w9 Z := Bw.step HX9.out hz
  have hzW : Below W.heap.size W Z := Bw.step HX hz
  have hzw : Below w.heap.size w Z := Bw.step HWW hzW
  have hm7 := HMN.out
  have s1 := hzW.size
  have s2 := HWW.size
  have s3 := HW9.size
  have s4 := hz9.size
  have p1 : ∀ q, Row.blk (A2, m) = some q → w.heap.size ≤ q ∧ q < W.heap.size := fun q hq => (RowAt.of_mn HM2'.out (by omega)).blk_ge hq
  have p2 : ∀ q, Row.blk (A9, n) = some q → w8.heap.size ≤ q ∧ q < w9.heap.size := fun q hq => (RowAt.of_mn H9.out (by omega)).blk_ge hq
  have r1 : RowAt (Z.alloc (.cells #[.slice none 0 0, .slice none 0 0, .slice none 0 0, .bool false] 34)) w.heap.size 5 (A2, m) := (RowAt.of_mn HM2'.out (by omega)).below (Bw.alloc hzW _)
  have r2 : RowAt (Z.alloc (.cells #[.slice none 0 0, .slice none 0 0, .slice none 0 0, .bool false] 34)) w.heap.size 50 (A9, n) := ((RowAt.of_mn H9.out (by omega)).below (Bw.alloc hz9 _)).mono (by omega)
  have hbw : Below w.heap.size w (Z.alloc (.cells #[.slice none 0 0, .slice none 0 0, .slice none 0 0, .bool false] 34)) := Bw.alloc hzw _
  have b93 : Bx (Z.alloc (.cells #[.slice none 0 0, .slice none 0 0, .slice none 0 0, .bool false] 34)) g12 [.bool a, .bool b] := B93.out.below (Bw.alloc hzW _)
  have hg12 : g12 < Z.heap.size := by omega
  have P1 := Lib.hid p1
  have P2 := Lib.hid p2
  have R1 := Lib.hid r1
  have R2 := Lib.hid r2
  have HBW := Lib.hid hbw
  have HB93 := Lib.hid b93
  have HG12 := Lib.hid hg12
  have HSZ := Lib.hid (And.intro s1 (And.intro s2 (And.intro s3 (And.intro s4 hsz8))))
  clear p1 p2 r1 r2 hbw b93 hg12 s1 s2 s3 s4 hsz8 hm7 hz hz9 hzW hzw HX HX9 HW9 HWW HKX HM2' H9 H10 H3 HS2 HK hlt12 B93 B94 C4 C5
  go_wp2_with fail
  have hbs := BS.new (w := Z) (B := w.heap.size) rfl (by have := HSZ.out; omega)
  refine (book_bytes w.heap.size Z.heap.size _ _ [] [] (A2, m) _ hbs (Fits.old hbs R1.out (fun q hq => by have := P1.out q hq; have := HSZ.out; omega) (by simp)) (by simp)).mono ?_
  rintro e w15 ⟨rfl, S15, hbs15, hk15, -⟩
  have r2 := R2.out.old (fun q hq => by have := P2.out q hq; have := HSZ.out; omega) hk15
  have hbw := HBW.out.trans (hk15.mono (by have := HSZ.out; omega))
  have b93 := HB93.out.old hk15 HG12.out
  clear R1 R2 HBW HB93 hk15 hbs
  have R2 := Lib.hid r2
  have HBW := Lib.hid hbw
  have HB93 := Lib.hid b93
  have HBS := Lib.hid hbs15
  clear r2 hbw b93 hbs15
  go_wp2_with fail
  refine (book_syms w.heap.size Z.heap.size _ _ _ [] (A9, n) _ HBS.out (Fits.old HBS.out R2.out (fun q hq => by have := P2.out q hq; have := HSZ.out; omega) (by
    intro r' hr'
    simp at hr'
    subst hr'
    exact blk_apart (fun q hq => (P1.out q hq).2) (fun q hq => by have := (P2.out q hq).1; have := HSZ.out; omega))) (by simp)).mono ?_
  rintro e w16 ⟨rfl, S16, hbs16, hk16, -⟩
  have hbw := HBW.out.trans (hk16.mono (by have := HSZ.out; omega))
  have b93 := HB93.out.old hk16 HG12.out
  clear R2 HBW HB93 hk16 HBS
  have HBW := Lib.hid hbw
  have HBS := Lib.hid hbs16
  obtain ⟨c0, c1⟩ := b93.c2
  clear hbw b93 hbs16
  go_wp2_with fail
  clear c0 c1
  refine (tail_calls a b _).mono ?_; rintro e w17 ⟨A17, rfl, hm17, hb17⟩
  have hr17 := RowAt.of_mn hm17 (by omega)
  have hf17 := Fits.fresh HBS.out hr17
  have hbs17 := HBS.out.below hb17
  have hbw := Bw.step HBW.out hb17
  clear HBW HBS hm17 hb17 hr17
  have HF17 := Lib.hid hf17
  have HBW := Lib.hid hbw
  have HBS := Lib.hid hbs17
  clear hf17 hbw hbs17
  go_wp2_with fail
  refine (book_syms w.heap.size Z.heap.size _ _ _ _ (A17, 2) _ HBS.out HF17.out (by simp)).mono ?_
  rintro e w18 ⟨rfl, S18, hbs18, hk18, -⟩
  have hbw := HBW.out.trans (hk18.mono (by have := HSZ.out; omega))
  clear HBW hk18 HBS HF17
  have HBW := Lib.hid hbw
  have HBS := Lib.hid hbs18
  clear hbw hbs18
  go_wp2_with fail
  refine (apart_calls w.heap.size Z.heap.size _ _ _ _ _ _ _ HBS.out rfl rfl).mono ?_
  rintro e w19 ⟨rfl, hb19⟩
  have hbw := HBW.out.trans hb19
  clear HBW hb19
  go_wp2_with fail
  refine (lives05 _).mono ?_; rintro e w20 ⟨rfl, hb20⟩
  have hbe := Bw.step hbw hb20
  go_wp2
  go_ret
  exact ⟨rfl, hbe⟩
end Go.Proofs.Ytnmhhjgiakijgaa
