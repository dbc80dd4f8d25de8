/- script.read: its walk, a theorem a path (rw.py). -/
import Derived.Test.YtjapnbghnnbamaaGreatDoorRq
namespace Go.Proofs.YtjapnbghnnbamaaGreatDoor.Rw
open Go.Proofs.YtjapnbghnnbamaaGreatDoor.Plain (quote)
open Go.RowKit Go.Proofs.YtjapnbghnnbamaaGreatDoorW.PrintWords Go.Proofs.YtjapnbghnnbamaaGreatDoorW.PrintLast Go.Proofs.YtjapnbghnnbamaaGreatDoor.Ext Go.Proofs.YtjapnbghnnbamaaGreatDoor.Q Go.Proofs.YtjapnbghnnbamaaGreatDoor.S Go.Proofs.YtjapnbghnnbamaaGreatDoor.K Go.Proofs.YtjapnbghnnbamaaGreatDoor.L Go.Proofs.YtjapnbghnnbamaaGreatDoor.T Go.Proofs.YtjapnbghnnbamaaGreatDoor.W Go.Proofs.YtjapnbghnnbamaaGreatDoor.Rq Go.Maps
set_option linter.unusedVariables false
set_option linter.unusedSimpArgs false
set_option maxHeartbeats 16000000 in
set_option maxRecDepth 100000 in
theorem rd_7y (s X Y Z q : ByteArray) (i n : Int) (w : World) (hG : Glob w) (ok : Bool) (hY : Y = ⟨#[121, 101, 115]⟩) (hR : Rd s X Y Z q n 7 ok) : Calls Tryz.prog 15 #[.string s, .int .i64 i] w (Post s w (fun en => en = ⟨7, 0, 1, []⟩)) := by
  subst hY
  have HG := Aside0.mk hG
  have HR := Aside0.mk hR
  clear hG hR
  go_enter Tryz.func15, Tryz.ntmps15
  go_upto_region 1 with (fail)
  go_upto_region 3 with (first | (go_at_call 27; (with_reducible refine (HR.out.cut1 _ (HG.out.below (below_alloc (Below.refl _ _) _))).mono ?_); rintro e w1 ⟨⟨z1, rfl⟩, hb⟩; have HB1 := Aside0.mk hb; clear hb) | (go_at_call 28; (with_reducible refine (kinds_calls _).mono ?_); rintro e w2 ⟨rfl, ho, hb⟩; have HO := Aside0.mk ho; have HB2 := Aside0.mk hb; clear ho hb) | (at_lookup; refine wpList_lookup_own_int _ rfl _ _ 64 rfl 9 32 .i64 law Tryz.underlying64 Tryz.underlying32 (zero_kind _) _ 7 kindsD rfl HO.out _ _ rfl HR.out.key ?_; intro c hat _; have hc := HR.out.kind c hat; subst c; clear hat))
  obtain ⟨W1, hW1⟩ : ∃ W1, W1 = w2.alloc (Obj.cells #[.int .i64 7, .int .i64 0, .int .i64 0, .slice none 0 0] 35) := ⟨_, rfl⟩
  obtain ⟨g, hg⟩ : ∃ g, g = w.heap.size := ⟨_, rfl⟩
  obtain ⟨p, hp⟩ : ∃ p, p = w2.heap.size := ⟨_, rfl⟩
  have hgw2 : (w.alloc (Obj.cells #[.int .i64 0, .int .i64 0, .int .i64 0, .slice none 0 0] 35)).heap.size ≤ w2.heap.size := Nat.le_trans HB1.out.size HB2.out.size
  have hgp : g < p := by rw [hg, hp]; simp at hgw2; omega
  have hb12 := HB1.out.trans (HB2.out.mono HB1.out.size)
  have HP1 := Aside0.mk (show W1.heap[p]? = some (.cells #[.int .i64 7, .int .i64 0, .int .i64 0, .slice none 0 0] 35 (0, 0)) from by rw [hW1, hp]; exact blk_new w2 _)
  have HQ1 := Aside0.mk (show W1.heap[g]? = some (.cells #[.int .i64 0, .int .i64 0, .int .i64 0, .slice none 0 0] 35 (0, 0)) from by rw [hW1, hg]; exact blk_alloc (blk_below (blk_new w _) hb12) _)
  have HB5 := Aside0.mk (show Below g w W1 from by rw [hW1, hg]; exact ((below_alloc (Below.refl _ _) _).trans (hb12.mono (by simp))).trans (below_alloc ((Below.refl _ _)) _ |>.mono (by simp at hgw2; omega)))
  have HGE := Aside0.mk hg
  have HGP := Aside0.mk hgp
  rw [← hW1, ← hg, ← hp]
  clear HB1 HO HB2 hW1 hg hp hgw2 hgp hb12
  go_upto_region 6 with (first | (go_at_call 27; (with_reducible refine (HR.out.cut2 _ (HG.out.low HGE.out HB5.out)).mono ?_); rintro e w3 ⟨⟨z2, rfl⟩, hb⟩; have HB3 := Aside0.mk hb; clear hb) | (go_at_call 29; (with_reducible refine (HR.out.num _ (HG.out.low HGE.out (HB5.out.trans (HB3.out.mono (Nat.le_of_lt (blk_lt HQ1.out)))))).mono ?_); rintro e w4 ⟨⟨ev, rfl, he⟩, hb⟩; have HE := Aside0.mk he; have HB4 := Aside0.mk hb; clear hb he))
  have hb14 := HB3.out.trans (HB4.out.mono HB3.out.size)
  have HS := Aside0.mk (show St w w4 g p 7 0 0 (.slice none 0 0) [] w.heap.size from ⟨HGP.out, HGE.out, blk_below HP1.out hb14, blk_below HQ1.out hb14, HB5.out.trans (hb14.mono (Nat.le_of_lt (blk_lt HQ1.out))), Kd.R_nil _ _ _ _ _⟩)
  clear hb14 HB3 HB4 HB5 HP1 HQ1
  have c0 := HS.out.c0
  have c1 := HS.out.c1
  have c2 := HS.out.c2
  have c3 := HS.out.c3
  have q1 := HS.out.fp 1
  have q2 := HS.out.fp 2
  have q3 := HS.out.fp 3
  go_upto_region 14 with (fail)
  clear c0 c1 c2 c3 q1 q2 q3
  obtain ⟨W5, hW⟩ : ∃ W, W = (w4.setCell ⟨p, 2, none⟩ (.int .i64 0)).setCell ⟨p, 2, none⟩ (.int .i64 1) := ⟨_, rfl⟩
  have HT := Aside0.mk (show St w W5 g p 7 0 1 (.slice none 0 0) [] w.heap.size from by rw [hW]; exact (HS.out.set2 0).set2 1)
  rw [← hW]
  clear hW
  by_cases hm : MayE ⟨7, 0, 1, []⟩
  · have HMY := Aside0.mk hm
    clear hm
    by_cases hl : lineL ⟨7, 0, 1, []⟩ = s.data.toList
    · have HD := Aside0.mk (show s = ba (lineL ⟨7, 0, 1, []⟩) from ByteArray.ext (Array.toList_inj.1 (by rw [hl])))
      have HL := Aside0.mk hl
      clear hl
      have c0 := HT.out.c0
      have c1 := HT.out.c1
      have c2 := HT.out.c2
      have c3 := HT.out.c3
      have gp := HT.out.far
      have pg := Ne.symm HT.out.far
      go_wp2_with (first | (go_at_call 10; (with_reducible refine (HT.out.may_t HMY.out).mono ?_); rintro e w6 ⟨rfl, hb⟩; have HS6 := Aside0.mk (HT.out.below hb); clear c0 c1 c2 c3 gp pg; clear hb; have c0 := HS6.out.c0; have c1 := HS6.out.c1; have c2 := HS6.out.c2; have c3 := HS6.out.c3; have gp := HS6.out.far; have pg := Ne.symm HS6.out.far) | (go_at_call 21; (with_reducible refine (HS6.out.line HG.out HMY.out s HD.out).mono ?_); rintro e w7 ⟨rfl, hb⟩; have HS7 := Aside0.mk (HS6.out.below hb); clear c0 c1 c2 c3 gp pg; clear hb; have c0 := HS7.out.c0; have c1 := HS7.out.c1; have c2 := HS7.out.c2; have c3 := HS7.out.c3; have q1 := HS7.out.fp 1; have q2 := HS7.out.fp 2; have q3 := HS7.out.fp 3; have d0 := HS7.out.d0; have d1 := HS7.out.d1; have d2 := HS7.out.d2; have d3 := HS7.out.d3; have r0 := HS7.out.fg 0; have r1 := HS7.out.fg 1; have r2 := HS7.out.fg 2; have r3 := HS7.out.fg 3; have gp := HS7.out.far; have pg := Ne.symm HS7.out.far))
      try simp only [Exit.inBlock, Exit.then]
      exact bodyPost_ret (results_ct9 rfl _ _ g 35 _ (0, 0) _ rfl HS7.out.full Tryz.underlying35 rfl (by kernel_rfl)) rfl (⟨HS7.out.ret.1, .inl ⟨⟨7, 0, 1, []⟩, _, rfl, HS7.out.ret.2, HMY.out, HL.out⟩⟩)
    · obtain ⟨D, hD⟩ : ∃ D, D = ba (lineL ⟨7, 0, 1, []⟩) := ⟨_, rfl⟩
      have HD := Aside0.mk hD
      have hne : D ≠ s := fun e => hl (by rw [← e, hD])
      have hn2 : (D.toList == s.toList) = false := beq_eq_false_iff_ne.mpr (fun e => hne (ByteArray.ext (Array.toList_inj.1 (by rw [Lib.toList_data, Lib.toList_data] at e; exact e))))
      have HL := Aside0.mk hl
      clear hl hD
      have c0 := HT.out.c0
      have c1 := HT.out.c1
      have c2 := HT.out.c2
      have c3 := HT.out.c3
      have gp := HT.out.far
      have pg := Ne.symm HT.out.far
      go_wp2_with (first | (go_at_call 10; (with_reducible refine (HT.out.may_t HMY.out).mono ?_); rintro e w6 ⟨rfl, hb⟩; have HS6 := Aside0.mk (HT.out.below hb); clear c0 c1 c2 c3 gp pg; clear hb; have c0 := HS6.out.c0; have c1 := HS6.out.c1; have c2 := HS6.out.c2; have c3 := HS6.out.c3; have gp := HS6.out.far; have pg := Ne.symm HS6.out.far) | (go_at_call 21; (with_reducible refine (HS6.out.line HG.out HMY.out D HD.out).mono ?_); rintro e w7 ⟨rfl, hb⟩; have HS7 := Aside0.mk (HS6.out.below hb); clear c0 c1 c2 c3 gp pg; clear hb; have HS8 := Aside0.mk (show St w (w7.alloc (Obj.cells #[.int .i64 i] 69)) g p 7 0 1 (.slice none 0 0) [] w.heap.size from HS7.out.below (below_alloc (Below.refl _ _) _)); have c0 := HS7.out.c0; have c1 := HS7.out.c1; have c2 := HS7.out.c2; have c3 := HS7.out.c3; have d0 := HS7.out.d0; have d1 := HS7.out.d1; have d2 := HS7.out.d2; have d3 := HS7.out.d3; have r0 := HS7.out.fg 0; have r1 := HS7.out.fg 1; have r2 := HS7.out.fg 2; have r3 := HS7.out.fg 3; have dd0 := HS8.out.d0; have dd1 := HS8.out.d1; have dd2 := HS8.out.d2; have dd3 := HS8.out.d3; have rr0 := HS8.out.fg 0; have rr1 := HS8.out.fg 1; have rr2 := HS8.out.fg 2; have rr3 := HS8.out.fg 3; have gz : g ≠ w7.heap.size := Nat.ne_of_lt (blk_lt HS7.out.Q); have gy : (g = w7.heap.size) = False := eq_false gz; have gp := HS7.out.far; have pg := Ne.symm HS7.out.far))
      try simp only [Exit.inBlock, Exit.then]
      exact bodyPost_ret (results_ct9 rfl _ _ g 35 _ (0, 0) _ rfl HS8.out.full Tryz.underlying35 rfl (by kernel_rfl)) rfl (⟨HS8.out.ret.1, .inr ⟨⟨_, _, _, _, _, _, _, rfl⟩, fun en hp _ hh => HL.out (hp ▸ hh)⟩⟩)
  · have HMY := Aside0.mk hm
    clear hm
    have c0 := HT.out.c0
    have c1 := HT.out.c1
    have c2 := HT.out.c2
    have c3 := HT.out.c3
    have gp := HT.out.far
    have pg := Ne.symm HT.out.far
    go_wp2_with (first | (go_at_call 10; (with_reducible refine (HT.out.may_f HMY.out).mono ?_); rintro e w6 ⟨rfl, hb⟩; have HS6 := Aside0.mk (HT.out.below hb); clear c0 c1 c2 c3 gp pg; clear hb; have HS8 := Aside0.mk (show St w (w6.alloc (Obj.cells #[.int .i64 i] 69)) g p 7 0 1 (.slice none 0 0) [] w.heap.size from HS6.out.below (below_alloc (Below.refl _ _) _)); have c0 := HS6.out.c0; have c1 := HS6.out.c1; have c2 := HS6.out.c2; have c3 := HS6.out.c3; have d0 := HS6.out.d0; have d1 := HS6.out.d1; have d2 := HS6.out.d2; have d3 := HS6.out.d3; have r0 := HS6.out.fg 0; have r1 := HS6.out.fg 1; have r2 := HS6.out.fg 2; have r3 := HS6.out.fg 3; have dd0 := HS8.out.d0; have dd1 := HS8.out.d1; have dd2 := HS8.out.d2; have dd3 := HS8.out.d3; have rr0 := HS8.out.fg 0; have rr1 := HS8.out.fg 1; have rr2 := HS8.out.fg 2; have rr3 := HS8.out.fg 3; have gz : g ≠ w6.heap.size := Nat.ne_of_lt (blk_lt HS6.out.Q); have gy : (g = w6.heap.size) = False := eq_false gz; have gp := HS6.out.far; have pg := Ne.symm HS6.out.far))
    try simp only [Exit.inBlock, Exit.then]
    exact bodyPost_ret (results_ct9 rfl _ _ g 35 _ (0, 0) _ rfl HS8.out.full Tryz.underlying35 rfl (by kernel_rfl)) rfl (⟨HS8.out.ret.1, .inr ⟨⟨_, _, _, _, _, _, _, rfl⟩, fun en hp hh _ => HMY.out (hp ▸ hh)⟩⟩)
set_option maxHeartbeats 16000000 in
set_option maxRecDepth 100000 in
theorem rd_7n (s X Y Z q : ByteArray) (i n : Int) (w : World) (hG : Glob w) (ok : Bool) (hY : Y ≠ ⟨#[121, 101, 115]⟩) (hR : Rd s X Y Z q n 7 ok) : Calls Tryz.prog 15 #[.string s, .int .i64 i] w (Post s w (fun en => en = ⟨7, 0, 0, []⟩)) := by
  have y2 : (Y.toList == [121, 101, 115]) = false := beq_eq_false_iff_ne.mpr (fun e => hY (ByteArray.ext (Array.toList_inj.1 (by rw [Lib.toList_data] at e; exact e))))
  have HG := Aside0.mk hG
  have HR := Aside0.mk hR
  clear hG hR
  go_enter Tryz.func15, Tryz.ntmps15
  go_upto_region 1 with (fail)
  go_upto_region 3 with (first | (go_at_call 27; (with_reducible refine (HR.out.cut1 _ (HG.out.below (below_alloc (Below.refl _ _) _))).mono ?_); rintro e w1 ⟨⟨z1, rfl⟩, hb⟩; have HB1 := Aside0.mk hb; clear hb) | (go_at_call 28; (with_reducible refine (kinds_calls _).mono ?_); rintro e w2 ⟨rfl, ho, hb⟩; have HO := Aside0.mk ho; have HB2 := Aside0.mk hb; clear ho hb) | (at_lookup; refine wpList_lookup_own_int _ rfl _ _ 64 rfl 9 32 .i64 law Tryz.underlying64 Tryz.underlying32 (zero_kind _) _ 7 kindsD rfl HO.out _ _ rfl HR.out.key ?_; intro c hat _; have hc := HR.out.kind c hat; subst c; clear hat))
  obtain ⟨W1, hW1⟩ : ∃ W1, W1 = w2.alloc (Obj.cells #[.int .i64 7, .int .i64 0, .int .i64 0, .slice none 0 0] 35) := ⟨_, rfl⟩
  obtain ⟨g, hg⟩ : ∃ g, g = w.heap.size := ⟨_, rfl⟩
  obtain ⟨p, hp⟩ : ∃ p, p = w2.heap.size := ⟨_, rfl⟩
  have hgw2 : (w.alloc (Obj.cells #[.int .i64 0, .int .i64 0, .int .i64 0, .slice none 0 0] 35)).heap.size ≤ w2.heap.size := Nat.le_trans HB1.out.size HB2.out.size
  have hgp : g < p := by rw [hg, hp]; simp at hgw2; omega
  have hb12 := HB1.out.trans (HB2.out.mono HB1.out.size)
  have HP1 := Aside0.mk (show W1.heap[p]? = some (.cells #[.int .i64 7, .int .i64 0, .int .i64 0, .slice none 0 0] 35 (0, 0)) from by rw [hW1, hp]; exact blk_new w2 _)
  have HQ1 := Aside0.mk (show W1.heap[g]? = some (.cells #[.int .i64 0, .int .i64 0, .int .i64 0, .slice none 0 0] 35 (0, 0)) from by rw [hW1, hg]; exact blk_alloc (blk_below (blk_new w _) hb12) _)
  have HB5 := Aside0.mk (show Below g w W1 from by rw [hW1, hg]; exact ((below_alloc (Below.refl _ _) _).trans (hb12.mono (by simp))).trans (below_alloc ((Below.refl _ _)) _ |>.mono (by simp at hgw2; omega)))
  have HGE := Aside0.mk hg
  have HGP := Aside0.mk hgp
  rw [← hW1, ← hg, ← hp]
  clear HB1 HO HB2 hW1 hg hp hgw2 hgp hb12
  go_upto_region 6 with (first | (go_at_call 27; (with_reducible refine (HR.out.cut2 _ (HG.out.low HGE.out HB5.out)).mono ?_); rintro e w3 ⟨⟨z2, rfl⟩, hb⟩; have HB3 := Aside0.mk hb; clear hb) | (go_at_call 29; (with_reducible refine (HR.out.num _ (HG.out.low HGE.out (HB5.out.trans (HB3.out.mono (Nat.le_of_lt (blk_lt HQ1.out)))))).mono ?_); rintro e w4 ⟨⟨ev, rfl, he⟩, hb⟩; have HE := Aside0.mk he; have HB4 := Aside0.mk hb; clear hb he))
  have hb14 := HB3.out.trans (HB4.out.mono HB3.out.size)
  have HS := Aside0.mk (show St w w4 g p 7 0 0 (.slice none 0 0) [] w.heap.size from ⟨HGP.out, HGE.out, blk_below HP1.out hb14, blk_below HQ1.out hb14, HB5.out.trans (hb14.mono (Nat.le_of_lt (blk_lt HQ1.out))), Kd.R_nil _ _ _ _ _⟩)
  clear hb14 HB3 HB4 HB5 HP1 HQ1
  have c0 := HS.out.c0
  have c1 := HS.out.c1
  have c2 := HS.out.c2
  have c3 := HS.out.c3
  have q1 := HS.out.fp 1
  have q2 := HS.out.fp 2
  have q3 := HS.out.fp 3
  go_upto_region 14 with (fail)
  clear c0 c1 c2 c3 q1 q2 q3
  obtain ⟨W5, hW⟩ : ∃ W, W = w4.setCell ⟨p, 2, none⟩ (.int .i64 0) := ⟨_, rfl⟩
  have HT := Aside0.mk (show St w W5 g p 7 0 0 (.slice none 0 0) [] w.heap.size from by rw [hW]; exact HS.out.set2 0)
  rw [← hW]
  clear hW
  by_cases hm : MayE ⟨7, 0, 0, []⟩
  · have HMY := Aside0.mk hm
    clear hm
    by_cases hl : lineL ⟨7, 0, 0, []⟩ = s.data.toList
    · have HD := Aside0.mk (show s = ba (lineL ⟨7, 0, 0, []⟩) from ByteArray.ext (Array.toList_inj.1 (by rw [hl])))
      have HL := Aside0.mk hl
      clear hl
      have c0 := HT.out.c0
      have c1 := HT.out.c1
      have c2 := HT.out.c2
      have c3 := HT.out.c3
      have gp := HT.out.far
      have pg := Ne.symm HT.out.far
      go_wp2_with (first | (go_at_call 10; (with_reducible refine (HT.out.may_t HMY.out).mono ?_); rintro e w6 ⟨rfl, hb⟩; have HS6 := Aside0.mk (HT.out.below hb); clear c0 c1 c2 c3 gp pg; clear hb; have c0 := HS6.out.c0; have c1 := HS6.out.c1; have c2 := HS6.out.c2; have c3 := HS6.out.c3; have gp := HS6.out.far; have pg := Ne.symm HS6.out.far) | (go_at_call 21; (with_reducible refine (HS6.out.line HG.out HMY.out s HD.out).mono ?_); rintro e w7 ⟨rfl, hb⟩; have HS7 := Aside0.mk (HS6.out.below hb); clear c0 c1 c2 c3 gp pg; clear hb; have c0 := HS7.out.c0; have c1 := HS7.out.c1; have c2 := HS7.out.c2; have c3 := HS7.out.c3; have q1 := HS7.out.fp 1; have q2 := HS7.out.fp 2; have q3 := HS7.out.fp 3; have d0 := HS7.out.d0; have d1 := HS7.out.d1; have d2 := HS7.out.d2; have d3 := HS7.out.d3; have r0 := HS7.out.fg 0; have r1 := HS7.out.fg 1; have r2 := HS7.out.fg 2; have r3 := HS7.out.fg 3; have gp := HS7.out.far; have pg := Ne.symm HS7.out.far))
      try simp only [Exit.inBlock, Exit.then]
      exact bodyPost_ret (results_ct9 rfl _ _ g 35 _ (0, 0) _ rfl HS7.out.full Tryz.underlying35 rfl (by kernel_rfl)) rfl (⟨HS7.out.ret.1, .inl ⟨⟨7, 0, 0, []⟩, _, rfl, HS7.out.ret.2, HMY.out, HL.out⟩⟩)
    · obtain ⟨D, hD⟩ : ∃ D, D = ba (lineL ⟨7, 0, 0, []⟩) := ⟨_, rfl⟩
      have HD := Aside0.mk hD
      have hne : D ≠ s := fun e => hl (by rw [← e, hD])
      have hn2 : (D.toList == s.toList) = false := beq_eq_false_iff_ne.mpr (fun e => hne (ByteArray.ext (Array.toList_inj.1 (by rw [Lib.toList_data, Lib.toList_data] at e; exact e))))
      have HL := Aside0.mk hl
      clear hl hD
      have c0 := HT.out.c0
      have c1 := HT.out.c1
      have c2 := HT.out.c2
      have c3 := HT.out.c3
      have gp := HT.out.far
      have pg := Ne.symm HT.out.far
      go_wp2_with (first | (go_at_call 10; (with_reducible refine (HT.out.may_t HMY.out).mono ?_); rintro e w6 ⟨rfl, hb⟩; have HS6 := Aside0.mk (HT.out.below hb); clear c0 c1 c2 c3 gp pg; clear hb; have c0 := HS6.out.c0; have c1 := HS6.out.c1; have c2 := HS6.out.c2; have c3 := HS6.out.c3; have gp := HS6.out.far; have pg := Ne.symm HS6.out.far) | (go_at_call 21; (with_reducible refine (HS6.out.line HG.out HMY.out D HD.out).mono ?_); rintro e w7 ⟨rfl, hb⟩; have HS7 := Aside0.mk (HS6.out.below hb); clear c0 c1 c2 c3 gp pg; clear hb; have HS8 := Aside0.mk (show St w (w7.alloc (Obj.cells #[.int .i64 i] 69)) g p 7 0 0 (.slice none 0 0) [] w.heap.size from HS7.out.below (below_alloc (Below.refl _ _) _)); have c0 := HS7.out.c0; have c1 := HS7.out.c1; have c2 := HS7.out.c2; have c3 := HS7.out.c3; have d0 := HS7.out.d0; have d1 := HS7.out.d1; have d2 := HS7.out.d2; have d3 := HS7.out.d3; have r0 := HS7.out.fg 0; have r1 := HS7.out.fg 1; have r2 := HS7.out.fg 2; have r3 := HS7.out.fg 3; have dd0 := HS8.out.d0; have dd1 := HS8.out.d1; have dd2 := HS8.out.d2; have dd3 := HS8.out.d3; have rr0 := HS8.out.fg 0; have rr1 := HS8.out.fg 1; have rr2 := HS8.out.fg 2; have rr3 := HS8.out.fg 3; have gz : g ≠ w7.heap.size := Nat.ne_of_lt (blk_lt HS7.out.Q); have gy : (g = w7.heap.size) = False := eq_false gz; have gp := HS7.out.far; have pg := Ne.symm HS7.out.far))
      try simp only [Exit.inBlock, Exit.then]
      exact bodyPost_ret (results_ct9 rfl _ _ g 35 _ (0, 0) _ rfl HS8.out.full Tryz.underlying35 rfl (by kernel_rfl)) rfl (⟨HS8.out.ret.1, .inr ⟨⟨_, _, _, _, _, _, _, rfl⟩, fun en hp _ hh => HL.out (hp ▸ hh)⟩⟩)
  · have HMY := Aside0.mk hm
    clear hm
    have c0 := HT.out.c0
    have c1 := HT.out.c1
    have c2 := HT.out.c2
    have c3 := HT.out.c3
    have gp := HT.out.far
    have pg := Ne.symm HT.out.far
    go_wp2_with (first | (go_at_call 10; (with_reducible refine (HT.out.may_f HMY.out).mono ?_); rintro e w6 ⟨rfl, hb⟩; have HS6 := Aside0.mk (HT.out.below hb); clear c0 c1 c2 c3 gp pg; clear hb; have HS8 := Aside0.mk (show St w (w6.alloc (Obj.cells #[.int .i64 i] 69)) g p 7 0 0 (.slice none 0 0) [] w.heap.size from HS6.out.below (below_alloc (Below.refl _ _) _)); have c0 := HS6.out.c0; have c1 := HS6.out.c1; have c2 := HS6.out.c2; have c3 := HS6.out.c3; have d0 := HS6.out.d0; have d1 := HS6.out.d1; have d2 := HS6.out.d2; have d3 := HS6.out.d3; have r0 := HS6.out.fg 0; have r1 := HS6.out.fg 1; have r2 := HS6.out.fg 2; have r3 := HS6.out.fg 3; have dd0 := HS8.out.d0; have dd1 := HS8.out.d1; have dd2 := HS8.out.d2; have dd3 := HS8.out.d3; have rr0 := HS8.out.fg 0; have rr1 := HS8.out.fg 1; have rr2 := HS8.out.fg 2; have rr3 := HS8.out.fg 3; have gz : g ≠ w6.heap.size := Nat.ne_of_lt (blk_lt HS6.out.Q); have gy : (g = w6.heap.size) = False := eq_false gz; have gp := HS6.out.far; have pg := Ne.symm HS6.out.far))
    try simp only [Exit.inBlock, Exit.then]
    exact bodyPost_ret (results_ct9 rfl _ _ g 35 _ (0, 0) _ rfl HS8.out.full Tryz.underlying35 rfl (by kernel_rfl)) rfl (⟨HS8.out.ret.1, .inr ⟨⟨_, _, _, _, _, _, _, rfl⟩, fun en hp hh _ => HMY.out (hp ▸ hh)⟩⟩)
end Go.Proofs.YtjapnbghnnbamaaGreatDoor.Rw
namespace Go.Proofs.YtjapnbghnnbamaaGreatDoor.Rw
open Go.Proofs.YtjapnbghnnbamaaGreatDoor.Plain (quote)
open Go.RowKit Go.Proofs.YtjapnbghnnbamaaGreatDoorW.PrintWords Go.Proofs.YtjapnbghnnbamaaGreatDoorW.PrintLast Go.Proofs.YtjapnbghnnbamaaGreatDoor.Ext Go.Proofs.YtjapnbghnnbamaaGreatDoor.Q Go.Proofs.YtjapnbghnnbamaaGreatDoor.S Go.Proofs.YtjapnbghnnbamaaGreatDoor.K Go.Proofs.YtjapnbghnnbamaaGreatDoor.L Go.Proofs.YtjapnbghnnbamaaGreatDoor.T Go.Proofs.YtjapnbghnnbamaaGreatDoor.W Go.Proofs.YtjapnbghnnbamaaGreatDoor.Rq Go.Maps
set_option linter.unusedVariables false
set_option linter.unusedSimpArgs false
set_option maxHeartbeats 16000000 in
set_option maxRecDepth 100000 in
theorem rd_1y (s X Y Z q : ByteArray) (i n : Int) (w : World) (hG : Glob w) (hR : Rd s X Y Z q n 1 true) : Calls Tryz.prog 15 #[.string s, .int .i64 i] w (Post s w (fun en => en = ⟨1, 0, n, []⟩)) := by
  have HG := Aside0.mk hG
  have HR := Aside0.mk hR
  clear hG hR
  go_enter Tryz.func15, Tryz.ntmps15
  go_upto_region 1 with (fail)
  go_upto_region 3 with (first | (go_at_call 27; (with_reducible refine (HR.out.cut1 _ (HG.out.below (below_alloc (Below.refl _ _) _))).mono ?_); rintro e w1 ⟨⟨z1, rfl⟩, hb⟩; have HB1 := Aside0.mk hb; clear hb) | (go_at_call 28; (with_reducible refine (kinds_calls _).mono ?_); rintro e w2 ⟨rfl, ho, hb⟩; have HO := Aside0.mk ho; have HB2 := Aside0.mk hb; clear ho hb) | (at_lookup; refine wpList_lookup_own_int _ rfl _ _ 64 rfl 9 32 .i64 law Tryz.underlying64 Tryz.underlying32 (zero_kind _) _ 7 kindsD rfl HO.out _ _ rfl HR.out.key ?_; intro c hat _; have hc := HR.out.kind c hat; subst c; clear hat))
  obtain ⟨W1, hW1⟩ : ∃ W1, W1 = w2.alloc (Obj.cells #[.int .i64 1, .int .i64 0, .int .i64 0, .slice none 0 0] 35) := ⟨_, rfl⟩
  obtain ⟨g, hg⟩ : ∃ g, g = w.heap.size := ⟨_, rfl⟩
  obtain ⟨p, hp⟩ : ∃ p, p = w2.heap.size := ⟨_, rfl⟩
  have hgw2 : (w.alloc (Obj.cells #[.int .i64 0, .int .i64 0, .int .i64 0, .slice none 0 0] 35)).heap.size ≤ w2.heap.size := Nat.le_trans HB1.out.size HB2.out.size
  have hgp : g < p := by rw [hg, hp]; simp at hgw2; omega
  have hb12 := HB1.out.trans (HB2.out.mono HB1.out.size)
  have HP1 := Aside0.mk (show W1.heap[p]? = some (.cells #[.int .i64 1, .int .i64 0, .int .i64 0, .slice none 0 0] 35 (0, 0)) from by rw [hW1, hp]; exact blk_new w2 _)
  have HQ1 := Aside0.mk (show W1.heap[g]? = some (.cells #[.int .i64 0, .int .i64 0, .int .i64 0, .slice none 0 0] 35 (0, 0)) from by rw [hW1, hg]; exact blk_alloc (blk_below (blk_new w _) hb12) _)
  have HB5 := Aside0.mk (show Below g w W1 from by rw [hW1, hg]; exact ((below_alloc (Below.refl _ _) _).trans (hb12.mono (by simp))).trans (below_alloc ((Below.refl _ _)) _ |>.mono (by simp at hgw2; omega)))
  have HGE := Aside0.mk hg
  have HGP := Aside0.mk hgp
  rw [← hW1, ← hg, ← hp]
  clear HB1 HO HB2 hW1 hg hp hgw2 hgp hb12
  go_upto_region 6 with (first | (go_at_call 27; (with_reducible refine (HR.out.cut2 _ (HG.out.low HGE.out HB5.out)).mono ?_); rintro e w3 ⟨⟨z2, rfl⟩, hb⟩; have HB3 := Aside0.mk hb; clear hb) | (go_at_call 29; (with_reducible refine (HR.out.num _ (HG.out.low HGE.out (HB5.out.trans (HB3.out.mono (Nat.le_of_lt (blk_lt HQ1.out)))))).mono ?_); rintro e w4 ⟨⟨ev, rfl, he⟩, hb⟩; have HE := Aside0.mk he; have HB4 := Aside0.mk hb; clear hb he))
  have hb14 := HB3.out.trans (HB4.out.mono HB3.out.size)
  have HS := Aside0.mk (show St w w4 g p 1 0 0 (.slice none 0 0) [] w.heap.size from ⟨HGP.out, HGE.out, blk_below HP1.out hb14, blk_below HQ1.out hb14, HB5.out.trans (hb14.mono (Nat.le_of_lt (blk_lt HQ1.out))), Kd.R_nil _ _ _ _ _⟩)
  clear hb14 HB3 HB4 HB5 HP1 HQ1
  obtain rfl := HE.out.1 (by trivial)
  clear HE
  have c0 := HS.out.c0
  have c1 := HS.out.c1
  have c2 := HS.out.c2
  have c3 := HS.out.c3
  have q1 := HS.out.fp 1
  have q2 := HS.out.fp 2
  have q3 := HS.out.fp 3
  go_upto_region 14 with (fail)
  clear c0 c1 c2 c3 q1 q2 q3
  obtain ⟨W5, hW⟩ : ∃ W, W = w4.setCell ⟨p, 2, none⟩ (.int .i64 n) := ⟨_, rfl⟩
  have HT := Aside0.mk (show St w W5 g p 1 0 n (.slice none 0 0) [] w.heap.size from by rw [hW]; exact HS.out.set2 n)
  rw [← hW]
  clear hW
  by_cases hm : MayE ⟨1, 0, n, []⟩
  · have HMY := Aside0.mk hm
    clear hm
    by_cases hl : lineL ⟨1, 0, n, []⟩ = s.data.toList
    · have HD := Aside0.mk (show s = ba (lineL ⟨1, 0, n, []⟩) from ByteArray.ext (Array.toList_inj.1 (by rw [hl])))
      have HL := Aside0.mk hl
      clear hl
      have c0 := HT.out.c0
      have c1 := HT.out.c1
      have c2 := HT.out.c2
      have c3 := HT.out.c3
      have gp := HT.out.far
      have pg := Ne.symm HT.out.far
      go_wp2_with (first | (go_at_call 10; (with_reducible refine (HT.out.may_t HMY.out).mono ?_); rintro e w6 ⟨rfl, hb⟩; have HS6 := Aside0.mk (HT.out.below hb); clear c0 c1 c2 c3 gp pg; clear hb; have c0 := HS6.out.c0; have c1 := HS6.out.c1; have c2 := HS6.out.c2; have c3 := HS6.out.c3; have gp := HS6.out.far; have pg := Ne.symm HS6.out.far) | (go_at_call 21; (with_reducible refine (HS6.out.line HG.out HMY.out s HD.out).mono ?_); rintro e w7 ⟨rfl, hb⟩; have HS7 := Aside0.mk (HS6.out.below hb); clear c0 c1 c2 c3 gp pg; clear hb; have c0 := HS7.out.c0; have c1 := HS7.out.c1; have c2 := HS7.out.c2; have c3 := HS7.out.c3; have q1 := HS7.out.fp 1; have q2 := HS7.out.fp 2; have q3 := HS7.out.fp 3; have d0 := HS7.out.d0; have d1 := HS7.out.d1; have d2 := HS7.out.d2; have d3 := HS7.out.d3; have r0 := HS7.out.fg 0; have r1 := HS7.out.fg 1; have r2 := HS7.out.fg 2; have r3 := HS7.out.fg 3; have gp := HS7.out.far; have pg := Ne.symm HS7.out.far))
      try simp only [Exit.inBlock, Exit.then]
      exact bodyPost_ret (results_ct9 rfl _ _ g 35 _ (0, 0) _ rfl HS7.out.full Tryz.underlying35 rfl (by kernel_rfl)) rfl (⟨HS7.out.ret.1, .inl ⟨⟨1, 0, n, []⟩, _, rfl, HS7.out.ret.2, HMY.out, HL.out⟩⟩)
    · obtain ⟨D, hD⟩ : ∃ D, D = ba (lineL ⟨1, 0, n, []⟩) := ⟨_, rfl⟩
      have HD := Aside0.mk hD
      have hne : D ≠ s := fun e => hl (by rw [← e, hD])
      have hn2 : (D.toList == s.toList) = false := beq_eq_false_iff_ne.mpr (fun e => hne (ByteArray.ext (Array.toList_inj.1 (by rw [Lib.toList_data, Lib.toList_data] at e; exact e))))
      have HL := Aside0.mk hl
      clear hl hD
      have c0 := HT.out.c0
      have c1 := HT.out.c1
      have c2 := HT.out.c2
      have c3 := HT.out.c3
      have gp := HT.out.far
      have pg := Ne.symm HT.out.far
      go_wp2_with (first | (go_at_call 10; (with_reducible refine (HT.out.may_t HMY.out).mono ?_); rintro e w6 ⟨rfl, hb⟩; have HS6 := Aside0.mk (HT.out.below hb); clear c0 c1 c2 c3 gp pg; clear hb; have c0 := HS6.out.c0; have c1 := HS6.out.c1; have c2 := HS6.out.c2; have c3 := HS6.out.c3; have gp := HS6.out.far; have pg := Ne.symm HS6.out.far) | (go_at_call 21; (with_reducible refine (HS6.out.line HG.out HMY.out D HD.out).mono ?_); rintro e w7 ⟨rfl, hb⟩; have HS7 := Aside0.mk (HS6.out.below hb); clear c0 c1 c2 c3 gp pg; clear hb; have HS8 := Aside0.mk (show St w (w7.alloc (Obj.cells #[.int .i64 i] 69)) g p 1 0 n (.slice none 0 0) [] w.heap.size from HS7.out.below (below_alloc (Below.refl _ _) _)); have c0 := HS7.out.c0; have c1 := HS7.out.c1; have c2 := HS7.out.c2; have c3 := HS7.out.c3; have d0 := HS7.out.d0; have d1 := HS7.out.d1; have d2 := HS7.out.d2; have d3 := HS7.out.d3; have r0 := HS7.out.fg 0; have r1 := HS7.out.fg 1; have r2 := HS7.out.fg 2; have r3 := HS7.out.fg 3; have dd0 := HS8.out.d0; have dd1 := HS8.out.d1; have dd2 := HS8.out.d2; have dd3 := HS8.out.d3; have rr0 := HS8.out.fg 0; have rr1 := HS8.out.fg 1; have rr2 := HS8.out.fg 2; have rr3 := HS8.out.fg 3; have gz : g ≠ w7.heap.size := Nat.ne_of_lt (blk_lt HS7.out.Q); have gy : (g = w7.heap.size) = False := eq_false gz; have gp := HS7.out.far; have pg := Ne.symm HS7.out.far))
      try simp only [Exit.inBlock, Exit.then]
      exact bodyPost_ret (results_ct9 rfl _ _ g 35 _ (0, 0) _ rfl HS8.out.full Tryz.underlying35 rfl (by kernel_rfl)) rfl (⟨HS8.out.ret.1, .inr ⟨⟨_, _, _, _, _, _, _, rfl⟩, fun en hp _ hh => HL.out (hp ▸ hh)⟩⟩)
  · have HMY := Aside0.mk hm
    clear hm
    have c0 := HT.out.c0
    have c1 := HT.out.c1
    have c2 := HT.out.c2
    have c3 := HT.out.c3
    have gp := HT.out.far
    have pg := Ne.symm HT.out.far
    go_wp2_with (first | (go_at_call 10; (with_reducible refine (HT.out.may_f HMY.out).mono ?_); rintro e w6 ⟨rfl, hb⟩; have HS6 := Aside0.mk (HT.out.below hb); clear c0 c1 c2 c3 gp pg; clear hb; have HS8 := Aside0.mk (show St w (w6.alloc (Obj.cells #[.int .i64 i] 69)) g p 1 0 n (.slice none 0 0) [] w.heap.size from HS6.out.below (below_alloc (Below.refl _ _) _)); have c0 := HS6.out.c0; have c1 := HS6.out.c1; have c2 := HS6.out.c2; have c3 := HS6.out.c3; have d0 := HS6.out.d0; have d1 := HS6.out.d1; have d2 := HS6.out.d2; have d3 := HS6.out.d3; have r0 := HS6.out.fg 0; have r1 := HS6.out.fg 1; have r2 := HS6.out.fg 2; have r3 := HS6.out.fg 3; have dd0 := HS8.out.d0; have dd1 := HS8.out.d1; have dd2 := HS8.out.d2; have dd3 := HS8.out.d3; have rr0 := HS8.out.fg 0; have rr1 := HS8.out.fg 1; have rr2 := HS8.out.fg 2; have rr3 := HS8.out.fg 3; have gz : g ≠ w6.heap.size := Nat.ne_of_lt (blk_lt HS6.out.Q); have gy : (g = w6.heap.size) = False := eq_false gz; have gp := HS6.out.far; have pg := Ne.symm HS6.out.far))
    try simp only [Exit.inBlock, Exit.then]
    exact bodyPost_ret (results_ct9 rfl _ _ g 35 _ (0, 0) _ rfl HS8.out.full Tryz.underlying35 rfl (by kernel_rfl)) rfl (⟨HS8.out.ret.1, .inr ⟨⟨_, _, _, _, _, _, _, rfl⟩, fun en hp hh _ => HMY.out (hp ▸ hh)⟩⟩)
set_option maxHeartbeats 16000000 in
set_option maxRecDepth 100000 in
theorem rd_1n (s X Y Z q : ByteArray) (i n : Int) (w : World) (hG : Glob w) (hR : Rd s X Y Z q n 1 false) : Calls Tryz.prog 15 #[.string s, .int .i64 i] w (Post s w (fun en => False)) := by
  have HG := Aside0.mk hG
  have HR := Aside0.mk hR
  clear hG hR
  go_enter Tryz.func15, Tryz.ntmps15
  go_upto_region 1 with (fail)
  go_upto_region 3 with (first | (go_at_call 27; (with_reducible refine (HR.out.cut1 _ (HG.out.below (below_alloc (Below.refl _ _) _))).mono ?_); rintro e w1 ⟨⟨z1, rfl⟩, hb⟩; have HB1 := Aside0.mk hb; clear hb) | (go_at_call 28; (with_reducible refine (kinds_calls _).mono ?_); rintro e w2 ⟨rfl, ho, hb⟩; have HO := Aside0.mk ho; have HB2 := Aside0.mk hb; clear ho hb) | (at_lookup; refine wpList_lookup_own_int _ rfl _ _ 64 rfl 9 32 .i64 law Tryz.underlying64 Tryz.underlying32 (zero_kind _) _ 7 kindsD rfl HO.out _ _ rfl HR.out.key ?_; intro c hat _; have hc := HR.out.kind c hat; subst c; clear hat))
  obtain ⟨W1, hW1⟩ : ∃ W1, W1 = w2.alloc (Obj.cells #[.int .i64 1, .int .i64 0, .int .i64 0, .slice none 0 0] 35) := ⟨_, rfl⟩
  obtain ⟨g, hg⟩ : ∃ g, g = w.heap.size := ⟨_, rfl⟩
  obtain ⟨p, hp⟩ : ∃ p, p = w2.heap.size := ⟨_, rfl⟩
  have hgw2 : (w.alloc (Obj.cells #[.int .i64 0, .int .i64 0, .int .i64 0, .slice none 0 0] 35)).heap.size ≤ w2.heap.size := Nat.le_trans HB1.out.size HB2.out.size
  have hgp : g < p := by rw [hg, hp]; simp at hgw2; omega
  have hb12 := HB1.out.trans (HB2.out.mono HB1.out.size)
  have HP1 := Aside0.mk (show W1.heap[p]? = some (.cells #[.int .i64 1, .int .i64 0, .int .i64 0, .slice none 0 0] 35 (0, 0)) from by rw [hW1, hp]; exact blk_new w2 _)
  have HQ1 := Aside0.mk (show W1.heap[g]? = some (.cells #[.int .i64 0, .int .i64 0, .int .i64 0, .slice none 0 0] 35 (0, 0)) from by rw [hW1, hg]; exact blk_alloc (blk_below (blk_new w _) hb12) _)
  have HB5 := Aside0.mk (show Below g w W1 from by rw [hW1, hg]; exact ((below_alloc (Below.refl _ _) _).trans (hb12.mono (by simp))).trans (below_alloc ((Below.refl _ _)) _ |>.mono (by simp at hgw2; omega)))
  have HGE := Aside0.mk hg
  have HGP := Aside0.mk hgp
  rw [← hW1, ← hg, ← hp]
  clear HB1 HO HB2 hW1 hg hp hgw2 hgp hb12
  go_upto_region 6 with (first | (go_at_call 27; (with_reducible refine (HR.out.cut2 _ (HG.out.low HGE.out HB5.out)).mono ?_); rintro e w3 ⟨⟨z2, rfl⟩, hb⟩; have HB3 := Aside0.mk hb; clear hb) | (go_at_call 29; (with_reducible refine (HR.out.num _ (HG.out.low HGE.out (HB5.out.trans (HB3.out.mono (Nat.le_of_lt (blk_lt HQ1.out)))))).mono ?_); rintro e w4 ⟨⟨ev, rfl, he⟩, hb⟩; have HE := Aside0.mk he; have HB4 := Aside0.mk hb; clear hb he))
  have hb14 := HB3.out.trans (HB4.out.mono HB3.out.size)
  have HS := Aside0.mk (show St w w4 g p 1 0 0 (.slice none 0 0) [] w.heap.size from ⟨HGP.out, HGE.out, blk_below HP1.out hb14, blk_below HQ1.out hb14, HB5.out.trans (hb14.mono (Nat.le_of_lt (blk_lt HQ1.out))), Kd.R_nil _ _ _ _ _⟩)
  clear hb14 HB3 HB4 HB5 HP1 HQ1
  obtain ⟨N, rfl⟩ := HE.out.2 (by trivial)
  clear HE
  have c0 := HS.out.c0
  have c1 := HS.out.c1
  have c2 := HS.out.c2
  have c3 := HS.out.c3
  have q1 := HS.out.fp 1
  have q2 := HS.out.fp 2
  have q3 := HS.out.fp 3
  go_upto_region 14 with (fail)
  clear c0 c1 c2 c3 q1 q2 q3
  obtain ⟨W5, hW⟩ : ∃ W, W = w4.setCell ⟨p, 2, none⟩ (.int .i64 n) := ⟨_, rfl⟩
  have HT := Aside0.mk (show St w W5 g p 1 0 n (.slice none 0 0) [] w.heap.size from by rw [hW]; exact HS.out.set2 n)
  rw [← hW]
  clear hW
  have HZ := Aside0.mk (show St w (W5.alloc (Obj.cells #[.int .i64 i] 69)) g p 1 0 n (.slice none 0 0) [] w.heap.size from HT.out.below (below_alloc (Below.refl _ _) _))
  have c0 := HT.out.c0
  have c1 := HT.out.c1
  have c2 := HT.out.c2
  have c3 := HT.out.c3
  have d0 := HT.out.d0
  have d1 := HT.out.d1
  have d2 := HT.out.d2
  have d3 := HT.out.d3
  have r0 := HT.out.fg 0
  have r1 := HT.out.fg 1
  have r2 := HT.out.fg 2
  have r3 := HT.out.fg 3
  have dd0 := HZ.out.d0
  have dd1 := HZ.out.d1
  have dd2 := HZ.out.d2
  have dd3 := HZ.out.d3
  have rr0 := HZ.out.fg 0
  have rr1 := HZ.out.fg 1
  have rr2 := HZ.out.fg 2
  have rr3 := HZ.out.fg 3
  have gz : g ≠ W5.heap.size := Nat.ne_of_lt (blk_lt HT.out.Q)
  have gy : (g = W5.heap.size) = False := eq_false gz
  have gp := HT.out.far
  have pg := Ne.symm HT.out.far
  go_wp2
  try simp only [Exit.inBlock, Exit.then]
  exact bodyPost_ret (results_ct9 rfl _ _ g 35 _ (0, 0) _ rfl HZ.out.full Tryz.underlying35 rfl (by kernel_rfl)) rfl (⟨HZ.out.ret.1, .inr ⟨⟨_, _, _, _, _, _, _, rfl⟩, fun en hp _ _ => hp⟩⟩)
set_option maxHeartbeats 16000000 in
set_option maxRecDepth 100000 in
theorem rd_rl (s X Y Z q : ByteArray) (i n K : Int) (w : World) (hG : Glob w) (ok : Bool) (h7 : K ≠ 7) (h1 : K ≠ 1) (hn : n < 0) (hR : Rd s X Y Z q n K ok) : Calls Tryz.prog 15 #[.string s, .int .i64 i] w (Post s w (fun en => False)) := by
  have n7 : (K == 7) = false := beq_eq_false_iff_ne.mpr h7
  have n1 : (K == 1) = false := beq_eq_false_iff_ne.mpr h1
  have HG := Aside0.mk hG
  have HR := Aside0.mk hR
  clear hG hR
  go_enter Tryz.func15, Tryz.ntmps15
  go_upto_region 1 with (fail)
  go_upto_region 3 with (first | (go_at_call 27; (with_reducible refine (HR.out.cut1 _ (HG.out.below (below_alloc (Below.refl _ _) _))).mono ?_); rintro e w1 ⟨⟨z1, rfl⟩, hb⟩; have HB1 := Aside0.mk hb; clear hb) | (go_at_call 28; (with_reducible refine (kinds_calls _).mono ?_); rintro e w2 ⟨rfl, ho, hb⟩; have HO := Aside0.mk ho; have HB2 := Aside0.mk hb; clear ho hb) | (at_lookup; refine wpList_lookup_own_int _ rfl _ _ 64 rfl 9 32 .i64 law Tryz.underlying64 Tryz.underlying32 (zero_kind _) _ 7 kindsD rfl HO.out _ _ rfl HR.out.key ?_; intro c hat _; have hc := HR.out.kind c hat; subst c; clear hat))
  obtain ⟨W1, hW1⟩ : ∃ W1, W1 = w2.alloc (Obj.cells #[.int .i64 K, .int .i64 0, .int .i64 0, .slice none 0 0] 35) := ⟨_, rfl⟩
  obtain ⟨g, hg⟩ : ∃ g, g = w.heap.size := ⟨_, rfl⟩
  obtain ⟨p, hp⟩ : ∃ p, p = w2.heap.size := ⟨_, rfl⟩
  have hgw2 : (w.alloc (Obj.cells #[.int .i64 0, .int .i64 0, .int .i64 0, .slice none 0 0] 35)).heap.size ≤ w2.heap.size := Nat.le_trans HB1.out.size HB2.out.size
  have hgp : g < p := by rw [hg, hp]; simp at hgw2; omega
  have hb12 := HB1.out.trans (HB2.out.mono HB1.out.size)
  have HP1 := Aside0.mk (show W1.heap[p]? = some (.cells #[.int .i64 K, .int .i64 0, .int .i64 0, .slice none 0 0] 35 (0, 0)) from by rw [hW1, hp]; exact blk_new w2 _)
  have HQ1 := Aside0.mk (show W1.heap[g]? = some (.cells #[.int .i64 0, .int .i64 0, .int .i64 0, .slice none 0 0] 35 (0, 0)) from by rw [hW1, hg]; exact blk_alloc (blk_below (blk_new w _) hb12) _)
  have HB5 := Aside0.mk (show Below g w W1 from by rw [hW1, hg]; exact ((below_alloc (Below.refl _ _) _).trans (hb12.mono (by simp))).trans (below_alloc ((Below.refl _ _)) _ |>.mono (by simp at hgw2; omega)))
  have HGE := Aside0.mk hg
  have HGP := Aside0.mk hgp
  rw [← hW1, ← hg, ← hp]
  clear HB1 HO HB2 hW1 hg hp hgw2 hgp hb12
  go_upto_region 6 with (first | (go_at_call 27; (with_reducible refine (HR.out.cut2 _ (HG.out.low HGE.out HB5.out)).mono ?_); rintro e w3 ⟨⟨z2, rfl⟩, hb⟩; have HB3 := Aside0.mk hb; clear hb) | (go_at_call 29; (with_reducible refine (HR.out.num _ (HG.out.low HGE.out (HB5.out.trans (HB3.out.mono (Nat.le_of_lt (blk_lt HQ1.out)))))).mono ?_); rintro e w4 ⟨⟨ev, rfl, he⟩, hb⟩; have HE := Aside0.mk he; have HB4 := Aside0.mk hb; clear hb he))
  have hb14 := HB3.out.trans (HB4.out.mono HB3.out.size)
  have HS := Aside0.mk (show St w w4 g p K 0 0 (.slice none 0 0) [] w.heap.size from ⟨HGP.out, HGE.out, blk_below HP1.out hb14, blk_below HQ1.out hb14, HB5.out.trans (hb14.mono (Nat.le_of_lt (blk_lt HQ1.out))), Kd.R_nil _ _ _ _ _⟩)
  clear hb14 HB3 HB4 HB5 HP1 HQ1
  have HZ := Aside0.mk (show St w (w4.alloc (Obj.cells #[.int .i64 i] 69)) g p K 0 0 (.slice none 0 0) [] w.heap.size from HS.out.below (below_alloc (Below.refl _ _) _))
  have c0 := HS.out.c0
  have c1 := HS.out.c1
  have c2 := HS.out.c2
  have c3 := HS.out.c3
  have d0 := HS.out.d0
  have d1 := HS.out.d1
  have d2 := HS.out.d2
  have d3 := HS.out.d3
  have r0 := HS.out.fg 0
  have r1 := HS.out.fg 1
  have r2 := HS.out.fg 2
  have r3 := HS.out.fg 3
  have dd0 := HZ.out.d0
  have dd1 := HZ.out.d1
  have dd2 := HZ.out.d2
  have dd3 := HZ.out.d3
  have rr0 := HZ.out.fg 0
  have rr1 := HZ.out.fg 1
  have rr2 := HZ.out.fg 2
  have rr3 := HZ.out.fg 3
  have gz : g ≠ w4.heap.size := Nat.ne_of_lt (blk_lt HS.out.Q)
  have gy : (g = w4.heap.size) = False := eq_false gz
  have gp := HS.out.far
  have pg := Ne.symm HS.out.far
  go_wp2
  try simp only [Exit.inBlock, Exit.then]
  exact bodyPost_ret (results_ct9 rfl _ _ g 35 _ (0, 0) _ rfl HZ.out.full Tryz.underlying35 rfl (by kernel_rfl)) rfl (⟨HZ.out.ret.1, .inr ⟨⟨_, _, _, _, _, _, _, rfl⟩, fun en hp _ _ => hp⟩⟩)
set_option maxHeartbeats 16000000 in
set_option maxRecDepth 100000 in
theorem rd_rh (s X Y Z q : ByteArray) (i n K : Int) (w : World) (hG : Glob w) (ok : Bool) (h7 : K ≠ 7) (h1 : K ≠ 1) (hn : 2147483647 < n) (hR : Rd s X Y Z q n K ok) : Calls Tryz.prog 15 #[.string s, .int .i64 i] w (Post s w (fun en => False)) := by
  have n7 : (K == 7) = false := beq_eq_false_iff_ne.mpr h7
  have n1 : (K == 1) = false := beq_eq_false_iff_ne.mpr h1
  have HG := Aside0.mk hG
  have HR := Aside0.mk hR
  clear hG hR
  go_enter Tryz.func15, Tryz.ntmps15
  go_upto_region 1 with (fail)
  go_upto_region 3 with (first | (go_at_call 27; (with_reducible refine (HR.out.cut1 _ (HG.out.below (below_alloc (Below.refl _ _) _))).mono ?_); rintro e w1 ⟨⟨z1, rfl⟩, hb⟩; have HB1 := Aside0.mk hb; clear hb) | (go_at_call 28; (with_reducible refine (kinds_calls _).mono ?_); rintro e w2 ⟨rfl, ho, hb⟩; have HO := Aside0.mk ho; have HB2 := Aside0.mk hb; clear ho hb) | (at_lookup; refine wpList_lookup_own_int _ rfl _ _ 64 rfl 9 32 .i64 law Tryz.underlying64 Tryz.underlying32 (zero_kind _) _ 7 kindsD rfl HO.out _ _ rfl HR.out.key ?_; intro c hat _; have hc := HR.out.kind c hat; subst c; clear hat))
  obtain ⟨W1, hW1⟩ : ∃ W1, W1 = w2.alloc (Obj.cells #[.int .i64 K, .int .i64 0, .int .i64 0, .slice none 0 0] 35) := ⟨_, rfl⟩
  obtain ⟨g, hg⟩ : ∃ g, g = w.heap.size := ⟨_, rfl⟩
  obtain ⟨p, hp⟩ : ∃ p, p = w2.heap.size := ⟨_, rfl⟩
  have hgw2 : (w.alloc (Obj.cells #[.int .i64 0, .int .i64 0, .int .i64 0, .slice none 0 0] 35)).heap.size ≤ w2.heap.size := Nat.le_trans HB1.out.size HB2.out.size
  have hgp : g < p := by rw [hg, hp]; simp at hgw2; omega
  have hb12 := HB1.out.trans (HB2.out.mono HB1.out.size)
  have HP1 := Aside0.mk (show W1.heap[p]? = some (.cells #[.int .i64 K, .int .i64 0, .int .i64 0, .slice none 0 0] 35 (0, 0)) from by rw [hW1, hp]; exact blk_new w2 _)
  have HQ1 := Aside0.mk (show W1.heap[g]? = some (.cells #[.int .i64 0, .int .i64 0, .int .i64 0, .slice none 0 0] 35 (0, 0)) from by rw [hW1, hg]; exact blk_alloc (blk_below (blk_new w _) hb12) _)
  have HB5 := Aside0.mk (show Below g w W1 from by rw [hW1, hg]; exact ((below_alloc (Below.refl _ _) _).trans (hb12.mono (by simp))).trans (below_alloc ((Below.refl _ _)) _ |>.mono (by simp at hgw2; omega)))
  have HGE := Aside0.mk hg
  have HGP := Aside0.mk hgp
  rw [← hW1, ← hg, ← hp]
  clear HB1 HO HB2 hW1 hg hp hgw2 hgp hb12
  go_upto_region 6 with (first | (go_at_call 27; (with_reducible refine (HR.out.cut2 _ (HG.out.low HGE.out HB5.out)).mono ?_); rintro e w3 ⟨⟨z2, rfl⟩, hb⟩; have HB3 := Aside0.mk hb; clear hb) | (go_at_call 29; (with_reducible refine (HR.out.num _ (HG.out.low HGE.out (HB5.out.trans (HB3.out.mono (Nat.le_of_lt (blk_lt HQ1.out)))))).mono ?_); rintro e w4 ⟨⟨ev, rfl, he⟩, hb⟩; have HE := Aside0.mk he; have HB4 := Aside0.mk hb; clear hb he))
  have hb14 := HB3.out.trans (HB4.out.mono HB3.out.size)
  have HS := Aside0.mk (show St w w4 g p K 0 0 (.slice none 0 0) [] w.heap.size from ⟨HGP.out, HGE.out, blk_below HP1.out hb14, blk_below HQ1.out hb14, HB5.out.trans (hb14.mono (Nat.le_of_lt (blk_lt HQ1.out))), Kd.R_nil _ _ _ _ _⟩)
  clear hb14 HB3 HB4 HB5 HP1 HQ1
  have HZ := Aside0.mk (show St w (w4.alloc (Obj.cells #[.int .i64 i] 69)) g p K 0 0 (.slice none 0 0) [] w.heap.size from HS.out.below (below_alloc (Below.refl _ _) _))
  have c0 := HS.out.c0
  have c1 := HS.out.c1
  have c2 := HS.out.c2
  have c3 := HS.out.c3
  have d0 := HS.out.d0
  have d1 := HS.out.d1
  have d2 := HS.out.d2
  have d3 := HS.out.d3
  have r0 := HS.out.fg 0
  have r1 := HS.out.fg 1
  have r2 := HS.out.fg 2
  have r3 := HS.out.fg 3
  have dd0 := HZ.out.d0
  have dd1 := HZ.out.d1
  have dd2 := HZ.out.d2
  have dd3 := HZ.out.d3
  have rr0 := HZ.out.fg 0
  have rr1 := HZ.out.fg 1
  have rr2 := HZ.out.fg 2
  have rr3 := HZ.out.fg 3
  have gz : g ≠ w4.heap.size := Nat.ne_of_lt (blk_lt HS.out.Q)
  have gy : (g = w4.heap.size) = False := eq_false gz
  have gp := HS.out.far
  have pg := Ne.symm HS.out.far
  go_wp2
  try simp only [Exit.inBlock, Exit.then]
  exact bodyPost_ret (results_ct9 rfl _ _ g 35 _ (0, 0) _ rfl HZ.out.full Tryz.underlying35 rfl (by kernel_rfl)) rfl (⟨HZ.out.ret.1, .inr ⟨⟨_, _, _, _, _, _, _, rfl⟩, fun en hp _ _ => hp⟩⟩)
end Go.Proofs.YtjapnbghnnbamaaGreatDoor.Rw
namespace Go.Proofs.YtjapnbghnnbamaaGreatDoor.Rw
open Go.Proofs.YtjapnbghnnbamaaGreatDoor.Plain (quote)
open Go.RowKit Go.Proofs.YtjapnbghnnbamaaGreatDoorW.PrintWords Go.Proofs.YtjapnbghnnbamaaGreatDoorW.PrintLast Go.Proofs.YtjapnbghnnbamaaGreatDoor.Ext Go.Proofs.YtjapnbghnnbamaaGreatDoor.Q Go.Proofs.YtjapnbghnnbamaaGreatDoor.S Go.Proofs.YtjapnbghnnbamaaGreatDoor.K Go.Proofs.YtjapnbghnnbamaaGreatDoor.L Go.Proofs.YtjapnbghnnbamaaGreatDoor.T Go.Proofs.YtjapnbghnnbamaaGreatDoor.W Go.Proofs.YtjapnbghnnbamaaGreatDoor.Rq Go.Maps
set_option linter.unusedVariables false
set_option linter.unusedSimpArgs false
set_option maxHeartbeats 16000000 in
set_option maxRecDepth 100000 in
theorem rd_oy (s X Y Z q : ByteArray) (i n K : Int) (w : World) (hG : Glob w) (h7 : K ≠ 7) (h1 : K ≠ 1) (h6 : K ≠ 6) (hn : 0 ≤ n) (hn2 : n ≤ 2147483647) (hR : Rd s X Y Z q n K true) : Calls Tryz.prog 15 #[.string s, .int .i64 i] w (Post s w (fun en => en = ⟨K, n, 0, []⟩)) := by
  have n7 : (K == 7) = false := beq_eq_false_iff_ne.mpr h7
  have n1 : (K == 1) = false := beq_eq_false_iff_ne.mpr h1
  have n6 : (K == 6) = false := beq_eq_false_iff_ne.mpr h6
  have HG := Aside0.mk hG
  have HR := Aside0.mk hR
  clear hG hR
  go_enter Tryz.func15, Tryz.ntmps15
  go_upto_region 1 with (fail)
  go_upto_region 3 with (first | (go_at_call 27; (with_reducible refine (HR.out.cut1 _ (HG.out.below (below_alloc (Below.refl _ _) _))).mono ?_); rintro e w1 ⟨⟨z1, rfl⟩, hb⟩; have HB1 := Aside0.mk hb; clear hb) | (go_at_call 28; (with_reducible refine (kinds_calls _).mono ?_); rintro e w2 ⟨rfl, ho, hb⟩; have HO := Aside0.mk ho; have HB2 := Aside0.mk hb; clear ho hb) | (at_lookup; refine wpList_lookup_own_int _ rfl _ _ 64 rfl 9 32 .i64 law Tryz.underlying64 Tryz.underlying32 (zero_kind _) _ 7 kindsD rfl HO.out _ _ rfl HR.out.key ?_; intro c hat _; have hc := HR.out.kind c hat; subst c; clear hat))
  obtain ⟨W1, hW1⟩ : ∃ W1, W1 = w2.alloc (Obj.cells #[.int .i64 K, .int .i64 0, .int .i64 0, .slice none 0 0] 35) := ⟨_, rfl⟩
  obtain ⟨g, hg⟩ : ∃ g, g = w.heap.size := ⟨_, rfl⟩
  obtain ⟨p, hp⟩ : ∃ p, p = w2.heap.size := ⟨_, rfl⟩
  have hgw2 : (w.alloc (Obj.cells #[.int .i64 0, .int .i64 0, .int .i64 0, .slice none 0 0] 35)).heap.size ≤ w2.heap.size := Nat.le_trans HB1.out.size HB2.out.size
  have hgp : g < p := by rw [hg, hp]; simp at hgw2; omega
  have hb12 := HB1.out.trans (HB2.out.mono HB1.out.size)
  have HP1 := Aside0.mk (show W1.heap[p]? = some (.cells #[.int .i64 K, .int .i64 0, .int .i64 0, .slice none 0 0] 35 (0, 0)) from by rw [hW1, hp]; exact blk_new w2 _)
  have HQ1 := Aside0.mk (show W1.heap[g]? = some (.cells #[.int .i64 0, .int .i64 0, .int .i64 0, .slice none 0 0] 35 (0, 0)) from by rw [hW1, hg]; exact blk_alloc (blk_below (blk_new w _) hb12) _)
  have HB5 := Aside0.mk (show Below g w W1 from by rw [hW1, hg]; exact ((below_alloc (Below.refl _ _) _).trans (hb12.mono (by simp))).trans (below_alloc ((Below.refl _ _)) _ |>.mono (by simp at hgw2; omega)))
  have HGE := Aside0.mk hg
  have HGP := Aside0.mk hgp
  rw [← hW1, ← hg, ← hp]
  clear HB1 HO HB2 hW1 hg hp hgw2 hgp hb12
  go_upto_region 6 with (first | (go_at_call 27; (with_reducible refine (HR.out.cut2 _ (HG.out.low HGE.out HB5.out)).mono ?_); rintro e w3 ⟨⟨z2, rfl⟩, hb⟩; have HB3 := Aside0.mk hb; clear hb) | (go_at_call 29; (with_reducible refine (HR.out.num _ (HG.out.low HGE.out (HB5.out.trans (HB3.out.mono (Nat.le_of_lt (blk_lt HQ1.out)))))).mono ?_); rintro e w4 ⟨⟨ev, rfl, he⟩, hb⟩; have HE := Aside0.mk he; have HB4 := Aside0.mk hb; clear hb he))
  have hb14 := HB3.out.trans (HB4.out.mono HB3.out.size)
  have HS := Aside0.mk (show St w w4 g p K 0 0 (.slice none 0 0) [] w.heap.size from ⟨HGP.out, HGE.out, blk_below HP1.out hb14, blk_below HQ1.out hb14, HB5.out.trans (hb14.mono (Nat.le_of_lt (blk_lt HQ1.out))), Kd.R_nil _ _ _ _ _⟩)
  clear hb14 HB3 HB4 HB5 HP1 HQ1
  obtain rfl := HE.out.1 (by trivial)
  clear HE
  have c0 := HS.out.c0
  have c1 := HS.out.c1
  have c2 := HS.out.c2
  have c3 := HS.out.c3
  have q1 := HS.out.fp 1
  have q2 := HS.out.fp 2
  have q3 := HS.out.fp 3
  go_upto_region 19 with (fail)
  clear c0 c1 c2 c3 q1 q2 q3
  obtain ⟨W5, hW⟩ : ∃ W, W = w4.setCell ⟨p, 1, none⟩ (.int .i64 n) := ⟨_, rfl⟩
  have HT := Aside0.mk (show St w W5 g p K n 0 (.slice none 0 0) [] w.heap.size from by rw [hW]; exact HS.out.set1 n)
  rw [← hW]
  clear hW
  by_cases hm : MayE ⟨K, n, 0, []⟩
  · have HMY := Aside0.mk hm
    clear hm
    by_cases hl : lineL ⟨K, n, 0, []⟩ = s.data.toList
    · have HD := Aside0.mk (show s = ba (lineL ⟨K, n, 0, []⟩) from ByteArray.ext (Array.toList_inj.1 (by rw [hl])))
      have HL := Aside0.mk hl
      clear hl
      have c0 := HT.out.c0
      have c1 := HT.out.c1
      have c2 := HT.out.c2
      have c3 := HT.out.c3
      have gp := HT.out.far
      have pg := Ne.symm HT.out.far
      go_wp2_with (first | (go_at_call 10; (with_reducible refine (HT.out.may_t HMY.out).mono ?_); rintro e w6 ⟨rfl, hb⟩; have HS6 := Aside0.mk (HT.out.below hb); clear c0 c1 c2 c3 gp pg; clear hb; have c0 := HS6.out.c0; have c1 := HS6.out.c1; have c2 := HS6.out.c2; have c3 := HS6.out.c3; have gp := HS6.out.far; have pg := Ne.symm HS6.out.far) | (go_at_call 21; (with_reducible refine (HS6.out.line HG.out HMY.out s HD.out).mono ?_); rintro e w7 ⟨rfl, hb⟩; have HS7 := Aside0.mk (HS6.out.below hb); clear c0 c1 c2 c3 gp pg; clear hb; have c0 := HS7.out.c0; have c1 := HS7.out.c1; have c2 := HS7.out.c2; have c3 := HS7.out.c3; have q1 := HS7.out.fp 1; have q2 := HS7.out.fp 2; have q3 := HS7.out.fp 3; have d0 := HS7.out.d0; have d1 := HS7.out.d1; have d2 := HS7.out.d2; have d3 := HS7.out.d3; have r0 := HS7.out.fg 0; have r1 := HS7.out.fg 1; have r2 := HS7.out.fg 2; have r3 := HS7.out.fg 3; have gp := HS7.out.far; have pg := Ne.symm HS7.out.far))
      try simp only [Exit.inBlock, Exit.then]
      exact bodyPost_ret (results_ct9 rfl _ _ g 35 _ (0, 0) _ rfl HS7.out.full Tryz.underlying35 rfl (by kernel_rfl)) rfl (⟨HS7.out.ret.1, .inl ⟨⟨K, n, 0, []⟩, _, rfl, HS7.out.ret.2, HMY.out, HL.out⟩⟩)
    · obtain ⟨D, hD⟩ : ∃ D, D = ba (lineL ⟨K, n, 0, []⟩) := ⟨_, rfl⟩
      have HD := Aside0.mk hD
      have hne : D ≠ s := fun e => hl (by rw [← e, hD])
      have hn2 : (D.toList == s.toList) = false := beq_eq_false_iff_ne.mpr (fun e => hne (ByteArray.ext (Array.toList_inj.1 (by rw [Lib.toList_data, Lib.toList_data] at e; exact e))))
      have HL := Aside0.mk hl
      clear hl hD
      have c0 := HT.out.c0
      have c1 := HT.out.c1
      have c2 := HT.out.c2
      have c3 := HT.out.c3
      have gp := HT.out.far
      have pg := Ne.symm HT.out.far
      go_wp2_with (first | (go_at_call 10; (with_reducible refine (HT.out.may_t HMY.out).mono ?_); rintro e w6 ⟨rfl, hb⟩; have HS6 := Aside0.mk (HT.out.below hb); clear c0 c1 c2 c3 gp pg; clear hb; have c0 := HS6.out.c0; have c1 := HS6.out.c1; have c2 := HS6.out.c2; have c3 := HS6.out.c3; have gp := HS6.out.far; have pg := Ne.symm HS6.out.far) | (go_at_call 21; (with_reducible refine (HS6.out.line HG.out HMY.out D HD.out).mono ?_); rintro e w7 ⟨rfl, hb⟩; have HS7 := Aside0.mk (HS6.out.below hb); clear c0 c1 c2 c3 gp pg; clear hb; have HS8 := Aside0.mk (show St w (w7.alloc (Obj.cells #[.int .i64 i] 69)) g p K n 0 (.slice none 0 0) [] w.heap.size from HS7.out.below (below_alloc (Below.refl _ _) _)); have c0 := HS7.out.c0; have c1 := HS7.out.c1; have c2 := HS7.out.c2; have c3 := HS7.out.c3; have d0 := HS7.out.d0; have d1 := HS7.out.d1; have d2 := HS7.out.d2; have d3 := HS7.out.d3; have r0 := HS7.out.fg 0; have r1 := HS7.out.fg 1; have r2 := HS7.out.fg 2; have r3 := HS7.out.fg 3; have dd0 := HS8.out.d0; have dd1 := HS8.out.d1; have dd2 := HS8.out.d2; have dd3 := HS8.out.d3; have rr0 := HS8.out.fg 0; have rr1 := HS8.out.fg 1; have rr2 := HS8.out.fg 2; have rr3 := HS8.out.fg 3; have gz : g ≠ w7.heap.size := Nat.ne_of_lt (blk_lt HS7.out.Q); have gy : (g = w7.heap.size) = False := eq_false gz; have gp := HS7.out.far; have pg := Ne.symm HS7.out.far))
      try simp only [Exit.inBlock, Exit.then]
      exact bodyPost_ret (results_ct9 rfl _ _ g 35 _ (0, 0) _ rfl HS8.out.full Tryz.underlying35 rfl (by kernel_rfl)) rfl (⟨HS8.out.ret.1, .inr ⟨⟨_, _, _, _, _, _, _, rfl⟩, fun en hp _ hh => HL.out (hp ▸ hh)⟩⟩)
  · have HMY := Aside0.mk hm
    clear hm
    have c0 := HT.out.c0
    have c1 := HT.out.c1
    have c2 := HT.out.c2
    have c3 := HT.out.c3
    have gp := HT.out.far
    have pg := Ne.symm HT.out.far
    go_wp2_with (first | (go_at_call 10; (with_reducible refine (HT.out.may_f HMY.out).mono ?_); rintro e w6 ⟨rfl, hb⟩; have HS6 := Aside0.mk (HT.out.below hb); clear c0 c1 c2 c3 gp pg; clear hb; have HS8 := Aside0.mk (show St w (w6.alloc (Obj.cells #[.int .i64 i] 69)) g p K n 0 (.slice none 0 0) [] w.heap.size from HS6.out.below (below_alloc (Below.refl _ _) _)); have c0 := HS6.out.c0; have c1 := HS6.out.c1; have c2 := HS6.out.c2; have c3 := HS6.out.c3; have d0 := HS6.out.d0; have d1 := HS6.out.d1; have d2 := HS6.out.d2; have d3 := HS6.out.d3; have r0 := HS6.out.fg 0; have r1 := HS6.out.fg 1; have r2 := HS6.out.fg 2; have r3 := HS6.out.fg 3; have dd0 := HS8.out.d0; have dd1 := HS8.out.d1; have dd2 := HS8.out.d2; have dd3 := HS8.out.d3; have rr0 := HS8.out.fg 0; have rr1 := HS8.out.fg 1; have rr2 := HS8.out.fg 2; have rr3 := HS8.out.fg 3; have gz : g ≠ w6.heap.size := Nat.ne_of_lt (blk_lt HS6.out.Q); have gy : (g = w6.heap.size) = False := eq_false gz; have gp := HS6.out.far; have pg := Ne.symm HS6.out.far))
    try simp only [Exit.inBlock, Exit.then]
    exact bodyPost_ret (results_ct9 rfl _ _ g 35 _ (0, 0) _ rfl HS8.out.full Tryz.underlying35 rfl (by kernel_rfl)) rfl (⟨HS8.out.ret.1, .inr ⟨⟨_, _, _, _, _, _, _, rfl⟩, fun en hp hh _ => HMY.out (hp ▸ hh)⟩⟩)
set_option maxHeartbeats 16000000 in
set_option maxRecDepth 100000 in
theorem rd_on (s X Y Z q : ByteArray) (i n K : Int) (w : World) (hG : Glob w) (h7 : K ≠ 7) (h1 : K ≠ 1) (h6 : K ≠ 6) (hn : 0 ≤ n) (hn2 : n ≤ 2147483647) (hR : Rd s X Y Z q n K false) : Calls Tryz.prog 15 #[.string s, .int .i64 i] w (Post s w (fun en => False)) := by
  have n7 : (K == 7) = false := beq_eq_false_iff_ne.mpr h7
  have n1 : (K == 1) = false := beq_eq_false_iff_ne.mpr h1
  have n6 : (K == 6) = false := beq_eq_false_iff_ne.mpr h6
  have HG := Aside0.mk hG
  have HR := Aside0.mk hR
  clear hG hR
  go_enter Tryz.func15, Tryz.ntmps15
  go_upto_region 1 with (fail)
  go_upto_region 3 with (first | (go_at_call 27; (with_reducible refine (HR.out.cut1 _ (HG.out.below (below_alloc (Below.refl _ _) _))).mono ?_); rintro e w1 ⟨⟨z1, rfl⟩, hb⟩; have HB1 := Aside0.mk hb; clear hb) | (go_at_call 28; (with_reducible refine (kinds_calls _).mono ?_); rintro e w2 ⟨rfl, ho, hb⟩; have HO := Aside0.mk ho; have HB2 := Aside0.mk hb; clear ho hb) | (at_lookup; refine wpList_lookup_own_int _ rfl _ _ 64 rfl 9 32 .i64 law Tryz.underlying64 Tryz.underlying32 (zero_kind _) _ 7 kindsD rfl HO.out _ _ rfl HR.out.key ?_; intro c hat _; have hc := HR.out.kind c hat; subst c; clear hat))
  obtain ⟨W1, hW1⟩ : ∃ W1, W1 = w2.alloc (Obj.cells #[.int .i64 K, .int .i64 0, .int .i64 0, .slice none 0 0] 35) := ⟨_, rfl⟩
  obtain ⟨g, hg⟩ : ∃ g, g = w.heap.size := ⟨_, rfl⟩
  obtain ⟨p, hp⟩ : ∃ p, p = w2.heap.size := ⟨_, rfl⟩
  have hgw2 : (w.alloc (Obj.cells #[.int .i64 0, .int .i64 0, .int .i64 0, .slice none 0 0] 35)).heap.size ≤ w2.heap.size := Nat.le_trans HB1.out.size HB2.out.size
  have hgp : g < p := by rw [hg, hp]; simp at hgw2; omega
  have hb12 := HB1.out.trans (HB2.out.mono HB1.out.size)
  have HP1 := Aside0.mk (show W1.heap[p]? = some (.cells #[.int .i64 K, .int .i64 0, .int .i64 0, .slice none 0 0] 35 (0, 0)) from by rw [hW1, hp]; exact blk_new w2 _)
  have HQ1 := Aside0.mk (show W1.heap[g]? = some (.cells #[.int .i64 0, .int .i64 0, .int .i64 0, .slice none 0 0] 35 (0, 0)) from by rw [hW1, hg]; exact blk_alloc (blk_below (blk_new w _) hb12) _)
  have HB5 := Aside0.mk (show Below g w W1 from by rw [hW1, hg]; exact ((below_alloc (Below.refl _ _) _).trans (hb12.mono (by simp))).trans (below_alloc ((Below.refl _ _)) _ |>.mono (by simp at hgw2; omega)))
  have HGE := Aside0.mk hg
  have HGP := Aside0.mk hgp
  rw [← hW1, ← hg, ← hp]
  clear HB1 HO HB2 hW1 hg hp hgw2 hgp hb12
  go_upto_region 6 with (first | (go_at_call 27; (with_reducible refine (HR.out.cut2 _ (HG.out.low HGE.out HB5.out)).mono ?_); rintro e w3 ⟨⟨z2, rfl⟩, hb⟩; have HB3 := Aside0.mk hb; clear hb) | (go_at_call 29; (with_reducible refine (HR.out.num _ (HG.out.low HGE.out (HB5.out.trans (HB3.out.mono (Nat.le_of_lt (blk_lt HQ1.out)))))).mono ?_); rintro e w4 ⟨⟨ev, rfl, he⟩, hb⟩; have HE := Aside0.mk he; have HB4 := Aside0.mk hb; clear hb he))
  have hb14 := HB3.out.trans (HB4.out.mono HB3.out.size)
  have HS := Aside0.mk (show St w w4 g p K 0 0 (.slice none 0 0) [] w.heap.size from ⟨HGP.out, HGE.out, blk_below HP1.out hb14, blk_below HQ1.out hb14, HB5.out.trans (hb14.mono (Nat.le_of_lt (blk_lt HQ1.out))), Kd.R_nil _ _ _ _ _⟩)
  clear hb14 HB3 HB4 HB5 HP1 HQ1
  obtain ⟨N, rfl⟩ := HE.out.2 (by trivial)
  clear HE
  have c0 := HS.out.c0
  have c1 := HS.out.c1
  have c2 := HS.out.c2
  have c3 := HS.out.c3
  have q1 := HS.out.fp 1
  have q2 := HS.out.fp 2
  have q3 := HS.out.fp 3
  go_upto_region 19 with (fail)
  clear c0 c1 c2 c3 q1 q2 q3
  obtain ⟨W5, hW⟩ : ∃ W, W = w4.setCell ⟨p, 1, none⟩ (.int .i64 n) := ⟨_, rfl⟩
  have HT := Aside0.mk (show St w W5 g p K n 0 (.slice none 0 0) [] w.heap.size from by rw [hW]; exact HS.out.set1 n)
  rw [← hW]
  clear hW
  have HZ := Aside0.mk (show St w (W5.alloc (Obj.cells #[.int .i64 i] 69)) g p K n 0 (.slice none 0 0) [] w.heap.size from HT.out.below (below_alloc (Below.refl _ _) _))
  have c0 := HT.out.c0
  have c1 := HT.out.c1
  have c2 := HT.out.c2
  have c3 := HT.out.c3
  have d0 := HT.out.d0
  have d1 := HT.out.d1
  have d2 := HT.out.d2
  have d3 := HT.out.d3
  have r0 := HT.out.fg 0
  have r1 := HT.out.fg 1
  have r2 := HT.out.fg 2
  have r3 := HT.out.fg 3
  have dd0 := HZ.out.d0
  have dd1 := HZ.out.d1
  have dd2 := HZ.out.d2
  have dd3 := HZ.out.d3
  have rr0 := HZ.out.fg 0
  have rr1 := HZ.out.fg 1
  have rr2 := HZ.out.fg 2
  have rr3 := HZ.out.fg 3
  have gz : g ≠ W5.heap.size := Nat.ne_of_lt (blk_lt HT.out.Q)
  have gy : (g = W5.heap.size) = False := eq_false gz
  have gp := HT.out.far
  have pg := Ne.symm HT.out.far
  go_wp2
  try simp only [Exit.inBlock, Exit.then]
  exact bodyPost_ret (results_ct9 rfl _ _ g 35 _ (0, 0) _ rfl HZ.out.full Tryz.underlying35 rfl (by kernel_rfl)) rfl (⟨HZ.out.ret.1, .inr ⟨⟨_, _, _, _, _, _, _, rfl⟩, fun en hp _ _ => hp⟩⟩)
end Go.Proofs.YtjapnbghnnbamaaGreatDoor.Rw
namespace Go.Proofs.YtjapnbghnnbamaaGreatDoor.Rw
open Go.Proofs.YtjapnbghnnbamaaGreatDoor.Plain (quote)
open Go.RowKit Go.Proofs.YtjapnbghnnbamaaGreatDoorW.PrintWords Go.Proofs.YtjapnbghnnbamaaGreatDoorW.PrintLast Go.Proofs.YtjapnbghnnbamaaGreatDoor.Ext Go.Proofs.YtjapnbghnnbamaaGreatDoor.Q Go.Proofs.YtjapnbghnnbamaaGreatDoor.S Go.Proofs.YtjapnbghnnbamaaGreatDoor.K Go.Proofs.YtjapnbghnnbamaaGreatDoor.L Go.Proofs.YtjapnbghnnbamaaGreatDoor.T Go.Proofs.YtjapnbghnnbamaaGreatDoor.W Go.Proofs.YtjapnbghnnbamaaGreatDoor.Rq Go.Maps
set_option linter.unusedVariables false
set_option linter.unusedSimpArgs false
set_option maxHeartbeats 16000000 in
set_option maxRecDepth 100000 in
theorem rd_6y (s X Y Z q : ByteArray) (i n : Int) (w : World) (hG : Glob w) (hn : 0 ≤ n) (hn2 : n ≤ 2147483647) (hR : Rd s X Y Z q n 6 true) : Calls Tryz.prog 15 #[.string s, .int .i64 i] w (Post s w (fun en => ∃ b, quote b = q.data.toList ∧ en = ⟨6, n, 0, b⟩)) := by
  have HG := Aside0.mk hG
  have HR := Aside0.mk hR
  clear hG hR
  go_enter Tryz.func15, Tryz.ntmps15
  go_upto_region 1 with (fail)
  go_upto_region 3 with (first | (go_at_call 27; (with_reducible refine (HR.out.cut1 _ (HG.out.below (below_alloc (Below.refl _ _) _))).mono ?_); rintro e w1 ⟨⟨z1, rfl⟩, hb⟩; have HB1 := Aside0.mk hb; clear hb) | (go_at_call 28; (with_reducible refine (kinds_calls _).mono ?_); rintro e w2 ⟨rfl, ho, hb⟩; have HO := Aside0.mk ho; have HB2 := Aside0.mk hb; clear ho hb) | (at_lookup; refine wpList_lookup_own_int _ rfl _ _ 64 rfl 9 32 .i64 law Tryz.underlying64 Tryz.underlying32 (zero_kind _) _ 7 kindsD rfl HO.out _ _ rfl HR.out.key ?_; intro c hat _; have hc := HR.out.kind c hat; subst c; clear hat))
  obtain ⟨W1, hW1⟩ : ∃ W1, W1 = w2.alloc (Obj.cells #[.int .i64 6, .int .i64 0, .int .i64 0, .slice none 0 0] 35) := ⟨_, rfl⟩
  obtain ⟨g, hg⟩ : ∃ g, g = w.heap.size := ⟨_, rfl⟩
  obtain ⟨p, hp⟩ : ∃ p, p = w2.heap.size := ⟨_, rfl⟩
  have hgw2 : (w.alloc (Obj.cells #[.int .i64 0, .int .i64 0, .int .i64 0, .slice none 0 0] 35)).heap.size ≤ w2.heap.size := Nat.le_trans HB1.out.size HB2.out.size
  have hgp : g < p := by rw [hg, hp]; simp at hgw2; omega
  have hb12 := HB1.out.trans (HB2.out.mono HB1.out.size)
  have HP1 := Aside0.mk (show W1.heap[p]? = some (.cells #[.int .i64 6, .int .i64 0, .int .i64 0, .slice none 0 0] 35 (0, 0)) from by rw [hW1, hp]; exact blk_new w2 _)
  have HQ1 := Aside0.mk (show W1.heap[g]? = some (.cells #[.int .i64 0, .int .i64 0, .int .i64 0, .slice none 0 0] 35 (0, 0)) from by rw [hW1, hg]; exact blk_alloc (blk_below (blk_new w _) hb12) _)
  have HB5 := Aside0.mk (show Below g w W1 from by rw [hW1, hg]; exact ((below_alloc (Below.refl _ _) _).trans (hb12.mono (by simp))).trans (below_alloc ((Below.refl _ _)) _ |>.mono (by simp at hgw2; omega)))
  have HGE := Aside0.mk hg
  have HGP := Aside0.mk hgp
  rw [← hW1, ← hg, ← hp]
  clear HB1 HO HB2 hW1 hg hp hgw2 hgp hb12
  go_upto_region 6 with (first | (go_at_call 27; (with_reducible refine (HR.out.cut2 _ (HG.out.low HGE.out HB5.out)).mono ?_); rintro e w3 ⟨⟨z2, rfl⟩, hb⟩; have HB3 := Aside0.mk hb; clear hb) | (go_at_call 29; (with_reducible refine (HR.out.num _ (HG.out.low HGE.out (HB5.out.trans (HB3.out.mono (Nat.le_of_lt (blk_lt HQ1.out)))))).mono ?_); rintro e w4 ⟨⟨ev, rfl, he⟩, hb⟩; have HE := Aside0.mk he; have HB4 := Aside0.mk hb; clear hb he))
  have hb14 := HB3.out.trans (HB4.out.mono HB3.out.size)
  have HS := Aside0.mk (show St w w4 g p 6 0 0 (.slice none 0 0) [] w.heap.size from ⟨HGP.out, HGE.out, blk_below HP1.out hb14, blk_below HQ1.out hb14, HB5.out.trans (hb14.mono (Nat.le_of_lt (blk_lt HQ1.out))), Kd.R_nil _ _ _ _ _⟩)
  clear hb14 HB3 HB4 HB5 HP1 HQ1
  obtain rfl := HE.out.1 (by trivial)
  clear HE
  have c0 := HS.out.c0
  have c1 := HS.out.c1
  have c2 := HS.out.c2
  have c3 := HS.out.c3
  have q1 := HS.out.fp 1
  have q2 := HS.out.fp 2
  have q3 := HS.out.fp 3
  go_upto_region 14 with (fail)
  clear c0 c1 c2 c3 q1 q2 q3
  obtain ⟨W5, hW⟩ : ∃ W, W = w4.setCell ⟨p, 1, none⟩ (.int .i64 n) := ⟨_, rfl⟩
  have HT := Aside0.mk (show St w W5 g p 6 n 0 (.slice none 0 0) [] w.heap.size from by rw [hW]; exact HS.out.set1 n)
  rw [← hW]
  clear hW
  have c0 := HT.out.c0
  have c1 := HT.out.c1
  have c2 := HT.out.c2
  have c3 := HT.out.c3
  have q1 := HT.out.fp 1
  have q2 := HT.out.fp 2
  have q3 := HT.out.fp 3
  go_upto_region 16 with (first | (go_at_call 30; (with_reducible refine (HR.out.unq _ (HT.out.glob HG.out)).mono ?_); rintro e w5 ⟨⟨A, m, cp, is, rfl, hu⟩, hb⟩; have HT5 := Aside0.mk (HT.out.below hb); have HU := Aside0.mk hu; clear hb hu))
  clear c0 c1 c2 c3 q1 q2 q3
  rcases HU.out with ⟨rfl, os, hq, hv⟩ | ⟨rfl, hq⟩
  · have HQU := Aside0.mk hq
    have HV := Aside0.mk (show RV w5 w.heap.size (.slice A m cp) os from Kd.R_lower hv (HT.out.B.size))
    clear hq hv
    have c0 := HT5.out.c0
    have c1 := HT5.out.c1
    have c2 := HT5.out.c2
    have c3 := HT5.out.c3
    have q1 := HT5.out.fp 1
    have q2 := HT5.out.fp 2
    have q3 := HT5.out.fp 3
    go_upto_region 19 with (fail)
    clear c0 c1 c2 c3 q1 q2 q3
    obtain ⟨W6, hW⟩ : ∃ W, W = w5.setCell ⟨p, 3, none⟩ (.slice A m cp) := ⟨_, rfl⟩
    have HT6 := Aside0.mk (show St w W6 g p 6 n 0 (.slice A m cp) os w.heap.size from by rw [hW]; exact HT5.out.set3 HV.out)
    rw [← hW]
    clear hW
    by_cases hm : MayE ⟨6, n, 0, os⟩
    · have HMY := Aside0.mk hm
      clear hm
      by_cases hl : lineL ⟨6, n, 0, os⟩ = s.data.toList
      · have HD := Aside0.mk (show s = ba (lineL ⟨6, n, 0, os⟩) from ByteArray.ext (Array.toList_inj.1 (by rw [hl])))
        have HL := Aside0.mk hl
        clear hl
        have c0 := HT6.out.c0
        have c1 := HT6.out.c1
        have c2 := HT6.out.c2
        have c3 := HT6.out.c3
        have gp := HT6.out.far
        have pg := Ne.symm HT6.out.far
        go_wp2_with (first | (go_at_call 10; (with_reducible refine (HT6.out.may_t HMY.out).mono ?_); rintro e w6 ⟨rfl, hb⟩; have HS6 := Aside0.mk (HT6.out.below hb); clear c0 c1 c2 c3 gp pg; clear hb; have c0 := HS6.out.c0; have c1 := HS6.out.c1; have c2 := HS6.out.c2; have c3 := HS6.out.c3; have gp := HS6.out.far; have pg := Ne.symm HS6.out.far) | (go_at_call 21; (with_reducible refine (HS6.out.line HG.out HMY.out s HD.out).mono ?_); rintro e w7 ⟨rfl, hb⟩; have HS7 := Aside0.mk (HS6.out.below hb); clear c0 c1 c2 c3 gp pg; clear hb; have c0 := HS7.out.c0; have c1 := HS7.out.c1; have c2 := HS7.out.c2; have c3 := HS7.out.c3; have q1 := HS7.out.fp 1; have q2 := HS7.out.fp 2; have q3 := HS7.out.fp 3; have d0 := HS7.out.d0; have d1 := HS7.out.d1; have d2 := HS7.out.d2; have d3 := HS7.out.d3; have r0 := HS7.out.fg 0; have r1 := HS7.out.fg 1; have r2 := HS7.out.fg 2; have r3 := HS7.out.fg 3; have gp := HS7.out.far; have pg := Ne.symm HS7.out.far))
        try simp only [Exit.inBlock, Exit.then]
        exact bodyPost_ret (results_ct9 rfl _ _ g 35 _ (0, 0) _ rfl HS7.out.full Tryz.underlying35 rfl (by kernel_rfl)) rfl (⟨HS7.out.ret.1, .inl ⟨⟨6, n, 0, os⟩, _, rfl, HS7.out.ret.2, HMY.out, HL.out⟩⟩)
      · obtain ⟨D, hD⟩ : ∃ D, D = ba (lineL ⟨6, n, 0, os⟩) := ⟨_, rfl⟩
        have HD := Aside0.mk hD
        have hne : D ≠ s := fun e => hl (by rw [← e, hD])
        have hn2 : (D.toList == s.toList) = false := beq_eq_false_iff_ne.mpr (fun e => hne (ByteArray.ext (Array.toList_inj.1 (by rw [Lib.toList_data, Lib.toList_data] at e; exact e))))
        have HL := Aside0.mk hl
        clear hl hD
        have c0 := HT6.out.c0
        have c1 := HT6.out.c1
        have c2 := HT6.out.c2
        have c3 := HT6.out.c3
        have gp := HT6.out.far
        have pg := Ne.symm HT6.out.far
        go_wp2_with (first | (go_at_call 10; (with_reducible refine (HT6.out.may_t HMY.out).mono ?_); rintro e w6 ⟨rfl, hb⟩; have HS6 := Aside0.mk (HT6.out.below hb); clear c0 c1 c2 c3 gp pg; clear hb; have c0 := HS6.out.c0; have c1 := HS6.out.c1; have c2 := HS6.out.c2; have c3 := HS6.out.c3; have gp := HS6.out.far; have pg := Ne.symm HS6.out.far) | (go_at_call 21; (with_reducible refine (HS6.out.line HG.out HMY.out D HD.out).mono ?_); rintro e w7 ⟨rfl, hb⟩; have HS7 := Aside0.mk (HS6.out.below hb); clear c0 c1 c2 c3 gp pg; clear hb; have HS8 := Aside0.mk (show St w (w7.alloc (Obj.cells #[.int .i64 i] 69)) g p 6 n 0 (.slice A m cp) os w.heap.size from HS7.out.below (below_alloc (Below.refl _ _) _)); have c0 := HS7.out.c0; have c1 := HS7.out.c1; have c2 := HS7.out.c2; have c3 := HS7.out.c3; have d0 := HS7.out.d0; have d1 := HS7.out.d1; have d2 := HS7.out.d2; have d3 := HS7.out.d3; have r0 := HS7.out.fg 0; have r1 := HS7.out.fg 1; have r2 := HS7.out.fg 2; have r3 := HS7.out.fg 3; have dd0 := HS8.out.d0; have dd1 := HS8.out.d1; have dd2 := HS8.out.d2; have dd3 := HS8.out.d3; have rr0 := HS8.out.fg 0; have rr1 := HS8.out.fg 1; have rr2 := HS8.out.fg 2; have rr3 := HS8.out.fg 3; have gz : g ≠ w7.heap.size := Nat.ne_of_lt (blk_lt HS7.out.Q); have gy : (g = w7.heap.size) = False := eq_false gz; have gp := HS7.out.far; have pg := Ne.symm HS7.out.far))
        try simp only [Exit.inBlock, Exit.then]
        exact bodyPost_ret (results_ct9 rfl _ _ g 35 _ (0, 0) _ rfl HS8.out.full Tryz.underlying35 rfl (by kernel_rfl)) rfl (⟨HS8.out.ret.1, .inr ⟨⟨_, _, _, _, _, _, _, rfl⟩, fun en hp _ hh => HL.out (by obtain ⟨b, hb1, hb2⟩ := hp; obtain rfl := Plain.quote_inj (hb1.trans HQU.out.symm); exact hb2 ▸ hh)⟩⟩)
    · have HMY := Aside0.mk hm
      clear hm
      have c0 := HT6.out.c0
      have c1 := HT6.out.c1
      have c2 := HT6.out.c2
      have c3 := HT6.out.c3
      have gp := HT6.out.far
      have pg := Ne.symm HT6.out.far
      go_wp2_with (first | (go_at_call 10; (with_reducible refine (HT6.out.may_f HMY.out).mono ?_); rintro e w6 ⟨rfl, hb⟩; have HS6 := Aside0.mk (HT6.out.below hb); clear c0 c1 c2 c3 gp pg; clear hb; have HS8 := Aside0.mk (show St w (w6.alloc (Obj.cells #[.int .i64 i] 69)) g p 6 n 0 (.slice A m cp) os w.heap.size from HS6.out.below (below_alloc (Below.refl _ _) _)); have c0 := HS6.out.c0; have c1 := HS6.out.c1; have c2 := HS6.out.c2; have c3 := HS6.out.c3; have d0 := HS6.out.d0; have d1 := HS6.out.d1; have d2 := HS6.out.d2; have d3 := HS6.out.d3; have r0 := HS6.out.fg 0; have r1 := HS6.out.fg 1; have r2 := HS6.out.fg 2; have r3 := HS6.out.fg 3; have dd0 := HS8.out.d0; have dd1 := HS8.out.d1; have dd2 := HS8.out.d2; have dd3 := HS8.out.d3; have rr0 := HS8.out.fg 0; have rr1 := HS8.out.fg 1; have rr2 := HS8.out.fg 2; have rr3 := HS8.out.fg 3; have gz : g ≠ w6.heap.size := Nat.ne_of_lt (blk_lt HS6.out.Q); have gy : (g = w6.heap.size) = False := eq_false gz; have gp := HS6.out.far; have pg := Ne.symm HS6.out.far))
      try simp only [Exit.inBlock, Exit.then]
      exact bodyPost_ret (results_ct9 rfl _ _ g 35 _ (0, 0) _ rfl HS8.out.full Tryz.underlying35 rfl (by kernel_rfl)) rfl (⟨HS8.out.ret.1, .inr ⟨⟨_, _, _, _, _, _, _, rfl⟩, fun en hp hh _ => HMY.out (by obtain ⟨b, hb1, hb2⟩ := hp; obtain rfl := Plain.quote_inj (hb1.trans HQU.out.symm); exact hb2 ▸ hh)⟩⟩)
  · have HQU := Aside0.mk hq
    clear hq
    have HZ := Aside0.mk (show St w (w5.alloc (Obj.cells #[.int .i64 i] 69)) g p 6 n 0 (.slice none 0 0) [] w.heap.size from HT5.out.below (below_alloc (Below.refl _ _) _))
    have c0 := HT5.out.c0
    have c1 := HT5.out.c1
    have c2 := HT5.out.c2
    have c3 := HT5.out.c3
    have d0 := HT5.out.d0
    have d1 := HT5.out.d1
    have d2 := HT5.out.d2
    have d3 := HT5.out.d3
    have r0 := HT5.out.fg 0
    have r1 := HT5.out.fg 1
    have r2 := HT5.out.fg 2
    have r3 := HT5.out.fg 3
    have dd0 := HZ.out.d0
    have dd1 := HZ.out.d1
    have dd2 := HZ.out.d2
    have dd3 := HZ.out.d3
    have rr0 := HZ.out.fg 0
    have rr1 := HZ.out.fg 1
    have rr2 := HZ.out.fg 2
    have rr3 := HZ.out.fg 3
    have gz : g ≠ w5.heap.size := Nat.ne_of_lt (blk_lt HT5.out.Q)
    have gy : (g = w5.heap.size) = False := eq_false gz
    have gp := HT5.out.far
    have pg := Ne.symm HT5.out.far
    go_wp2
    try simp only [Exit.inBlock, Exit.then]
    exact bodyPost_ret (results_ct9 rfl _ _ g 35 _ (0, 0) _ rfl HZ.out.full Tryz.underlying35 rfl (by kernel_rfl)) rfl (⟨HZ.out.ret.1, .inr ⟨⟨_, _, _, _, _, _, _, rfl⟩, fun en hp _ _ => by obtain ⟨b, hb1, _⟩ := hp; exact HQU.out b hb1⟩⟩)
set_option maxHeartbeats 16000000 in
set_option maxRecDepth 100000 in
theorem rd_6n (s X Y Z q : ByteArray) (i n : Int) (w : World) (hG : Glob w) (hn : 0 ≤ n) (hn2 : n ≤ 2147483647) (hR : Rd s X Y Z q n 6 false) : Calls Tryz.prog 15 #[.string s, .int .i64 i] w (Post s w (fun en => False)) := by
  have HG := Aside0.mk hG
  have HR := Aside0.mk hR
  clear hG hR
  go_enter Tryz.func15, Tryz.ntmps15
  go_upto_region 1 with (fail)
  go_upto_region 3 with (first | (go_at_call 27; (with_reducible refine (HR.out.cut1 _ (HG.out.below (below_alloc (Below.refl _ _) _))).mono ?_); rintro e w1 ⟨⟨z1, rfl⟩, hb⟩; have HB1 := Aside0.mk hb; clear hb) | (go_at_call 28; (with_reducible refine (kinds_calls _).mono ?_); rintro e w2 ⟨rfl, ho, hb⟩; have HO := Aside0.mk ho; have HB2 := Aside0.mk hb; clear ho hb) | (at_lookup; refine wpList_lookup_own_int _ rfl _ _ 64 rfl 9 32 .i64 law Tryz.underlying64 Tryz.underlying32 (zero_kind _) _ 7 kindsD rfl HO.out _ _ rfl HR.out.key ?_; intro c hat _; have hc := HR.out.kind c hat; subst c; clear hat))
  obtain ⟨W1, hW1⟩ : ∃ W1, W1 = w2.alloc (Obj.cells #[.int .i64 6, .int .i64 0, .int .i64 0, .slice none 0 0] 35) := ⟨_, rfl⟩
  obtain ⟨g, hg⟩ : ∃ g, g = w.heap.size := ⟨_, rfl⟩
  obtain ⟨p, hp⟩ : ∃ p, p = w2.heap.size := ⟨_, rfl⟩
  have hgw2 : (w.alloc (Obj.cells #[.int .i64 0, .int .i64 0, .int .i64 0, .slice none 0 0] 35)).heap.size ≤ w2.heap.size := Nat.le_trans HB1.out.size HB2.out.size
  have hgp : g < p := by rw [hg, hp]; simp at hgw2; omega
  have hb12 := HB1.out.trans (HB2.out.mono HB1.out.size)
  have HP1 := Aside0.mk (show W1.heap[p]? = some (.cells #[.int .i64 6, .int .i64 0, .int .i64 0, .slice none 0 0] 35 (0, 0)) from by rw [hW1, hp]; exact blk_new w2 _)
  have HQ1 := Aside0.mk (show W1.heap[g]? = some (.cells #[.int .i64 0, .int .i64 0, .int .i64 0, .slice none 0 0] 35 (0, 0)) from by rw [hW1, hg]; exact blk_alloc (blk_below (blk_new w _) hb12) _)
  have HB5 := Aside0.mk (show Below g w W1 from by rw [hW1, hg]; exact ((below_alloc (Below.refl _ _) _).trans (hb12.mono (by simp))).trans (below_alloc ((Below.refl _ _)) _ |>.mono (by simp at hgw2; omega)))
  have HGE := Aside0.mk hg
  have HGP := Aside0.mk hgp
  rw [← hW1, ← hg, ← hp]
  clear HB1 HO HB2 hW1 hg hp hgw2 hgp hb12
  go_upto_region 6 with (first | (go_at_call 27; (with_reducible refine (HR.out.cut2 _ (HG.out.low HGE.out HB5.out)).mono ?_); rintro e w3 ⟨⟨z2, rfl⟩, hb⟩; have HB3 := Aside0.mk hb; clear hb) | (go_at_call 29; (with_reducible refine (HR.out.num _ (HG.out.low HGE.out (HB5.out.trans (HB3.out.mono (Nat.le_of_lt (blk_lt HQ1.out)))))).mono ?_); rintro e w4 ⟨⟨ev, rfl, he⟩, hb⟩; have HE := Aside0.mk he; have HB4 := Aside0.mk hb; clear hb he))
  have hb14 := HB3.out.trans (HB4.out.mono HB3.out.size)
  have HS := Aside0.mk (show St w w4 g p 6 0 0 (.slice none 0 0) [] w.heap.size from ⟨HGP.out, HGE.out, blk_below HP1.out hb14, blk_below HQ1.out hb14, HB5.out.trans (hb14.mono (Nat.le_of_lt (blk_lt HQ1.out))), Kd.R_nil _ _ _ _ _⟩)
  clear hb14 HB3 HB4 HB5 HP1 HQ1
  obtain ⟨N, rfl⟩ := HE.out.2 (by trivial)
  clear HE
  have c0 := HS.out.c0
  have c1 := HS.out.c1
  have c2 := HS.out.c2
  have c3 := HS.out.c3
  have q1 := HS.out.fp 1
  have q2 := HS.out.fp 2
  have q3 := HS.out.fp 3
  go_upto_region 14 with (fail)
  clear c0 c1 c2 c3 q1 q2 q3
  obtain ⟨W5, hW⟩ : ∃ W, W = w4.setCell ⟨p, 1, none⟩ (.int .i64 n) := ⟨_, rfl⟩
  have HT := Aside0.mk (show St w W5 g p 6 n 0 (.slice none 0 0) [] w.heap.size from by rw [hW]; exact HS.out.set1 n)
  rw [← hW]
  clear hW
  have c0 := HT.out.c0
  have c1 := HT.out.c1
  have c2 := HT.out.c2
  have c3 := HT.out.c3
  have q1 := HT.out.fp 1
  have q2 := HT.out.fp 2
  have q3 := HT.out.fp 3
  go_upto_region 16 with (first | (go_at_call 30; (with_reducible refine (HR.out.unq _ (HT.out.glob HG.out)).mono ?_); rintro e w5 ⟨⟨A, m, cp, is, rfl, hu⟩, hb⟩; have HT5 := Aside0.mk (HT.out.below hb); have HU := Aside0.mk hu; clear hb hu))
  clear c0 c1 c2 c3 q1 q2 q3
  rcases HU.out with ⟨rfl, os, hq, hv⟩ | ⟨rfl, hq⟩
  · have HQU := Aside0.mk hq
    have HV := Aside0.mk (show RV w5 w.heap.size (.slice A m cp) os from Kd.R_lower hv (HT.out.B.size))
    clear hq hv
    have c0 := HT5.out.c0
    have c1 := HT5.out.c1
    have c2 := HT5.out.c2
    have c3 := HT5.out.c3
    have q1 := HT5.out.fp 1
    have q2 := HT5.out.fp 2
    have q3 := HT5.out.fp 3
    go_upto_region 19 with (fail)
    clear c0 c1 c2 c3 q1 q2 q3
    obtain ⟨W6, hW⟩ : ∃ W, W = w5.setCell ⟨p, 3, none⟩ (.slice A m cp) := ⟨_, rfl⟩
    have HT6 := Aside0.mk (show St w W6 g p 6 n 0 (.slice A m cp) os w.heap.size from by rw [hW]; exact HT5.out.set3 HV.out)
    rw [← hW]
    clear hW
    have HZ := Aside0.mk (show St w (W6.alloc (Obj.cells #[.int .i64 i] 69)) g p 6 n 0 (.slice A m cp) os w.heap.size from HT6.out.below (below_alloc (Below.refl _ _) _))
    have c0 := HT6.out.c0
    have c1 := HT6.out.c1
    have c2 := HT6.out.c2
    have c3 := HT6.out.c3
    have d0 := HT6.out.d0
    have d1 := HT6.out.d1
    have d2 := HT6.out.d2
    have d3 := HT6.out.d3
    have r0 := HT6.out.fg 0
    have r1 := HT6.out.fg 1
    have r2 := HT6.out.fg 2
    have r3 := HT6.out.fg 3
    have dd0 := HZ.out.d0
    have dd1 := HZ.out.d1
    have dd2 := HZ.out.d2
    have dd3 := HZ.out.d3
    have rr0 := HZ.out.fg 0
    have rr1 := HZ.out.fg 1
    have rr2 := HZ.out.fg 2
    have rr3 := HZ.out.fg 3
    have gz : g ≠ W6.heap.size := Nat.ne_of_lt (blk_lt HT6.out.Q)
    have gy : (g = W6.heap.size) = False := eq_false gz
    have gp := HT6.out.far
    have pg := Ne.symm HT6.out.far
    go_wp2
    try simp only [Exit.inBlock, Exit.then]
    exact bodyPost_ret (results_ct9 rfl _ _ g 35 _ (0, 0) _ rfl HZ.out.full Tryz.underlying35 rfl (by kernel_rfl)) rfl (⟨HZ.out.ret.1, .inr ⟨⟨_, _, _, _, _, _, _, rfl⟩, fun en hp _ _ => hp⟩⟩)
  · have HQU := Aside0.mk hq
    clear hq
    have HZ := Aside0.mk (show St w (w5.alloc (Obj.cells #[.int .i64 i] 69)) g p 6 n 0 (.slice none 0 0) [] w.heap.size from HT5.out.below (below_alloc (Below.refl _ _) _))
    have c0 := HT5.out.c0
    have c1 := HT5.out.c1
    have c2 := HT5.out.c2
    have c3 := HT5.out.c3
    have d0 := HT5.out.d0
    have d1 := HT5.out.d1
    have d2 := HT5.out.d2
    have d3 := HT5.out.d3
    have r0 := HT5.out.fg 0
    have r1 := HT5.out.fg 1
    have r2 := HT5.out.fg 2
    have r3 := HT5.out.fg 3
    have dd0 := HZ.out.d0
    have dd1 := HZ.out.d1
    have dd2 := HZ.out.d2
    have dd3 := HZ.out.d3
    have rr0 := HZ.out.fg 0
    have rr1 := HZ.out.fg 1
    have rr2 := HZ.out.fg 2
    have rr3 := HZ.out.fg 3
    have gz : g ≠ w5.heap.size := Nat.ne_of_lt (blk_lt HT5.out.Q)
    have gy : (g = w5.heap.size) = False := eq_false gz
    have gp := HT5.out.far
    have pg := Ne.symm HT5.out.far
    go_wp2
    try simp only [Exit.inBlock, Exit.then]
    exact bodyPost_ret (results_ct9 rfl _ _ g 35 _ (0, 0) _ rfl HZ.out.full Tryz.underlying35 rfl (by kernel_rfl)) rfl (⟨HZ.out.ret.1, .inr ⟨⟨_, _, _, _, _, _, _, rfl⟩, fun en hp _ _ => hp⟩⟩)
end Go.Proofs.YtjapnbghnnbamaaGreatDoor.Rw
