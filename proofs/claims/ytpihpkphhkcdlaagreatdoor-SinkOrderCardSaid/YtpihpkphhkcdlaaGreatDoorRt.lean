/- The reference's Take; the sink's Len, Last and Get. -/
import Derived.Test.YtpihpkphhkcdlaaGreatDoorWt
namespace Go.Proofs.YtpihpkphhkcdlaaGreatDoor.Rt
open Go.RowKit Go.Maps Go.Proofs.YtpihpkphhkcdlaaGreatDoorW.PrintWords Go.Proofs.YtpihpkphhkcdlaaGreatDoorW.PrintLast Go.Proofs.YtpihpkphhkcdlaaGreatDoor.PR Go.Proofs.YtpihpkphhkcdlaaGreatDoor.Tab Go.Proofs.YtpihpkphhkcdlaaGreatDoor.Kp Go.Proofs.YtpihpkphhkcdlaaGreatDoor.Pd Go.Proofs.YtpihpkphhkcdlaaGreatDoor.Fr Go.Proofs.YtpihpkphhkcdlaaGreatDoor.May Go.Proofs.YtpihpkphhkcdlaaGreatDoor.De Go.Proofs.YtpihpkphhkcdlaaGreatDoor.Sk Go.Proofs.YtpihpkphhkcdlaaGreatDoor.Lk Go.Proofs.YtpihpkphhkcdlaaGreatDoor.Eq Go.Proofs.YtpihpkphhkcdlaaGreatDoor.Tke Go.Proofs.YtpihpkphhkcdlaaGreatDoor.Cr Go.Proofs.YtpihpkphhkcdlaaGreatDoor.Mc Go.Proofs.YtpihpkphhkcdlaaGreatDoor.Wk Go.Proofs.YtpihpkphhkcdlaaGreatDoor.Wd Go.Proofs.YtpihpkphhkcdlaaGreatDoor.Wt Go.Proofs.YtpihpkphhkcdlaaGreatDoor.Ext
set_option linter.unusedVariables false
set_option linter.unusedSimpArgs false
theorem wC_get (A : Option Addr) (n c : Nat) (N : List Int) (t : Nat) (h : t < 6) : (wC A n c N)[1 + t]? = some (.int .i64 (N.getD t 0)) := by
  have ht : t = 0 ∨ t = 1 ∨ t = 2 ∨ t = 3 ∨ t = 4 ∨ t = 5 := by omega
  rcases ht with rfl | rfl | rfl | rfl | rfl | rfl <;> rfl
theorem wC_set (A : Option Addr) (n c : Nat) (N : List Int) (t : Nat) (h : t < 6) : (wC A n c N).setIfInBounds (1 + t) (.int .i64 (wrap64 (N.getD t 0 + 1))) = wC A n c (bump N t) := by
  have ht : t = 0 ∨ t = 1 ∨ t = 2 ∨ t = 3 ∨ t = 4 ∨ t = 5 := by omega
  rcases ht with rfl | rfl | rfl | rfl | rfl | rfl <;> rfl
theorem isw_count {w : World} {g lo : Nat} {A : Option Addr} {c : Nat} {N : List Int} {P : List KP} (h : IsW w g lo A c N P) (t : Nat) (ht : t < 6) : IsW (w.setCell ⟨g, 1 + t, none⟩ (.int .i64 (wrap64 (N.getD t 0 + 1)))) g lo A c (bump N t) P := by
  have kk : Keep (fun j => j = g) w (w.setCell ⟨g, 1 + t, none⟩ (.int .i64 (wrap64 (N.getD t 0 + 1)))) := (Keep.refl (fun j => j = g) w).set (g := g) rfl _ _
  have hF : ∀ j, lo ≤ j → ¬ (fun j => j = g) j := fun j hj e => by have e' : j = g := e; have := h.low; omega
  exact ⟨blk_put h.blk (1 + t) _ (wC_set _ _ _ _ t ht), h.row.keep kk hF, h.all.keep kk hF, h.low⟩
set_option maxHeartbeats 4000000 in
set_option maxRecDepth 1000000 in
theorem reftake_calls (g lo : Nat) (A0 : Option Addr) (c0 : Nat) (N : List Int) (P : List KP) (A : Option Addr) (cp : Nat) (bs : List UInt8) (hl : bs.length ≤ 1000000) (hcp : bs.length ≤ cp) (w : World) (hr : ReadsInt w .u8 A bs.length (nb bs)) (hW : IsW w g lo A0 c0 N P) (hlo : lo ≤ w.heap.size) (hP : P.length ≤ 1000) :
    Calls Tryz.prog 11 #[.pointer (some ⟨g, 0, none⟩), .slice A bs.length cp] w fun e w' => e = .returned (.int .i64 (tookP (KF P) bs).1) ∧ (∃ A' c' N' P', IsW w' g lo A' c' N' P' ∧ (KF P').Perm (tookP (KF P) bs).2) ∧ Keep (fun j => j = g) w w' := by
  have HT := Aside0.mk (reft_calls g lo A0 c0 N P A cp bs hl hcp w hr hW hlo hP)
  obtain ⟨t, ht, ht1, ht5⟩ := tookP_fate (KF P) bs
  rw [ht] at HT ⊢
  have hpt : (0 : Int) ≤ (t : Int) := by omega
  have hp6 : (t : Int) < 6 := by omega
  have HT6 := Aside0.mk (show t < 6 from by omega)
  clear ht ht1 ht5 hW hr hlo hP
  go_enter Tryz.func11, Tryz.ntmps11
  go_upto_region 2 with (first | (go_at_call 27; (with_reducible refine HT.out.mono ?_); rintro e_ w1 ⟨rfl, ⟨A', c', P', h1, hp⟩, h2⟩; have HS1 := Aside0.mk h1; have HPP := Aside0.mk hp; have HK1 := Aside0.mk h2; clear h1 h2 hp))
  have c0 : w1.cell? ⟨g, 1 + t, none⟩ = some (.int .i64 (N.getD t 0)) := (blk_cell HS1.out.blk (1 + t)).trans (wC_get _ _ _ _ t HT6.out)
  have f0 := blk_frozen HS1.out.blk (1 + t)
  have c1 : w1.drew.cell? ⟨g, 1 + t, none⟩ = some (.int .i64 (N.getD t 0)) := c0
  have f1 : w1.drew.frozen? ⟨g, 1 + t, none⟩ = false := f0
  go_region
  have HI := Aside0.mk (isw_count HS1.out t HT6.out)
  have HKK := Aside0.mk (HK1.out.set (g := g) rfl (1 + t) (.int .i64 (wrap64 (N.getD t 0 + 1))))
  rw [List.getD_eq_getElem?_getD] at HI HKK
  clear c0 f0 c1 f1
  go_wp2
  go_ret
  exact ⟨rfl, ⟨_, _, _, _, HI.out.below (below_drew1 (Below.refl _ _)), HPP.out⟩, HKK.out.drew⟩
set_option maxHeartbeats 4000000 in
theorem slen_calls (ok : Nat → Prop) (g ml mw : Nat) (k : K) (c : List Int) (w : World) (hS : IsS w ok g ml mw k c) : Calls Tryz.prog 12 #[.pointer (some ⟨g, 0, none⟩)] w fun e w' => e = .returned (.int .i64 (k.length : Nat)) ∧ w' = w := by
  obtain ⟨hb, ⟨D, D2, h1, h2, hs⟩, _, _⟩ := hS
  have c0 : w.cell? ⟨g, 0, none⟩ = some (.map (some ml)) := (blk_cell hb 0).trans rfl
  have hln := lenL h1
  rw [hs.size1] at hln
  clear h1 h2 hs hb
  go_enter Tryz.func12, Tryz.ntmps12
  go_wp2
  go_ret
  exact ⟨rfl, rfl⟩
/-- m is the greatest number kept, or 0. -/
def IsMax (k : K) (m : Nat) : Prop := (∀ e ∈ k, e.1.seq ≤ m) ∧ (m = 0 ∨ ∃ e ∈ k, e.1.seq = m)
theorem isMax_uniq {k k' : K} (h : k.Perm k') {m m' : Nat} (a : IsMax k m) (b : IsMax k' m') : m = m' := by
  have h1 : m ≤ m' := by
    rcases a.2 with e | ⟨x, hx, e⟩
    · omega
    · have := b.1 x (h.mem_iff.1 hx); omega
  have h2 : m' ≤ m := by
    rcases b.2 with e | ⟨x, hx, e⟩
    · omega
    · have := a.1 x (h.mem_iff.2 hx); omega
  omega
set_option maxHeartbeats 4000000 in
set_option maxRecDepth 1000000 in
theorem slast_calls (ok : Nat → Prop) (g ml mw : Nat) (k : K) (c : List Int) (w : World) (hS : IsS w ok g ml mw k c) : Calls Tryz.prog 13 #[.pointer (some ⟨g, 0, none⟩)] w fun e w' => (∃ m : Nat, e = .returned (.int .u64 (m : Int)) ∧ IsMax k m) ∧ Below w.heap.size w w' := by
  obtain ⟨hb, ⟨D, D2, h1, h2, hs⟩, _, _⟩ := hS
  have c0 : w.cell? ⟨g, 0, none⟩ = some (.map (some ml)) := (blk_cell hb 0).trans rfl
  have HM := Aside0.mk h1
  have HS := Aside0.mk hs
  have HMC := Aside0.mk (show ∀ m : Nat, (∀ q : Nat, has D (uL q) = true → q ≤ m) → (m = 0 ∨ has D (uL m) = true) → IsMax k m from fun m ha hb => by
    refine ⟨fun e he => ha _ (by rw [hs.has1]; exact List.any_eq_true.2 ⟨e, he, by simp⟩), ?_⟩
    rcases hb with h | h
    · exact .inl h
    · rw [hs.has1] at h
      obtain ⟨e, he, h⟩ := List.any_eq_true.1 h
      exact .inr ⟨e, he, of_decide_eq_true h⟩)
  clear h1 h2 hs hb
  go_enter Tryz.func13, Tryz.ntmps13
  go_wp2_with (first | (at_range; refine wpList_range_own _ rfl _ _ rfl 40 71 kL Tryz.underlying51 kR ml k.length D rfl HM.out ?_; intro w1 h1 h2 h3; have HR1 := Aside0.mk (And.intro h1 (And.intro h2 h3)); clear h1 h2 h3))
  go_frame
  obtain ⟨r, hr⟩ : ∃ r, r = w.heap.size := ⟨_, rfl⟩
  rw [← hr] at HR1 ⊢
  have HRR := Aside0.mk hr
  clear hr c0
  have HB1 := Aside0.mk (show Below w.heap.size w w1 from (Below.refl w.heap.size w).grown HR1.out.2.1 (Nat.le_refl _) (fun j hj => by cases hj))
  go_loopg [2, 3] (Maps.size D) (fun kq v2 v3 w' => ∃ (left : Lit → Bool) (m : Nat), v2 = .int .u64 (m : Int) ∧ Aside0 (w'.ranges Tryz.prog 40 kR ml r k.length D left kq) ∧ Aside0 ((∀ q : Nat, has D (uL q) = true → left (uL q) = true ∨ q ≤ m) ∧ (m = 0 ∨ has D (uL m) = true) ∧ (∀ q : Nat, left (uL q) = true → has D (uL q) = true)) ∧ Aside0 (Below w.heap.size w w'))
  case atStart => exact ⟨Maps.has D, 0, rfl, ⟨HR1.out.1⟩, ⟨fun q h => .inl h, .inl rfl, fun q h => h⟩, HB1⟩
  case round =>
    clear HR1 HB1
    obtain ⟨left, m, rfl, HR, HO, HB⟩ := hrel
    go_wp2_with (first | (at_next; refine wpList_next_ranges _ rfl _ rfl 40 kL kR (fun x : Int => Value.int .u64 x) (fun q : Value × Value × Value × Value => Value.agg #[q.1, q.2.1, q.2.2.1, q.2.2.2]) (fun key kl h => by obtain ⟨x, e, _⟩ := Maps.keyOf_int_inv Tryz.underlying40 h; exact ⟨x, e⟩) kR_inv ml r k.length D left gk rfl HR.out ?_ ?_))
    · intro hc0 hl
      have HF := Aside0.mk (HMC.out m (fun q hq => by have := HO.out.1 q hq; rw [hl] at this; simpa using this) HO.out.2.1)
      clear hc0 hl
      go_wp2
      go_ret
      exact ⟨⟨m, rfl, HF.out⟩, HB.out⟩
    · rintro x q0 q1 q2 q3 kl y yp w2 cnt2 hkey hlk hy hat hrg hlt hgr hsz hen
      obtain ⟨x', e, rfl, hwf⟩ := Maps.keyOf_int_inv Tryz.underlying40 hkey
      obtain rfl : x = x' := by injection e
      have hx0 : 0 ≤ x := by
        unfold Lit.wf at hwf
        simp [IntKind.min, IntKind.max, IntKind.bits, IntKind.signed] at hwf
        omega
      obtain ⟨n, rfl⟩ := Int.eq_ofNat_of_zero_le hx0
      have HRG := Aside0.mk (And.intro hrg hlt)
      have HB2 := Aside0.mk (HB.out.grown hgr (by have := HB.out.size; omega) (fun j hj => by have := HRR.out; have := Option.some.inj hj; omega))
      have HN := Aside0.mk (show (∀ q : Nat, has D (uL q) = true → (left (uL q) && !(uL q).sameKey (uL n)) = true ∨ q ≤ max m n) ∧ (max m n = 0 ∨ has D (uL (max m n)) = true) from by
        refine ⟨fun q hq => ?_, ?_⟩
        · rcases HO.out.1 q hq with h | h
          · by_cases hs : (uL q).sameKey (uL n) = true
            · have := WideAt.sameKey_eq hs
              injection this with _ this
              exact .inr (by omega)
            · exact .inl (by simp [h, hs])
          · exact .inr (by omega)
        · rcases Nat.le_total m n with h | h
          · rw [Nat.max_eq_right h]
            exact .inr (HO.out.2.2 n hlk)
          · rw [Nat.max_eq_left h]
            exact HO.out.2.1)
      clear hkey hlk hy hat hrg hlt hgr hsz hwf e hx0
      go_wp2
      go_roundg cnt2
      case measure => exact HRG.out.2
      case rel =>
        refine ⟨_, max m n, ?_, ⟨HRG.out.1⟩, ⟨HN.out.1, HN.out.2, fun q hq => HO.out.2.2 q (by simp only [Bool.and_eq_true] at hq; exact hq.1)⟩, HB2⟩
        show Value.int .u64 (max (m : Int) (n : Int)) = _
        rw [show (max (m : Int) (n : Int)) = ((max m n : Nat) : Int) by omega]
theorem dec_recs {bs : List UInt8} {f : Frm} (h : decP bs = (f, 0)) : f.recs.length ≤ 4096 := by
  unfold decP at h
  split at h
  · injection h with _ h; cases h
  · split at h
    · injection h with _ h; cases h
    · split at h
      · injection h with _ h; cases h
      · dsimp only at h
        split at h
        · injection h with _ h; cases h
        · split at h
          · injection h with _ h; cases h
          · rename_i h9
            injection h with h _
            subst h
            have h8 : mayP (frmP ((bs.take (bs.length - 4)).drop 4)).1 = true := by
              cases hm : mayP (frmP ((bs.take (bs.length - 4)).drop 4)).1
              · exact absurd (.inr hm) h9
              · rfl
            unfold mayP at h8
            simp only [Bool.and_eq_true, decide_eq_true_eq] at h8
            exact h8.1.2
set_option maxHeartbeats 4000000 in
set_option maxRecDepth 1000000 in
theorem sget_calls (ok : Nat → Prop) (g ml mw : Nat) (k : K) (c : List Int) (w : World) (hS : IsS w ok g ml mw k c) (e0 : Frm × List UInt8) (he : e0 ∈ k) (hl : e0.1.recs.length ≤ 1000000) : Calls Tryz.prog 14 #[.pointer (some ⟨g, 0, none⟩), .int .u64 (e0.1.seq : Nat)] w fun e w' => (∃ A' c', e = .returned (.tuple #[.agg #[.int .u64 (e0.1.seq : Nat), .int .i64 e0.1.win, .slice A' e0.1.recs.length c'], .bool true]) ∧ e0.1.recs.length ≤ c' ∧ RecsAt w' A' e0.1.win e0.1.recs) ∧ Below w.heap.size w w' := by
  have HSZ := Aside0.mk (show (Tryz.prog.info? 44).map (·.size) = some 3 from by kernel_rfl)
  have HSK := Aside0.mk (show (Tryz.prog.info? 71).map (·.size) = some 4 from by kernel_rfl)
  obtain ⟨hb, ⟨D, D2, h1, h2, hs⟩, _, _⟩ := hS
  have c0 : w.cell? ⟨g, 0, none⟩ = some (.map (some ml)) := (blk_cell hb 0).trans rfl
  have hbd := (hs.fits e0 he).1
  obtain ⟨v, hv, Ar, cr, Ab, cb, rfl, hrl, hra, hbl, hbr, _, _⟩ := hs.val1 e0 he
  have HLK := Aside0.mk (show ∀ W : World, Below w.heap.size w W → (Instr.lookup 51 (.map (some ml)) (.int .u64 (e0.1.seq : Int)) true).run Tryz.prog W = .ok (.tuple #[.agg #[.int .u64 (e0.1.seq : Nat), .int .i64 e0.1.win, .slice Ar e0.1.recs.length cr, .slice Ab e0.2.length cb], .bool true]) W from fun W hb => by
    have hlk := look1 (own_map_keep h1 (Keep.of_below (F := fun _ => False) hb) id) e0.1.seq hbd
    rw [hv, hs.has1, List.any_eq_true.2 ⟨e0, he, by simp⟩] at hlk
    exact hlk)
  have HRA := Aside0.mk hra
  have HRL := Aside0.mk (And.intro hrl hl)
  have HM := Aside0.mk h1
  clear hs h1 h2 hb hbd hv hra hrl hbl hbr he hl
  obtain ⟨⟨seq, win, recs⟩, bs⟩ := e0
  dsimp only at *
  go_enter Tryz.func14, Tryz.ntmps14
  go_upto_region 3 with (fail)
  have HX := Aside0.mk (blk_new w (.cells #[.int .u64 0, .int .i64 0, .slice none 0 0] 44))
  have HB1 := Aside0.mk (below_alloc (Below.refl w.heap.size w) (.cells #[.int .u64 0, .int .i64 0, .slice none 0 0] 44))
  have c1 := pw_cell_below HB1.out c0
  have hlk1 := HLK.out (w.alloc (.cells #[.int .u64 0, .int .i64 0, .slice none 0 0] 44)) HB1.out
  clear c0
  generalize w.alloc (.cells #[.int .u64 0, .int .i64 0, .slice none 0 0] 44) = W1 at HX HB1 c1 hlk1 ⊢
  have HSZ4 := Aside0.mk (show (Tryz.prog.info? 71).map (·.size) = some (#[.int .u64 (seq : Nat), .int .i64 win, .slice Ar recs.length cr, .slice Ab bs.length cb] : Array Value).size from HSK.out)
  have HON := Aside0.mk (show (#[.int .u64 (seq : Nat), .int .i64 win, .slice Ar recs.length cr, .slice Ab bs.length cb] : Array Value).all (·.oneCell') = true from by simp [Value.oneCell'])
  go_upto_region 4 with (first | (refine wpList_store_row rfl 71 (.tmp 6) (.tmp 18) rfl W1.heap.size #[.int .u64 (seq : Nat), .int .i64 win, .slice Ar recs.length cr, .slice Ab bs.length cb] rfl rfl 71 #[.int .u64 0, .int .i64 0, .slice none 0 0, .slice none 0 0] (blk_new W1 _) HSZ4.out rfl HON.out ?_))
  try simp only [Act.put]
  have HX2 := Aside0.mk (setRow_heap (W1.alloc (.cells #[.int .u64 0, .int .i64 0, .slice none 0 0, .slice none 0 0] 71)) W1.heap.size _ #[.int .u64 (seq : Nat), .int .i64 win, .slice Ar recs.length cr, .slice Ab bs.length cb] 71 (0, 0) (blk_new W1 _))
  have HB2 := Aside0.mk (below_setRow (below_alloc (Below.refl W1.heap.size W1) (.cells #[.int .u64 0, .int .i64 0, .slice none 0 0, .slice none 0 0] 71)) (Nat.le_refl _) #[.int .u64 (seq : Nat), .int .i64 win, .slice Ar recs.length cr, .slice Ab bs.length cb])
  generalize (W1.alloc (.cells #[.int .u64 0, .int .i64 0, .slice none 0 0, .slice none 0 0] 71)).setRow W1.heap.size #[.int .u64 (seq : Nat), .int .i64 win, .slice Ar recs.length cr, .slice Ab bs.length cb] = W2 at HX2 HB2 ⊢
  have HX3 := Aside0.mk (blk_b HX.out HB2.out)
  have HB3 := Aside0.mk (HB1.out.trans (HB2.out.mono HB1.out.size))
  have HR3 := Aside0.mk (HRA.out.below HB3.out)
  clear c1 hlk1
  generalize W1.heap.size = g7 at HX2 ⊢
  have x0 : W2.cell? ⟨g7, 0, none⟩ = some (.int .u64 (seq : Nat)) := (blk_cell HX2.out 0).trans rfl
  have x1 : W2.cell? ⟨g7, 1, none⟩ = some (.int .i64 win) := (blk_cell HX2.out 1).trans rfl
  have x2 : W2.cell? ⟨g7, 2, none⟩ = some (.slice Ar recs.length cr) := (blk_cell HX2.out 2).trans rfl
  go_wp2_with (first | (go_at_call 28; (with_reducible refine (copied_calls (seq : Int) Ar cr win recs _ HR3.out HRL.out.1 HRL.out.2).mono ?_); rintro e_ w3 ⟨A', c', rfl, h1, h2, h3, h4⟩; have H3 := Aside0.mk (And.intro h1 (And.intro h2 h3)); have HX5 := Aside0.mk (blk_b HX3.out h4); have HB5 := Aside0.mk (HB3.out.trans (h4.mono HB3.out.size)); have HON5 := Aside0.mk (show (#[.int .u64 (seq : Nat), .int .i64 win, .slice A' recs.length c'] : Array Value).all (·.oneCell') = true from by simp [Value.oneCell']); clear h1 h2 h3 h4) | (refine wpList_store_row rfl 44 (.tmp 4) (.tmp 22) rfl w.heap.size #[.int .u64 (seq : Nat), .int .i64 win, .slice A' recs.length c'] rfl rfl 44 #[.int .u64 0, .int .i64 0, .slice none 0 0] HX5.out HSZ.out rfl HON5.out ?_))
  have HF := Aside0.mk (setRow_heap w3 w.heap.size _ #[.int .u64 (seq : Nat), .int .i64 win, .slice A' recs.length c'] 44 (0, 0) HX5.out)
  try simp only [Exit.inBlock, Exit.then]
  refine bodyPost_ret (results_ct rfl _ _ w.heap.size 44 _ (0, 0) _ rfl HF.out Tryz.underlying44 rfl HSZ.out) rfl ?_
  have hk5 : Keep (fun j => j = w.heap.size) w3 (w3.setRow w.heap.size #[.int .u64 (seq : Nat), .int .i64 win, .slice A' recs.length c']) := by
    have hb9 := below_setRow (Below.refl w.heap.size w3) (Nat.le_refl _) #[.int .u64 (seq : Nat), .int .i64 win, .slice A' recs.length c']
    exact ⟨hb9.os, hb9.tape, hb9.output, by simp, fun k hk hn => setRow_other _ _ _ _ hn⟩
  refine ⟨⟨A', c', rfl, H3.out.1, ?_⟩, below_setRow HB5.out (Nat.le_refl _) _⟩
  exact Sk.RecsAt.keep H3.out.2.1 hk5 (fun ad e hp e9 => by have := H3.out.2.2 ad e; have := blk_lt HX3.out; have e8 : ad.block = w.heap.size := e9; omega)
end Go.Proofs.YtpihpkphhkcdlaaGreatDoor.Rt
