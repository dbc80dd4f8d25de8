/- The reference's took. -/
import Derived.Test.YtpihpkphhkcdlaaGreatDoorWd
import Derived.Deep.QuietTactic
namespace Go.Proofs.YtpihpkphhkcdlaaGreatDoor.Wt
open Go.RowKit Go.Maps Go.Proofs.YtpihpkphhkcdlaaGreatDoorW.PrintWords Go.Proofs.YtpihpkphhkcdlaaGreatDoorW.PrintLast Go.Proofs.YtpihpkphhkcdlaaGreatDoor.PR Go.Proofs.YtpihpkphhkcdlaaGreatDoor.Tab Go.Proofs.YtpihpkphhkcdlaaGreatDoor.Kp Go.Proofs.YtpihpkphhkcdlaaGreatDoor.Pd Go.Proofs.YtpihpkphhkcdlaaGreatDoor.Fr Go.Proofs.YtpihpkphhkcdlaaGreatDoor.May Go.Proofs.YtpihpkphhkcdlaaGreatDoor.De Go.Proofs.YtpihpkphhkcdlaaGreatDoor.Sk Go.Proofs.YtpihpkphhkcdlaaGreatDoor.Lk Go.Proofs.YtpihpkphhkcdlaaGreatDoor.Eq Go.Proofs.YtpihpkphhkcdlaaGreatDoor.Wk Go.Proofs.YtpihpkphhkcdlaaGreatDoor.Wd Go.Proofs.YtpihpkphhkcdlaaGreatDoor.Ext
set_option linter.unusedVariables false
set_option linter.unusedSimpArgs false
theorem find_first {α : Type} (q : α → Bool) : ∀ (l : List α) (i : Nat) (hi : i < l.length), (∀ x ∈ l.take i, q x = false) → q l[i] = true → l.find? q = some l[i]
  | x :: t, 0, _, _, h => by rw [List.find?_cons]; simp at h; rw [h]; rfl
  | x :: t, i + 1, hi, ha, h => by
    rw [List.find?_cons, ha x (by simp)]
    exact find_first q t i (by simpa using hi) (fun y hy => ha y (by simp [hy])) (by simpa using h)
theorem str_eqB (a b : List UInt8) : ((strB a).toList == (strB b).toList) = decide (a = b) := by
  have h1 : (strB a).toList = a := Ri.bal_mk a
  have h2 : (strB b).toList = b := Ri.bal_mk b
  rw [h1, h2, Bool.eq_iff_iff]
  simp
abbrev KF (P : List KP) : K := P.map (·.1)
theorem tk_bad (P : List KP) (bs : List UInt8) (h : (decP bs).2 ≠ 0) : tookP (KF P) bs = (5, KF P) := by unfold tookP; rw [if_pos h]
theorem tk_same (P : List KP) (bs : List UInt8) (F : Frm) (hF : decP bs = (F, 0)) (i : Nat) (hi : i < P.length) (hn : ∀ x ∈ P.take i, x.1.1.seq ≠ F.seq) (hs : (P[i]).1.1.seq = F.seq) : tookP (KF P) bs = (if (P[i]).1.2 = bs then 2 else 3, KF P) := by
  unfold tookP
  rw [hF, if_neg (by simp)]
  have hf := find_first (fun e : Frm × List UInt8 => decide (e.1.seq = F.seq)) (KF P) i (by simpa using hi) (fun x hx => by
    rw [← List.map_take] at hx
    obtain ⟨y, hy, rfl⟩ := List.mem_map.1 hx
    exact decide_eq_false (hn y hy)) (by simp [hs])
  dsimp only
  rw [hf]
  simp
theorem tk_none (P : List KP) (bs : List UInt8) (F : Frm) (hF : decP bs = (F, 0)) (hn : ∀ x ∈ P, x.1.1.seq ≠ F.seq) (hl : P.length < 65536) : tookP (KF P) bs = if (P.any fun x => decide (x.1.1.win = F.win)) = true then (4, KF P) else (1, (F, bs) :: KF P) := by
  unfold tookP
  rw [hF, if_neg (by simp)]
  have hf : (KF P).find? (fun e : Frm × List UInt8 => decide (e.1.seq = F.seq)) = none := List.find?_eq_none.2 fun x hx => by
    obtain ⟨y, hy, rfl⟩ := List.mem_map.1 hx
    simpa using hn y hy
  dsimp only
  rw [hf]
  dsimp only
  rw [show (KF P).any (fun e => decide (e.1.win = F.win)) = P.any (fun x => decide (x.1.1.win = F.win)) from by unfold KF; rw [List.any_map]; rfl]
  split
  · rfl
  · rw [if_neg (by rw [List.length_map]; omega)]
theorem ins_perm (P : List KP) (m : Nat) (x : KP) : (KF (P.take m ++ [x] ++ P.drop m)).Perm (x.1 :: KF P) := by
  unfold KF
  rw [List.map_append, List.map_append, List.map_take, List.map_drop]
  have h := (List.perm_middle (a := x.1) (l₁ := (P.map (·.1)).take m) (l₂ := (P.map (·.1)).drop m))
  rw [List.take_append_drop] at h
  simpa using h
theorem take_ne {P : List KP} {i : Nat} {q : Nat} (hi : i < P.length) (h : ∀ x ∈ P.take i, x.1.1.seq ≠ q) (h2 : (P[i]).1.1.seq ≠ q) : ∀ x ∈ P.take (i + 1), x.1.1.seq ≠ q := by
  rw [List.take_succ_eq_append_getElem hi]
  intro x hx
  rcases List.mem_append.1 hx with hx | hx
  · exact h x hx
  · rw [List.mem_singleton.1 hx]; exact h2
theorem take_any (P : List KP) (i : Nat) (win : Int) (hi : i < P.length) : ((P.take (i + 1)).any fun x => decide (x.1.1.win = win)) = (((P.take i).any fun x => decide (x.1.1.win = win)) || decide ((P[i]).1.1.win = win)) := by
  rw [List.take_succ_eq_append_getElem hi, List.any_append]
  simp
theorem app_run {a : Act} {o : Oper} {x y : Operand} {v v1 : Value} {A : Option Addr} {m c : Nat} {w w1 : World} (hrun : (Builtin.append_ #[35, 35] 35 #[v, .slice A m c]).run Tryz.prog w = .ok v1 w1) (ho : o.op = .call { callee := .builtin .append, args := #[x, y], argTypes := #[35, 35] }) (hx : a.eval x = v) (hy : a.eval y = .slice A m c) :
    (execOp a.eval o).run Tryz.prog w = .ok (.value v1) w1 := by
  have hr2 : ∀ ty, (Builtin.append_ #[35, 35] ty #[v, .slice A m c]).run Tryz.prog w = .ok v1 w1 := fun _ => hrun
  unfold execOp
  simp only [ho, resolve, invoke, builtin, Sem.run_bind, Sem.run_pure, Result.andThen_ok, List.map_toArray, List.map_cons, List.map_nil, hx, hy, hr2]
theorem add_off (g a b : Nat) : (⟨g, a, none⟩ : Addr).add b = ⟨g, a + b, none⟩ := by
  cases b <;> simp [Addr.add]
/-- The row with a kept frame more, stored. -/
theorem put_row {W2 w6 : World} {g lo : Nat} {A0 : Option Addr} {c0 : Nat} {N : List Int} {P : List KP} {m n : Nat} {X : KP} {v3 : Value} (hW : IsW W2 g lo A0 c0 N P) (hlo : lo ≤ W2.heap.size) (HO : w6.ownsRow W2.heap.size 48 4 v3 n (cellsK (P.take m) ++ keptC X ++ cellsK (P.drop m))) (hn : n = P.length + 1) (hm : m ≤ P.length) (hB : Below W2.heap.size W2 w6)
    (h1 : X.1.1.recs.length ≤ X.2.2) (h2 : RecsAt W2 X.2.1 X.1.1.win X.1.1.recs) (h3 : ∀ ad, X.2.1 = some ad → lo ≤ ad.block) : ∃ A' c', IsW (w6.setCell ⟨g, 0, none⟩ v3) g lo A' c' N (P.take m ++ [X] ++ P.drop m) := by
  subst hn
  obtain ⟨_, ⟨_, h⟩ | ⟨gr, cap, cur, rfl, hb, hg, hc, _, hs, ht⟩⟩ := HO
  · omega
  have hW6 := hW.below hB
  have kk : Keep (fun j => j = g) w6 (w6.setCell ⟨g, 0, none⟩ (.slice (some ⟨gr, 0, none⟩) (P.length + 1) cap)) := (Keep.refl (fun j => j = g) w6).set (g := g) rfl 0 _
  have hgl := hW.low
  have hlen : (P.take m ++ [X] ++ P.drop m).length = P.length + 1 := by simp; omega
  refine ⟨some ⟨gr, 0, none⟩, cap, ⟨?_, ?_, ?_, hgl⟩⟩
  · rw [hlen]
    exact blk_put hW6.blk 0 _ rfl
  · refine .inr ⟨gr, rfl, by omega, Nat.lt_of_lt_of_le (blk_lt hg) kk.size, by rw [hlen]; exact hc, fun j u hu => cell_keep ?_ kk (by show ¬ gr = g; omega)⟩
    rw [cellsK_app, cellsK_app, show cellsK [X] = keptC X from by simp [cellsK], ← ht] at hu
    rw [blk_cell hg j, ← hu]
    have hj := (List.getElem?_eq_some_iff.1 hu).1
    rw [List.length_take] at hj
    rw [List.getElem?_take_of_lt (by omega)]
    simp
  · intro p hp
    have hk : Keep (fun j => j = g) W2 (w6.setCell ⟨g, 0, none⟩ (.slice (some ⟨gr, 0, none⟩) (P.length + 1) cap)) := (Keep.of_below hB).trans kk (fun _ _ => id)
    have hall := hW.all.keep hk (fun j hj e => by have e' : j = g := e; omega)
    rcases List.mem_append.1 hp with hp | hp
    · rcases List.mem_append.1 hp with hp | hp
      · exact hall p (List.mem_of_mem_take hp)
      · rw [List.mem_singleton.1 hp]
        exact ⟨h1, RecsAt.keep h2 hk (fun ad e hn e' => by have e2 : ad.block = g := e'; have := h3 ad e; omega), fun ad e _ => h3 ad e⟩
    · exact hall p (List.mem_of_mem_drop hp)
set_option maxHeartbeats 8000000 in
set_option maxRecDepth 1000000 in
theorem reft_calls (g lo : Nat) (A0 : Option Addr) (c0 : Nat) (N : List Int) (P : List KP) (A : Option Addr) (cp : Nat) (bs : List UInt8) (hl : bs.length ≤ 1000000) (hcp : bs.length ≤ cp) (w : World) (hr : ReadsInt w .u8 A bs.length (nb bs)) (hW : IsW w g lo A0 c0 N P) (hlo : lo ≤ w.heap.size) (hP : P.length ≤ 1000) :
    Calls Tryz.prog 27 #[.pointer (some ⟨g, 0, none⟩), .slice A bs.length cp] w fun e w' => e = .returned (.int .i64 (tookP (KF P) bs).1) ∧ (∃ A' c' P', IsW w' g lo A' c' N P' ∧ (KF P').Perm (tookP (KF P) bs).2) ∧ Keep (fun j => j = g) w w' := by
  have HD := Aside0.mk (refdec_calls bs hl A cp hcp w hr)
  have HR := Aside0.mk hr
  have HW := Aside0.mk hW
  have HL := Aside0.mk (And.intro hl (And.intro hcp (And.intro hlo hP)))
  clear hr hW hl hcp hlo hP
  go_enter Tryz.func27, Tryz.ntmps27
  by_cases h0 : (decP bs).2 = 0
  · obtain ⟨⟨⟨seq, win, recs⟩, e0⟩, hF⟩ : ∃ F, F = decP bs := ⟨_, rfl⟩
    have he0 : e0 = 0 := by rw [← hF] at h0; exact h0
    subst he0
    have HF := Aside0.mk hF.symm
    have HB := Aside0.mk (decP_bd bs)
    rw [← hF] at HB
    dsimp only at HB
    clear h0
    have HDK := Aside0.mk (HD.out.mono (R' := fun e w' => ∃ Ar cr, e = .returned (.tuple #[.agg #[.int .u64 (seq : Nat), .int .i64 win, .slice Ar recs.length cr], .int .i64 0]) ∧ recs.length ≤ cr ∧ RecsAt w' Ar win recs ∧ (∀ ad, Ar = some ad → w.heap.size ≤ ad.block) ∧ Below w.heap.size w w') (fun e w' h => by
      obtain ⟨h1, h2⟩ := h
      rw [← hF] at h1
      rcases h1 with ⟨_, Ar, cr, h3, h4, h5, h6⟩ | ⟨h, _⟩
      · exact ⟨Ar, cr, h3, h4, h5, h6, h2⟩
      · exact absurd rfl h))
    clear HD hF
    go_upto_region 2 with (first | (go_at_call 46; (with_reducible refine HDK.out.mono ?_); rintro e_ w1 ⟨Ar, cr, rfl, h1, h2, h3, hb⟩; have HC1 := Aside0.mk (And.intro h1 (And.intro h2 (And.intro h3 hb))); clear h1 h2 h3 hb))
    have hbl := below_alloc (Below.refl w1.heap.size w1) (.cells #[.int .u64 (seq : Nat), .int .i64 win, .slice Ar recs.length cr] 44)
    have HX := Aside0.mk (blk_new w1 (.cells #[.int .u64 (seq : Nat), .int .i64 win, .slice Ar recs.length cr] 44))
    have HB1 := Aside0.mk (HC1.out.2.2.2.trans (hbl.mono HC1.out.2.2.2.size))
    have HRA := Aside0.mk (HC1.out.2.1.below hbl)
    have HAR := Aside0.mk (And.intro HC1.out.1 HC1.out.2.2.1)
    have HGF := Aside0.mk (show w.heap.size ≤ w1.heap.size from HC1.out.2.2.2.size)
    clear hbl HC1 HDK
    generalize w1.alloc (.cells #[.int .u64 (seq : Nat), .int .i64 win, .slice Ar recs.length cr] 44) = W1 at HX HB1 HRA ⊢
    generalize w1.heap.size = gf at HX HGF ⊢
    have HW1 := Aside0.mk (HW.out.below HB1.out)
    have HRB := Aside0.mk (HR.out.below HB1.out)
    have x0 : W1.cell? ⟨gf, 0, none⟩ = some (.int .u64 (seq : Nat)) := (blk_cell HX.out 0).trans rfl
    have x1 : W1.cell? ⟨gf, 1, none⟩ = some (.int .i64 win) := (blk_cell HX.out 1).trans rfl
    have s0 : W1.cell? ⟨g, 0, none⟩ = some (.slice A0 P.length c0) := (blk_cell HW1.out.blk 0).trans rfl
    go_upto_region 6 with (fail)
    go_loopg [7, 8, 9] P.length (fun kq v7 v8 v9 wr => ∃ (at_ i : Nat) (cl : Bool), v7 = .int .i64 (at_ : Int) ∧ v8 = .bool cl ∧ v9 = .int .i64 (i : Int) ∧ i + kq = P.length ∧ Aside0 (at_ ≤ i ∧ (∀ x ∈ P.take i, x.1.1.seq ≠ seq) ∧ cl = ((P.take i).any fun x => decide (x.1.1.win = win))) ∧ ∃ nd, wr = W1.drewN nd)
    case atStart => exact ⟨0, 0, false, rfl, rfl, rfl, by omega, ⟨by omega, by simp, by simp⟩, 0, rfl⟩
    case round =>
      obtain ⟨at_, i, cl, rfl, rfl, rfl, hik, HI, nd, rfl⟩ := hrel
      have HIK := Aside0.mk hik
      by_cases hi : i < P.length
      · have d1 : decide ((i : Int) < (P.length : Int)) = true := decide_eq_true (by omega)
        have d1n : decide (i < P.length) = true := decide_eq_true hi
        have d1q : (i < P.length) = True := eq_true hi
        have d1p : ((i : Int) < (P.length : Int)) = True := eq_true (by omega)
        have d0 : (0 : Int) ≤ (i : Int) := by omega
        have d0p : ((0 : Int) ≤ (i : Int)) = True := eq_true d0
        obtain ⟨gr, rfl, hrow⟩ : ∃ gr, A0 = some ⟨gr, 0, none⟩ ∧ ∀ j u, (cellsK P)[j]? = some u → W1.cell? ⟨gr, j, none⟩ = some u := by
          rcases HW1.out.row with ⟨_, _, h⟩ | ⟨gr, e, _, _, _, h⟩
          · rw [h] at hi; simp at hi
          · exact ⟨gr, e, h⟩
        obtain ⟨x, hx⟩ : ∃ x, x = P[i] := ⟨_, rfl⟩
        have q0 : W1.cell? ⟨gr, i * 4, none⟩ = some (.int .u64 (x.1.1.seq : Nat)) := hrow (i * 4) _ (by have := cellsK_at P i 0 hi (by omega); rw [Nat.add_zero] at this; rw [this, ← hx]; rfl)
        have q1 : W1.cell? ⟨gr, i * 4 + 1, none⟩ = some (.int .i64 x.1.1.win) := hrow (i * 4 + 1) _ (by rw [cellsK_at P i 1 hi (by omega), ← hx]; rfl)
        have q3 : W1.cell? ⟨gr, i * 4 + 3, none⟩ = some (.string (strB x.1.2)) := hrow (i * 4 + 3) _ (by rw [cellsK_at P i 3 hi (by omega), ← hx]; rfl)
        have HXI := Aside0.mk (And.intro hi hx)
        have hwi : wrap64 ((i : Int) + 1) = ((i + 1 : Nat) : Int) := by unfold wrap64; have := HL.out.2.2.2; omega
        have HWI := Aside0.mk hwi
        clear hrow hx hik hwi
        go_upto_region 8 with (fail)
        go_quiet (fail)
        by_cases hs : x.1.1.seq = seq
        · have k1 : ((x.1.1.seq : Int) == (seq : Int)) = true := beq_iff_eq.2 (by omega)
          have k2 : (x.1.1.seq == seq) = true := beq_iff_eq.2 hs
          have hcv : ∀ q : Nat, (convert 29 9 (.slice A bs.length cp)).run Tryz.prog (W1.drewN q) = .ok (.string (strB bs)) (W1.drewN q) := fun q => conv_str (c := cp) HRB.out _ (pw_below_drewN (Below.refl _ _) q)
          have hT := tk_same P bs ⟨seq, win, recs⟩ HF.out i HXI.out.1 HI.out.2.1 (by rw [← HXI.out.2]; exact hs)
          rw [← HXI.out.2] at hT
          obtain ⟨q, hq⟩ : ∃ q, q = decide (x.1.2 = bs) := ⟨_, rfl⟩
          have hse := str_eqB x.1.2 bs
          rw [← hq] at hse
          have hse2 : (x.1.2 == bs) = q := by rw [hq, Bool.eq_iff_iff]; simp
          clear hs
          by_cases hqq : x.1.2 = bs
          · have HQ := Aside0.mk (show tookP (KF P) bs = (2, KF P) from by rw [hT, if_pos hqq])
            rw [hqq] at q3
            clear hT hq hse hse2
            go_wp2
            go_quiet (fail)
            go_wp2
            go_ret
            rw [HQ.out]
            exact ⟨rfl, ⟨_, _, P, HW1.out.below (by first | exact pw_below_drewN (Below.refl _ _) _ | exact pw_below_drewN (pw_below_drewN (Below.refl _ _) _) _ | exact pw_below_drewN (pw_below_drewN (pw_below_drewN (Below.refl _ _) _) _) _), List.Perm.refl _⟩, Keep.of_below (by first | exact pw_below_drewN HB1.out _ | exact pw_below_drewN (pw_below_drewN HB1.out _) _ | exact pw_below_drewN (pw_below_drewN (pw_below_drewN HB1.out _) _) _)⟩
          · have HQ := Aside0.mk (show tookP (KF P) bs = (3, KF P) from by rw [hT, if_neg hqq])
            rw [decide_eq_false hqq] at hq
            subst hq
            have hn1 : ¬ (strB x.1.2).toList = (strB bs).toList := by
              have h1 : (strB x.1.2).toList = x.1.2 := Ri.bal_mk _
              have h2 : (strB bs).toList = bs := Ri.bal_mk _
              rw [h1, h2]
              exact hqq
            have hn2 := eq_false hn1
            have hn3 := eq_false hqq
            clear hT
            go_wp2
            go_quiet (fail)
            go_wp2
            go_ret
            rw [HQ.out]
            exact ⟨rfl, ⟨_, _, P, HW1.out.below (by first | exact pw_below_drewN (Below.refl _ _) _ | exact pw_below_drewN (pw_below_drewN (Below.refl _ _) _) _ | exact pw_below_drewN (pw_below_drewN (pw_below_drewN (Below.refl _ _) _) _) _), List.Perm.refl _⟩, Keep.of_below (by first | exact pw_below_drewN HB1.out _ | exact pw_below_drewN (pw_below_drewN HB1.out _) _ | exact pw_below_drewN (pw_below_drewN (pw_below_drewN HB1.out _) _) _)⟩
        · have k1 : ((x.1.1.seq : Int) == (seq : Int)) = false := beq_eq_false_iff_ne.2 (by omega)
          have k2 : (x.1.1.seq == seq) = false := beq_eq_false_iff_ne.2 hs
          have HNE := Aside0.mk hs
          clear hs
          go_wp2
          go_quiet (fail)
          obtain ⟨q, hq⟩ : ∃ q, q = decide (x.1.1.win = win) := ⟨_, rfl⟩
          have HQ := Aside0.mk hq
          have hqb : (x.1.1.win == win) = q := by rw [hq, Bool.eq_iff_iff]; simp
          have HN2 := Aside0.mk (take_ne HXI.out.1 HI.out.2.1 (by rw [← HXI.out.2]; exact HNE.out))
          have HA2 := Aside0.mk (show ((P.take (i + 1)).any fun x => decide (x.1.1.win = win)) = (cl || q) from by rw [take_any P i win HXI.out.1, ← HXI.out.2, ← HI.out.2.2, hq])
          clear hq
          by_cases ho : x.1.1.seq < seq
          · have l1 : decide ((x.1.1.seq : Int) < (seq : Int)) = true := decide_eq_true (by omega)
            have l2 : decide (x.1.1.seq < seq) = true := decide_eq_true ho
            have l3 : (x.1.1.seq < seq) = True := eq_true ho
            have l4 : (x.1.1.seq : Int) < (seq : Int) := by omega
            clear ho
            cases cl with
            | false =>
              go_wp2
              go_quiet (fail)
              go_wp2
              go_roundg (gk - 1)
              case measure => have := HIK.out; have := HXI.out.1; omega
              case rel => exact ⟨i + 1, i + 1, q, by first | rfl | (rw [HWI.out]), by first | rfl | (rw [hqb]) | (simp [hqb]), by first | rfl | (rw [HWI.out]), by have := HIK.out; have := HXI.out.1; omega, ⟨by omega, HN2.out, by rw [HA2.out]; rfl⟩, _, by first | rfl | (rw [World.drewN_drewN]) | (simp only [World.drewN_drewN])⟩
            | true =>
              go_wp2
              go_quiet (fail)
              go_wp2
              go_roundg (gk - 1)
              case measure => have := HIK.out; have := HXI.out.1; omega
              case rel => exact ⟨i + 1, i + 1, true, by first | rfl | (rw [HWI.out]), by first | rfl | (simp), by first | rfl | (rw [HWI.out]), by have := HIK.out; have := HXI.out.1; omega, ⟨by omega, HN2.out, by rw [HA2.out]; rfl⟩, _, by first | rfl | (rw [World.drewN_drewN]) | (simp only [World.drewN_drewN])⟩
          · have l1 : decide ((x.1.1.seq : Int) < (seq : Int)) = false := decide_eq_false (by omega)
            have l2 : decide (x.1.1.seq < seq) = false := decide_eq_false ho
            have l3 : (x.1.1.seq < seq) = False := eq_false ho
            have l4 : ¬ ((x.1.1.seq : Int) < (seq : Int)) := by omega
            clear ho
            cases cl with
            | false =>
              go_wp2
              go_quiet (fail)
              go_wp2
              go_roundg (gk - 1)
              case measure => have := HIK.out; have := HXI.out.1; omega
              case rel => exact ⟨at_, i + 1, q, by first | rfl | (rw [HWI.out]), by first | rfl | (rw [hqb]) | (simp [hqb]), by first | rfl | (rw [HWI.out]), by have := HIK.out; have := HXI.out.1; omega, ⟨by have := HI.out.1; omega, HN2.out, by rw [HA2.out]; rfl⟩, _, by first | rfl | (rw [World.drewN_drewN]) | (simp only [World.drewN_drewN])⟩
            | true =>
              go_wp2
              go_quiet (fail)
              go_wp2
              go_roundg (gk - 1)
              case measure => have := HIK.out; have := HXI.out.1; omega
              case rel => exact ⟨at_, i + 1, true, by first | rfl | (rw [HWI.out]), by first | rfl | (simp), by first | rfl | (rw [HWI.out]), by have := HIK.out; have := HXI.out.1; omega, ⟨by have := HI.out.1; omega, HN2.out, by rw [HA2.out]; rfl⟩, _, by first | rfl | (rw [World.drewN_drewN]) | (simp only [World.drewN_drewN])⟩
      · have d1 : decide ((i : Int) < (P.length : Int)) = false := decide_eq_false (by omega)
        have d1n : decide (i < P.length) = false := decide_eq_false hi
        have d1q : (i < P.length) = False := eq_false hi
        have d1p : ((i : Int) < (P.length : Int)) = False := eq_false (by omega)
        have hiP : i = P.length := by omega
        subst hiP
        have HI2 := Aside0.mk (show at_ ≤ P.length ∧ (∀ x ∈ P, x.1.1.seq ≠ seq) ∧ cl = (P.any fun x => decide (x.1.1.win = win)) from by have h := HI.out; rw [List.take_length] at h; exact h)
        have HT := Aside0.mk (tk_none P bs ⟨seq, win, recs⟩ HF.out HI2.out.2.1 (by have := HL.out.2.2.2; omega))
        rw [← HI2.out.2.2] at HT
        clear HI hik hi
        cases cl with
        | true =>
          rw [if_pos rfl] at HT
          go_wp2
          go_ret
          rw [HT.out]
          exact ⟨rfl, ⟨_, _, P, HW1.out.below (by first | exact pw_below_drewN (Below.refl _ _) _ | exact pw_below_drewN (pw_below_drewN (Below.refl _ _) _) _ | exact pw_below_drewN (pw_below_drewN (pw_below_drewN (Below.refl _ _) _) _) _), List.Perm.refl _⟩, Keep.of_below (by first | exact pw_below_drewN HB1.out _ | exact pw_below_drewN (pw_below_drewN HB1.out _) _ | exact pw_below_drewN (pw_below_drewN (pw_below_drewN HB1.out _) _) _)⟩
        | false =>
          rw [if_neg (by simp)] at HT
          have b1 : decide ((65536 : Int) ≤ (P.length : Int)) = false := decide_eq_false (by have := HL.out.2.2.2; omega)
          have b2 : decide (65536 ≤ P.length) = false := decide_eq_false (by have := HL.out.2.2.2; omega)
          have b3 : decide ((P.length : Int) ≥ 65536) = false := decide_eq_false (by have := HL.out.2.2.2; omega)
          go_upto_region 19 with (fail)
          have HS2 := Aside0.mk (HW1.out.below (pw_below_drewN (Below.refl _ _) nd))
          have HX2 := Aside0.mk (blk_drewN HX.out nd)
          have HB2 := Aside0.mk (pw_below_drewN HB1.out nd)
          have HRA2 := Aside0.mk (HRA.out.below (pw_below_drewN (Below.refl _ _) nd))
          have HRB2 := Aside0.mk (HRB.out.below (pw_below_drewN (Below.refl _ _) nd))
          generalize W1.drewN nd = W2 at HS2 HX2 HB2 HRA2 HRB2 ⊢
          clear HW1 HX HB1 HRA HRB x0 x1 s0 d1 d1n d1q d1p b1 b2 b3
          have x0 : W2.cell? ⟨gf, 0, none⟩ = some (.int .u64 (seq : Nat)) := (blk_cell HX2.out 0).trans rfl
          have x1 : W2.cell? ⟨gf, 1, none⟩ = some (.int .i64 win) := (blk_cell HX2.out 1).trans rfl
          have x2 : W2.cell? ⟨gf, 2, none⟩ = some (.slice Ar recs.length cr) := (blk_cell HX2.out 2).trans rfl
          have s0 : W2.cell? ⟨g, 0, none⟩ = some (.slice A0 P.length c0) := (blk_cell HS2.out.blk 0).trans rfl
          have hPc : P.length ≤ c0 := by rcases HS2.out.row with ⟨_, _, h⟩ | ⟨_, _, _, _, h, _⟩; · rw [h]; simp
                                         · exact h
          have hAc : at_ ≤ c0 := by have := HI2.out.1; omega
          have hsl1 := slice_to A0 P.length c0 at_ hAc
          obtain ⟨A9, hA9⟩ : ∃ A9, A9 = if c0 = at_ then A0 else A0.map (·.add (at_ * 4)) := ⟨_, rfl⟩
          have hsl2 := slice_from A0 P.length c0 at_ HI2.out.1
          rw [← hA9] at hsl2
          have HA9 := Aside0.mk hA9
          have p1 : (at_ : Int) ≤ (c0 : Int) := by omega
          have p2 : (at_ : Int) ≤ (P.length : Int) := by have := HI2.out.1; omega
          have HPC := Aside0.mk (And.intro hPc hAc)
          clear hPc hAc hA9
          have LL : True := trivial
          refine start_ (n := 24) (S := fun w' => Below W2.heap.size W2 w') (ds := [23]) #[false, false, false, false, false, false, false, false, false, false, false, false, false, false, false, false, false, false, false, false, false, false, false, false] (by kernel_rfl) rfl rfl (below_drew1 (Below.refl _ _)) (fun hHeld => ?_)
          have hS0 := Aside0.mk (show Below W2.heap.size W2 W2.drew from below_drew1 (Below.refl _ _))
          refine pure_ (i := 0) (N := some 85) (v := ?_) (a' := ?_) #[true, false, false, false, false, false, false, false, false, false, false, false, false, false, false, false, false, false, false, false, false, false, false, false] rfl rfl (by kernel_rfl) (fun _ _ _ h => h) (Or.inl ⟨by rfl, ?_⟩) ?_ ?_
          rotate_left
          · intro w'
            go_simp
            with_reducible rfl
          rotate_left
          · simp only [Act.put, List.setIfInBounds_toArray, List.set_cons_zero, List.set_cons_succ, i64_w, i32_w]
            rfl
          refine pure_ (i := 1) (N := some 86) (v := ?_) (a' := ?_) #[true, true, false, false, false, false, false, false, false, false, false, false, false, false, false, false, false, false, false, false, false, false, false, false] rfl rfl (by kernel_rfl) (fun _ _ _ h => h) (Or.inl ⟨by rfl, ?_⟩) ?_ ?_
          rotate_left
          · intro w'
            go_simp
            with_reducible rfl
          rotate_left
          · simp only [Act.put, List.setIfInBounds_toArray, List.set_cons_zero, List.set_cons_succ, i64_w, i32_w]
            rfl
          refine pure_ (i := 2) (N := some 87) (v := ?_) (a' := ?_) #[true, true, true, false, false, false, false, false, false, false, false, false, false, false, false, false, false, false, false, false, false, false, false, false] rfl rfl (by kernel_rfl) (fun _ _ _ h => h) (Or.inl ⟨by rfl, ?_⟩) ?_ ?_
          rotate_left
          · intro w'
            go_simp
            with_reducible rfl
          rotate_left
          · simp only [Act.put, List.setIfInBounds_toArray, List.set_cons_zero, List.set_cons_succ, i64_w, i32_w]
            rfl
          refine pure_ (i := 3) (N := some 88) (v := ?_) (a' := ?_) #[true, true, true, true, false, false, false, false, false, false, false, false, false, false, false, false, false, false, false, false, false, false, false, false] rfl rfl (by kernel_rfl) (fun _ _ _ h => h) (Or.inl ⟨by rfl, ?_⟩) ?_ ?_
          rotate_left
          · intro w'
            go_simp
            with_reducible rfl
          rotate_left
          · simp only [Act.put, List.setIfInBounds_toArray, List.set_cons_zero, List.set_cons_succ, i64_w, i32_w]
            rfl
          refine take_ (i := 4) (N := some 89) (v := ?_) (a' := ?_) #[true, true, true, true, true, false, false, false, false, false, false, false, false, false, false, false, false, false, false, false, false, false, false, false] rfl rfl (by kernel_rfl) (fun _ _ _ h => h) (Or.inl ⟨by rfl, ?_⟩) hHeld ?_ ?_
          rotate_left
          · intro w' hS'
            have x0' := pw_cell_below hS' x0; have x1' := pw_cell_below hS' x1; have x2' := pw_cell_below hS' x2; have s0' := pw_cell_below hS' s0; have cv := conv_str (c := cp) HRB2.out w' hS'
            go_simp
            with_reducible rfl
          rotate_left
          · simp only [Act.put, List.setIfInBounds_toArray, List.set_cons_zero, List.set_cons_succ, i64_w, i32_w]
            rfl
          refine pure_ (i := 5) (N := some 90) (v := ?_) (a' := ?_) #[true, true, true, true, true, true, false, false, false, false, false, false, false, false, false, false, false, false, false, false, false, false, false, false] rfl rfl (by kernel_rfl) (fun _ _ _ h => h) (Or.inl ⟨by rfl, ?_⟩) ?_ ?_
          rotate_left
          · intro w'
            go_simp
            with_reducible rfl
          rotate_left
          · simp only [Act.put, List.setIfInBounds_toArray, List.set_cons_zero, List.set_cons_succ, i64_w, i32_w]
            rfl
          refine pure_ (i := 6) (N := some 91) (v := ?_) (a' := ?_) #[true, true, true, true, true, true, true, false, false, false, false, false, false, false, false, false, false, false, false, false, false, false, false, false] rfl rfl (by kernel_rfl) (fun _ _ _ h => h) (Or.inl ⟨by rfl, ?_⟩) ?_ ?_
          rotate_left
          · intro w'
            go_simp
            with_reducible rfl
          rotate_left
          · simp only [Act.put, List.setIfInBounds_toArray, List.set_cons_zero, List.set_cons_succ, i64_w, i32_w]
            rfl
          refine take_ (i := 8) (N := some 93) (v := ?_) (a' := ?_) #[true, true, true, true, true, true, true, false, true, false, false, false, false, false, false, false, false, false, false, false, false, false, false, false] rfl rfl (by kernel_rfl) (fun _ _ _ h => h) (Or.inl ⟨by rfl, ?_⟩) hHeld ?_ ?_
          rotate_left
          · intro w' hS'
            have x0' := pw_cell_below hS' x0; have x1' := pw_cell_below hS' x1; have x2' := pw_cell_below hS' x2; have s0' := pw_cell_below hS' s0; have cv := conv_str (c := cp) HRB2.out w' hS'
            go_simp
            with_reducible rfl
          rotate_left
          · simp only [Act.put, List.setIfInBounds_toArray, List.set_cons_zero, List.set_cons_succ, i64_w, i32_w]
            rfl
          refine pure_ (i := 9) (N := some 94) (v := ?_) (a' := ?_) #[true, true, true, true, true, true, true, false, true, true, false, false, false, false, false, false, false, false, false, false, false, false, false, false] rfl rfl (by kernel_rfl) (fun _ _ _ h => h) (Or.inl ⟨by rfl, ?_⟩) ?_ ?_
          rotate_left
          · intro w'
            go_simp
            with_reducible rfl
          rotate_left
          · simp only [Act.put, List.setIfInBounds_toArray, List.set_cons_zero, List.set_cons_succ, i64_w, i32_w]
            rfl
          refine take_ (i := 10) (N := some 95) (v := ?_) (a' := ?_) #[true, true, true, true, true, true, true, false, true, true, true, false, false, false, false, false, false, false, false, false, false, false, false, false] rfl rfl (by kernel_rfl) (fun _ _ _ h => h) (Or.inl ⟨by rfl, ?_⟩) hHeld ?_ ?_
          rotate_left
          · intro w' hS'
            have x0' := pw_cell_below hS' x0; have x1' := pw_cell_below hS' x1; have x2' := pw_cell_below hS' x2; have s0' := pw_cell_below hS' s0; have cv := conv_str (c := cp) HRB2.out w' hS'
            go_simp
            with_reducible rfl
          rotate_left
          · simp only [Act.put, List.setIfInBounds_toArray, List.set_cons_zero, List.set_cons_succ, i64_w, i32_w]
            rfl
          refine pure_ (i := 11) (N := some 96) (v := ?_) (a' := ?_) #[true, true, true, true, true, true, true, false, true, true, true, true, false, false, false, false, false, false, false, false, false, false, false, false] rfl rfl (by kernel_rfl) (fun _ _ _ h => h) (Or.inl ⟨by rfl, ?_⟩) ?_ ?_
          rotate_left
          · intro w'
            go_simp
            with_reducible rfl
          rotate_left
          · simp only [Act.put, List.setIfInBounds_toArray, List.set_cons_zero, List.set_cons_succ, i64_w, i32_w]
            rfl
          refine pure_ (i := 14) (N := some 99) (v := ?_) (a' := ?_) #[true, true, true, true, true, true, true, false, true, true, true, true, false, false, true, false, false, false, false, false, false, false, false, false] rfl rfl (by kernel_rfl) (fun _ _ _ h => h) (Or.inl ⟨by rfl, ?_⟩) ?_ ?_
          rotate_left
          · intro w'
            go_simp
            with_reducible rfl
          rotate_left
          · simp only [Act.put, List.setIfInBounds_toArray, List.set_cons_zero, List.set_cons_succ, i64_w, i32_w]
            rfl
          refine pure_ (i := 15) (N := some 100) (v := ?_) (a' := ?_) #[true, true, true, true, true, true, true, false, true, true, true, true, false, false, true, true, false, false, false, false, false, false, false, false] rfl rfl (by kernel_rfl) (fun _ _ _ h => h) (Or.inl ⟨by rfl, ?_⟩) ?_ ?_
          rotate_left
          · intro w'
            go_simp
            with_reducible rfl
          rotate_left
          · simp only [Act.put, List.setIfInBounds_toArray, List.set_cons_zero, List.set_cons_succ, i64_w, i32_w]
            rfl
          refine pure_ (i := 16) (N := some 101) (v := ?_) (a' := ?_) #[true, true, true, true, true, true, true, false, true, true, true, true, false, false, true, true, true, false, false, false, false, false, false, false] rfl rfl (by kernel_rfl) (fun _ _ _ h => h) (Or.inl ⟨by rfl, ?_⟩) ?_ ?_
          rotate_left
          · intro w'
            go_simp
            with_reducible rfl
          rotate_left
          · simp only [Act.put, List.setIfInBounds_toArray, List.set_cons_zero, List.set_cons_succ, i64_w, i32_w]
            rfl
          refine take_ (i := 17) (N := some 102) (v := ?_) (a' := ?_) #[true, true, true, true, true, true, true, false, true, true, true, true, false, false, true, true, true, true, false, false, false, false, false, false] rfl rfl (by kernel_rfl) (fun _ _ _ h => h) (Or.inl ⟨by rfl, ?_⟩) hHeld ?_ ?_
          rotate_left
          · intro w' hS'
            have x0' := pw_cell_below hS' x0; have x1' := pw_cell_below hS' x1; have x2' := pw_cell_below hS' x2; have s0' := pw_cell_below hS' s0; have cv := conv_str (c := cp) HRB2.out w' hS'
            go_simp
            with_reducible rfl
          rotate_left
          · simp only [Act.put, List.setIfInBounds_toArray, List.set_cons_zero, List.set_cons_succ, i64_w, i32_w]
            rfl
          refine pure_ (i := 18) (N := some 103) (v := ?_) (a' := ?_) #[true, true, true, true, true, true, true, false, true, true, true, true, false, false, true, true, true, true, true, false, false, false, false, false] rfl rfl (by kernel_rfl) (fun _ _ _ h => h) (Or.inl ⟨by rfl, ?_⟩) ?_ ?_
          rotate_left
          · intro w'
            go_simp
            with_reducible rfl
          rotate_left
          · simp only [Act.put, List.setIfInBounds_toArray, List.set_cons_zero, List.set_cons_succ, i64_w, i32_w]
            rfl
          refine pure_ (i := 19) (N := some 104) (v := ?_) (a' := ?_) #[true, true, true, true, true, true, true, false, true, true, true, true, false, false, true, true, true, true, true, true, false, false, false, false] rfl rfl (by kernel_rfl) (fun _ _ _ h => h) (Or.inl ⟨by rfl, ?_⟩) ?_ ?_
          rotate_left
          · intro w'
            go_simp
            with_reducible rfl
          rotate_left
          · simp only [Act.put, List.setIfInBounds_toArray, List.set_cons_zero, List.set_cons_succ, i64_w, i32_w]
            rfl
          obtain ⟨X, hX⟩ : ∃ X : KP, X = ((⟨seq, win, recs⟩, bs), Ar, cr) := ⟨_, rfl⟩
          have hXc : keptC X = [.int .u64 (seq : Nat), .int .i64 win, .slice Ar recs.length cr, .string (strB bs)] := by rw [hX]; rfl
          have HXX := Aside0.mk (And.intro hX hXc)
          clear hX hXc
          refine join_ (σ := Value × Nat) 5 #[true, true, true, true, true, true, true, true, true, true, true, true, true, false, true, true, true, true, true, true, false, false, false, false] (fun s_ => [(92, s_.1), (97, .slice (some ⟨s_.2, 0, none⟩) 1 1)]) (fun s_ w' => w'.ownsRow W2.heap.size 48 4 s_.1 at_ (cellsK (P.take at_)) ∧ w'.heap[s_.2]? = some (.cells #[.int .u64 (seq : Nat), .int .i64 win, .slice Ar recs.length cr, .string (strB bs)] 48 (0, 0)) ∧ some s_.2 ≠ s_.1.ownBlock ∧ Below W2.heap.size W2 w') ?_ ?_
          rotate_left
          · intro hCont
            have HCO := Aside0.mk hCont
            clear hCont
            have HAP := Aside0.mk (fun (W : World) (hb : Below W2.heap.size W2 W) (base : Nat) (hbs : base ≤ W.heap.size) => app_row (w := W) base (.slice none 0 0) 0 [] (World.ownsRow_nil _ _ _ _) hbs A0 at_ c0 (cellsK (P.take at_)) (by rw [cellsK_len, List.length_take]; congr 1; have := HI2.out.1; omega) (fun h => by
              rcases HS2.out.row with ⟨_, h1, h2⟩ | ⟨_, e, _⟩
              · have := HPC.out.2; omega
              · rw [h] at e; cases e) (fun ad h j u hu => by
              rcases HS2.out.row with ⟨e, _, _⟩ | ⟨gr, e, _, hlt, _, hc⟩
              · rw [h] at e; cases e
              · rw [h] at e
                obtain rfl := Option.some.inj e
                have h9 := pw_cell_below hb (hc j u (cellsK_take P at_ HI2.out.1 j u hu))
                rw [show (⟨gr, 0, none⟩ : Addr).add j = ⟨gr, j, none⟩ from add_plain _ _]
                exact h9) (cellsK_one _) (by have := HI2.out.1; have := HL.out.2.2.2; omega))
            refine two_ (i := 7) (j := 12) (Ni := some 92) (Nj := some 97) #[true, true, true, true, true, true, true, true, true, true, true, true, false, false, true, true, true, true, true, true, false, false, false, false] #[true, true, true, true, true, true, true, false, true, true, true, true, true, false, true, true, true, true, true, true, false, false, false, false] rfl rfl rfl rfl (by kernel_rfl) (by decide) (by decide) (fun K hK => ?_) (fun K hK => ?_)
            · obtain ⟨v1, w3, hrun, ho, hg⟩ := HAP.out W2.drew hS0.out W2.heap.size (Nat.le_refl _) 35
              have HO := Aside0.mk ho
              have HB3 := Aside0.mk (hS0.out.grown hg (Nat.le_refl _) (fun j hj => by cases hj))
              clear ho hg
              refine value_ (w1 := w3) (v := v1) (by rfl) rfl (app_run hrun (by rfl) (by rfl) (by rfl)) ?_
              refine hK.out _ _ HB3.out (fun hHeld => ?_)
              clear hK K hrun
              refine norm_ (a' := ?_) ?_ ?_
              rotate_left
              · show Act.put _ (some 92) _ = _
                simp only [Act.put, List.setIfInBounds_toArray, List.set_cons_zero, List.set_cons_succ, i64_w, i32_w]
                rfl
              refine one_ (i := 12) (N := some 97) #[true, true, true, true, true, true, true, true, true, true, true, true, true, false, true, true, true, true, true, true, false, false, false, false] rfl rfl (by kernel_rfl) (by decide) (fun K hK => ?_)
              refine value_ (w1 := w3.alloc (.cells #[.int .u64 (seq : Nat), .int .i64 win, .slice Ar recs.length cr, .string (strB bs)] 48)) (v := .slice (some ⟨w3.heap.size, 0, none⟩) 1 1) (by rfl) rfl (by go_simp <;> rfl) ?_
              refine hK.out _ _ (below_alloc HB3.out _) (fun hHeld => ?_)
              clear hK K
              refine norm_ (a' := ?_) ?_ ?_
              rotate_left
              · show Act.put _ (some 97) _ = _
                simp only [Act.put, List.setIfInBounds_toArray, List.set_cons_zero, List.set_cons_succ, i64_w, i32_w]
                rfl
              exact HCO.out (v1, w3.heap.size) _ ⟨pw_own_below (by have h := HO.out; rw [Nat.zero_add, List.nil_append] at h; exact h) (below_alloc (Below.refl _ _) _), blk_new w3 _, fun e => by have := own_lt HO.out _ e.symm; omega, below_alloc HB3.out _⟩
            · refine value_ (w1 := W2.drew.alloc (.cells #[.int .u64 (seq : Nat), .int .i64 win, .slice Ar recs.length cr, .string (strB bs)] 48)) (v := .slice (some ⟨W2.heap.size, 0, none⟩) 1 1) (by rfl) rfl (by go_simp <;> rfl) ?_
              have HB3 := Aside0.mk (below_alloc hS0.out (.cells #[.int .u64 (seq : Nat), .int .i64 win, .slice Ar recs.length cr, .string (strB bs)] 48))
              have HN := Aside0.mk (blk_new W2.drew (.cells #[.int .u64 (seq : Nat), .int .i64 win, .slice Ar recs.length cr, .string (strB bs)] 48))
              have HSZ := Aside0.mk (show (W2.drew.alloc (.cells #[.int .u64 (seq : Nat), .int .i64 win, .slice Ar recs.length cr, .string (strB bs)] 48)).heap.size = W2.heap.size + 1 from by rw [World.size_alloc]; rfl)
              refine hK.out _ _ HB3.out (fun hHeld => ?_)
              clear hK K
              refine norm_ (a' := ?_) ?_ ?_
              rotate_left
              · show Act.put _ (some 97) _ = _
                simp only [Act.put, List.setIfInBounds_toArray, List.set_cons_zero, List.set_cons_succ, i64_w, i32_w]
                rfl
              generalize W2.drew.alloc (.cells #[.int .u64 (seq : Nat), .int .i64 win, .slice Ar recs.length cr, .string (strB bs)] 48) = w3 at HB3 HN HSZ ⊢
              refine one_ (i := 7) (N := some 92) #[true, true, true, true, true, true, true, true, true, true, true, true, true, false, true, true, true, true, true, true, false, false, false, false] rfl rfl (by kernel_rfl) (by decide) (fun K hK => ?_)
              obtain ⟨v1, w4, hrun, ho, hg⟩ := HAP.out w3 HB3.out w3.heap.size (Nat.le_refl _) 35
              have HO := Aside0.mk ho
              have HB4 := Aside0.mk (HB3.out.grown hg HB3.out.size (fun j hj => by cases hj))
              have HN4 := Aside0.mk ((hg.block _ (blk_lt HN.out) (fun e => by cases e)).trans HN.out)
              clear ho hg
              refine value_ (w1 := w4) (v := v1) (by rfl) rfl (app_run hrun (by rfl) (by rfl) (by rfl)) ?_
              refine hK.out _ _ HB4.out (fun hHeld => ?_)
              clear hK K hrun
              refine norm_ (a' := ?_) ?_ ?_
              rotate_left
              · show Act.put _ (some 92) _ = _
                simp only [Act.put, List.setIfInBounds_toArray, List.set_cons_zero, List.set_cons_succ, i64_w, i32_w]
                rfl
              have ho := HO.out
              rw [Nat.zero_add, List.nil_append] at ho
              exact HCO.out (v1, W2.heap.size) _ ⟨own_less ho (by have := HSZ.out; omega), HN4.out, fun e => by have := own_base HO.out _ e.symm; have := HSZ.out; omega, HB4.out⟩
          rintro ⟨v1, gx⟩ w4 ⟨ho, hgx, hne, hb4⟩
          have HO4 := Aside0.mk ho
          have HGX := Aside0.mk (And.intro hgx hne)
          have HB4 := Aside0.mk hb4
          clear ho hgx hne hb4
          refine norm_ (a' := ?_) ?_ ?_
          rotate_left
          · show putAll _ _ = _
            simp only [putAll, Act.put, List.setIfInBounds_toArray, List.set_cons_zero, List.set_cons_succ, i64_w, i32_w]
            rfl
          refine one_ (i := 13) (N := some 98) #[true, true, true, true, true, true, true, true, true, true, true, true, true, true, true, true, true, true, true, true, false, false, false, false] rfl rfl (by kernel_rfl) (by decide) (fun K hK => ?_)
          obtain ⟨v2, w5, hrun, ho, hg⟩ := app_row (w := w4) W2.heap.size v1 at_ (cellsK (P.take at_)) HO4.out HB4.out.size (some ⟨gx, 0, none⟩) 1 1 (keptC X) (by rw [HXX.out.2]; rfl) (fun h => by cases h) (fun ad h j u hu => by
            obtain rfl := Option.some.inj h
            rw [show (⟨gx, 0, none⟩ : Addr).add j = ⟨gx, j, none⟩ from add_plain _ _, blk_cell HGX.out.1 j, ← hu, HXX.out.2]
            simp) (by intro u hu; rw [HXX.out.2] at hu; simp only [List.mem_cons, List.not_mem_nil, or_false] at hu; rcases hu with rfl | rfl | rfl | rfl <;> rfl) (by have := HI2.out.1; have := HL.out.2.2.2; omega) 35
          have HO5 := Aside0.mk ho
          have HB5 := Aside0.mk (HB4.out.grown hg HB4.out.size (fun j hj => own_base HO4.out j hj))
          clear ho hg
          refine value_ (w1 := w5) (v := v2) (by rfl) rfl (app_run hrun (by rfl) (by rfl) (by rfl)) ?_
          refine hK.out _ _ HB5.out (fun hHeld => ?_)
          clear hK K hrun
          refine norm_ (a' := ?_) ?_ ?_
          rotate_left
          · show Act.put _ (some 98) _ = _
            simp only [Act.put, List.setIfInBounds_toArray, List.set_cons_zero, List.set_cons_succ, i64_w, i32_w]
            rfl
          refine one_ (i := 20) (N := some 105) #[true, true, true, true, true, true, true, true, true, true, true, true, true, true, true, true, true, true, true, true, true, false, false, false] rfl rfl (by kernel_rfl) (by decide) (fun K hK => ?_)
          obtain ⟨v3, w6, hrun, ho, hg⟩ := app_row (w := w5) W2.heap.size v2 (at_ + 1) (cellsK (P.take at_) ++ keptC X) HO5.out HB5.out.size A9 (P.length - at_) (c0 - at_) (cellsK (P.drop at_)) (by rw [cellsK_len, List.length_drop]) (fun h => by
            rw [HA9.out] at h
            by_cases hc : c0 = at_
            · have := HPC.out; omega
            · rw [if_neg hc] at h
              rcases HS2.out.row with ⟨e, h1, h2⟩ | ⟨_, e, _⟩
              · have := HPC.out; omega
              · rw [e] at h; cases h) (fun ad h j u hu => by
            have hj := (List.getElem?_eq_some_iff.1 hu).1
            rw [cellsK_len, List.length_drop] at hj
            have hc : ¬ c0 = at_ := fun hc => by have := HPC.out; omega
            rw [HA9.out, if_neg hc] at h
            rcases HS2.out.row with ⟨e, _, _⟩ | ⟨gr, e, _, hlt, _, hcc⟩
            · rw [e] at h; cases h
            · rw [e] at h
              obtain rfl := Option.some.inj h
              have h9 := pw_cell_below HB5.out (hcc (at_ * 4 + j) u (cellsK_drop P at_ HI2.out.1 j u hu))
              have e9 : ((⟨gr, 0, none⟩ : Addr).add (at_ * 4)).add j = ⟨gr, at_ * 4 + j, none⟩ := by rw [show (⟨gr, 0, none⟩ : Addr).add (at_ * 4) = ⟨gr, at_ * 4, none⟩ from add_plain _ _]; exact add_off _ _ _
              rw [e9]
              exact h9) (cellsK_one _) (by have := HI2.out.1; have := HL.out.2.2.2; omega) 35
          have HO6 := Aside0.mk ho
          have HB6 := Aside0.mk (HB5.out.grown hg HB5.out.size (fun j hj => own_base HO5.out j hj))
          clear ho hg
          refine value_ (w1 := w6) (v := v3) (by rfl) rfl (app_run hrun (by rfl) (by rfl) (by rfl)) ?_
          refine hK.out _ _ HB6.out (fun hHeld => ?_)
          clear hK K hrun
          refine norm_ (a' := ?_) ?_ ?_
          rotate_left
          · show Act.put _ (some 105) _ = _
            simp only [Act.put, List.setIfInBounds_toArray, List.set_cons_zero, List.set_cons_succ, i64_w, i32_w]
            rfl
          refine pure_ (i := 21) (N := some 106) (v := ?_) (a' := ?_) #[true, true, true, true, true, true, true, true, true, true, true, true, true, true, true, true, true, true, true, true, true, true, false, false] rfl rfl (by kernel_rfl) (fun _ _ _ h => h) (Or.inl ⟨by rfl, ?_⟩) ?_ ?_
          rotate_left
          · intro w'
            go_simp
            with_reducible rfl
          rotate_left
          · simp only [Act.put, List.setIfInBounds_toArray, List.set_cons_zero, List.set_cons_succ, i64_w, i32_w]
            rfl
          refine pure_ (i := 22) (N := some 107) (v := ?_) (a' := ?_) #[true, true, true, true, true, true, true, true, true, true, true, true, true, true, true, true, true, true, true, true, true, true, true, false] rfl rfl (by kernel_rfl) (fun _ _ _ h => h) (Or.inl ⟨by rfl, ?_⟩) ?_ ?_
          rotate_left
          · intro w'
            go_simp
            with_reducible rfl
          rotate_left
          · simp only [Act.put, List.setIfInBounds_toArray, List.set_cons_zero, List.set_cons_succ, i64_w, i32_w]
            rfl
          obtain ⟨A3, cap3, hv3⟩ := row_form HO6.out
          subst hv3
          obtain ⟨n3, hn3⟩ : ∃ n3, n3 = at_ + 1 + (P.length - at_) := ⟨_, rfl⟩
          rw [← hn3] at HO6 ⊢
          have HN3 := Aside0.mk hn3
          clear hn3
          have g0 : w6.cell? ⟨g, 0, none⟩ = some (.slice A0 P.length c0) := pw_cell_below HB6.out s0
          have gf0 : w6.frozen? ⟨g, 0, none⟩ = false := blk_frozen (HS2.out.below HB6.out).blk 0
          refine last_ (i := 23) (N := none) #[true, true, true, true, true, true, true, true, true, true, true, true, true, true, true, true, true, true, true, true, true, true, true, true] rfl rfl (by kernel_rfl) (by decide) (fun K hK => ?_)
          refine skip_ (w1 := w6.setCell ⟨g, 0, none⟩ (.slice A3 n3 cap3)) (by rfl) rfl (by go_simp <;> rfl) ?_
          refine hK.out _ _ ?_
          clear hK K
          refine done_ (by kernel_rfl) ?_
          obtain ⟨A', c', HN⟩ := put_row (X := X) HS2.out (by have := HB2.out.size; have := HL.out.2.2.1; omega) HO6.out (by have := HI2.out.1; have := HN3.out; omega) HI2.out.1 HB6.out (by rw [HXX.out.1]; exact HAR.out.1) (by rw [HXX.out.1]; exact HRA2.out) (fun ad e => by rw [HXX.out.1] at e; have := HAR.out.2 ad e; have := HL.out.2.2.1; omega)
          have HN := Aside0.mk HN
          have HK9 := Aside0.mk (((Keep.of_below (F := fun j => j = g) HB2.out).trans (Keep.of_below (F := fun j => j = g) HB6.out) (fun _ _ => id)).set (g := g) rfl 0 (.slice A3 n3 cap3))
          generalize w6.setCell ⟨g, 0, none⟩ (.slice A3 n3 cap3) = w7 at HN HK9 ⊢
          go_wp2
          go_ret
          rw [HT.out]
          refine ⟨rfl, ⟨A', c', _, HN.out, ?_⟩, HK9.out⟩
          have h := ins_perm P at_ X
          rw [HXX.out.1] at h ⊢
          exact h
  · have HT := Aside0.mk (tk_bad P bs h0)
    have HDK := Aside0.mk (HD.out.mono (R' := fun e w' => ∃ e4 : Int, e4 ≠ 0 ∧ e = .returned (.tuple #[.agg ZC, .int .i64 e4]) ∧ Below w.heap.size w w') (fun e w' h => by
      obtain ⟨h1, h2⟩ := h
      rcases h1 with ⟨h, _⟩ | ⟨_, e4, h3, h4⟩
      · exact absurd h h0
      · exact ⟨e4, h3, h4, h2⟩))
    clear HD h0
    go_upto_region 2 with (first | (go_at_call 46; (with_reducible refine HDK.out.mono ?_); rintro e_ w1 ⟨e4, h1, rfl, hb⟩; have he4 : (e4 == 0) = false := beq_eq_false_iff_ne.2 h1; have he5 := eq_false h1; have HB1 := Aside0.mk hb; clear h1 hb))
    have hbl := below_alloc (Below.refl w1.heap.size w1) (.cells ZC 44)
    have HB2 := Aside0.mk (HB1.out.trans (hbl.mono HB1.out.size))
    clear hbl HDK
    unfold ZC at *
    go_wp2
    go_ret
    rw [HT.out]
    exact ⟨rfl, ⟨_, _, P, HW.out.below HB2.out, List.Perm.refl _⟩, Keep.of_below HB2.out⟩
end Go.Proofs.YtpihpkphhkcdlaaGreatDoor.Wt
