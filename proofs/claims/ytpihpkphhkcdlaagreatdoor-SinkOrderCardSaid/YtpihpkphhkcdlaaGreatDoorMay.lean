/- frame.May. -/
import Derived.Test.YtpihpkphhkcdlaaGreatDoorFr
namespace Go.Proofs.YtpihpkphhkcdlaaGreatDoor.May
open Go.RowKit Go.Proofs.YtpihpkphhkcdlaaGreatDoorW.PrintWords Go.Proofs.YtpihpkphhkcdlaaGreatDoorW.PrintLast Go.Proofs.YtpihpkphhkcdlaaGreatDoor.Tab Go.Proofs.YtpihpkphhkcdlaaGreatDoor.Rdn Go.Proofs.YtpihpkphhkcdlaaGreatDoor.Kp Go.Proofs.YtpihpkphhkcdlaaGreatDoor.Pd Go.Proofs.YtpihpkphhkcdlaaGreatDoor.Pk Go.Proofs.YtpihpkphhkcdlaaGreatDoor.Rd Go.Proofs.YtpihpkphhkcdlaaGreatDoor.Rm Go.Proofs.YtpihpkphhkcdlaaGreatDoor.Fr
set_option linter.unusedVariables false
set_option linter.unusedSimpArgs false
/-- A row of records that can be read. -/
def RecsAt (w : World) (A : Option Addr) (win : Int) (rs : List Rec) : Prop :=
  rs.length ≤ 9223372036854775807 ∧ (0 < rs.length → ∃ gr, A = some ⟨gr, 0, none⟩ ∧ gr < w.heap.size ∧ ∀ (i : Nat) (hi : i < rs.length) (k : Nat) (v : Value), (recC win rs[i])[k]? = some v → w.cell? ⟨gr, i * 5 + k, none⟩ = some v)
theorem RecsAt.below {w W : World} {A : Option Addr} {win : Int} {rs : List Rec} (h : RecsAt w A win rs) (hb : Below w.heap.size w W) : RecsAt W A win rs :=
  ⟨h.1, fun hp => by
    obtain ⟨gr, e, hl, hc⟩ := h.2 hp
    exact ⟨gr, e, Nat.lt_of_lt_of_le hl hb.size, fun i hi k v hv => pw_cell_below hb (hc i hi k v hv)⟩⟩
def prevN (rs : List Rec) (i : Nat) : Option ByteArray := if i = 0 then none else (rs[i - 1]?).map (·.name)
theorem mayR_cons (win : Int) (p : Option ByteArray) (r : Rec) (t : List Rec) : mayR win p (r :: t) = ((match p with | none => true | some q => Go.Op.bytesLess q.toList r.name.toList) && decide (r.name.size ≤ 65536) && decide (0 ≤ r.inc) && decide (0 ≤ r.rate) && !(decide (r.inc = 0) && !r.over) && mayR win (some r.name) t) := rfl
set_option maxHeartbeats 4000000 in
set_option maxRecDepth 1000000 in
theorem may_calls (f : Frm) (A : Option Addr) (cp : Nat) (w : World) (hR : RecsAt w A f.win f.recs) : Calls Tryz.prog 62 #[.agg #[.int .u64 (f.seq : Nat), .int .i64 f.win, .slice A f.recs.length cp]] w fun e w' => e = .returned (.bool (mayP f)) ∧ Below w.heap.size w w' := by
  obtain ⟨seq, win, rs⟩ := f
  dsimp only at hR ⊢
  have hmx := hR.1
  have HR := Aside0.mk hR
  obtain ⟨R, hRe⟩ : ∃ R, R = mayP ⟨seq, win, rs⟩ := ⟨_, rfl⟩
  rw [← hRe]
  clear hR
  have hb0 : Below w.heap.size w (w.alloc (.cells #[.int .u64 (seq : Nat), .int .i64 win, .slice A rs.length cp] 44)) := below_alloc (Below.refl _ _) _
  have HB0 := Aside0.mk hb0
  clear hb0
  by_cases h1 : seq < 1 ∨ rs.length < 1 ∨ 4096 < rs.length
  · have HRE := Aside0.mk (show R = false from by rw [hRe]; unfold mayP; rcases h1 with h | h | h <;> simp [show ¬ _ from Nat.not_le.2 h])
    clear hRe
    by_cases ha : seq < 1
    · have c1 : decide ((seq : Int) < 1) = true := decide_eq_true (by omega)
      have c5 : (seq == 0) = true := beq_iff_eq.2 (by omega)
      clear h1 ha
      go_enter Tryz.func62, Tryz.ntmps62
      go_wp2
      go_ret
      exact ⟨by rw [HRE.out]; rfl, HB0.out⟩
    · have c1 : decide ((seq : Int) < 1) = false := decide_eq_false (by omega)
      have c5 : (seq == 0) = false := beq_eq_false_iff_ne.2 (by omega)
      by_cases hb : rs.length < 1
      · have c2 : decide ((rs.length : Int) < 1) = true := decide_eq_true (by omega)
        have c6 : (rs.length == 0) = true := beq_iff_eq.2 (by omega)
        clear h1 ha hb
        go_enter Tryz.func62, Tryz.ntmps62
        go_wp2
        go_ret
        exact ⟨by rw [HRE.out]; rfl, HB0.out⟩
      · have c2 : decide ((rs.length : Int) < 1) = false := decide_eq_false (by omega)
        have c3 : decide ((rs.length : Int) > 4096) = true := decide_eq_true (by omega)
        have c4 : decide ((4096 : Int) < (rs.length : Int)) = true := decide_eq_true (by omega)
        have c6 : (rs.length == 0) = false := beq_eq_false_iff_ne.2 (by omega)
        clear h1 ha hb
        go_enter Tryz.func62, Tryz.ntmps62
        go_wp2
        go_ret
        exact ⟨by rw [HRE.out]; rfl, HB0.out⟩
  · have h2 : 1 ≤ seq ∧ 1 ≤ rs.length ∧ rs.length ≤ 4096 := by omega
    have c1 : decide ((seq : Int) < 1) = false := decide_eq_false (by omega)
    have c2 : decide ((rs.length : Int) < 1) = false := decide_eq_false (by omega)
    have c3 : decide ((rs.length : Int) > 4096) = false := decide_eq_false (by omega)
    have c4 : decide ((4096 : Int) < (rs.length : Int)) = false := decide_eq_false (by omega)
    have c5 : (seq == 0) = false := beq_eq_false_iff_ne.2 (by omega)
    have HRE := Aside0.mk (show R = mayR win none rs from by rw [hRe]; unfold mayP; simp [h2.1, h2.2.1, h2.2.2])
    have HLN := Aside0.mk h2
    clear h1 h2 hRe
    obtain ⟨gr, rfl, hgr, hcell⟩ := HR.out.2 (by have := HLN.out; omega)
    have HC := Aside0.mk (And.intro hgr hcell)
    clear hgr hcell
    go_enter Tryz.func62, Tryz.ntmps62
    go_wp2
    have HF0 := Aside0.mk (blk_new w (.cells #[.int .u64 (seq : Nat), .int .i64 win, .slice (some ⟨gr, 0, none⟩) rs.length cp] 44))
    go_loopg [24] (rs.length + 1) (fun kq v24 w' => ∃ i : Nat, v24 = .int .i64 (i : Int) ∧ Aside0 (rs.length - i < kq ∧ i ≤ rs.length) ∧ Aside0 (w'.heap[w.heap.size]? = some (.cells #[.int .u64 (seq : Nat), .int .i64 win, .slice (some ⟨gr, 0, none⟩) rs.length cp] 44 (0, 0))) ∧ Aside0 (Below w.heap.size w w') ∧ Aside0 (R = mayR win (prevN rs i) (rs.drop i)))
    case atStart => exact ⟨0, rfl, ⟨by omega, by omega⟩, HF0, HB0, HRE⟩
    case round =>
      clear HF0 HB0
      obtain ⟨i, rfl, HI, HF, HB, HE⟩ := hrel
      have fb := HF.out
      have g0 : wr.cell? ⟨w.heap.size, 0, none⟩ = some (.int .u64 (seq : Nat)) := (blk_cell fb 0).trans rfl
      have g1 : wr.cell? ⟨w.heap.size, 1, none⟩ = some (.int .i64 win) := (blk_cell fb 1).trans rfl
      have g2 : wr.cell? ⟨w.heap.size, 2, none⟩ = some (.slice (some ⟨gr, 0, none⟩) rs.length cp) := (blk_cell fb 2).trans rfl
      have HLT := Aside0.mk (blk_lt fb)
      clear fb
      by_cases hi : i < rs.length
      · have d0 : ((i : Int) < (rs.length : Int)) = True := eq_true (by omega)
        have d1 : decide ((i : Int) < (rs.length : Int)) = true := decide_eq_true (by omega)
        have hwi : wrap64 ((i : Int) + 1) = ((i + 1 : Nat) : Int) := by unfold wrap64; omega
        obtain ⟨r, hr⟩ : ∃ r, r = rs[i] := ⟨_, rfl⟩
        have hc : ∀ (k : Nat) (v : Value), (recC win r)[k]? = some v → wr.cell? ⟨gr, i * 5 + k, none⟩ = some v := fun k v hv => pw_cell_below HB.out (HC.out.2 i hi k v (hr ▸ hv))
        have y0 : wr.cell? ⟨gr, i * 5, none⟩ = some (.string r.name) := hc 0 _ rfl
        have y1 : wr.cell? ⟨gr, i * 5 + 1, none⟩ = some (.int .i64 win) := hc 1 _ rfl
        have y2 : wr.cell? ⟨gr, i * 5 + 2, none⟩ = some (.int .i64 r.inc) := hc 2 _ rfl
        have y3 : wr.cell? ⟨gr, i * 5 + 3, none⟩ = some (.int .i64 r.rate) := hc 3 _ rfl
        have y4 : wr.cell? ⟨gr, i * 5 + 4, none⟩ = some (.bool r.over) := hc 4 _ rfl
        have hE := HE.out
        rw [List.drop_eq_getElem_cons hi, ← hr, mayR_cons] at hE
        have HE2 := Aside0.mk hE
        have HII := Aside0.mk (show i < rs.length ∧ rs[i]? = some r from ⟨hi, by rw [List.getElem?_eq_getElem hi, hr]⟩)
        clear hE hc hr hi
        go_upto_region 6 with (fail)
        have HX := Aside0.mk (blk_new wr (.cells #[.string r.name, .int .i64 win, .int .i64 r.inc, .int .i64 r.rate, .bool r.over] 73))
        have HB1 := Aside0.mk (show Below w.heap.size w (wr.alloc (.cells #[.string r.name, .int .i64 win, .int .i64 r.inc, .int .i64 r.rate, .bool r.over] 73)) from below_alloc HB.out _)
        have HF1 := Aside0.mk (((below_alloc (Below.refl _ _) (.cells #[.string r.name, .int .i64 win, .int .i64 r.inc, .int .i64 r.rate, .bool r.over] 73) : Below wr.heap.size wr _).block _ HLT.out).trans HF.out)
        clear y0 y1 y2 y3 y4 g0 g1 g2
        generalize wr.alloc (.cells #[.string r.name, .int .i64 win, .int .i64 r.inc, .int .i64 r.rate, .bool r.over] 73) = W1 at HX HB1 HF1 ⊢
        generalize wr.heap.size = gx at HX ⊢
        have x0 : W1.cell? ⟨gx, 0, none⟩ = some (.string r.name) := (blk_cell HX.out 0).trans rfl
        have x1 : W1.cell? ⟨gx, 1, none⟩ = some (.int .i64 win) := (blk_cell HX.out 1).trans rfl
        have x2 : W1.cell? ⟨gx, 2, none⟩ = some (.int .i64 r.inc) := (blk_cell HX.out 2).trans rfl
        have x3 : W1.cell? ⟨gx, 3, none⟩ = some (.int .i64 r.rate) := (blk_cell HX.out 3).trans rfl
        have x4 : W1.cell? ⟨gx, 4, none⟩ = some (.bool r.over) := (blk_cell HX.out 4).trans rfl
        have g1 : W1.cell? ⟨w.heap.size, 1, none⟩ = some (.int .i64 win) := (blk_cell HF1.out 1).trans rfl
        have g2 : W1.cell? ⟨w.heap.size, 2, none⟩ = some (.slice (some ⟨gr, 0, none⟩) rs.length cp) := (blk_cell HF1.out 2).trans rfl
        have dx0 : W1.drew.cell? ⟨gx, 0, none⟩ = some (.string r.name) := x0
        have dx1 : W1.drew.cell? ⟨gx, 1, none⟩ = some (.int .i64 win) := x1
        have dx2 : W1.drew.cell? ⟨gx, 2, none⟩ = some (.int .i64 r.inc) := x2
        have dx3 : W1.drew.cell? ⟨gx, 3, none⟩ = some (.int .i64 r.rate) := x3
        have dx4 : W1.drew.cell? ⟨gx, 4, none⟩ = some (.bool r.over) := x4
        have dg1 : W1.drew.cell? ⟨w.heap.size, 1, none⟩ = some (.int .i64 win) := g1
        have dg2 : W1.drew.cell? ⟨w.heap.size, 2, none⟩ = some (.slice (some ⟨gr, 0, none⟩) rs.length cp) := g2
        by_cases h0 : i = 0
        · subst h0
          have HEE := Aside0.mk (show R = (true && decide (r.name.size ≤ 65536) && decide (0 ≤ r.inc) && decide (0 ≤ r.rate) && !(decide (r.inc = 0) && !r.over) && mayR win (some r.name) (rs.drop 1)) from HE2.out)
          go_region
          obtain ⟨c0, hc0⟩ : ∃ c0, c0 = true := ⟨_, rfl⟩
          rw [← hc0] at HEE ⊢
          clear hc0
          have hcs : True := trivial
          cases c0 with
          | false =>
            have HRR := Aside0.mk (show R = false from by rw [HEE.out]; simp)
            clear hcs
            go_wp2
            go_ret
            exact ⟨by rw [HRR.out]; rfl, below_drew HB1.out⟩
          | true =>
            by_cases hs : r.name.size ≤ 65536
            · by_cases hi : 0 ≤ r.inc
              · by_cases hr : 0 ≤ r.rate
                · by_cases hz0 : r.inc = 0
                  · cases ho : r.over with
                    | false =>
                      have s1 : decide ((r.name.size : Int) > 65536) = false := decide_eq_false (by omega)
                      have s2 : decide ((65536 : Int) < (r.name.size : Int)) = false := decide_eq_false (by omega)
                      have s3 : decide (65536 < r.name.size) = false := decide_eq_false (by omega)
                      have i1 : decide (r.inc < 0) = false := decide_eq_false (by omega)
                      have r1 : decide (r.rate < 0) = false := decide_eq_false (by omega)
                      have e1 : (r.inc == 0) = true := beq_iff_eq.2 hz0
                      rw [ho] at dx4 x4
                      have HRR := Aside0.mk (show R = false from by rw [HEE.out]; simp [hz0, ho])
                      clear hcs
                      go_wp2
                      go_ret
                      exact ⟨by rw [HRR.out]; rfl, below_drew HB1.out⟩
                    | true =>
                      have s1 : decide ((r.name.size : Int) > 65536) = false := decide_eq_false (by omega)
                      have s2 : decide ((65536 : Int) < (r.name.size : Int)) = false := decide_eq_false (by omega)
                      have s3 : decide (65536 < r.name.size) = false := decide_eq_false (by omega)
                      have i1 : decide (r.inc < 0) = false := decide_eq_false (by omega)
                      have r1 : decide (r.rate < 0) = false := decide_eq_false (by omega)
                      have e1 : (r.inc == 0) = true := beq_iff_eq.2 hz0
                      rw [ho] at dx4 x4
                      have HNX := Aside0.mk (show R = mayR win (some r.name) (rs.drop (0 + 1)) from by rw [HEE.out]; simp [hs, hi, hr, hz0, ho])
                      have HWI := Aside0.mk hwi
                      clear hcs
                      go_wp2
                      go_roundg (gk - 1)
                      case measure => have := HI.out; have := HII.out.1; omega
                      case rel => exact ⟨0 + 1, by first | rfl | (rw [HWI.out]), ⟨by have := HI.out; have := HII.out.1; omega, HII.out.1⟩, ⟨HF1.out⟩, ⟨below_drew HB1.out⟩, ⟨by rw [HNX.out]; congr 1; unfold prevN; rw [if_neg (by omega)]; simp [HII.out.2]⟩⟩
                  · skip
                    have s1 : decide ((r.name.size : Int) > 65536) = false := decide_eq_false (by omega)
                    have s2 : decide ((65536 : Int) < (r.name.size : Int)) = false := decide_eq_false (by omega)
                    have s3 : decide (65536 < r.name.size) = false := decide_eq_false (by omega)
                    have i1 : decide (r.inc < 0) = false := decide_eq_false (by omega)
                    have r1 : decide (r.rate < 0) = false := decide_eq_false (by omega)
                    have e1 : (r.inc == 0) = false := beq_eq_false_iff_ne.2 hz0
                    have HNX := Aside0.mk (show R = mayR win (some r.name) (rs.drop (0 + 1)) from by rw [HEE.out]; simp [hs, hi, hr, hz0])
                    have HWI := Aside0.mk hwi
                    clear hcs
                    go_wp2
                    go_roundg (gk - 1)
                    case measure => have := HI.out; have := HII.out.1; omega
                    case rel => exact ⟨0 + 1, by first | rfl | (rw [HWI.out]), ⟨by have := HI.out; have := HII.out.1; omega, HII.out.1⟩, ⟨HF1.out⟩, ⟨below_drew HB1.out⟩, ⟨by rw [HNX.out]; congr 1; unfold prevN; rw [if_neg (by omega)]; simp [HII.out.2]⟩⟩
                · skip
                  have s1 : decide ((r.name.size : Int) > 65536) = false := decide_eq_false (by omega)
                  have s2 : decide ((65536 : Int) < (r.name.size : Int)) = false := decide_eq_false (by omega)
                  have s3 : decide (65536 < r.name.size) = false := decide_eq_false (by omega)
                  have i1 : decide (r.inc < 0) = false := decide_eq_false (by omega)
                  have r1 : decide (r.rate < 0) = true := decide_eq_true (by omega)
                  have HRR := Aside0.mk (show R = false from by rw [HEE.out]; simp [hr])
                  clear hcs
                  go_wp2
                  go_ret
                  exact ⟨by rw [HRR.out]; rfl, below_drew HB1.out⟩
              · skip
                have s1 : decide ((r.name.size : Int) > 65536) = false := decide_eq_false (by omega)
                have s2 : decide ((65536 : Int) < (r.name.size : Int)) = false := decide_eq_false (by omega)
                have s3 : decide (65536 < r.name.size) = false := decide_eq_false (by omega)
                have i1 : decide (r.inc < 0) = true := decide_eq_true (by omega)
                have HRR := Aside0.mk (show R = false from by rw [HEE.out]; simp [hi])
                clear hcs
                go_wp2
                go_ret
                exact ⟨by rw [HRR.out]; rfl, below_drew HB1.out⟩
            · skip
              have s1 : decide ((r.name.size : Int) > 65536) = true := decide_eq_true (by omega)
              have s2 : decide ((65536 : Int) < (r.name.size : Int)) = true := decide_eq_true (by omega)
              have s3 : decide (65536 < r.name.size) = true := decide_eq_true (by omega)
              have HRR := Aside0.mk (show R = false from by rw [HEE.out]; simp [hs])
              clear hcs
              go_wp2
              go_ret
              exact ⟨by rw [HRR.out]; rfl, below_drew HB1.out⟩
        · obtain ⟨p, hp⟩ : ∃ p, i = p + 1 := ⟨i - 1, by omega⟩
          obtain ⟨q, hq⟩ : ∃ q, rs[p]? = some q := ⟨rs[p]'(by have := HII.out.1; omega), List.getElem?_eq_getElem _⟩
          have HEE := Aside0.mk (show R = (Go.Op.bytesLess q.name.toList r.name.toList && decide (r.name.size ≤ 65536) && decide (0 ≤ r.inc) && decide (0 ≤ r.rate) && !(decide (r.inc = 0) && !r.over) && mayR win (some r.name) (rs.drop (i + 1))) from by
            have := HE2.out
            rw [show prevN rs i = some q.name from by unfold prevN; rw [if_neg h0, show i - 1 = p by omega, hq]; rfl] at this
            exact this)
          have z0 : W1.cell? ⟨gr, p * 5, none⟩ = some (.string q.name) := by
            obtain ⟨h1, h2⟩ := List.getElem?_eq_some_iff.1 hq
            exact pw_cell_below HB1.out (HC.out.2 p h1 0 _ (by rw [h2]; rfl))
          have dz0 : W1.drew.cell? ⟨gr, p * 5, none⟩ = some (.string q.name) := z0
          have hz : ((i : Int) == 0) = false := beq_eq_false_iff_ne.2 (by omega)
          have hw2 : wrap64 ((i : Int) - 1) = (p : Int) := by unfold wrap64; have := HII.out.1; omega
          have hw3 : (i : Int) - 1 = (p : Int) := by omega
          have hw4 : (p : Int) < (rs.length : Int) := by have := HII.out.1; omega
          have hw5 : (0 : Int) ≤ (p : Int) := by omega
          clear hq hp h0
          go_region
          obtain ⟨c0, hc0⟩ : ∃ c0, c0 = Go.Op.bytesLess q.name.toList r.name.toList := ⟨_, rfl⟩
          rw [← hc0] at HEE ⊢
          clear hc0
          have hcs : True := trivial
          cases c0 with
          | false =>
            have HRR := Aside0.mk (show R = false from by rw [HEE.out]; simp)
            clear hcs
            go_wp2
            go_ret
            exact ⟨by rw [HRR.out]; rfl, below_drew HB1.out⟩
          | true =>
            by_cases hs : r.name.size ≤ 65536
            · by_cases hi : 0 ≤ r.inc
              · by_cases hr : 0 ≤ r.rate
                · by_cases hz0 : r.inc = 0
                  · cases ho : r.over with
                    | false =>
                      have s1 : decide ((r.name.size : Int) > 65536) = false := decide_eq_false (by omega)
                      have s2 : decide ((65536 : Int) < (r.name.size : Int)) = false := decide_eq_false (by omega)
                      have s3 : decide (65536 < r.name.size) = false := decide_eq_false (by omega)
                      have i1 : decide (r.inc < 0) = false := decide_eq_false (by omega)
                      have r1 : decide (r.rate < 0) = false := decide_eq_false (by omega)
                      have e1 : (r.inc == 0) = true := beq_iff_eq.2 hz0
                      rw [ho] at dx4 x4
                      have HRR := Aside0.mk (show R = false from by rw [HEE.out]; simp [hz0, ho])
                      clear hcs
                      go_wp2
                      go_ret
                      exact ⟨by rw [HRR.out]; rfl, below_drew HB1.out⟩
                    | true =>
                      have s1 : decide ((r.name.size : Int) > 65536) = false := decide_eq_false (by omega)
                      have s2 : decide ((65536 : Int) < (r.name.size : Int)) = false := decide_eq_false (by omega)
                      have s3 : decide (65536 < r.name.size) = false := decide_eq_false (by omega)
                      have i1 : decide (r.inc < 0) = false := decide_eq_false (by omega)
                      have r1 : decide (r.rate < 0) = false := decide_eq_false (by omega)
                      have e1 : (r.inc == 0) = true := beq_iff_eq.2 hz0
                      rw [ho] at dx4 x4
                      have HNX := Aside0.mk (show R = mayR win (some r.name) (rs.drop (i + 1)) from by rw [HEE.out]; simp [hs, hi, hr, hz0, ho])
                      have HWI := Aside0.mk hwi
                      clear hcs
                      go_wp2
                      go_roundg (gk - 1)
                      case measure => have := HI.out; have := HII.out.1; omega
                      case rel => exact ⟨i + 1, by first | rfl | (rw [HWI.out]), ⟨by have := HI.out; have := HII.out.1; omega, HII.out.1⟩, ⟨HF1.out⟩, ⟨below_drew HB1.out⟩, ⟨by rw [HNX.out]; congr 1; unfold prevN; rw [if_neg (by omega)]; simp [HII.out.2]⟩⟩
                  · skip
                    have s1 : decide ((r.name.size : Int) > 65536) = false := decide_eq_false (by omega)
                    have s2 : decide ((65536 : Int) < (r.name.size : Int)) = false := decide_eq_false (by omega)
                    have s3 : decide (65536 < r.name.size) = false := decide_eq_false (by omega)
                    have i1 : decide (r.inc < 0) = false := decide_eq_false (by omega)
                    have r1 : decide (r.rate < 0) = false := decide_eq_false (by omega)
                    have e1 : (r.inc == 0) = false := beq_eq_false_iff_ne.2 hz0
                    have HNX := Aside0.mk (show R = mayR win (some r.name) (rs.drop (i + 1)) from by rw [HEE.out]; simp [hs, hi, hr, hz0])
                    have HWI := Aside0.mk hwi
                    clear hcs
                    go_wp2
                    go_roundg (gk - 1)
                    case measure => have := HI.out; have := HII.out.1; omega
                    case rel => exact ⟨i + 1, by first | rfl | (rw [HWI.out]), ⟨by have := HI.out; have := HII.out.1; omega, HII.out.1⟩, ⟨HF1.out⟩, ⟨below_drew HB1.out⟩, ⟨by rw [HNX.out]; congr 1; unfold prevN; rw [if_neg (by omega)]; simp [HII.out.2]⟩⟩
                · skip
                  have s1 : decide ((r.name.size : Int) > 65536) = false := decide_eq_false (by omega)
                  have s2 : decide ((65536 : Int) < (r.name.size : Int)) = false := decide_eq_false (by omega)
                  have s3 : decide (65536 < r.name.size) = false := decide_eq_false (by omega)
                  have i1 : decide (r.inc < 0) = false := decide_eq_false (by omega)
                  have r1 : decide (r.rate < 0) = true := decide_eq_true (by omega)
                  have HRR := Aside0.mk (show R = false from by rw [HEE.out]; simp [hr])
                  clear hcs
                  go_wp2
                  go_ret
                  exact ⟨by rw [HRR.out]; rfl, below_drew HB1.out⟩
              · skip
                have s1 : decide ((r.name.size : Int) > 65536) = false := decide_eq_false (by omega)
                have s2 : decide ((65536 : Int) < (r.name.size : Int)) = false := decide_eq_false (by omega)
                have s3 : decide (65536 < r.name.size) = false := decide_eq_false (by omega)
                have i1 : decide (r.inc < 0) = true := decide_eq_true (by omega)
                have HRR := Aside0.mk (show R = false from by rw [HEE.out]; simp [hi])
                clear hcs
                go_wp2
                go_ret
                exact ⟨by rw [HRR.out]; rfl, below_drew HB1.out⟩
            · skip
              have s1 : decide ((r.name.size : Int) > 65536) = true := decide_eq_true (by omega)
              have s2 : decide ((65536 : Int) < (r.name.size : Int)) = true := decide_eq_true (by omega)
              have s3 : decide (65536 < r.name.size) = true := decide_eq_true (by omega)
              have HRR := Aside0.mk (show R = false from by rw [HEE.out]; simp [hs])
              clear hcs
              go_wp2
              go_ret
              exact ⟨by rw [HRR.out]; rfl, below_drew HB1.out⟩
      · have hii : i = rs.length := by have := HI.out.2; omega
        have d0 : ((i : Int) < (rs.length : Int)) = False := eq_false (by omega)
        have d1 : decide ((i : Int) < (rs.length : Int)) = false := decide_eq_false (by omega)
        have HRR := Aside0.mk (show R = true from by rw [HE.out, hii, List.drop_length]; rfl)
        clear hi hii
        go_wp2
        go_ret
        exact ⟨by rw [HRR.out]; rfl, HB.out⟩
end Go.Proofs.YtpihpkphhkcdlaaGreatDoor.May
