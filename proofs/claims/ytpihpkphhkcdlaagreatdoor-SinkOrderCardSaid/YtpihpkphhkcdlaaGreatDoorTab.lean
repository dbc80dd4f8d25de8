/- pack.table and pack.Sum. -/
import Derived.Test.YtpihpkphhkcdlaaGreatDoorCrc
import Derived.Test.YtpihpkphhkcdlaaGreatDoorProg
import Derived.Test.YtpihpkphhkcdlaaGreatDoorWWords
import Derived.Test.YtpihpkphhkcdlaaGreatDoorWLast
import Derived.Test.YtpihpkphhkcdlaaGreatDoorWm
import Derived.Test.YtpihpkphhkcdlaaGreatDoorWTab
import Derived.Laws.BitsAllLaws
import Derived.Laws.Rows
import Derived.Laws.Tables
import Derived.Laws.CopyRow
import Derived.Laws.CopyOwn
namespace Go.Proofs.YtpihpkphhkcdlaaGreatDoor.Tab
open Go.RowKit Go.Proofs.YtpihpkphhkcdlaaGreatDoorW.PrintWords Go.Proofs.YtpihpkphhkcdlaaGreatDoorW.PrintLast Go.Proofs.YtpihpkphhkcdlaaGreatDoor.Crc
set_option linter.unusedVariables false
set_option linter.unusedSimpArgs false
def tabV (i : Nat) : Array Value := ((List.range 256).map fun j => Value.int .u32 (if j < i then (st8 j : Int) else 0)).toArray
theorem tab_zero : tabV 0 = Tryz.zeroCells132 := by kernel_rfl
def stn : Nat → Nat → Nat
  | 0, c => c
  | k + 1, c => st (stn k c)
theorem step_bits (c : Nat) (h : c < 4294967296) : bits .xor .u32 ((c : Int) / 2) (bits .and .u32 3988292384 (-(bits .and .u32 (c : Int) 1) % 4294967296)) = ((st c : Nat) : Int) := by
  have e1 : bits .and .u32 (c : Int) 1 = ((c % 2 : Nat) : Int) := by
    have := u32_and_nat c 1 h (by decide)
    rw [Nat.and_one_is_mod] at this
    exact this
  have e2 : ((c : Int) / 2) = ((c / 2 : Nat) : Int) := by omega
  rw [e1, e2]
  unfold st
  by_cases h1 : c % 2 = 1
  · rw [if_pos h1, h1]
    have e3 : bits .and .u32 3988292384 (-((1 : Nat) : Int) % 4294967296) = ((3988292384 : Nat) : Int) := by decide +kernel
    rw [e3]
    exact u32_xor_nat _ _ (by omega) (by decide)
  · have h0 : c % 2 = 0 := by omega
    rw [if_neg h1, h0]
    have e3 : bits .and .u32 3988292384 (-((0 : Nat) : Int) % 4294967296) = ((0 : Nat) : Int) := by decide +kernel
    rw [e3]
    exact u32_xor_nat _ _ (by omega) (by decide)
theorem st_lt (c : Nat) (h : c < 4294967296) : st c < 4294967296 := by
  unfold st
  have h2 : (4294967296 : Nat) = 2 ^ 32 := by decide
  rw [h2]
  refine Nat.xor_lt_two_pow (by omega) ?_
  split <;> omega
theorem stn_lt (k c : Nat) (h : c < 4294967296) : stn k c < 4294967296 := by
  induction k with
  | zero => exact h
  | succ k ih => exact st_lt _ ih
theorem tab_cells : (tabV 256).all (·.oneCell') = true := by unfold tabV; simp [Value.oneCell']
theorem tab_get (i j : Nat) (h : j < 256) : (tabV i)[j]? = some (.int .u32 (if j < i then (st8 j : Int) else 0)) := by
  unfold tabV
  simp [h]
theorem tab_set (i : Nat) (h : i < 256) : (tabV i).setIfInBounds i (.int .u32 ((stn 8 i : Nat) : Int)) = tabV (i + 1) := by
  apply Array.ext_getElem?
  intro j
  by_cases hj : j < 256
  · rw [tab_get _ _ hj, Array.getElem?_setIfInBounds]
    by_cases he : i = j
    · subst he
      rw [if_pos rfl, if_pos (by simp [tabV]; exact h), if_pos (by omega)]
      rfl
    · rw [if_neg he, tab_get _ _ hj]
      by_cases h1 : j < i
      · rw [if_pos h1, if_pos (by omega)]
      · rw [if_neg h1, if_neg (by omega)]
  · rw [Array.getElem?_eq_none (by simp [tabV]; omega), Array.getElem?_eq_none (by simp [tabV]; omega)]
theorem stn8 (c : Nat) : stn 8 c = st8 c := rfl
set_option maxHeartbeats 16000000 in
set_option maxRecDepth 1000000 in
theorem table_calls (w : World) : Calls Tryz.prog 73 #[] w fun e w' => e = .returned (.agg (tabV 256)) ∧ Below w.heap.size w w' := by
  go_enter Tryz.func73, Tryz.ntmps73
  go_upto_region 1 with (fail)
  obtain ⟨W1, hW1⟩ : ∃ W1, W1 = w.alloc (Obj.cells Tryz.zeroCells132 132) := ⟨_, rfl⟩
  obtain ⟨g, hg⟩ : ∃ g, g = w.heap.size := ⟨_, rfl⟩
  have HT0 := Aside0.mk (show W1.heap[g]? = some (.cells (tabV 0) 132 (0, 0)) from by rw [hW1, hg, tab_zero]; exact blk_new w _)
  have HB0 := Aside0.mk (show Below g w W1 from by rw [hW1, hg]; exact below_alloc (Below.refl _ _) _)
  have HGE := Aside0.mk hg
  rw [← hW1, ← hg]
  clear hW1 hg
  go_wp2
  go_loopg [3] 257 (fun kq v3 w' => ∃ i : Nat, v3 = .int .i64 (i : Int) ∧ Aside0 (256 - i < kq ∧ i ≤ 256) ∧ Aside0 (w'.heap[g]? = some (.cells (tabV i) 132 (0, 0))) ∧ Aside0 (Below g w w'))
  case atStart => exact ⟨0, rfl, ⟨by omega, by omega⟩, HT0, HB0⟩
  case round =>
    clear HT0 HB0
    obtain ⟨i, rfl, HI, HT, HB⟩ := hrel
    obtain ⟨gq, hgq⟩ : ∃ gq : Nat, gq = gk := ⟨_, rfl⟩
    by_cases hi : i < 256
    · have hc1 : decide ((i : Int) < 256) = true := decide_eq_true (by omega)
      have hwi : wrap64 ((i : Int) + 1) = ((i + 1 : Nat) : Int) := by unfold wrap64; omega
      have hb0 : (0 : Int) ≤ (i : Int) := by omega
      have hb1 : (i : Int) < 256 := by omega
      have HI2 := Aside0.mk hi
      clear hi
      go_wp2
      go_loopg [2, 8] 9 (fun kq v2 v8 w' => ∃ k : Nat, v2 = .int .u32 (stn k i : Nat) ∧ v8 = .int .i64 (k : Int) ∧ Aside0 (8 - k < kq ∧ k ≤ 8) ∧ w' = wr)
      case atStart => exact ⟨0, by first | rfl | (simp [stn]; done), rfl, ⟨by omega, by omega⟩, rfl⟩
      case round =>
        obtain ⟨k, rfl, rfl, HJ, hw⟩ := hrel
        rw [hw]
        clear hw
        have hwk : wrap64 ((k : Int) + 1) = ((k + 1 : Nat) : Int) := by have := HJ.out; unfold wrap64; omega
        by_cases hk : k < 8
        · have hd1 : decide ((k : Int) < 8) = true := decide_eq_true (by omega)
          have HK := Aside0.mk hk
          have hlt := stn_lt k i (by have := HI2.out; omega)
          obtain ⟨c, hc⟩ : ∃ c, c = stn k i := ⟨_, rfl⟩
          rw [← hc] at hlt ⊢
          have HC := Aside0.mk hc
          have hc0 : (0 : Int) ≤ (c : Int) := by omega
          have hc2 : (c : Int) < 4294967296 := by omega
          clear hk hc
          go_wp2
          go_roundg (gk - 1)
          case measure => have := HJ.out; have := HK.out; omega
          case rel =>
            refine ⟨k + 1, ?_, by first | rfl | (rw [hwk]), ⟨by have := HJ.out; have := HK.out; omega, HK.out⟩, rfl⟩
            rw [step_bits c (by omega), HC.out]
            rfl
        · have hd1 : decide ((k : Int) < 8) = false := decide_eq_false (by omega)
          have hkk : k = 8 := by have := HJ.out; omega
          subst hkk
          clear hk
          have ht0 := (blk_cell HT.out i).trans (tab_get i i HI2.out)
          have hf0 := blk_frozen HT.out i
          go_wp2
          go_roundg (gq - 1)
          case measure => have := HI.out; have := HI2.out; omega
          case rel => exact ⟨i + 1, by first | rfl | (rw [hwi]), ⟨by have := HI.out; have := HI2.out; omega, HI2.out⟩, ⟨blk_put HT.out i _ (tab_set i HI2.out)⟩, ⟨HB.out.setCell (p := ⟨g, i, none⟩) (Nat.le_refl _) _⟩⟩
    · have hii : i = 256 := by have := HI.out; omega
      subst hii
      have hc1 : decide (((256 : Nat) : Int) < 256) = false := by decide
      clear hi
      have hsz : (Tryz.prog.info? 132).map (·.size) = some (tabV 256).size := by rw [show (tabV 256).size = 256 by simp [tabV]]; kernel_rfl
      go_wp2_with (first | (refine wpList_load_row rfl 132 (.tmp 0) rfl g rfl 132 (tabV 256) (0, 0) _ HT.out Tryz.underlying132 rfl hsz ?_) | (refine wpList_store_row rfl 132 (.tmp 0) (.tmp 22) rfl g (tabV 256) rfl rfl 132 (tabV 256) HT.out hsz rfl tab_cells ?_; rw [setRow_self _ _ _ _ _ HT.out]))
      try simp only [Exit.inBlock, Exit.then]
      exact bodyPost_ret (results_cell_row rfl _ _ g 132 _ (0, 0) _ rfl HT.out Tryz.underlying132 rfl hsz) rfl ⟨rfl, HGE.out ▸ HB.out⟩
/-! ### Sum -/
def nb (bs : List UInt8) : List Int := bs.map fun c => (c.toNat : Int)
def crF (l : List UInt8) : Nat := l.foldl (fun c x => st8 (c ^^^ x.toNat)) 4294967295
theorem crF_snoc (l : List UInt8) (x : UInt8) : crF (l ++ [x]) = st8 (crF l ^^^ x.toNat) := by unfold crF; rw [List.foldl_append]; rfl
theorem st8_lt (c : Nat) (h : c < 4294967296) : st8 c < 4294967296 := stn_lt 8 c h
theorem sum_step (c j : Nat) (h : c < 4294967296) (hj : j < 256) : bits .xor .u32 ((st8 j : Nat) : Int) ((c : Int) / 256) = ((st8 j ^^^ (c / 256) : Nat) : Int) := by
  have e : ((c : Int) / 256) = ((c / 256 : Nat) : Int) := by omega
  rw [e]
  exact u32_xor_nat _ _ (st8_lt j (by omega)) (by omega)
theorem sum_end (c : Nat) (h : c < 4294967296) : bits .xor .u32 4294967295 (c : Int) = ((c ^^^ 4294967295 : Nat) : Int) := by
  have := u32_xor_nat 4294967295 c (by decide) h
  rw [Nat.xor_comm] at this
  exact this
theorem crF_lt (l : List UInt8) : crF l < 4294967296 := by
  have : ∀ (l : List UInt8) (a : Nat), a < 4294967296 → l.foldl (fun c x => st8 (c ^^^ x.toNat)) a < 4294967296 := by
    intro l
    induction l with
    | nil => intro a h; exact h
    | cons x l ih =>
      intro a h
      refine ih _ (st8_lt _ ?_)
      have hx := x.toNat_lt
      rw [show (4294967296 : Nat) = 2 ^ 32 by decide] at h ⊢
      exact Nat.xor_lt_two_pow h (by omega)
  exact this l _ (by decide)
set_option maxHeartbeats 16000000 in
set_option maxRecDepth 1000000 in
theorem sum_calls (A : Option Addr) (cp : Nat) (bs : List UInt8) (w : World) (hr : ReadsInt w .u8 A bs.length (nb bs)) : Calls Tryz.prog 59 #[.slice A bs.length cp] w fun e w' => e = .returned (.int .u32 (crc bs : Nat)) ∧ Below w.heap.size w w' := by
  have HR := Aside0.mk hr
  have HX : bs.length ≤ 9223372036854775807 := hr.2.1
  have hsz : (Tryz.prog.info? 132).map (·.size) = some (tabV 256).size := by rw [show (tabV 256).size = 256 by simp [tabV]]; kernel_rfl
  have HSZ := Aside0.mk hsz
  clear hr hsz
  go_enter Tryz.func59, Tryz.ntmps59
  go_upto_region 2 with (first | (go_at_call 73; (with_reducible refine (table_calls w).mono ?_); rintro e w1 ⟨rfl, hb⟩; have HB1 := Aside0.mk hb; clear hb) | (refine wpList_store_row rfl 132 (.tmp 3) (.tmp 7) rfl w1.heap.size (tabV 256) rfl rfl 132 Tryz.zeroCells132 (blk_new w1 _) HSZ.out (by rw [← tab_zero]; simp [tabV]) tab_cells ?_))
  simp only [Act.put]
  obtain ⟨W2, hW2⟩ : ∃ W2, W2 = (w1.alloc (Obj.cells Tryz.zeroCells132 132)).setRow w1.heap.size (tabV 256) := ⟨_, rfl⟩
  obtain ⟨q, hq⟩ : ∃ q, q = w1.heap.size := ⟨_, rfl⟩
  have HT := Aside0.mk (show W2.heap[q]? = some (.cells (tabV 256) 132 (0, 0)) from by rw [hW2, hq]; exact setRow_heap _ _ _ _ _ _ (blk_new w1 _))
  have HB := Aside0.mk (show Below w.heap.size w W2 from by rw [hW2]; exact below_setRow (HB1.out.trans ((below_alloc (Below.refl _ _) _).mono HB1.out.size)) HB1.out.size _)
  rw [← hW2, ← hq]
  clear hW2 hq HB1
  have HR2 := Aside0.mk (HR.out.below HB.out)
  go_wp2
  go_loopg [4, 10] (bs.length + 1) (fun kq v4 v10 w' => ∃ i : Nat, v4 = .int .u32 ((crF (bs.take i) : Nat) : Int) ∧ v10 = .int .i64 (i : Int) ∧ Aside0 (bs.length - i < kq ∧ i ≤ bs.length) ∧ w' = W2)
  case atStart => exact ⟨0, rfl, rfl, ⟨by omega, by omega⟩, rfl⟩
  case round =>
    obtain ⟨i, rfl, rfl, HI, hw⟩ := hrel
    rw [hw]
    clear hw
    by_cases hi : i < bs.length
    · have hc0 : ((i : Int) < (bs.length : Int)) = True := eq_true (Int.ofNat_lt.2 hi)
      have hc1 : decide ((i : Int) < (bs.length : Int)) = true := decide_eq_true (Int.ofNat_lt.2 hi)
      have hwi : wrap64 ((i : Int) + 1) = ((i + 1 : Nat) : Int) := (by unfold wrap64; omega)
      obtain ⟨ad, eA, hcell⟩ := HR2.out.2.2 (by omega)
      subst eA
      have hx0 := hcell i hi
      have hgx : (nb bs).getD i 0 = ((bs[i]).toNat : Int) := by simp [nb, List.getD, hi]
      rw [hgx] at hx0
      have HS := Aside0.mk (show crF (bs.take (i + 1)) = st8 (crF (bs.take i) ^^^ (bs[i]).toNat) from by rw [List.take_succ_eq_append_getElem hi]; exact crF_snoc _ _)
      have hxl := (bs[i]).toNat_lt
      have hcl := crF_lt (bs.take i)
      obtain ⟨x, hx⟩ : ∃ x, x = (bs[i]).toNat := ⟨_, rfl⟩
      obtain ⟨c, hc⟩ : ∃ c, c = crF (bs.take i) := ⟨_, rfl⟩
      rw [← hx] at hx0 hxl HS
      rw [← hc] at hcl HS ⊢
      have HXC := Aside0.mk (And.intro hxl hcl)
      have hj : (c % 256) ^^^ x < 256 := by
        have := Nat.xor_lt_two_pow (n := 8) (x := c % 256) (y := x) (by omega) (by omega)
        exact this
      have hbx : bits .xor .u8 ((c : Int) % 256) (x : Int) = (((c % 256) ^^^ x : Nat) : Int) := by
        have := u8_xor_nat (c % 256) x (by omega) (by omega)
        rw [← this]
        congr 1
      obtain ⟨j, hjj⟩ : ∃ j, j = (c % 256) ^^^ x := ⟨_, rfl⟩
      rw [← hjj] at hj hbx
      have ct : W2.cell? ⟨q, j, none⟩ = some (.int .u32 ((st8 j : Nat) : Int)) := (blk_cell HT.out j).trans ((tab_get 256 j hj).trans (by rw [if_pos hj]))
      have hj0 : (0 : Int) ≤ (j : Int) := by omega
      have hj1 : (j : Int) < 256 := by omega
      have HJ := Aside0.mk hjj
      have HII := Aside0.mk hi
      have HW := Aside0.mk hwi
      clear hcell hgx hx hc hjj hi hwi
      go_wp2
      go_roundg (gk - 1)
      case measure => have := HI.out; have := HII.out; omega
      case rel => exact ⟨i + 1, by rw [HS.out, table_step c x (by have := HXC.out.1; omega), ← HJ.out]; exact congrArg (Value.int .u32) (sum_step c j HXC.out.2 (by omega)), by rw [HW.out], ⟨by have := HI.out; have := HII.out; omega, HII.out⟩, rfl⟩
    · have hii : i = bs.length := by have := HI.out; omega
      subst hii
      have hc0 : ((bs.length : Int) < (bs.length : Int)) = False := eq_false (Int.lt_irrefl _)
      have hc1 : decide ((bs.length : Int) < (bs.length : Int)) = false := decide_eq_false (Int.lt_irrefl _)
      rw [List.take_length]
      have hcl := crF_lt bs
      obtain ⟨c, hc⟩ : ∃ c, c = crF bs := ⟨_, rfl⟩
      rw [← hc] at hcl ⊢
      have HC := Aside0.mk hc
      have HCL := Aside0.mk hcl
      clear hi hc
      go_wp2
      go_ret
      exact ⟨by rw [show crc bs = c ^^^ 4294967295 by rw [HC.out]; rfl]; exact congrArg (fun z => Ending.returned (Value.int .u32 z)) (sum_end c HCL.out), HB.out⟩
end Go.Proofs.YtpihpkphhkcdlaaGreatDoor.Tab
