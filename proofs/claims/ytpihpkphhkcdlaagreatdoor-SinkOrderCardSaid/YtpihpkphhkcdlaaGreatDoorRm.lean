/- pack.read: the number whose bytes stand ahead. -/
import Derived.Test.YtpihpkphhkcdlaaGreatDoorTab
import Derived.OwnWalk
import Derived.Lib.IfaceEq
import Derived.WalkKit
import Derived.LaidEql
import Derived.Stop.Asserts
import Derived.RowKitTokens
import Derived.Lib.ConvBytes
import Derived.Laws.BytesArg
import Derived.Tactics
namespace Go.Proofs.YtpihpkphhkcdlaaGreatDoor.Rdn
open Go.RowKit Go.Proofs.YtpihpkphhkcdlaaGreatDoorW.PrintWords Go.Proofs.YtpihpkphhkcdlaaGreatDoorW.PrintLast Go.Proofs.YtpihpkphhkcdlaaGreatDoor.Tab
set_option linter.unusedVariables false
set_option linter.unusedSimpArgs false
/-- Number, bytes, error (0: none). -/
def rd (i n : Nat) : List UInt8 → Nat × Nat × Int
  | [] => (0, 0, 11)
  | x :: t => if i = 9 ∧ 1 < x.toNat then (0, 0, 4) else if x.toNat = 0 ∧ 0 < i then (0, 0, 4) else if x.toNat < 128 then (n ||| ((x.toNat % 128) * 2 ^ (7 * i)), i + 1, 0) else rd (i + 1) (n ||| ((x.toNat % 128) * 2 ^ (7 * i))) t
theorem num_step (n x i : Nat) (hn : n < 18446744073709551616) (hx : x < 256) (hi : i ≤ 8 ∨ i = 9 ∧ x ≤ 1) : bits .or .u64 (n : Int) (IntKind.u64.wrap (IntKind.u64.wrap (bits .and .u8 (x : Int) 127) * 2 ^ (7 * i))) = ((n ||| ((x % 128) * 2 ^ (7 * i)) : Nat) : Int) ∧ (n ||| ((x % 128) * 2 ^ (7 * i))) < 18446744073709551616 := by
  have hw : ∀ m : Nat, m < 18446744073709551616 → IntKind.u64.wrap (m : Int) = (m : Int) := fun m h => by
    unfold IntKind.wrap
    simp [IntKind.bits, IntKind.signed]
    omega
  have e1 : bits .and .u8 (x : Int) 127 = ((x % 128 : Nat) : Int) := by
    have := u8_and_nat x 127 hx (by decide)
    rw [show (127 : Nat) = 2 ^ 7 - 1 by decide, Nat.and_two_pow_sub_one_eq_mod] at this
    exact this
  have hp : (x % 128) * 2 ^ (7 * i) < 18446744073709551616 := by
    rcases hi with hi | ⟨rfl, hx1⟩
    · have h1 : 2 ^ (7 * i) ≤ 2 ^ 56 := Nat.pow_le_pow_right (by decide) (by omega)
      have h2 : (x % 128) * 2 ^ (7 * i) ≤ 127 * 2 ^ 56 := Nat.mul_le_mul (by omega) h1
      have h3 : 127 * 2 ^ 56 < 18446744073709551616 := by decide
      exact Nat.lt_of_le_of_lt h2 h3
    · have h2 : (x % 128) * 2 ^ (7 * 9) ≤ 1 * 2 ^ (7 * 9) := Nat.mul_le_mul_right _ (by omega)
      have h3 : 1 * 2 ^ (7 * 9) < 18446744073709551616 := by decide
      exact Nat.lt_of_le_of_lt h2 h3
  rw [e1, hw _ (by omega), show (((x % 128 : Nat) : Int) * 2 ^ (7 * i)) = (((x % 128) * 2 ^ (7 * i) : Nat) : Int) by rw [Int.natCast_mul, Int.natCast_pow]; rfl, hw _ hp]
  refine ⟨u64_or_nat _ _ hn hp, ?_⟩
  have h64 : (18446744073709551616 : Nat) = 2 ^ 64 := by decide
  rw [h64] at hn hp ⊢
  exact Nat.or_lt_two_pow hn hp
def errV (c : Int) : Value := if c = 0 then .nilIface else .iface 196 (.agg #[.int .i64 c])
set_option maxHeartbeats 16000000 in
set_option maxRecDepth 1000000 in
theorem read_calls (A : Option Addr) (cp : Nat) (bs : List UInt8) (w : World) (hr : ReadsInt w .u8 A bs.length (nb bs)) : Calls Tryz.prog 128 #[.slice A bs.length cp] w fun e w' => e = .returned (.tuple #[.int .u64 ((rd 0 0 bs).1 : Nat), .int .i64 ((rd 0 0 bs).2.1 : Nat), errV (rd 0 0 bs).2.2]) ∧ Below w.heap.size w w' := by
  have HR := Aside0.mk hr
  have HX : bs.length ≤ 9223372036854775807 := hr.2.1
  obtain ⟨R, hR⟩ : ∃ R, R = rd 0 0 bs := ⟨_, rfl⟩
  have HRR := Aside0.mk hR
  rw [← hR]
  clear hr hR
  go_enter Tryz.func128, Tryz.ntmps128
  go_wp2
  go_loopg [2, 9] (bs.length + 1) (fun kq v2 v9 w' => ∃ n i : Nat, v2 = .int .u64 (n : Int) ∧ v9 = .int .i64 (i : Int) ∧ Aside0 (bs.length - i < kq ∧ i ≤ bs.length ∧ i ≤ 9 ∨ bs.length - i < kq ∧ i ≤ bs.length ∧ bs.length ≤ i) ∧ Aside0 (n < 18446744073709551616 ∧ rd i n (bs.drop i) = R ∧ i ≤ 9) ∧ w' = w)
  case atStart => exact ⟨0, 0, rfl, rfl, ⟨.inl ⟨by omega, by omega, by omega⟩⟩, ⟨by decide, by rw [HRR.out]; rfl, by omega⟩, rfl⟩
  case round =>
    obtain ⟨n, i, rfl, rfl, HI, HN, hw⟩ := hrel
    rw [hw]
    clear hw
    by_cases hi : i < bs.length
    · have hc0 : ((i : Int) < (bs.length : Int)) = True := eq_true (Int.ofNat_lt.2 hi)
      have hc1 : decide ((i : Int) < (bs.length : Int)) = true := decide_eq_true (Int.ofNat_lt.2 hi)
      obtain ⟨ad, eA, hcell⟩ := HR.out.2.2 (by omega)
      subst eA
      have hx0 := hcell i hi
      have hgx : (nb bs).getD i 0 = ((bs[i]).toNat : Int) := by simp [nb, List.getD, hi]
      rw [hgx] at hx0
      have hxl := (bs[i]).toNat_lt
      have hrd := HN.out.2.1
      rw [List.drop_eq_getElem_cons hi] at hrd
      unfold rd at hrd
      obtain ⟨x, hx⟩ : ∃ x, x = (bs[i]).toNat := ⟨_, rfl⟩
      rw [← hx] at hx0 hxl hrd
      have HRD := Aside0.mk hrd
      have HII := Aside0.mk hi
      clear hcell hgx hx hrd hi
      have hi9 := HN.out.2.2
      have hwi : wrap64 ((i : Int) + 1) = ((i + 1 : Nat) : Int) := by unfold wrap64; omega
      have hi0 : (0 : Int) ≤ (i : Int) := by omega
      have hi1 : (i : Int) ≤ 9 := by omega
      by_cases h9 : i = 9 ∧ 1 < x
      · have HE := Aside0.mk (show R = (0, 0, 4) from by have := HRD.out; rw [if_pos h9] at this; exact this.symm)
        have b9 : ((i : Int) == 9) = true := beq_iff_eq.2 (by omega)
        have g1 : decide ((x : Int) > 1) = true := decide_eq_true (by omega)
        have g2 : decide ((1 : Int) < (x : Int)) = true := decide_eq_true (by omega)
        clear h9
        go_wp2
        refine bodyPost_ret (results_tmp3 rfl _ _ _) rfl ?_
        exact ⟨by rw [HE.out]; rfl, Below.refl _ _⟩
      · have hrd2 := HRD.out
        rw [if_neg h9] at hrd2
        by_cases h0 : x = 0 ∧ 0 < i
        · have HE := Aside0.mk (show R = (0, 0, 4) from by rw [if_pos h0] at hrd2; exact hrd2.symm)
          have g2 : decide ((1 : Int) < (x : Int)) = false := decide_eq_false (by omega)
          have g3 : decide ((x : Int) > 1) = false := decide_eq_false (by omega)
          have z0 : ((x : Int) == 0) = true := beq_iff_eq.2 (by omega)
          have z1 : decide ((i : Int) > 0) = true := decide_eq_true (by omega)
          have z2 : decide ((0 : Int) < (i : Int)) = true := decide_eq_true (by omega)
          have z3 : decide (0 < i) = true := decide_eq_true (by omega)
          have z4 : (0 < i) = True := eq_true (by omega)
          have z5 : (i == 0) = false := beq_eq_false_iff_ne.mpr (by omega)
          clear hrd2
          by_cases i9 : i = 9
          · have b9 : ((i : Int) == 9) = true := beq_iff_eq.2 (by omega)
            clear h9 h0 i9
            go_wp2
            refine bodyPost_ret (results_tmp3 rfl _ _ _) rfl ?_
            exact ⟨by rw [HE.out]; rfl, Below.refl _ _⟩
          · have b9 : ((i : Int) == 9) = false := beq_eq_false_iff_ne.mpr (by omega)
            clear h9 h0 i9
            go_wp2
            refine bodyPost_ret (results_tmp3 rfl _ _ _) rfl ?_
            exact ⟨by rw [HE.out]; rfl, Below.refl _ _⟩
        · rw [if_neg h0] at hrd2
          have hnl := HN.out.1
          by_cases hlt : x < 128
          · have l1 : decide ((x : Int) < 128) = true := decide_eq_true (by omega)
            have l2 : ((x : Int) < 128) = True := eq_true (by omega)
            rw [if_pos hlt] at hrd2
            have HE := Aside0.mk hrd2
            have HST := Aside0.mk (num_step n x i hnl (by omega) (by omega)).1
            by_cases i9 : i = 9
            · have b9 : ((i : Int) == 9) = true := beq_iff_eq.2 (by omega)
              have g2 : decide ((1 : Int) < (x : Int)) = false := decide_eq_false (by omega)
              have g3 : decide ((x : Int) > 1) = false := decide_eq_false (by omega)
              by_cases x0 : x = 0
              · exact absurd ⟨x0, by omega⟩ h0
              · have z0 : ((x : Int) == 0) = false := beq_eq_false_iff_ne.mpr (by omega)
                clear h9 h0 hrd2 hlt x0 i9
                go_wp2
                refine bodyPost_ret (results_tmp3 rfl _ _ _) rfl ?_
                refine ⟨?_, Below.refl _ _⟩
                rw [← HE.out]
                first | (rw [HST.out]; rfl) | (rw [HST.out, hwi]; rfl)
            · have b9 : ((i : Int) == 9) = false := beq_eq_false_iff_ne.mpr (by omega)
              by_cases x0 : x = 0
              · have z0 : ((x : Int) == 0) = true := beq_iff_eq.2 (by omega)
                have hi00 : i = 0 := by omega
                have z1 : decide ((i : Int) > 0) = false := decide_eq_false (by omega)
                have z2 : decide ((0 : Int) < (i : Int)) = false := decide_eq_false (by omega)
                have z3 : decide (0 < i) = false := decide_eq_false (by omega)
                have z4 : (0 < i) = False := eq_false (by omega)
                clear h9 h0 hrd2 hlt x0 i9 hi00
                go_wp2
                refine bodyPost_ret (results_tmp3 rfl _ _ _) rfl ?_
                refine ⟨?_, Below.refl _ _⟩
                rw [← HE.out]
                first | (rw [HST.out]; rfl) | (rw [HST.out, hwi]; rfl)
              · have z0 : ((x : Int) == 0) = false := beq_eq_false_iff_ne.mpr (by omega)
                clear h9 h0 hrd2 hlt x0 i9
                go_wp2
                refine bodyPost_ret (results_tmp3 rfl _ _ _) rfl ?_
                refine ⟨?_, Below.refl _ _⟩
                rw [← HE.out]
                first | (rw [HST.out]; rfl) | (rw [HST.out, hwi]; rfl)
          · have l1 : decide ((x : Int) < 128) = false := decide_eq_false (by omega)
            have l2 : ((x : Int) < 128) = False := eq_false (by omega)
            rw [if_neg hlt] at hrd2
            have HE := Aside0.mk hrd2
            have i9 : i ≠ 9 := by omega
            have HST := Aside0.mk (num_step n x i hnl (by omega) (by omega))
            have b9 : ((i : Int) == 9) = false := beq_eq_false_iff_ne.mpr (by omega)
            have z0 : ((x : Int) == 0) = false := beq_eq_false_iff_ne.mpr (by omega)
            have HI9 := Aside0.mk (show i + 1 ≤ 9 from by omega)
            clear h9 h0 hrd2 hlt i9
            go_wp2
            go_roundg (gk - 1)
            case measure => have := HI.out; have := HII.out; omega
            case rel => exact ⟨n ||| ((x % 128) * 2 ^ (7 * i)), i + 1, by rw [HST.out.1], by first | rfl | (rw [hwi]), ⟨.inl ⟨by have := HI.out; have := HII.out; omega, HII.out, HI9.out⟩⟩, ⟨HST.out.2, HE.out, HI9.out⟩, rfl⟩
    · have hii : bs.length ≤ i := by omega
      have HE := Aside0.mk (show R = (0, 0, 11) from by have := HN.out.2.1; rw [List.drop_eq_nil_of_le hii] at this; exact this.symm)
      have hc0 : ((i : Int) < (bs.length : Int)) = False := eq_false (by omega)
      have hc1 : decide ((i : Int) < (bs.length : Int)) = false := decide_eq_false (by omega)
      clear hi hii
      go_wp2
      refine bodyPost_ret (results_tmp3 rfl _ _ _) rfl ?_
      exact ⟨by rw [HE.out]; rfl, Below.refl _ _⟩
end Go.Proofs.YtpihpkphhkcdlaaGreatDoor.Rdn
namespace Go.Proofs.YtpihpkphhkcdlaaGreatDoor.Kp
open Go.RowKit Go.Proofs.YtpihpkphhkcdlaaGreatDoorW.PrintWords Go.Proofs.YtpihpkphhkcdlaaGreatDoorW.PrintLast

/-- All blocks of w but those of F are in w' as they were. -/
structure Keep (F : Nat → Prop) (w w' : World) : Prop where
  os : w'.os = w.os
  tape : w'.tape = w.tape
  output : w'.output = w.output
  size : w.heap.size ≤ w'.heap.size
  block : ∀ k, k < w.heap.size → ¬ F k → w'.heap[k]? = w.heap[k]?
section
variable {F G : Nat → Prop} {a b c w w' : World}
theorem Keep.refl (F : Nat → Prop) (w : World) : Keep F w w := ⟨rfl, rfl, rfl, Nat.le_refl _, fun _ _ _ => rfl⟩
theorem Keep.trans (h : Keep F a b) (k : Keep G b c) (hF : ∀ i, i < a.heap.size → G i → F i) : Keep F a c :=
  ⟨k.os.trans h.os, k.tape.trans h.tape, k.output.trans h.output, Nat.le_trans h.size k.size, fun i hi hn => (k.block i (Nat.lt_of_lt_of_le hi h.size) (fun hg => hn (hF i hi hg))).trans (h.block i hi hn)⟩
theorem Keep.mono (h : Keep G a b) (hF : ∀ i, i < a.heap.size → G i → F i) : Keep F a b := (Keep.refl F a).trans h hF
theorem Keep.of_below (h : Below a.heap.size a b) : Keep F a b := ⟨h.os, h.tape, h.output, h.size, fun i hi _ => h.block i hi⟩
theorem Keep.step (h : Keep F a b) (k : Below b.heap.size b c) : Keep F a c := h.trans (Keep.of_below (F := F) k) fun _ _ => id
theorem Keep.set (h : Keep F a w) {g : Nat} (hg : F g) (i : Nat) (v : Value) : Keep F a (w.setCell ⟨g, i, none⟩ v) :=
  ⟨h.os, h.tape, h.output, Nat.le_trans h.size (by simp [World.setCell]), fun k hk hn => (Below.heap_setCell w ⟨g, i, none⟩ v k (fun e => hn (e ▸ hg))).trans (h.block k hk hn)⟩
theorem Keep.alloc (h : Keep F a w) (o : Obj) : Keep F a (w.alloc o) := h.step (below_alloc (Below.refl _ _) o)
theorem Keep.drew (h : Keep F a w) : Keep F a w.drew := h.step (below_drew (Below.refl _ _))
theorem Keep.drewN (h : Keep F a w) (n : Nat) : Keep F a (w.drewN n) := h.step (pw_below_drewN (Below.refl _ _) n)
theorem Keep.grown {row : Option Nat} (h : Keep F a w) (hg : w.grownBy w' row) (hr : ∀ k, row = some k → k < a.heap.size → F k) : Keep F a w' :=
  h.trans (G := fun k => row = some k) ⟨hg.os, hg.tape, hg.output, hg.size, fun k hk hn => hg.block k hk (fun e => hn e.symm)⟩ fun k hk e => hr k e hk
theorem Keep.below {B : Nat} (h : Keep F a b) (hF : ∀ k, F k → B ≤ k) (hB : B ≤ a.heap.size) : Below B a b :=
  ⟨h.os, h.tape, h.output, h.size, fun k hk => h.block k (by omega) (fun hf => by have := hF k hf; omega)⟩
theorem Keep.blk {g : Nat} {o : Obj} (h : Keep F a b) (hg : a.heap[g]? = some o) (hn : ¬ F g) : b.heap[g]? = some o := (h.block g (blk_lt hg) hn).trans hg
end
end Go.Proofs.YtpihpkphhkcdlaaGreatDoor.Kp
namespace Go.Proofs.YtpihpkphhkcdlaaGreatDoor.Pd
open Go.RowKit Go.Proofs.YtpihpkphhkcdlaaGreatDoor.Rdn Go.Proofs.YtpihpkphhkcdlaaGreatDoor.Crc
structure Rec where
  name : ByteArray
  inc : Int
  rate : Int
  over : Bool
structure Frm where
  seq : Nat
  win : Int
  recs : List Rec
/-- What a reader holds: the bytes that are left, and what was wrong first (0: nothing). -/
abbrev S := List UInt8 × Int
def ck (c e : Int) : Int := if c ≠ 0 then c else if e = 11 then 11 else if e ≠ 0 then 2 else 0
def tk (s : S) (n : Nat) (e : Int) : S := (if s.2 = 0 ∧ e = 0 then s.1.drop n else s.1, ck s.2 e)
def zig (n : Nat) : Int := if n % 2 = 0 then ((n / 2 : Nat) : Int) else -((n / 2 : Nat) : Int) - 1
def numP (s : S) : Nat × S :=
  let s' := tk s (rd 0 0 s.1).2.1 (rd 0 0 s.1).2.2
  (if s'.2 = 0 then (rd 0 0 s.1).1 else 0, s')
def sgP (s : S) : Int × S :=
  let s' := tk s (rd 0 0 s.1).2.1 (rd 0 0 s.1).2.2
  (if s'.2 = 0 then zig (rd 0 0 s.1).1 else 0, s')
/-- pack.Text of such bytes: the text, where it ends, the error. -/
def txt (b : List UInt8) : ByteArray × Nat × Int :=
  let r := rd 0 0 b
  if r.2.2 ≠ 0 then (⟨#[]⟩, 0, r.2.2) else if 65536 < r.1 then (⟨#[]⟩, 0, 4) else if b.length - r.2.1 < r.1 then (⟨#[]⟩, 0, 11) else (⟨((b.drop r.2.1).take r.1).toArray⟩, r.2.1 + r.1, 0)
def txP (s : S) : ByteArray × S :=
  let s' := tk s (txt s.1).2.1 (txt s.1).2.2
  (if s'.2 = 0 then (txt s.1).1 else ⟨#[]⟩, s')
def flP (s : S) : Bool × S :=
  match s.1 with
  | [] => (false, tk s 0 11)
  | x :: _ =>
    let s' := tk s 1 (if 1 < x.toNat then 2 else 0)
    (decide (s'.2 = 0) && decide (x.toNat = 1), s')
def recP (s : S) : Rec × S :=
  let a := txP s
  let b := numP a.2
  let c := numP b.2
  let d := flP c.2
  (⟨a.1, wrap64 b.1, wrap64 c.1, d.1⟩, d.2)
def recsP : Nat → S → List Rec × S
  | 0, s => ([], s)
  | k + 1, s => if s.2 ≠ 0 then ([], s) else
    let a := recP s
    let b := recsP k a.2
    (a.1 :: b.1, b.2)
def frmP (b : List UInt8) : Frm × Int :=
  let n := numP (b, 0)
  let w := sgP n.2
  let m := numP w.2
  let r := recsP m.1 m.2
  (⟨n.1, w.1, r.1⟩, if r.2.2 = 0 ∧ 0 < r.2.1.length then 11 else r.2.2)
def mayR (win : Int) : Option ByteArray → List Rec → Bool
  | _, [] => true
  | p, r :: t => (match p with | none => true | some q => Go.Op.bytesLess q.toList r.name.toList) && decide (r.name.size ≤ 65536) && decide (0 ≤ r.inc) && decide (0 ≤ r.rate) && !(decide (r.inc = 0) && !r.over) && mayR win (some r.name) t
def mayP (f : Frm) : Bool := decide (1 ≤ f.seq) && decide (1 ≤ f.recs.length) && decide (f.recs.length ≤ 4096) && mayR f.win none f.recs
def be4 (c : Nat) : List UInt8 := [UInt8.ofNat (c / 16777216 % 256), UInt8.ofNat (c / 65536 % 256), UInt8.ofNat (c / 256 % 256), UInt8.ofNat (c % 256)]
def decP (b : List UInt8) : Frm × Int :=
  if b.take 4 ≠ [79, 68, 79, 1] then (⟨0, 0, []⟩, 25) else if b.length < 8 then (⟨0, 0, []⟩, 11) else if b.drop (b.length - 4) ≠ be4 (crc (b.take (b.length - 4))) then (⟨0, 0, []⟩, 24) else
    let f := frmP ((b.take (b.length - 4)).drop 4)
    if f.2 = 11 then (⟨0, 0, []⟩, 11) else if f.2 ≠ 0 ∨ mayP f.1 = false then (⟨0, 0, []⟩, 2) else (f.1, 0)
end Go.Proofs.YtpihpkphhkcdlaaGreatDoor.Pd
namespace Go.Proofs.YtpihpkphhkcdlaaGreatDoor.Sa
open Go.RowKit Go.Extern.Stop Go.Stop Go.Extern Go.Proofs.YtpihpkphhkcdlaaGreatDoorW.PrintWords
set_option linter.unusedVariables false
set_option linter.unusedSimpArgs false
/-- errors.As(nil, target). -/
theorem as_nil (t : Value) (w : World) :
    Calls Tryz.prog 129 #[.nilIface, t] w fun e w' => e = .returned (.bool false) ∧ w' = w := by
  go_enter Tryz.func129, Tryz.ntmps129
  go_wp2
  go_ret
  exact ⟨rfl, rfl⟩

/-! ### CLOSED FACTS ON THE MODEL's ENTRIES FOR internal/reflectlite, at this program's types: 25: *p.E · 27: **p.E · 23: error · 45: reflectlite's rtype · 1: how many package-level variables the dump has -/
theorem valueOf27 (t : Addr) (w : World) : (ReflectliteValue.unpack (.iface 198 (.pointer (some t)))).run Tryz.prog w
    = .ok (.agg #[.pointer (some ⟨1, 198, none⟩), .pointer (some ⟨w.heap.size, 0, none⟩), .int .u64 150]) (w.alloc (.cells #[.pointer (some t)] 198)) := by kernel_rfl
theorem type27 (a : Addr) (w : World) : (ReflectliteValue.methodAny (ReflectliteValue.valueError "reflectlite.Value.Type" 0) (fun t _ _ _ => ReflectliteType.toType t) #[.agg #[.pointer (some ⟨1, 198, none⟩), .pointer (some a), .int .u64 150]]).run Tryz.prog w
    = .ok (.iface 174 (.agg #[.pointer (some ⟨1, 198, none⟩)])) w := by kernel_rfl
theorem methodKind (h : Value) (w : World) : (Go.method 346 174 (.agg #[h]) "Kind").run Tryz.prog w = .ok (153, h) w := by kernel_rfl
theorem kind27 (w : World) : ((ReflectliteType.abiMethod fun t => (fun a : Nat => Value.int IntKind.u8 (a : Int)) <$> Rtype.kind t) #[.pointer (some ⟨1, 198, none⟩)]).run Tryz.prog w = .ok (.int .u8 22) w := by kernel_rfl
theorem kind25 (w : World) : ((ReflectliteType.abiMethod fun t => (fun a : Nat => Value.int IntKind.u8 (a : Int)) <$> Rtype.kind t) #[.pointer (some ⟨1, 196, none⟩)]).run Tryz.prog w = .ok (.int .u8 25) w := by kernel_rfl

/-! ### THE ENTRIES THAT READ OR WRITE MEMORY: laws with a premise on the cell (after Derived/Lib/ReflectliteSlice.lean's manner: each unfolding a lemma of its own, by rfl) -/
theorem rlm (z : Sem Value) (f : TypeId → Addr → Nat → Nat → Sem Value) (v : Value) :
    ReflectliteValue.method z f #[v] = (do match ← ReflectliteValue.parts v with | none => z | some (t, a, fl) => f t a fl (fl % 32)) := rfl
theorem parts27 (a : Addr) (w : World) : (ReflectliteValue.parts (.agg #[.pointer (some ⟨1, 198, none⟩), .pointer (some a), .int .u64 150])).run Tryz.prog w = .ok (some (198, a, 150)) w := by kernel_rfl
/-- (Value).IsNil at the Value of a **p.E that is not nil. -/
theorem isNil27 (a p : Addr) (W : World) (ha : W.cell? a = some (.pointer (some p))) :
    (ReflectliteValue.method (ReflectliteValue.valueError "reflectlite.Value.IsNil" 0) ReflectliteValue.isNil #[.agg #[.pointer (some ⟨1, 198, none⟩), .pointer (some a), .int .u64 150]]).run Tryz.prog W = .ok (.bool false) W := by
  rw [rlm]
  simp only [Sem.run_bind, parts27, Result.andThen]
  simp [ReflectliteValue.isNil, loadVar, isAgg, underlying, Tryz.underlying198, ha, Result.andThen]

theorem methodElem (h : Value) (w : World) : (Go.method 346 174 (.agg #[h]) "Elem").run Tryz.prog w = .ok (163, .agg #[h]) w := by kernel_rfl
theorem methodImplements (h : Value) (w : World) : (Go.method 346 174 (.agg #[h]) "Implements").run Tryz.prog w = .ok (164, .agg #[h]) w := by kernel_rfl
theorem methodAssignableTo (h : Value) (w : World) : (Go.method 346 174 (.agg #[h]) "AssignableTo").run Tryz.prog w = .ok (161, .agg #[h]) w := by kernel_rfl
theorem elem27 (w : World) : (ReflectliteType.method ReflectliteType.elem #[.agg #[.pointer (some ⟨1, 198, none⟩)]]).run Tryz.prog w = .ok (.iface 174 (.agg #[.pointer (some ⟨1, 196, none⟩)])) w := by kernel_rfl
theorem implements25 (w : World) : (ReflectliteType.relation "Implements" ReflectliteType.implements_ #[.agg #[.pointer (some ⟨1, 196, none⟩)], .iface 174 (.agg #[.pointer (some ⟨1, 116, none⟩)])]).run Tryz.prog w = .ok (.bool true) w := by kernel_rfl
theorem typeOf25 (v : Value) (w : World) : (ReflectliteType.typeOf #[.iface 196 v]).run Tryz.prog w = .ok (.iface 174 (.agg #[.pointer (some ⟨1, 196, none⟩)])) w := by kernel_rfl
theorem assignable25 (w : World) : (ReflectliteType.relation "AssignableTo" ReflectliteType.assignableTo #[.agg #[.pointer (some ⟨1, 196, none⟩)], .iface 174 (.agg #[.pointer (some ⟨1, 196, none⟩)])]).run Tryz.prog w = .ok (.bool true) w := by kernel_rfl
theorem valueOf25 (e : Int) (w : World) : (ReflectliteValue.unpack (.iface 196 (.agg #[.int .i64 e]))).run Tryz.prog w
    = .ok (.agg #[.pointer (some ⟨1, 196, none⟩), .pointer (some ⟨w.heap.size, 0, none⟩), .int .u64 153]) (w.alloc (.cells #[.int .i64 e] 196)) := by kernel_rfl

theorem elemOf27 (w : World) : (Rtype.elem? 198).run Tryz.prog w = .ok (some 196) w := by kernel_rfl
theorem mk25 (p : Addr) (w : World) : (ReflectliteValue.mk 196 p ReflectliteValue.flagAddr).run Tryz.prog w = .ok (.agg #[.pointer (some ⟨1, 196, none⟩), .pointer (some p), .int .u64 409]) w := by kernel_rfl
/-- (Value).Elem at the Value of a **p.E that is not nil: the Value of the *p.E variable that it points to, addressable. -/
theorem elemV27 (a p : Addr) (W : World) (ha : W.cell? a = some (.pointer (some p))) :
    (ReflectliteValue.method (ReflectliteValue.valueError "reflectlite.Value.Elem" 0) ReflectliteValue.elem #[.agg #[.pointer (some ⟨1, 198, none⟩), .pointer (some a), .int .u64 150]]).run Tryz.prog W
      = .ok (.agg #[.pointer (some ⟨1, 196, none⟩), .pointer (some p), .int .u64 409]) W := by
  rw [rlm]
  simp only [Sem.run_bind, parts27, Result.andThen]
  simp [ReflectliteValue.elem, loadVar, isAgg, underlying, Tryz.underlying198, ha, Result.andThen, elemOf27, mk25]
theorem rls (v x : Value) : ReflectliteValue.set #[v, x] = (do
    let (some (dst, a, fl), some (src, b, _)) := (← ReflectliteValue.parts v, ← ReflectliteValue.parts x)
      | unsupported (.noEntry "extern/(internal/reflectlite.Value).Set.zeroValue")
    if fl / ReflectliteValue.flagAddr % 2 == 0 then unsupported (.noEntry "extern/(internal/reflectlite.Value).Set.unaddressable")
    let val ← loadVar src b
    if ← Rtype.directlyAssignable dst src then storeVar dst a val
    else if ← Rtype.implements dst src then
      if (← Rtype.kind src) == 20 then
        match val with
        | .nilIface => unsupported (.noEntry "extern/reflectlite: a nil value of one interface type handed on as a value of another")
        | _ => storeVar dst a val
      else storeVar dst a (.iface src val)
    else panicString ("reflectlite.Set: value of type " ++ (← Rtype.spelt src) ++ " is not assignable to type " ++ (← Rtype.spelt dst))
    pure (.tuple #[])) := rfl
theorem parts25a (a : Addr) (w : World) : (ReflectliteValue.parts (.agg #[.pointer (some ⟨1, 196, none⟩), .pointer (some a), .int .u64 409])).run Tryz.prog w = .ok (some (196, a, 409)) w := by kernel_rfl
theorem parts25 (a : Addr) (w : World) : (ReflectliteValue.parts (.agg #[.pointer (some ⟨1, 196, none⟩), .pointer (some a), .int .u64 153])).run Tryz.prog w = .ok (some (196, a, 153)) w := by kernel_rfl
theorem direct25 (w : World) : (Rtype.directlyAssignable 196 196).run Tryz.prog w = .ok true w := by kernel_rfl
theorem size25 (w : World) : (sizeOf 196).run Tryz.prog w = .ok 1 w := by kernel_rfl
/-- (Value).Set: the variable at 'ta' gets what the Value's own variable 'b' holds. -/
theorem load1 (b : Addr) (e : Int) (W : World) (hb : W.cell? b = some (.int .i64 e)) : (loadVar 196 b).run Tryz.prog W = .ok (.agg #[.int .i64 e]) W := by
  have h1 : (loadCells b 1).run Tryz.prog W = .ok #[.int .i64 e] W := by
    have := run_loadCells_list (P := Tryz.prog) (w := W) b [.int .i64 e] (fun j v hj => by
      cases j with
      | zero => simp at hj; subst hj; rw [show b.add 0 = b by unfold Addr.add; split <;> simp_all]; exact hb
      | succ j => simp at hj)
    exact this
  simp [loadVar, isAgg, underlying, Tryz.underlying196, size25, h1, Result.andThen]
theorem store1 (ta : Addr) (e : Int) (old : Value) (W : World) (ht : W.cell? ta = some old) (hf : W.frozen? ta = false) : (storeVar 196 ta (.agg #[.int .i64 e])).run Tryz.prog W = .ok () (W.setCell ta (.int .i64 e)) := by
  have e0 : ta.add 0 = ta := by unfold Addr.add; split <;> simp_all
  simp [storeVar, Value.cells, storeCells, size25, Result.andThen]
  rw [e0]
  rw [run_store Tryz.prog W ta _ _ (by rfl)]
  simp [ht, hf]
theorem set25 (ta b : Addr) (e : Int) (old : Value) (W : World) (hb : W.cell? b = some (.int .i64 e)) (ht : W.cell? ta = some old) (hf : W.frozen? ta = false) :
    (ReflectliteValue.set #[.agg #[.pointer (some ⟨1, 196, none⟩), .pointer (some ta), .int .u64 409], .agg #[.pointer (some ⟨1, 196, none⟩), .pointer (some b), .int .u64 153]]).run Tryz.prog W
      = .ok (.tuple #[]) (W.setCell ta (.int .i64 e)) := by
  rw [rls]
  simp only [Sem.run_bind, parts25a, parts25, Result.andThen]
  simp [ReflectliteValue.flagAddr, load1 b e W hb, direct25, store1 ta e old W ht hf, Result.andThen]

set_option maxHeartbeats 4000000 in
set_option maxRecDepth 100000 in
theorem as_hit (e : Int) (t : Addr) (old : Value) (w : World) (hg : w.cell? ⟨0, 0, none⟩ = some (.iface 174 (.agg #[.pointer (some ⟨1, 116, none⟩)]))) (ht0 : w.cell? t = some old) (hf0 : w.frozen? t = false) :
    Calls Tryz.prog 129 #[.iface 196 (.agg #[.int .i64 e]), .iface 198 (.pointer (some t))] w fun ev w' => ev = .returned (.bool true) ∧ w' = ((((w.alloc (.cells #[.pointer (some t)] 198)).alloc (.cells #[.pointer (some ⟨1, 198, none⟩), .pointer (some ⟨w.heap.size, 0, none⟩), .int .u64 150] 207)).alloc (.cells #[.pointer (some ⟨1, 198, none⟩), .pointer (some ⟨w.heap.size, 0, none⟩), .int .u64 150] 207)).alloc (.cells #[.int .i64 e] 196)).setCell t (.int .i64 e) := by
  have h6 := @run_callFunc_extern Tryz.prog 133 _ (fun args => ReflectliteValue.unpack (args.getD 0 (.tuple #[]))) Tryz.func133 (by kernel_rfl) (by kernel_rfl) (by kernel_rfl) (by kernel_rfl)
  have h7 := @run_callFunc_extern Tryz.prog 134 _ (ReflectliteValue.methodAny (ReflectliteValue.valueError "reflectlite.Value.Type" 0) (fun t _ _ _ => ReflectliteType.toType t)) Tryz.func134 (by kernel_rfl) (by kernel_rfl) (by kernel_rfl) (by kernel_rfl)
  have h8 := @run_callFunc_extern Tryz.prog 135 _ (ReflectliteValue.method (ReflectliteValue.valueError "reflectlite.Value.IsNil" 0) ReflectliteValue.isNil) Tryz.func135 (by kernel_rfl) (by kernel_rfl) (by kernel_rfl) (by kernel_rfl)
  have h27 := @run_callFunc_extern Tryz.prog 153 _ (ReflectliteType.abiMethod fun t => do pure (.int .u8 (← Rtype.kind t))) Tryz.func153 (by kernel_rfl) (by kernel_rfl) (by kernel_rfl) (by kernel_rfl)
  have h37 := @run_callFunc_extern Tryz.prog 163 _ (ReflectliteType.method ReflectliteType.elem) Tryz.func163 (by kernel_rfl) (by kernel_rfl) (by kernel_rfl) (by kernel_rfl)
  have h38 := @run_callFunc_extern Tryz.prog 164 _ (ReflectliteType.relation "Implements" ReflectliteType.implements_) Tryz.func164 (by kernel_rfl) (by kernel_rfl) (by kernel_rfl) (by kernel_rfl)
  have h10 := @run_callFunc_extern Tryz.prog 78 _ ReflectliteType.typeOf Tryz.func78 (by kernel_rfl) (by kernel_rfl) (by kernel_rfl) (by kernel_rfl)
  have h35 := @run_callFunc_extern Tryz.prog 161 _ (ReflectliteType.relation "AssignableTo" ReflectliteType.assignableTo) Tryz.func161 (by kernel_rfl) (by kernel_rfl) (by kernel_rfl) (by kernel_rfl)
  have h11 := @run_callFunc_extern Tryz.prog 137 _ (ReflectliteValue.method (ReflectliteValue.valueError "reflectlite.Value.Elem" 0) ReflectliteValue.elem) Tryz.func137 (by kernel_rfl) (by kernel_rfl) (by kernel_rfl) (by kernel_rfl)
  have h12 := @run_callFunc_extern Tryz.prog 138 _ ReflectliteValue.set Tryz.func138 (by kernel_rfl) (by kernel_rfl) (by kernel_rfl) (by kernel_rfl)
  have tO := typeOf25
  have mA := methodAssignableTo
  have a25 := assignable25
  have v25 := valueOf25
  have f6 := valueOf27
  have f7 := type27
  have mK := methodKind
  have mE := methodElem
  have mI := methodImplements
  have k27 := kind27
  have k25 := kind25
  have e27 := elem27
  have i25 := implements25
  have n8 := isNil27 ⟨w.heap.size, 0, none⟩ t ((w.alloc (.cells #[.pointer (some t)] 198)).alloc (.cells #[.pointer (some ⟨1, 198, none⟩), .pointer (some ⟨w.heap.size, 0, none⟩), .int .u64 150] 207)) (by simp)
  have hlt : 0 < w.heap.size := by
    rcases Nat.eq_zero_or_pos w.heap.size with h0 | h
    · simp [World.cell?, h0] at hg
    · exact h
  have hg2 : ((w.alloc (.cells #[.pointer (some t)] 198)).alloc (.cells #[.pointer (some ⟨1, 198, none⟩), .pointer (some ⟨w.heap.size, 0, none⟩), .int .u64 150] 207)).cell? ⟨0, 0, none⟩ = some (.iface 174 (.agg #[.pointer (some ⟨1, 116, none⟩)])) := by
    rw [World.cell?_alloc_lt _ _ ⟨0, 0, none⟩ (by simp), World.cell?_alloc_lt _ _ ⟨0, 0, none⟩ hlt]; exact hg
  have htl : t.block < w.heap.size := by
    rcases Nat.lt_or_ge t.block w.heap.size with h | h
    · exact h
    · simp [World.cell?, Array.getElem?_eq_none h] at ht0
  have el := elemV27 ⟨w.heap.size, 0, none⟩ t (((w.alloc (.cells #[.pointer (some t)] 198)).alloc (.cells #[.pointer (some ⟨1, 198, none⟩), .pointer (some ⟨w.heap.size, 0, none⟩), .int .u64 150] 207)).alloc (.cells #[.pointer (some ⟨1, 198, none⟩), .pointer (some ⟨w.heap.size, 0, none⟩), .int .u64 150] 207)) (by rw [World.cell?_alloc_lt _ _ ⟨w.heap.size, 0, none⟩ (by simp; omega)]; simp)
  have st := set25 t ⟨w.heap.size + 1 + 1 + 1, 0, none⟩ e old ((((w.alloc (.cells #[.pointer (some t)] 198)).alloc (.cells #[.pointer (some ⟨1, 198, none⟩), .pointer (some ⟨w.heap.size, 0, none⟩), .int .u64 150] 207)).alloc (.cells #[.pointer (some ⟨1, 198, none⟩), .pointer (some ⟨w.heap.size, 0, none⟩), .int .u64 150] 207)).alloc (.cells #[.int .i64 e] 196))
    (by rw [World.cell?_alloc_at _ _ _ _ (by simp)]; rfl)
    (by rw [World.cell?_alloc_lt _ _ t (by simp; omega), World.cell?_alloc_lt _ _ t (by simp; omega), World.cell?_alloc_lt _ _ t (by simp; omega), World.cell?_alloc_lt _ _ t htl]; exact ht0)
    (by rw [World.frozen?_alloc_old _ _ t (by simp; omega), World.frozen?_alloc_old _ _ t (by simp; omega), World.frozen?_alloc_old _ _ t (by simp; omega), World.frozen?_alloc_old _ _ t (Nat.ne_of_lt htl)]; exact hf0)
  go_enter Tryz.func129, Tryz.ntmps129
  go_wp2
  refine wp_loop_rounds 1 ?_
  rw [rounds_succ]
  go_wp2
  go_ret
  exact ⟨rfl, rfl⟩
end Go.Proofs.YtpihpkphhkcdlaaGreatDoor.Sa
namespace Go.Proofs.YtpihpkphhkcdlaaGreatDoor.Pk
open Go.RowKit Go.Proofs.YtpihpkphhkcdlaaGreatDoorW.PrintWords Go.Proofs.YtpihpkphhkcdlaaGreatDoorW.PrintLast Go.Proofs.YtpihpkphhkcdlaaGreatDoor.Tab Go.Proofs.YtpihpkphhkcdlaaGreatDoor.Rdn Go.Proofs.YtpihpkphhkcdlaaGreatDoor.Kp Go.Proofs.YtpihpkphhkcdlaaGreatDoor.Pd
set_option linter.unusedVariables false
set_option linter.unusedSimpArgs false
/-- errors.errorType, as the program's start has laid it. -/
def Glob (w : World) : Prop := w.cell? ⟨0, 0, none⟩ = some (.iface 174 (.agg #[.pointer (some ⟨1, 116, none⟩)]))
theorem Glob.below {w W : World} (h : Glob w) (hb : Below w.heap.size w W) : Glob W := pw_cell_below hb h
theorem Glob.lt {w : World} (h : Glob w) : 0 < w.heap.size := by
  rcases Nat.lt_or_ge 0 w.heap.size with h1 | h1
  · exact h1
  · unfold Glob at h
    simp [World.cell?, Array.getElem?_eq_none h1] at h
theorem Glob.keep {F : Nat → Prop} {w W : World} (h : Glob w) (k : Keep F w W) (hF : ¬ F 0) : Glob W := by
  have hl := h.lt
  unfold Glob World.cell? at *
  rw [k.block _ hl hF]
  exact h
theorem rd_err (i n : Nat) (bs : List UInt8) : (Rdn.rd i n bs).2.2 = 0 ∨ Rdn.rd i n bs = (0, 0, 4) ∨ Rdn.rd i n bs = (0, 0, 11) := by
  induction bs generalizing i n with
  | nil => exact .inr (.inr rfl)
  | cons x t ih =>
    unfold Rdn.rd
    split
    · exact .inr (.inl rfl)
    · split
      · exact .inr (.inl rfl)
      · split
        · exact .inl rfl
        · exact ih _ _
theorem rd_ok (i n : Nat) (bs : List UInt8) (hi : i ≤ 9) (hn : n < 18446744073709551616) : (Rdn.rd i n bs).1 < 18446744073709551616 ∧ (Rdn.rd i n bs).2.1 ≤ i + bs.length ∧ (Rdn.rd i n bs).2.1 ≤ 10 ∧ ((Rdn.rd i n bs).2.2 = 0 → 1 ≤ (Rdn.rd i n bs).2.1) := by
  induction bs generalizing i n with
  | nil => exact ⟨show (0 : Nat) < _ by decide, Nat.zero_le _, Nat.zero_le _, fun h => by cases h⟩
  | cons x t ih =>
    have hx := x.toNat_lt
    unfold Rdn.rd
    split
    · exact ⟨by decide, Nat.zero_le _, Nat.zero_le _, fun h => by cases h⟩
    · rename_i h9
      split
      · exact ⟨by decide, Nat.zero_le _, Nat.zero_le _, fun h => by cases h⟩
      · split
        · refine ⟨(num_step n x.toNat i hn (by omega) (by omega)).2, by simp, by show i + 1 ≤ 10; omega, fun _ => by show 1 ≤ i + 1; omega⟩
        · have := ih (i + 1) _ (by omega) (num_step n x.toNat i hn (by omega) (by omega)).2
          exact ⟨this.1, by have := this.2.1; simp; omega, this.2.2⟩
theorem as_below (c : Int) (b : Nat) (v0 : Value) (t0 : TypeId) (w : World) (hG : Glob w) (hb : w.heap[b]? = some (.cells #[v0] t0 (0, 0))) :
    Calls Tryz.prog 129 #[.iface 196 (.agg #[.int .i64 c]), .iface 198 (.pointer (some ⟨b, 0, none⟩))] w fun ev w' => ev = .returned (.bool true) ∧ Below b w w' ∧ w'.heap[b]? = some (.cells #[.int .i64 c] t0 (0, 0)) := by
  refine (Sa.as_hit c ⟨b, 0, none⟩ v0 w hG ((blk_cell hb 0).trans rfl) (blk_frozen hb 0)).mono fun ev w' ⟨h1, h2⟩ => ⟨h1, ?_⟩
  have hlt := blk_lt hb
  rw [h2]
  refine ⟨?_, ?_⟩
  · refine Below.setCell ?_ (p := ⟨b, 0, none⟩) (Nat.le_refl b) _
    exact (below_alloc (Below.refl _ _) _).trans ((below_alloc (Below.refl _ _) _).mono (by first | (simp; done) | (simp; omega))) |>.trans ((below_alloc (Below.refl _ _) _).mono (by first | (simp; done) | (simp; omega))) |>.trans ((below_alloc (Below.refl _ _) _).mono (by first | (simp; done) | (simp; omega))) |>.mono (Nat.le_of_lt hlt)
  · refine blk_put (cs := #[v0]) ?_ 0 _ rfl
    refine ((below_alloc (Below.refl _ _) _).trans ((below_alloc (Below.refl _ _) _).mono (by first | (simp; done) | (simp; omega))) |>.trans ((below_alloc (Below.refl _ _) _).mono (by first | (simp; done) | (simp; omega))) |>.trans ((below_alloc (Below.refl _ _) _).mono (by first | (simp; done) | (simp; omega))) |>.block b hlt).trans hb
/-- What a text's number tells, in bounds. -/
theorem rd_bd (bs : List UInt8) : (Rdn.rd 0 0 bs).1 < 18446744073709551616 ∧ (Rdn.rd 0 0 bs).2.1 ≤ bs.length ∧ (Rdn.rd 0 0 bs).2.1 ≤ 10 ∧ ((Rdn.rd 0 0 bs).2.2 = 0 → 1 ≤ (Rdn.rd 0 0 bs).2.1) := by
  have := rd_ok 0 0 bs (by omega) (by decide)
  exact ⟨this.1, by have := this.2.1; omega, this.2.2⟩
set_option maxHeartbeats 4000000 in
set_option maxRecDepth 1000000 in
theorem uv_calls (A : Option Addr) (cp : Nat) (bs : List UInt8) (w : World) (hG : Glob w) (hr : ReadsInt w .u8 A bs.length (nb bs)) : Calls Tryz.prog 110 #[.slice A bs.length cp] w fun e w' => e = .returned (.tuple #[.int .u64 ((Rdn.rd 0 0 bs).1 : Nat), .int .i64 ((Rdn.rd 0 0 bs).2.1 : Nat), .int .i64 (Rdn.rd 0 0 bs).2.2]) ∧ Below w.heap.size w w' := by
  have HE := Aside0.mk (rd_err 0 0 bs)
  have HRC := Aside0.mk (read_calls A cp bs w hr)
  have HG := Aside0.mk hG
  clear hr hG
  obtain ⟨R, hR⟩ : ∃ R, R = Rdn.rd 0 0 bs := ⟨_, rfl⟩
  rw [← hR] at HE HRC ⊢
  clear hR
  obtain ⟨n, s, c⟩ := R
  by_cases hc : c = 0
  · subst hc
    go_enter Tryz.func110, Tryz.ntmps110
    go_wp2_with (first | (go_at_call 128; (with_reducible refine HRC.out.mono ?_); rintro e w1 ⟨rfl, hb⟩; have HB1 := Aside0.mk hb; clear hb; simp only [errV, if_true]) | (go_at_call 129; (with_reducible refine (Sa.as_nil _ _).mono ?_); rintro e w2 ⟨rfl, rfl⟩))
    refine bodyPost_ret (results_tmp3 rfl _ _ _) rfl ?_
    exact ⟨rfl, below_alloc HB1.out _⟩
  · have hh : n = 0 ∧ s = 0 := by
      rcases HE.out with h | h | h
      · exact absurd h hc
      · cases h; exact ⟨rfl, rfl⟩
      · cases h; exact ⟨rfl, rfl⟩
    obtain ⟨rfl, rfl⟩ := hh
    go_enter Tryz.func110, Tryz.ntmps110
    go_wp2_with (first | (go_at_call 128; (with_reducible refine HRC.out.mono ?_); rintro e w1 ⟨rfl, hb⟩; have HB1 := Aside0.mk hb; clear hb; simp only [errV, if_neg hc]) | (go_at_call 129; (with_reducible refine (as_below c w1.heap.size (.int .i64 0) 196 _ ((HG.out.below HB1.out).below (below_alloc (Below.refl _ _) _)) (blk_new w1 _)).mono ?_); rintro e w2 ⟨rfl, hb, h2⟩; have HB2 := Aside0.mk hb; have h2f := blk_frozen h2 0; have h2c := (blk_cell h2 0).trans rfl; clear hb h2))
    go_region
    all_goals go_wp2
    refine bodyPost_ret (results_tmp3 rfl _ _ _) rfl ?_
    exact ⟨rfl, below_drew (HB1.out.trans ((below_alloc (Below.refl _ _) _).mono HB1.out.size) |>.trans (HB2.out.mono HB1.out.size))⟩
theorem zig_step (n : Nat) (hn : n < 18446744073709551616) : bits .xor .i64 (wrap64 ((n : Int) / 2)) (wrap64 (-wrap64 (bits .and .u64 (n : Int) 1))) = zig n := by
  have e1 : bits .and .u64 (n : Int) 1 = ((n % 2 : Nat) : Int) := by
    have := u64_and_nat n 1 hn (by decide)
    rw [Nat.and_one_is_mod] at this
    exact this
  obtain ⟨m, hm⟩ : ∃ m, m = n / 2 := ⟨_, rfl⟩
  have hm2 : m < 9223372036854775808 := by omega
  have e2 : wrap64 ((n : Int) / 2) = (m : Int) := by unfold wrap64; omega
  have h1 : (BitVec.ofInt 64 (m : Int)).toNat = m := by
    rw [BitVec.ofInt_natCast, BitVec.toNat_ofNat]; exact Nat.mod_eq_of_lt (by omega)
  rw [e1, e2]
  unfold zig
  rw [← hm]
  by_cases h : n % 2 = 0
  · rw [if_pos h, h]
    show IntKind.i64.wrap ((BitVec.ofInt 64 (m : Int) ^^^ BitVec.ofInt 64 (wrap64 (-wrap64 ((0 : Nat) : Int)))).toNat : Int) = _
    rw [show BitVec.ofInt 64 (wrap64 (-wrap64 ((0 : Nat) : Int))) = 0#64 by decide +kernel, BitVec.xor_zero, h1]
    unfold IntKind.wrap
    simp [IntKind.bits, IntKind.signed]
    omega
  · have h' : n % 2 = 1 := by omega
    rw [if_neg h, h']
    show IntKind.i64.wrap ((BitVec.ofInt 64 (m : Int) ^^^ BitVec.ofInt 64 (wrap64 (-wrap64 ((1 : Nat) : Int)))).toNat : Int) = _
    rw [show BitVec.ofInt 64 (wrap64 (-wrap64 ((1 : Nat) : Int))) = BitVec.allOnes 64 by decide +kernel, BitVec.xor_allOnes, BitVec.toNat_not, h1]
    unfold IntKind.wrap
    simp [IntKind.bits, IntKind.signed]
    omega
set_option maxHeartbeats 4000000 in
set_option maxRecDepth 1000000 in
theorem vi_calls (A : Option Addr) (cp : Nat) (bs : List UInt8) (w : World) (hG : Glob w) (hr : ReadsInt w .u8 A bs.length (nb bs)) : Calls Tryz.prog 112 #[.slice A bs.length cp] w fun e w' => e = .returned (.tuple #[.int .i64 (zig (Rdn.rd 0 0 bs).1), .int .i64 ((Rdn.rd 0 0 bs).2.1 : Nat), .int .i64 (Rdn.rd 0 0 bs).2.2]) ∧ Below w.heap.size w w' := by
  have HU := Aside0.mk (uv_calls A cp bs w hG hr)
  have hb := (rd_bd bs).1
  clear hr hG
  obtain ⟨R, hR⟩ : ∃ R, R = Rdn.rd 0 0 bs := ⟨_, rfl⟩
  rw [← hR] at hb HU ⊢
  clear hR
  obtain ⟨n, s, c⟩ := R
  have HN := Aside0.mk (show n < 18446744073709551616 from hb)
  clear hb
  go_enter Tryz.func112, Tryz.ntmps112
  go_wp2_with (first | (go_at_call 110; (with_reducible refine HU.out.mono ?_); rintro e w1 ⟨rfl, hb⟩; have HB1 := Aside0.mk hb; clear hb))
  refine bodyPost_ret (results_tmp3 rfl _ _ _) rfl ?_
  refine ⟨?_, HB1.out⟩
  exact congrArg (fun z => Ending.returned (Value.tuple #[.int .i64 z, .int .i64 (s : Int), .int .i64 c])) (zig_step n HN.out)
theorem str_nb (bs : List UInt8) (s n : Nat) : strOfNums (((nb bs).drop s).take n) = ⟨((bs.drop s).take n).toArray⟩ := by
  unfold strOfNums nb
  rw [← List.map_drop, ← List.map_take, List.map_map]
  congr 2
  have : (fun n : Int => UInt8.ofNat n.toNat) ∘ (fun c : UInt8 => (c.toNat : Int)) = id := by funext c; simp
  rw [this, List.map_id]
set_option maxHeartbeats 4000000 in
set_option maxRecDepth 1000000 in
theorem tx_calls (A : Option Addr) (cp : Nat) (bs : List UInt8) (w : World) (hG : Glob w) (hcp : bs.length ≤ cp) (hr : ReadsInt w .u8 A bs.length (nb bs)) : Calls Tryz.prog 113 #[.slice A bs.length cp, .int .i64 65536] w fun e w' => e = .returned (.tuple #[.string (txt bs).1, .int .i64 ((txt bs).2.1 : Nat), .int .i64 (txt bs).2.2]) ∧ Below w.heap.size w w' := by
  have HU := Aside0.mk (uv_calls A cp bs w hG hr)
  have HX := hr.2.1
  have HR := Aside0.mk hr
  have hb := rd_bd bs
  obtain ⟨T, hT⟩ : ∃ T, T = txt bs := ⟨_, rfl⟩
  rw [← hT]
  unfold txt at hT
  obtain ⟨R, hR⟩ : ∃ R, R = Rdn.rd 0 0 bs := ⟨_, rfl⟩
  rw [← hR] at hb HU hT
  clear hr hG hR
  obtain ⟨n, s, c⟩ := R
  have HN := Aside0.mk (show n < 18446744073709551616 ∧ s ≤ bs.length ∧ s ≤ 10 from ⟨hb.1, hb.2.1, hb.2.2.1⟩)
  clear hb
  dsimp only at hT
  by_cases hc : c = 0
  · subst hc
    rw [if_neg (by decide)] at hT
    by_cases hn : 65536 < n
    · rw [if_pos hn] at hT
      subst hT
      have c1 : decide ((n : Int) > 65536) = true := decide_eq_true (by omega)
      have c2 : decide ((65536 : Int) < (n : Int)) = true := decide_eq_true (by omega)
      clear hn
      go_enter Tryz.func113, Tryz.ntmps113
      go_wp2_with (first | (go_at_call 110; (with_reducible refine HU.out.mono ?_); rintro e w1 ⟨rfl, hb⟩; have HB1 := Aside0.mk hb; clear hb))
      refine bodyPost_ret (results_tmp3 rfl _ _ _) rfl ?_
      exact ⟨rfl, HB1.out⟩
    · rw [if_neg hn] at hT
      have c1 : decide ((n : Int) > 65536) = false := decide_eq_false (by omega)
      have c2 : decide ((65536 : Int) < (n : Int)) = false := decide_eq_false (by omega)
      have hs2 := HN.out.2.1
      have w1' : wrap64 ((bs.length : Int) - (s : Int)) = ((bs.length - s : Nat) : Int) := by unfold wrap64; omega
      have w2' : ∀ m : Nat, m ≤ 9223372036854775807 → IntKind.u64.wrap (m : Int) = (m : Int) := fun m h => by
        unfold IntKind.wrap
        simp [IntKind.bits, IntKind.signed]
        omega
      have w3' := w2' (bs.length - s) (by omega)
      clear w2'
      by_cases hl : bs.length - s < n
      · rw [if_pos hl] at hT
        subst hT
        have d1 : decide ((bs.length : Int) - (s : Int) < (n : Int)) = true := decide_eq_true (by omega)
        have d2 : ((bs.length : Int) - (s : Int) < (n : Int)) = True := eq_true (by omega)
        clear hn hl w1' w3'
        go_enter Tryz.func113, Tryz.ntmps113
        go_wp2_with (first | (go_at_call 110; (with_reducible refine HU.out.mono ?_); rintro e w1 ⟨rfl, hb⟩; have HB1 := Aside0.mk hb; clear hb))
        refine bodyPost_ret (results_tmp3 rfl _ _ _) rfl ?_
        exact ⟨rfl, HB1.out⟩
      · rw [if_neg hl] at hT
        have d1 : decide ((bs.length : Int) - (s : Int) < (n : Int)) = false := decide_eq_false (by omega)
        have d2 : ((bs.length : Int) - (s : Int) < (n : Int)) = False := eq_false (by omega)
        have HT := Aside0.mk hT
        have HD : ReadsInt w .u8 (if cp = s then A else A.map (·.add s)) n (((nb bs).drop s).take n) := (HR.out.drop_ s hs2 hcp).take_ n (by omega)
        have k0 : (0 : Int) ≤ (s : Int) := by omega
        have k1 : (s : Int) ≤ (s : Int) + (n : Int) := by omega
        have k2 : (s : Int) + (n : Int) ≤ (cp : Int) := by omega
        have k3 : wrap64 ((s : Int) + (n : Int)) = (s : Int) + (n : Int) := by unfold wrap64; omega
        have k4 : wrap64 (n : Int) = (n : Int) := by unfold wrap64; omega
        have hsl := cut_mid (P := Tryz.prog) 29 5 .i64 .i64 Tryz.underlying29 (i := (Tryz.prog.info? 5).get!) (by kernel_rfl) 1 (by kernel_rfl) A bs.length cp (s : Int) ((s : Int) + (n : Int)) k0 k1 (by omega) hcp
        obtain ⟨A', hA'⟩ : ∃ A', A' = if cp = s then A else A.map (·.add s) := ⟨_, rfl⟩
        have e1 : ((s : Int) + (n : Int)).toNat - (s : Int).toNat = n := by omega
        have e2 : (s : Int).toNat = s := by omega
        rw [e1, e2, Nat.mul_one, ← hA'] at hsl
        rw [← hA'] at HD
        have HC0 := Aside0.mk (fun (W : World) (h : Below w.heap.size w W) => string_of_reads (P := Tryz.prog) (c := cp - s) Tryz.underlying29 Tryz.underlying5 Tryz.underlying9 (HD.below h))
        have HK := Aside0.mk (show wrap64 ((s : Int) + (n : Int)) = ((s + n : Nat) : Int) from by rw [k3]; omega)
        clear hn hl hT HD hA' e1 e2 w1' w3'
        go_enter Tryz.func113, Tryz.ntmps113
        go_wp2_with (first | (go_at_call 110; (with_reducible refine HU.out.mono ?_); rintro e w1 ⟨rfl, hb⟩; have HB1 := Aside0.mk hb; clear hb; have hcv := HC0.out _ HB1.out))
        refine bodyPost_ret (results_tmp3 rfl _ _ _) rfl ?_
        rw [HT.out]
        refine ⟨?_, HB1.out⟩
        have e3 := HK.out
        have e4 := str_nb bs s n
        simp only [e3, e4]
        rfl
  · have hc1 : (c == 0) = false := beq_eq_false_iff_ne.2 hc
    rw [if_pos hc] at hT
    subst hT
    go_enter Tryz.func113, Tryz.ntmps113
    go_wp2_with (first | (go_at_call 110; (with_reducible refine HU.out.mono ?_); rintro e w1 ⟨rfl, hb⟩; have HB1 := Aside0.mk hb; clear hb))
    refine bodyPost_ret (results_tmp3 rfl _ _ _) rfl ?_
    exact ⟨rfl, HB1.out⟩
end Go.Proofs.YtpihpkphhkcdlaaGreatDoor.Pk
namespace Go.Proofs.YtpihpkphhkcdlaaGreatDoor.Rd
open Go.RowKit Go.Proofs.YtpihpkphhkcdlaaGreatDoorW.PrintWords Go.Proofs.YtpihpkphhkcdlaaGreatDoorW.PrintLast Go.Proofs.YtpihpkphhkcdlaaGreatDoor.Tab Go.Proofs.YtpihpkphhkcdlaaGreatDoor.Rdn Go.Proofs.YtpihpkphhkcdlaaGreatDoor.Kp Go.Proofs.YtpihpkphhkcdlaaGreatDoor.Pd Go.Proofs.YtpihpkphhkcdlaaGreatDoor.Pk
set_option linter.unusedVariables false
set_option linter.unusedSimpArgs false
def wrV (c : Int) : Value := if c = 0 then .nilIface else .iface 137 (.agg #[.int .i64 c])
/-- The reader at block g. -/
def IsR (B : Nat) (w : World) (g : Nat) (s : S) : Prop :=
  ∃ A cp, w.heap[g]? = some (.cells #[.slice A s.1.length cp, wrV s.2] 118 (0, 0)) ∧ s.1.length ≤ cp ∧ ReadsInt w .u8 A s.1.length (nb s.1) ∧ (∀ ad, A = some ad → 0 < s.1.length → ad.block ≠ g ∧ ad.block < B)
abbrev G1 (g : Nat) : Nat → Prop := fun k => k = g
theorem reads_keep {w W : World} {A : Option Addr} {n g : Nat} {xs : List Int} (h : ReadsInt w .u8 A n xs) (k : Keep (G1 g) w W) (hf : ∀ ad, A = some ad → 0 < n → ad.block ≠ g) : ReadsInt W .u8 A n xs :=
  h.keep (g := g) ⟨k.size, fun i hi hg _ => k.block i hi hg⟩ hf
theorem IsR.lt {B : Nat} {w : World} {g : Nat} {s : S} (h : IsR B w g s) : g < w.heap.size := by
  obtain ⟨A, cp, hb, _⟩ := h
  exact blk_lt hb
theorem IsR.keep {B : Nat} {F : Nat → Prop} {w W : World} {g : Nat} {s : S} (h : IsR B w g s) (k : Keep F w W) (hg : ¬ F g) (hF : ∀ i, F i → B ≤ i) : IsR B W g s := by
  obtain ⟨A, cp, hb, hc, hr, hf⟩ := h
  refine ⟨A, cp, k.blk hb hg, hc, ?_, hf⟩
  refine ⟨hr.1, hr.2.1, fun hn => ?_⟩
  obtain ⟨ad, e, hcell⟩ := hr.2.2 hn
  refine ⟨ad, e, fun j hj => ?_⟩
  have h1 := hcell j hj
  have hF2 : ¬ F ad.block := fun h => by have := hF _ h; have := (hf ad e hn).2; omega
  have hbk : (ad.add j).block = ad.block := by unfold Addr.add; split <;> rfl
  have hlt : ad.block < w.heap.size := by
    rcases Nat.lt_or_ge ad.block w.heap.size with h | h
    · exact h
    · simp [World.cell?, hbk, Array.getElem?_eq_none h] at h1
  unfold World.cell? at *
  rw [hbk] at h1 ⊢
  rw [k.block _ hlt hF2]
  exact h1
theorem IsR.below {B : Nat} {w W : World} {g : Nat} {s : S} (h : IsR B w g s) (k : Below w.heap.size w W) : IsR B W g s := by
  obtain ⟨A, cp, hb, hc, hr, hf⟩ := h
  exact ⟨A, cp, (k.block _ (blk_lt hb)).trans hb, hc, hr.below k, hf⟩
theorem Glob.ne {B : Nat} {w : World} (h : Glob w) {g : Nat} {s : S} (hr : IsR B w g s) : 0 ≠ g := by
  rintro rfl
  obtain ⟨A, cp, hb, _⟩ := hr
  have h0 := (blk_cell hb 0).symm.trans h
  simp at h0
/-- A store into the reader's own cells. -/
theorem IsR.wrong {B : Nat} {w : World} {g : Nat} {bs : List UInt8} {c : Int} (h : IsR B w g (bs, c)) (c' : Int) : IsR B (w.setCell ⟨g, 1, none⟩ (wrV c')) g (bs, c') ∧ Keep (G1 g) w (w.setCell ⟨g, 1, none⟩ (wrV c')) := by
  obtain ⟨A, cp, hb, hc, hr, hf⟩ := h
  have k : Keep (G1 g) w (w.setCell ⟨g, 1, none⟩ (wrV c')) := (Keep.refl (G1 g) w).set (g := g) rfl 1 _
  exact ⟨⟨A, cp, blk_put hb 1 _ rfl, hc, reads_keep hr k (fun ad e h => (hf ad e h).1), hf⟩, k⟩
theorem IsR.row {B : Nat} {w : World} {g : Nat} {bs bs' : List UInt8} {c : Int} (h : IsR B w g (bs, c)) (A' : Option Addr) (cp' : Nat) (hc' : bs'.length ≤ cp') (hr' : ReadsInt w .u8 A' bs'.length (nb bs')) (hf' : ∀ ad, A' = some ad → 0 < bs'.length → ad.block ≠ g ∧ ad.block < B) :
    IsR B (w.setCell ⟨g, 0, none⟩ (.slice A' bs'.length cp')) g (bs', c) ∧ Keep (G1 g) w (w.setCell ⟨g, 0, none⟩ (.slice A' bs'.length cp')) := by
  obtain ⟨A, cp, hb, hc, hr, hf⟩ := h
  have k : Keep (G1 g) w (w.setCell ⟨g, 0, none⟩ (.slice A' bs'.length cp')) := (Keep.refl (G1 g) w).set (g := g) rfl 0 _
  exact ⟨⟨A', cp', blk_put hb 0 _ rfl, hc', reads_keep hr' k (fun ad e h => (hf' ad e h).1), hf'⟩, k⟩
theorem nb_drop (bs : List UInt8) (n : Nat) : nb (bs.drop n) = (nb bs).drop n := by unfold nb; rw [List.map_drop]
/-- 'b[m:]': the row from there on, of the same block. -/
theorem cut_from (A : Option Addr) (n c m : Nat) (hm : m ≤ n) : ∃ A' : Option Addr, (∀ W : World, (Instr.slice 29 (.slice A n c) (some (.int .i64 (m : Int))) none none).run Tryz.prog W = .ok (.slice A' (n - m) (c - m)) W) ∧
      (∀ (w : World) (k : IntKind) (xs : List Int), n ≤ c → ReadsInt w k A n xs → ReadsInt w k A' (n - m) (xs.drop m)) ∧ (∀ ad, A' = some ad → ∃ ad0, A = some ad0 ∧ ad.block = ad0.block) := by
  have hu : Tryz.prog.underlying 29 = some (.slice (Tryz.prog.elem 29)) := by kernel_rfl
  have hz : (Tryz.prog.info? (Tryz.prog.elem 29)).map (·.size) = some 1 := by kernel_rfl
  obtain ⟨i, hi, hs⟩ := Option.map_eq_some_iff.1 hz
  refine ⟨if c = m then A else A.map (·.add m), fun W => ?_, fun w k xs hc h => h.drop_ m hm hc, fun ad h => ?_⟩
  · rw [run_slice_l W 29 A n c hu .i64 (m : Int) (Int.natCast_nonneg _) (by omega)]
    simp [sizeOf, typeInfo, hi, hs, sliced, Result.andThen]
  · by_cases he : c = m
    · rw [if_pos he] at h
      exact ⟨ad, h, rfl⟩
    · rw [if_neg he] at h
      obtain ⟨ad0, e, rfl⟩ := Option.map_eq_some_iff.1 h
      exact ⟨ad0, e, by unfold Addr.add; split <;> rfl⟩
set_option maxHeartbeats 4000000 in
set_option maxRecDepth 1000000 in
theorem took_calls {B : Nat} (g : Nat) (s : S) (n : Nat) (e : Int) (w : World) (hR : IsR B w g s) (hn : e = 0 → n ≤ s.1.length) : Calls Tryz.prog 111 #[.pointer (some ⟨g, 0, none⟩), .int .i64 (n : Int), .int .i64 e] w fun x w' => x = .returned (.bool (decide ((tk s n e).2 = 0))) ∧ IsR B w' g (tk s n e) ∧ Keep (G1 g) w w' := by
  obtain ⟨bs, c⟩ := s
  have HRR := Aside0.mk hR
  obtain ⟨A, cp, hb, hc, hr, hf⟩ := hR
  dsimp only at hb hc hr hf hn
  have HR := Aside0.mk (And.intro hr hf)
  have HN := Aside0.mk hn
  have HCP := Aside0.mk hc
  have c0 : w.cell? ⟨g, 0, none⟩ = some (.slice A bs.length cp) := (blk_cell hb 0).trans rfl
  have c1 : w.cell? ⟨g, 1, none⟩ = some (wrV c) := (blk_cell hb 1).trans rfl
  have f0 := blk_frozen hb 0
  have f1 := blk_frozen hb 1
  by_cases h0 : c = 0
  · subst h0
    have hw0 : wrV 0 = .nilIface := rfl
    rw [hw0] at c1
    by_cases he : e = 11
    · subst he
      clear hr hf hb hn hc hw0
      go_enter Tryz.func111, Tryz.ntmps111
      go_wp2
      refine bodyPost_ret (results_tmp rfl _ _ _) rfl ?_
      have := HRR.out.wrong 11
      exact ⟨rfl, this.1, this.2⟩
    · have he1 : (e == 11) = false := beq_eq_false_iff_ne.2 he
      by_cases hz : e = 0
      · subst hz
        have hnl : n ≤ bs.length := hn rfl
        have k0 : (0 : Int) ≤ (n : Int) := by omega
        have k1 : (n : Int) ≤ (bs.length : Int) := by omega
        obtain ⟨A', hsl, hA', hbl⟩ := cut_from A bs.length cp n hnl
        have hr' := hA' w .u8 (nb bs) hc hr
        have HX := Aside0.mk (HRR.out.row (bs' := bs.drop n) A' (cp - n) (by rw [List.length_drop]; omega) (by rw [nb_drop, List.length_drop]; exact hr') (fun ad hq hp => by
          obtain ⟨ad0, e0, e1⟩ := hbl ad hq
          rw [e1]
          exact hf ad0 e0 (by rw [List.length_drop] at hp; omega)))
        rw [List.length_drop] at HX
        have HE := Aside0.mk (show tk (bs, 0) n 0 = (bs.drop n, 0) from by simp [tk, ck])
        clear hr hf hb hn hc hw0 he hr' hA' hbl
        go_enter Tryz.func111, Tryz.ntmps111
        go_wp2
        refine bodyPost_ret (results_tmp rfl _ _ _) rfl ?_
        rw [HE.out]
        exact ⟨rfl, HX.out.1, HX.out.2⟩
      · have he2 : (e == 0) = false := beq_eq_false_iff_ne.2 hz
        have HE := Aside0.mk (show tk (bs, 0) n e = (bs, 2) from by simp [tk, ck, he, hz])
        clear hr hf hb hn hc hw0 he hz
        go_enter Tryz.func111, Tryz.ntmps111
        go_wp2
        refine bodyPost_ret (results_tmp rfl _ _ _) rfl ?_
        have := HRR.out.wrong 2
        rw [HE.out]
        exact ⟨rfl, this.1, this.2⟩
  · have HE := Aside0.mk (show tk (bs, c) n e = (bs, c) from by simp [tk, ck, h0])
    have HD := Aside0.mk (show decide (c = 0) = false from decide_eq_false h0)
    rw [show wrV c = .iface 137 (.agg #[.int .i64 c]) from if_neg h0] at c1
    clear hr hf hb hn hc h0
    go_enter Tryz.func111, Tryz.ntmps111
    go_wp2
    refine bodyPost_ret (results_tmp rfl _ _ _) rfl ?_
    rw [HE.out]
    exact ⟨by show Ending.returned (Value.bool false) = _; rw [HD.out], HRR.out, Keep.refl _ _⟩
end Go.Proofs.YtpihpkphhkcdlaaGreatDoor.Rd
namespace Go.Proofs.YtpihpkphhkcdlaaGreatDoor.Rm
open Go.RowKit Go.Proofs.YtpihpkphhkcdlaaGreatDoorW.PrintWords Go.Proofs.YtpihpkphhkcdlaaGreatDoorW.PrintLast Go.Proofs.YtpihpkphhkcdlaaGreatDoor.Tab Go.Proofs.YtpihpkphhkcdlaaGreatDoor.Rdn Go.Proofs.YtpihpkphhkcdlaaGreatDoor.Kp Go.Proofs.YtpihpkphhkcdlaaGreatDoor.Pd Go.Proofs.YtpihpkphhkcdlaaGreatDoor.Pk Go.Proofs.YtpihpkphhkcdlaaGreatDoor.Rd
set_option linter.unusedVariables false
set_option linter.unusedSimpArgs false
set_option maxHeartbeats 4000000 in
set_option maxRecDepth 1000000 in
theorem number_calls {B : Nat} (g : Nat) (s : S) (w : World) (hG : Glob w) (hR : IsR B w g s) : Calls Tryz.prog 74 #[.pointer (some ⟨g, 0, none⟩)] w fun x w' => x = .returned (.int .u64 ((numP s).1 : Nat)) ∧ IsR B w' g (numP s).2 ∧ Keep (G1 g) w w' := by
  have HRR := Aside0.mk hR
  obtain ⟨A, cp, hb, hc, hr, hf⟩ := hR
  have HU := Aside0.mk (uv_calls A cp s.1 w hG hr)
  have HX := Aside0.mk (And.intro (rd_bd s.1) (rd_err 0 0 s.1))
  have c0 : w.cell? ⟨g, 0, none⟩ = some (.slice A s.1.length cp) := (blk_cell hb 0).trans rfl
  have HP := Aside0.mk (show numP s = (if (tk s (Rdn.rd 0 0 s.1).2.1 (Rdn.rd 0 0 s.1).2.2).2 = 0 then (Rdn.rd 0 0 s.1).1 else 0, tk s (Rdn.rd 0 0 s.1).2.1 (Rdn.rd 0 0 s.1).2.2) from rfl)
  clear hr hf hb hc hG
  obtain ⟨R, hR⟩ : ∃ R, R = Rdn.rd 0 0 s.1 := ⟨_, rfl⟩
  rw [← hR] at HU HX HP
  clear hR
  obtain ⟨n, z, c⟩ := R
  by_cases ht : (tk s z c).2 = 0
  · have HT := Aside0.mk ht
    have hd : decide ((tk s z c).2 = 0) = true := decide_eq_true ht
    clear ht
    go_enter Tryz.func74, Tryz.ntmps74
    go_wp2_with (first | (go_at_call 110; (with_reducible refine HU.out.mono ?_); rintro e w1 ⟨rfl, hb⟩; have HB1 := Aside0.mk hb; clear hb; dsimp only) | (go_at_call 111; (with_reducible refine (took_calls g s z c w1 (HRR.out.below HB1.out) (fun _ => HX.out.1.2.1)).mono ?_); rintro e w2 ⟨rfl, hb, h2⟩; have HB2 := Aside0.mk hb; have HK2 := Aside0.mk h2; clear hb h2; rw [hd]))
    refine bodyPost_ret (results_tmp rfl _ _ _) rfl ?_
    rw [HP.out]
    refine ⟨?_, HB2.out, (Keep.of_below HB1.out).trans HK2.out fun _ _ => id⟩
    dsimp only
    rw [if_pos HT.out]
    rfl
  · have HT := Aside0.mk ht
    have hd : decide ((tk s z c).2 = 0) = false := decide_eq_false ht
    clear ht
    go_enter Tryz.func74, Tryz.ntmps74
    go_wp2_with (first | (go_at_call 110; (with_reducible refine HU.out.mono ?_); rintro e w1 ⟨rfl, hb⟩; have HB1 := Aside0.mk hb; clear hb; dsimp only) | (go_at_call 111; (with_reducible refine (took_calls g s z c w1 (HRR.out.below HB1.out) (fun _ => HX.out.1.2.1)).mono ?_); rintro e w2 ⟨rfl, hb, h2⟩; have HB2 := Aside0.mk hb; have HK2 := Aside0.mk h2; clear hb h2; rw [hd]))
    refine bodyPost_ret (results_tmp rfl _ _ _) rfl ?_
    rw [HP.out]
    refine ⟨?_, HB2.out, (Keep.of_below HB1.out).trans HK2.out fun _ _ => id⟩
    dsimp only
    rw [if_neg HT.out]
    rfl
-- SIGNED
set_option maxHeartbeats 4000000 in
set_option maxRecDepth 1000000 in
theorem signed_calls {B : Nat} (g : Nat) (s : S) (w : World) (hG : Glob w) (hR : IsR B w g s) : Calls Tryz.prog 75 #[.pointer (some ⟨g, 0, none⟩)] w fun x w' => x = .returned (.int .i64 (sgP s).1) ∧ IsR B w' g (sgP s).2 ∧ Keep (G1 g) w w' := by
  have HRR := Aside0.mk hR
  obtain ⟨A, cp, hb, hc, hr, hf⟩ := hR
  have HU := Aside0.mk (vi_calls A cp s.1 w hG hr)
  have HX := Aside0.mk (And.intro (rd_bd s.1) (rd_err 0 0 s.1))
  have c0 : w.cell? ⟨g, 0, none⟩ = some (.slice A s.1.length cp) := (blk_cell hb 0).trans rfl
  have HP := Aside0.mk (show sgP s = (if (tk s (Rdn.rd 0 0 s.1).2.1 (Rdn.rd 0 0 s.1).2.2).2 = 0 then zig (Rdn.rd 0 0 s.1).1 else 0, tk s (Rdn.rd 0 0 s.1).2.1 (Rdn.rd 0 0 s.1).2.2) from rfl)
  clear hr hf hb hc hG
  obtain ⟨R, hR⟩ : ∃ R, R = Rdn.rd 0 0 s.1 := ⟨_, rfl⟩
  rw [← hR] at HU HX HP
  clear hR
  obtain ⟨n, z, c⟩ := R
  by_cases ht : (tk s z c).2 = 0
  · have HT := Aside0.mk ht
    have hd : decide ((tk s z c).2 = 0) = true := decide_eq_true ht
    clear ht
    go_enter Tryz.func75, Tryz.ntmps75
    go_wp2_with (first | (go_at_call 112; (with_reducible refine HU.out.mono ?_); rintro e w1 ⟨rfl, hb⟩; have HB1 := Aside0.mk hb; clear hb; dsimp only) | (go_at_call 111; (with_reducible refine (took_calls g s z c w1 (HRR.out.below HB1.out) (fun _ => HX.out.1.2.1)).mono ?_); rintro e w2 ⟨rfl, hb, h2⟩; have HB2 := Aside0.mk hb; have HK2 := Aside0.mk h2; clear hb h2; rw [hd]))
    refine bodyPost_ret (results_tmp rfl _ _ _) rfl ?_
    rw [HP.out]
    refine ⟨?_, HB2.out, (Keep.of_below HB1.out).trans HK2.out fun _ _ => id⟩
    dsimp only
    rw [if_pos HT.out]
    rfl
  · have HT := Aside0.mk ht
    have hd : decide ((tk s z c).2 = 0) = false := decide_eq_false ht
    clear ht
    go_enter Tryz.func75, Tryz.ntmps75
    go_wp2_with (first | (go_at_call 112; (with_reducible refine HU.out.mono ?_); rintro e w1 ⟨rfl, hb⟩; have HB1 := Aside0.mk hb; clear hb; dsimp only) | (go_at_call 111; (with_reducible refine (took_calls g s z c w1 (HRR.out.below HB1.out) (fun _ => HX.out.1.2.1)).mono ?_); rintro e w2 ⟨rfl, hb, h2⟩; have HB2 := Aside0.mk hb; have HK2 := Aside0.mk h2; clear hb h2; rw [hd]))
    refine bodyPost_ret (results_tmp rfl _ _ _) rfl ?_
    rw [HP.out]
    refine ⟨?_, HB2.out, (Keep.of_below HB1.out).trans HK2.out fun _ _ => id⟩
    dsimp only
    rw [if_neg HT.out]
    rfl
theorem txt_bd (b : List UInt8) : (txt b).2.1 ≤ b.length := by
  unfold txt
  have := (rd_bd b).2.1
  dsimp only
  split
  · exact Nat.zero_le _
  · split
    · exact Nat.zero_le _
    · split
      · exact Nat.zero_le _
      · dsimp only; omega
set_option maxHeartbeats 4000000 in
set_option maxRecDepth 1000000 in
theorem text_calls {B : Nat} (g : Nat) (s : S) (w : World) (hG : Glob w) (hR : IsR B w g s) : Calls Tryz.prog 76 #[.pointer (some ⟨g, 0, none⟩)] w fun x w' => x = .returned (.string (txP s).1) ∧ IsR B w' g (txP s).2 ∧ Keep (G1 g) w w' := by
  have HRR := Aside0.mk hR
  obtain ⟨A, cp, hb, hc, hr, hf⟩ := hR
  have HU := Aside0.mk (tx_calls A cp s.1 w hG hc hr)
  have HX := Aside0.mk (txt_bd s.1)
  have c0 : w.cell? ⟨g, 0, none⟩ = some (.slice A s.1.length cp) := (blk_cell hb 0).trans rfl
  have HP := Aside0.mk (show txP s = (if (tk s (txt s.1).2.1 (txt s.1).2.2).2 = 0 then (txt s.1).1 else ⟨#[]⟩, tk s (txt s.1).2.1 (txt s.1).2.2) from rfl)
  clear hr hf hb hc hG
  obtain ⟨R, hR⟩ : ∃ R, R = txt s.1 := ⟨_, rfl⟩
  rw [← hR] at HU HX HP
  clear hR
  obtain ⟨n, z, c⟩ := R
  by_cases ht : (tk s z c).2 = 0
  · have HT := Aside0.mk ht
    have hd : decide ((tk s z c).2 = 0) = true := decide_eq_true ht
    clear ht
    go_enter Tryz.func76, Tryz.ntmps76
    go_wp2_with (first | (go_at_call 113; (with_reducible refine HU.out.mono ?_); rintro e w1 ⟨rfl, hb⟩; have HB1 := Aside0.mk hb; clear hb; dsimp only) | (go_at_call 111; (with_reducible refine (took_calls g s z c w1 (HRR.out.below HB1.out) (fun _ => HX.out)).mono ?_); rintro e w2 ⟨rfl, hb, h2⟩; have HB2 := Aside0.mk hb; have HK2 := Aside0.mk h2; clear hb h2; rw [hd]))
    refine bodyPost_ret (results_tmp rfl _ _ _) rfl ?_
    rw [HP.out]
    refine ⟨?_, HB2.out, (Keep.of_below HB1.out).trans HK2.out fun _ _ => id⟩
    dsimp only
    rw [if_pos HT.out]
    rfl
  · have HT := Aside0.mk ht
    have hd : decide ((tk s z c).2 = 0) = false := decide_eq_false ht
    clear ht
    go_enter Tryz.func76, Tryz.ntmps76
    go_wp2_with (first | (go_at_call 113; (with_reducible refine HU.out.mono ?_); rintro e w1 ⟨rfl, hb⟩; have HB1 := Aside0.mk hb; clear hb; dsimp only) | (go_at_call 111; (with_reducible refine (took_calls g s z c w1 (HRR.out.below HB1.out) (fun _ => HX.out)).mono ?_); rintro e w2 ⟨rfl, hb, h2⟩; have HB2 := Aside0.mk hb; have HK2 := Aside0.mk h2; clear hb h2; rw [hd]))
    refine bodyPost_ret (results_tmp rfl _ _ _) rfl ?_
    rw [HP.out]
    refine ⟨?_, HB2.out, (Keep.of_below HB1.out).trans HK2.out fun _ _ => id⟩
    dsimp only
    rw [if_neg HT.out]
    rfl
theorem took_c {B : Nat} (g : Nat) (s : S) (n : Nat) (k e : Int) (hk : (n : Int) = k) (w : World) (hR : IsR B w g s) (hn : e = 0 → n ≤ s.1.length) : Calls Tryz.prog 111 #[.pointer (some ⟨g, 0, none⟩), .int .i64 k, .int .i64 e] w fun x w' => x = .returned (.bool (decide ((tk s n e).2 = 0))) ∧ IsR B w' g (tk s n e) ∧ Keep (G1 g) w w' := hk ▸ took_calls g s n e w hR hn
set_option maxHeartbeats 4000000 in
set_option maxRecDepth 1000000 in
theorem flag_calls {B : Nat} (g : Nat) (s : S) (w : World) (hR : IsR B w g s) : Calls Tryz.prog 77 #[.pointer (some ⟨g, 0, none⟩)] w fun x w' => x = .returned (.bool (flP s).1) ∧ IsR B w' g (flP s).2 ∧ Keep (G1 g) w w' := by
  have HRR := Aside0.mk hR
  obtain ⟨A, cp, hb, hc, hr, hf⟩ := hR
  have c0 : w.cell? ⟨g, 0, none⟩ = some (.slice A s.1.length cp) := (blk_cell hb 0).trans rfl
  obtain ⟨bs, c⟩ := s
  cases bs with
  | nil =>
    clear hr hf hb hc
    have HTK := Aside0.mk (took_c g ([], c) 0 0 11 rfl w HRR.out (fun h => absurd h (by decide)))
    go_enter Tryz.func77, Tryz.ntmps77
    go_wp2_with (first | (go_at_call 111; (with_reducible refine HTK.out.mono ?_); rintro e w2 ⟨rfl, hb, h2⟩; have HB2 := Aside0.mk hb; have HK2 := Aside0.mk h2; clear hb h2))
    refine bodyPost_ret (results_tmp rfl _ _ _) rfl ?_
    exact ⟨rfl, HB2.out, HK2.out⟩
  | cons x t =>
    obtain ⟨ad, eA, hcell⟩ := hr.2.2 (by simp)
    subst eA
    have hx0 := hcell 0 (by simp)
    have hgx : (nb (x :: t)).getD 0 0 = (x.toNat : Int) := rfl
    rw [hgx, show ad.add 0 = ad from by unfold Addr.add; split <;> simp_all] at hx0
    have hxl := x.toNat_lt
    have hln2 : (((x :: t).length : Int) == 0) = false := beq_eq_false_iff_ne.2 (by simp only [List.length_cons]; omega)
    have hpos : (0 : Int) < ((x :: t).length : Int) := by simp only [List.length_cons]; omega
    have HLE := Aside0.mk (show (1 : Nat) ≤ (x :: t).length from by simp)
    have HP := Aside0.mk (show flP (x :: t, c) = (decide ((tk (x :: t, c) 1 (if 1 < x.toNat then 2 else 0)).2 = 0) && decide (x.toNat = 1), tk (x :: t, c) 1 (if 1 < x.toNat then 2 else 0)) from rfl)
    obtain ⟨n, hn⟩ : ∃ n, n = x.toNat := ⟨_, rfl⟩
    rw [← hn] at hx0 hxl HP
    obtain ⟨bs, hbs⟩ : ∃ bs, bs = x :: t := ⟨_, rfl⟩
    rw [← hbs] at HP HRR c0 hln2 hpos HLE ⊢
    clear hr hf hb hc hcell hgx hn hbs
    have fin : ∀ (e : Int) (he : (if 1 < n then (2 : Int) else 0) = e) (d1 d2 : Bool), decide ((n : Int) > 1) = d1 → d1 = decide (e = 2) → ((n : Int) == 1) = d2 → decide (n = 1) = d2 → Calls Tryz.prog 77 #[.pointer (some ⟨g, 0, none⟩)] w fun x w' => x = .returned (.bool (flP (bs, c)).1) ∧ IsR B w' g (flP (bs, c)).2 ∧ Keep (G1 g) w w' := by
      intro e he d1 d2 hd1 hd1' hd2 hd3
      have HP2 := Aside0.mk HP.out
      rw [he, hd3] at HP2
      have hd1b : decide ((1 : Int) < (n : Int)) = d1 := by rw [← hd1]
      have hd1c : decide (1 < n) = d1 := by rw [← hd1]; exact decide_eq_decide.2 (by omega)
      have HTK := Aside0.mk (took_c g (bs, c) 1 1 e rfl w HRR.out (fun _ => HLE.out))
      obtain ⟨q, hq⟩ : ∃ q, q = decide ((tk (bs, c) 1 e).2 = 0) := ⟨_, rfl⟩
      rw [← hq] at HTK HP2
      have he2 : e = if d1 then 2 else 0 := by
        rw [hd1']
        by_cases h : 1 < n
        · rw [if_pos h] at he; subst he; rfl
        · rw [if_neg h] at he; subst he; rfl
      clear hq he hd1' hd3 HP
      subst he2
      cases d1 <;> cases q <;> cases d2 <;> (
        simp only [if_true, Bool.false_eq_true, if_false] at HTK HP2
        go_enter Tryz.func77, Tryz.ntmps77
        go_wp2_with (first | (go_at_call 111; (with_reducible refine HTK.out.mono ?_); rintro e w2 ⟨rfl, hb, h2⟩; have HB2 := Aside0.mk hb; have HK2 := Aside0.mk h2; clear hb h2))
        refine bodyPost_ret (results_tmp rfl _ _ _) rfl ?_
        rw [HP2.out]
        exact ⟨rfl, HB2.out, HK2.out⟩)
    refine fin _ rfl _ _ rfl ?_ rfl ?_
    · by_cases h : 1 < n
      · rw [if_pos h]; simp; omega
      · rw [if_neg h]; simp; omega
    · by_cases h : n = 1
      · subst h; rfl
      · rw [decide_eq_false h]; exact (beq_eq_false_iff_ne.2 (by omega)).symm
end Go.Proofs.YtpihpkphhkcdlaaGreatDoor.Rm
