/- A row of bytes under way: one of one's own, or what a conversion of a constant has made (marked, full): appending a string to it, or a byte. -/
import Derived.Test.YtpihpkphhkcdlaaGreatDoorExtConv
import Derived.Lib.AppendStr
import Derived.ArgAppend
import Derived.Test.YtpihpkphhkcdlaaGreatDoorTab
import Derived.Test.YtpihpkphhkcdlaaGreatDoorPRx12
import Derived.Test.YtpihpkphhkcdlaaGreatDoorTo
import Derived.Laws.Append
namespace Go.Proofs.YtpihpkphhkcdlaaGreatDoor.Ext
open Go.RowKit Go.Proofs.YtpihpkphhkcdlaaGreatDoorW.PrintWords

def Buf (W : World) (base : Nat) (v : Value) (xs : List Int) : Prop :=
  W.ownsRow base 5 1 v xs.length (nums .u8 xs) ∨ ∃ g, v = .slice (some ⟨g, 0, none⟩) xs.length xs.length ∧ base ≤ g ∧ W.heap[g]? = some (.cells (nums .u8 xs).toArray 5 (xs.length, xs.length + 1))
theorem Buf.slice {W : World} {base : Nat} {v : Value} {xs : List Int} (h : Buf W base v xs) : ∃ A c, v = .slice A xs.length c := by
  rcases h with h | ⟨g, rfl, _, _⟩
  · rcases h.2 with ⟨rfl, h0⟩ | ⟨g, cap, cur, rfl, _⟩
    · exact ⟨none, 0, by rw [h0]⟩
    · exact ⟨_, _, rfl⟩
  · exact ⟨_, _, rfl⟩
section
variable {P : Program} {ops : Array Oper} {rest : List Oper} {o : Oper} {a : Act} {Q : Exit → Act → World → Prop}
theorem buf_append_str {w0 W : World} (base : Nat) (hgd : o.guard = none) (s x : Operand) (t u : TypeId)
    (ho : o.op = .call { callee := .builtin .append, args := #[s, x], argTypes := #[t, u] })
    (ht : P.underlying t = some (.slice 5)) (hu : P.underlying u = some .string) (hinfo : (P.info? 5).map (fun i => (i.zero, i.size, i.bytes)) = some (some (.int .u8 0), 1, 1))
    (v : Value) (xs : List Int) (y : ByteArray) (hs : a.eval s = v) (hx : a.eval x = .string y) (hy : 0 < y.size)
    (HO : Buf W base v xs) (HB : Below base w0 W) (hbase : base ≤ W.heap.size) (hl : xs.length + y.size ≤ 1000000)
    (h : ∀ v1 w1, w1.ownsRow base 5 1 v1 (xs ++ bytesOf y).length (nums .u8 (xs ++ bytesOf y)) → Below base w0 w1 → wpList P ops Q rest (a.put o.dst v1) w1) :
    wpList P ops Q (o :: rest) a W := by
  rcases HO with HO | ⟨g, rfl, hbg, hg⟩
  · exact print_append_str base hgd s x t u 5 ho ht hu hinfo v xs y hs hx HO HB hbase (by omega) (fun v1 w1 h1 h2 _ => h v1 w1 h1 h2)
  · obtain ⟨i0, hi, hzz⟩ := Option.map_eq_some_iff.1 hinfo
    simp only [Prod.mk.injEq] at hzz
    obtain ⟨hz0, hz1, hz2⟩ := hzz
    have holds : ∀ j u, (nums .u8 xs)[j]? = some u → W.cell? ((⟨g, 0, none⟩ : Addr).add j) = some u := by
      intro j u hj
      rw [add_plain]
      simp only [World.cell?, hg]
      simpa using hj
    have hr := Lib.run_append_grow_string (P := P) W t u o.type 5 i0 (.int .u8 0) ht hu hi hz0 ⟨g, 0, none⟩ xs.length xs.length (nums .u8 xs) (by rw [hz1, nums_length]; omega) holds y (by omega) (by omega) (by rw [hz2]; exact growslice_fits (by omega) (by omega))
    have hge := grownCap_ge W (xs.length + y.size) xs.length 5
    have hcm2 : grownCap W (xs.length + y.size) xs.length 5 ≤ maxLen := grownCap_le_maxLen W (xs.length + y.size) xs.length 5 (by simp only [maxLen]; omega)
    have hl2 : (xs ++ bytesOf y).length = xs.length + y.size := by rw [List.length_append, bytesOf_length]
    have hc : nums .u8 (xs ++ bytesOf y) = nums .u8 xs ++ Lib.strCells y := by
      rw [nums_append]
      congr 1
      simp [nums, bytesOf, Lib.strCells]
    refine wpList_plain hgd fun K hK' => ?_
    unfold Oper.wp
    simp [execOp, ho, resolve, invoke, builtin, hs, hx, hr, Result.andThen]
    refine hK' _ _ (h _ _ ⟨by rw [nums_length, Nat.mul_one], .inr ⟨W.heap.size, _, _, by rw [hl2], hbase, heap_alloc_new W.drew _, by rw [hl2]; exact hge, hcm2, ?_, ?_⟩⟩ (HB.drew.alloc hbase _))
    · have hz3 : (Value.int IntKind.u8 0).cells.size = 1 := rfl
      simp only [Array.size_append, List.size_toArray, size_zeroCells, hz3, List.length_append, nums_length, Lib.strCells_length] at hge ⊢
      omega
    · simp only [Array.toList_append, List.append_assoc]
      rw [hc, hl2, ← List.append_assoc, Nat.mul_one]
      have hlen : (nums .u8 xs ++ Lib.strCells y).length = xs.length + y.size := by rw [List.length_append, nums_length, Lib.strCells_length]
      rw [← hlen]
      exact List.take_left
end
section
variable {P : Program} {ops : Array Oper} {rest : List Oper} {o1 o2 : Oper} {a : Act} {Q : Exit → Act → World → Prop} {W : World} {T : TypeId}
theorem lit_buf (base : Nat) (hbase : base ≤ W.heap.size) {xs : List Int} {inner : List Value} (hg1 : o1.guard = none) (hg2 : o2.guard = none) {N1 : Tmp} (hd1 : o1.dst = some N1) (ho2 : o2.op = .convert T T (.tmp N1))
    (hT : P.underlying T = some (.slice 5)) (he : P.underlying 5 = some (.int .u8)) (hin : inner = xs.map (Value.int .u8))
    (hrun : (execOp a.eval o1).run P W = .ok (.value (.slice (some ⟨W.heap.size, 0, none⟩) xs.length xs.length)) (W.alloc (.cells inner.toArray 5)))
    (htmp : ∀ v, (a.put (some N1) v).eval (.tmp N1) = v)
    (h : ∀ v w1, Buf w1 base v xs → Below W.heap.size W w1 → wpList P ops Q rest ((a.put o1.dst v).put o2.dst v) w1) :
    wpList P ops Q (o1 :: o2 :: rest) a W := by
  subst hin
  refine Kd.event_run hg1 hrun ?_
  have hc := Lib.run_convert_bytes_const (P := P) W T 5 (xs.map (Value.int .u8)).toArray xs.length xs.length hT he
  refine Kd.event_run (v := .slice (some ⟨W.heap.size, 0, none⟩) xs.length xs.length) (w1 := W.alloc (.cells (xs.map (Value.int .u8)).toArray 5 ((xs.map (Value.int .u8)).toArray.size, (xs.map (Value.int .u8)).toArray.size + 1))) hg2 ?_ (h _ _ ?_ ?_)
  · unfold execOp
    rw [hd1]
    simp only [ho2, Sem.run_bind, Sem.run_pure, Result.andThen_ok, htmp, hc]
  · refine .inr ⟨_, rfl, hbase, ?_⟩
    show (W.heap.push _)[W.heap.size]? = _
    simp [nums]
  · exact below_alloc (Below.refl _ _) _
end
theorem own_C {w : World} {base : Nat} {v : Value} {xs : List Int} (h : w.ownsRow base 5 1 v xs.length (nums .u8 xs)) : ∃ A c, v = .slice A xs.length c ∧ xs.length ≤ c ∧ Kd.C (Kd.int .u8) w A xs.length xs := by
  obtain ⟨A, c, h1, h2, h3⟩ := own_reads_of_le (enc := Value.int .u8) (d := (0 : Int)) (xs := xs) h
  exact ⟨A, c, h1, h2, Kd.C_of_reads (d := (0 : Int)) (h1 := fun _ => rfl) h3⟩
def Byt (xs : List Int) : Prop := ∀ x ∈ xs, (Lit.int .u8 x).wf = true
theorem app_str {xs : List Int} (h : Byt xs) (s : ByteArray) (n : Nat) (hn : s.size = n) : ∃ ys, ys = xs ++ bytesOf s ∧ ys.length = xs.length + n ∧ Byt ys := by
  refine ⟨_, rfl, by rw [List.length_append, bytesOf_length, hn], fun x hx => ?_⟩
  rcases List.mem_append.1 hx with hx | hx
  · exact h x hx
  · unfold bytesOf at hx
    obtain ⟨b, _, rfl⟩ := List.mem_map.1 hx
    have := b.toNat_lt
    have h1 : IntKind.u8.min = 0 := rfl
    have h2 : IntKind.u8.max = 255 := rfl
    simp only [Lit.wf, Bool.and_eq_true, decide_eq_true_eq, h1, h2]
    omega
theorem app_one {xs : List Int} (h : Byt xs) (y : Int) (hy : (Lit.int .u8 y).wf = true) : ∃ ys, ys = xs ++ [y] ∧ ys.length = xs.length + 1 ∧ Byt ys := by
  refine ⟨_, rfl, by simp, fun x hx => ?_⟩
  rcases List.mem_append.1 hx with hx | hx
  · exact h x hx
  · rw [List.mem_singleton.1 hx]; exact hy
theorem wrap64_inc (i : Int) (h0 : 0 ≤ i) (h : i ≤ 100000) : wrap64 (i + 1) = i + 1 := by unfold wrap64; omega
end Go.Proofs.YtpihpkphhkcdlaaGreatDoor.Ext
namespace Go.Proofs.YtpihpkphhkcdlaaGreatDoor.Rs
open Go.RowKit Go.Proofs.YtpihpkphhkcdlaaGreatDoorW.PrintWords Go.Proofs.YtpihpkphhkcdlaaGreatDoor.PR Go.Proofs.YtpihpkphhkcdlaaGreatDoor.Crc Go.Proofs.YtpihpkphhkcdlaaGreatDoor.Tab
set_option linter.unusedVariables false
set_option linter.unusedSimpArgs false
theorem half (c : Nat) (h : c < 4294967296) : (Int.tdiv (c : Int) 2) % 4294967296 = ((c / 2 : Nat) : Int) := by
  have : Int.tdiv (c : Int) 2 = ((c / 2 : Nat) : Int) := by rw [Int.tdiv_eq_ediv_of_nonneg (by omega)]; omega
  rw [this]; omega
theorem odd (c : Nat) : Int.tmod (c : Int) 2 = ((c % 2 : Nat) : Int) := by rw [Int.tmod_eq_emod_of_nonneg (by omega)]; omega
theorem bit_step (k : Nat) (l : List Int) (c : Nat) (x4 : Int) (j : Nat) (hc : c < 4294967296) (hj : j < 8) : odometerref02_Sum.l1 (k + 1) l (c : Int) x4 (j : Int) = odometerref02_Sum.l1 k l ((st c : Nat) : Int) x4 ((j + 1 : Nat) : Int) := by
  have hw : wrap64 ((j : Int) + 1) = ((j + 1 : Nat) : Int) := by unfold wrap64; omega
  rw [odometerref02_Sum.l1, if_pos (show (j : Int) < 8 by omega), half c hc, odd, hw]
  unfold st
  by_cases h : c % 2 = 1
  · rw [if_pos (show ((c % 2 : Nat) : Int) = 1 by omega), if_pos h]
    have := u32_xor_nat (c / 2) 3988292384 (by omega) (by decide)
    rw [← this]
    rfl
  · rw [if_neg (show ¬ ((c % 2 : Nat) : Int) = 1 by omega), if_neg h, Nat.xor_zero]
theorem bits_ev (l : List Int) (x4 : Int) (r : Int) : ∀ (d j c : Nat), 8 - j = d → j ≤ 8 → c < 4294967296 → Ev (fun k => odometerref02_Sum.l0 k l ((stn d c : Nat) : Int) (wrap64 (x4 + 1))) r → Ev (fun k => odometerref02_Sum.l1 k l (c : Int) x4 (j : Int)) r := by
  intro d
  induction d with
  | zero =>
    intro j c hd hj hc h
    refine Ev.step (fun k => ?_) h
    rw [odometerref02_Sum.l1, if_neg (show ¬ (j : Int) < 8 by omega)]
    rfl
  | succ d ih =>
    intro j c hd hj hc h
    refine Ev.step (fun k => bit_step k l c x4 j hc (by omega)) (ih (j + 1) (st c) (by omega) (by omega) (st_lt c hc) ?_)
    have e : ∀ d c, stn d (st c) = stn (d + 1) c := by
      intro d
      induction d with
      | zero => intro c; rfl
      | succ d ih2 => intro c; show st (stn d (st c)) = st (stn (d + 1) c); rw [ih2]
    rw [e]
    exact h
theorem sum_from (bs : List UInt8) (hl : bs.length ≤ 1000000) : ∀ (d i : Nat), bs.length - i = d → i ≤ bs.length → Ev (fun k => odometerref02_Sum.l0 k (nb bs) ((crF (bs.take i) : Nat) : Int) (i : Int)) ((crc bs : Nat) : Int) := by
  have hn : (nb bs).length = bs.length := by simp [nb]
  intro d
  induction d with
  | zero =>
    intro i hd hi
    refine Ev.step (f := fun _ => some ((crc bs : Nat) : Int)) (fun k => ?_) (Ev.now _)
    rw [odometerref02_Sum.l0, if_neg (show ¬ (i : Int) < ((nb bs).length : Int) by omega), List.take_of_length_le (by omega), sum_end _ (crF_lt bs)]
    rfl
  | succ d ih =>
    intro i hd hi
    have hlt : i < bs.length := by omega
    have hx : Go.Proofs.YtpihpkphhkcdlaaGreatDoorW.PrintWords.rd (nb bs) (i : Int) = ((bs[i]).toNat : Int) := by simp [Go.Proofs.YtpihpkphhkcdlaaGreatDoorW.PrintWords.rd, nb, List.getD, hlt]
    have hxl := (bs[i]).toNat_lt
    have hcl := crF_lt (bs.take i)
    have hxx : crF (bs.take i) ^^^ (bs[i]).toNat < 4294967296 := by
      rw [show (4294967296 : Nat) = 2 ^ 32 by decide] at hcl ⊢
      exact Nat.xor_lt_two_pow hcl (by omega)
    have hw : wrap64 ((i : Int) + 1) = ((i + 1 : Nat) : Int) := by unfold wrap64; omega
    refine Ev.step (f := fun k => odometerref02_Sum.l1 k (nb bs) ((crF (bs.take i) ^^^ (bs[i]).toNat : Nat) : Int) (i : Int) ((0 : Nat) : Int)) (fun k => ?_) ?_
    · rw [odometerref02_Sum.l0, if_pos (show (i : Int) < ((nb bs).length : Int) by omega), if_pos (show (0 : Int) ≤ (i : Int) by omega), hx]
      have := u32_xor_nat (crF (bs.take i)) (bs[i]).toNat hcl (by omega)
      rw [show ((bs[i]).toNat : Int) % 4294967296 = ((bs[i]).toNat : Int) by omega, this]
      rfl
    · refine bits_ev _ _ _ 8 0 _ rfl (by omega) hxx ?_
      rw [hw, stn8, ← crF_snoc, ← List.take_succ_eq_append_getElem hlt]
      exact ih (i + 1) (by omega) (by omega)
theorem sum_ev (bs : List UInt8) (hl : bs.length ≤ 1000000) : Ev (fun k => odometerref02_Sum.f k (nb bs)) ((crc bs : Nat) : Int) := sum_from bs hl _ 0 rfl (by omega)
end Go.Proofs.YtpihpkphhkcdlaaGreatDoor.Rs
namespace Go.Proofs.YtpihpkphhkcdlaaGreatDoor.Bf
open Go.RowKit Go.Proofs.YtpihpkphhkcdlaaGreatDoorW.PrintWords Go.Proofs.YtpihpkphhkcdlaaGreatDoor.Ext
section
variable {P : Program} {ops : Array Oper} {rest : List Oper} {o : Oper} {a : Act} {Q : Exit → Act → World → Prop}
theorem buf_append_row {w0 W : World} (base : Nat) (hgd : o.guard = none) (s x : Operand) (t : TypeId)
    (ho : o.op = .call { callee := .builtin .append, args := #[s, x], argTypes := #[t, t] })
    (ht : P.underlying t = some (.slice 5)) (hinfo : (P.info? 5).map (fun i => (i.zero, i.size, i.bytes)) = some (some (.int .u8 0), 1, 1))
    (v : Value) (xs ys : List Int) (A : Option Addr) (c : Nat) (hs : a.eval s = v) (hx : a.eval x = .slice A ys.length c) (hy : 0 < ys.length)
    (HO : Buf W base v xs) (HR : ReadsInt W .u8 A ys.length ys) (HB : Below base w0 W) (hbase : base ≤ W.heap.size) (hl : xs.length + ys.length ≤ 1000000)
    (h : ∀ v1 w1, w1.ownsRow base 5 1 v1 (xs ++ ys).length (nums .u8 (xs ++ ys)) → Below base w0 w1 → wpList P ops Q rest (a.put o.dst v1) w1) :
    wpList P ops Q (o :: rest) a W := by
  rcases HO with HO | ⟨g, rfl, hbg, hg⟩
  · exact print_append_row base hgd s x t 5 .u8 1 ho ht hinfo (by decide) v xs ys A ys.length c hs hx HO HR HB hbase (by omega) (fun v1 w1 h1 h2 _ _ => h v1 w1 h1 h2)
  · obtain ⟨i0, hi, hzz⟩ := Option.map_eq_some_iff.1 hinfo
    simp only [Prod.mk.injEq] at hzz
    obtain ⟨hz0, hz1, hz2⟩ := hzz
    obtain ⟨ad, rfl, hcell⟩ := HR.2.2 hy
    have holds : ∀ j u, (nums .u8 xs)[j]? = some u → W.cell? ((⟨g, 0, none⟩ : Addr).add j) = some u := by
      intro j u hj
      rw [add_plain]
      simp only [World.cell?, hg]
      simpa using hj
    have hnews : ∀ j u, (nums .u8 ys)[j]? = some u → W.cell? (ad.add j) = some u := by
      intro j u hj
      have hlt := (List.getElem?_eq_some_iff.1 hj).1
      rw [nums_length] at hlt
      rw [hcell j hlt, ← hj]
      simp [nums, List.getD, hlt]
    have hr := run_append_grow (P := P) W t o.type 5 i0 (.int .u8 0) ht hi hz0 ⟨g, 0, none⟩ xs.length xs.length (nums .u8 xs) (by rw [hz1, nums_length]; omega) holds ad ys.length c (nums .u8 ys) (by rw [hz1, nums_length]; omega) hnews (by omega) (by omega) (by rw [hz2]; exact growslice_fits (by omega) (by omega))
    have hge := grownCap_ge W (xs.length + ys.length) xs.length 5
    have hcm2 : grownCap W (xs.length + ys.length) xs.length 5 ≤ maxLen := grownCap_le_maxLen W (xs.length + ys.length) xs.length 5 (by simp only [maxLen]; omega)
    have hl2 : (xs ++ ys).length = xs.length + ys.length := List.length_append
    refine wpList_plain hgd fun K hK' => ?_
    unfold Oper.wp
    simp [execOp, ho, resolve, invoke, builtin, hs, hx, hr, Result.andThen]
    refine hK' _ _ (h _ _ ⟨by rw [nums_length, Nat.mul_one], .inr ⟨W.heap.size, _, _, by rw [hl2], hbase, heap_alloc_new W.drew _, by rw [hl2]; exact hge, hcm2, ?_, ?_⟩⟩ (HB.drew.alloc hbase _))
    · have hz3 : (Value.int IntKind.u8 0).cells.size = 1 := rfl
      simp only [Array.size_append, List.size_toArray, List.length_append, size_zeroCells, hz3, nums_length] at hge ⊢
      omega
    · simp only [Array.toList_append, List.append_assoc]
      rw [nums_append, hl2, ← List.append_assoc, Nat.mul_one]
      have hlen : (nums .u8 xs ++ nums .u8 ys).length = xs.length + ys.length := by rw [List.length_append, nums_length, nums_length]
      rw [← hlen]
      exact List.take_left
end
/-- The row under way, a record's block beside it. -/
structure Es (W1 W : World) (gx : Nat) (cs : Array Value) (v : Value) (xs : List Int) : Prop where
  hb : Below W1.heap.size W1 W
  row : W.ownsRow W1.heap.size 5 1 v xs.length (nums .u8 xs)
  xb : W.heap[gx]? = some (.cells cs 73 (0, 0))
theorem Es.below {W1 W W' : World} {gx : Nat} {cs : Array Value} {v : Value} {xs : List Int} (h : Es W1 W gx cs v xs) (k : Below W.heap.size W W') : Es W1 W' gx cs v xs :=
  ⟨h.hb.trans (k.mono h.hb.size), pw_own_below h.row k, (k.block _ (blk_lt h.xb)).trans h.xb⟩
theorem Es.step {W1 W W' : World} {gx : Nat} {cs : Array Value} {v v' : Value} {xs xs' : List Int} (h : Es W1 W gx cs v xs) (ho : W'.ownsRow W1.heap.size 5 1 v' xs'.length (nums .u8 xs')) (hg : W.grownBy W' v.ownBlock) : Es W1 W' gx cs v' xs' := by
  refine ⟨h.hb.grown hg h.hb.size (own_base h.row), ho, (hg.block _ (blk_lt h.xb) fun e => ?_).trans h.xb⟩
  obtain ⟨cs', hc⟩ := own_typed h.row _ e.symm
  rw [h.xb] at hc
  injection hc with hc
  injection hc with _ ht
  exact absurd ht (by decide)
theorem info5 : (Tryz.prog.info? 5).map (fun i => (i.zero, i.size, i.bytes)) = some (some (.int .u8 0), 1, 1) := by kernel_rfl
set_option maxRecDepth 1000000 in
theorem Es.app {W1 W : World} {gx : Nat} {cs : Array Value} {v : Value} {xs ys : List Int} {A : Option Addr} {c : Nat} (h : Es W1 W gx cs v xs) (HR : ReadsInt W .u8 A ys.length ys) (hy : 0 < ys.length) (hl : xs.length + ys.length ≤ 1000000) :
    ∃ v1 w1, (Builtin.append_ #[29, 29] 29 #[v, .slice A ys.length c]).run Tryz.prog W = .ok v1 w1 ∧ Es W1 w1 gx cs v1 (xs ++ ys) := by
  obtain ⟨i0, hi, hzz⟩ := Option.map_eq_some_iff.1 info5
  simp only [Prod.mk.injEq] at hzz
  obtain ⟨hz0, hz1, hz2⟩ := hzz
  obtain ⟨ad, rfl, hcell⟩ := HR.2.2 hy
  have hnews : ∀ j u, (nums .u8 ys)[j]? = some u → W.cell? (ad.add j) = some u := by
    intro j u hj
    have hlt := (List.getElem?_eq_some_iff.1 hj).1
    rw [nums_length] at hlt
    rw [hcell j hlt, ← hj]
    simp [nums, List.getD, hlt]
  obtain ⟨v1, w1, h1, h2, h3, _⟩ := run_append_own (P := Tryz.prog) (w := W) W1.heap.size 29 29 5 i0 (.int .u8 0) 1 1 Tryz.underlying29 hi hz0 hz1 hz2 rfl (by decide) v xs.length (nums .u8 xs) h.row ad ys.length c (nums .u8 ys) (by rw [nums_length]; omega) hnews (by intro u hu; simp [nums] at hu; obtain ⟨x, _, rfl⟩ := hu; rfl) (by unfold maxLen; omega) (by omega) h.hb.size
  exact ⟨v1, w1, h1, h.step (by rw [List.length_append, nums_append]; exact h2) h3⟩
set_option maxRecDepth 1000000 in
theorem Es.str {W1 W : World} {gx : Nat} {cs : Array Value} {v : Value} {xs : List Int} (h : Es W1 W gx cs v xs) (y : ByteArray) (hl : xs.length + y.size ≤ 1000000) :
    ∃ v1 w1, (Builtin.append_ #[29, 9] 29 #[v, .string y]).run Tryz.prog W = .ok v1 w1 ∧ Es W1 w1 gx cs v1 (xs ++ bytesOf y) := by
  obtain ⟨i0, hi, hzz⟩ := Option.map_eq_some_iff.1 info5
  simp only [Prod.mk.injEq] at hzz
  obtain ⟨hz0, hz1, hz2⟩ := hzz
  obtain ⟨v1, w1, h1, h2, h3, _⟩ := Lib.run_append_own_string (P := Tryz.prog) W W1.heap.size 29 9 29 5 i0 Tryz.underlying29 Tryz.underlying9 hi hz0 hz1 hz2 v xs.length (nums .u8 xs) h.row y (by unfold maxLen; omega) (by omega) h.hb.size
  have hc : nums .u8 (xs ++ bytesOf y) = nums .u8 xs ++ Lib.strCells y := by
    rw [nums_append]
    congr 1
    simp [nums, bytesOf, Lib.strCells]
  exact ⟨v1, w1, h1, h.step (by rw [List.length_append, bytesOf_length, hc]; exact h2) h3⟩
section
variable {ops : Array Oper} {rest : List Oper} {o : Oper} {a : Act} {Q : Exit → Act → World → Prop}
/-- An append in a plain region. -/
theorem Es.wp {W1 W : World} {gx : Nat} {cs : Array Value} {v : Value} {xs ys : List Int} {A : Option Addr} {m c : Nat} (hgd : o.guard = none) (s x : Operand) (ho : o.op = .call { callee := .builtin .append, args := #[s, x], argTypes := #[29, 29] })
    (hs : a.eval s = v) (hx : a.eval x = .slice A m c) (h : Es W1 W gx cs v xs) (HR : ReadsInt W .u8 A m ys) (hm : ys.length = m) (hy : 0 < m) (hl : xs.length + m ≤ 1000000)
    (hK : ∀ v1 w1, Es W1 w1 gx cs v1 (xs ++ ys) → wpList Tryz.prog ops Q rest (a.put o.dst v1) w1) : wpList Tryz.prog ops Q (o :: rest) a W := by
  subst hm
  obtain ⟨v1, w1, hrun, hE⟩ := h.app (c := c) HR hy hl
  refine wpList_plain hgd fun K hK' => ?_
  have hr2 : ∀ ty, (Builtin.append_ #[29, 29] ty #[v, .slice A ys.length c]).run Tryz.prog W = .ok v1 w1 := fun _ => hrun
  unfold Oper.wp execOp
  simp only [ho, resolve, invoke, builtin, Sem.run_bind, Sem.run_pure, Result.andThen_ok, List.map_toArray, List.map_cons, List.map_nil, hs, hx, hr2]
  exact hK' _ _ (hK v1 w1 hE)
end
end Go.Proofs.YtpihpkphhkcdlaaGreatDoor.Bf
namespace Go.Proofs.YtpihpkphhkcdlaaGreatDoor.En
open Go.RowKit Go.Proofs.YtpihpkphhkcdlaaGreatDoorW.PrintWords Go.Proofs.YtpihpkphhkcdlaaGreatDoorW.PrintLast Go.Proofs.YtpihpkphhkcdlaaGreatDoor.Ext Go.Proofs.YtpihpkphhkcdlaaGreatDoor.PR Go.Proofs.YtpihpkphhkcdlaaGreatDoor.Crc Go.Proofs.YtpihpkphhkcdlaaGreatDoor.Tab Go.Proofs.YtpihpkphhkcdlaaGreatDoor.Pd Go.Proofs.YtpihpkphhkcdlaaGreatDoor.Eq Go.Proofs.YtpihpkphhkcdlaaGreatDoor.Bf
set_option linter.unusedVariables false
set_option linter.unusedSimpArgs false
def rec1 (n : Nat) : Array Value := #[.string ⟨#[97]⟩, .int .i64 (n : Int), .int .i64 5, .int .i64 1, .bool false]
set_option maxHeartbeats 4000000 in
set_option maxRecDepth 1000000 in
theorem may_one (n : Nat) (hn : n = 1 ∨ n = 3) (gr : Nat) (w : World) (h : w.heap[gr]? = some (.cells (rec1 n) 73 (0, 0))) :
    Calls Tryz.prog 51 #[.agg #[.int .u64 (n : Int), .int .i64 (n : Int), .slice (some ⟨gr, 0, none⟩) 1 1]] w fun e w' => e = .returned (.bool true) ∧ Below w.heap.size w w' := by
  have h0 : w.cell? ⟨gr, 0, none⟩ = some (.string ⟨#[97]⟩) := (blk_cell h 0).trans rfl
  have h1 : w.cell? ⟨gr, 1, none⟩ = some (.int .i64 (n : Int)) := (blk_cell h 1).trans rfl
  have h2 : w.cell? ⟨gr, 2, none⟩ = some (.int .i64 5) := (blk_cell h 2).trans rfl
  have h3 : w.cell? ⟨gr, 3, none⟩ = some (.int .i64 1) := (blk_cell h 3).trans rfl
  have h4 : w.cell? ⟨gr, 4, none⟩ = some (.bool false) := (blk_cell h 4).trans rfl
  have hlt := blk_lt h
  have hz : (n == 0) = false := beq_eq_false_iff_ne.2 (by omega)
  have hz2 : ((n : Int) == 0) = false := beq_eq_false_iff_ne.2 (by omega)
  have hb := below_alloc (Below.refl w.heap.size w) (.cells #[.int .u64 (n : Int), .int .i64 (n : Int), .slice (some ⟨gr, 0, none⟩) 1 1] 44)
  have HB := Aside0.mk hb
  have k0 := pw_cell_below hb h0
  have k1 := pw_cell_below hb h1
  have k2 := pw_cell_below hb h2
  have k3 := pw_cell_below hb h3
  have k4 := pw_cell_below hb h4
  clear hn h hb h0 h1 h2 h3 h4
  go_enter Tryz.func51, Tryz.ntmps51
  go_wp2
  refine wp_loop_rounds 2 ?_
  rw [rounds_succ]
  go_wp2
  go_region
  go_wp2
  rw [rounds_succ]
  go_wp2
  go_ret
  exact ⟨rfl, below_drew1 (below_alloc HB.out _)⟩
theorem put_f (n : Nat) (h : n < 128) : odometerref02_Put.f 2 (n : Int) = some [(n : Int)] := by
  have : ∀ m : Fin 128, odometerref02_Put.f 2 (m.val : Int) = some [(m.val : Int)] := by decide +kernel
  exact this ⟨n, h⟩
theorem put_calls (n : Nat) (h : n < 128) (w : World) : Calls Tryz.prog 52 #[.int .u64 (n : Int)] w fun e w' => ∃ A c, e = .returned (.slice A 1 c) ∧ ReadsInt w' .u8 A 1 [(n : Int)] ∧ Below w.heap.size w w' := by
  refine (odometerref02_Put.calls 2 (n : Int) _ w (put_f n h)).mono ?_
  rintro e w' ⟨v, rfl, hr, hb⟩
  obtain ⟨A, c, rfl, hc, hx⟩ := Kd.R_reads hr
  exact ⟨A, c, rfl, Kd.reads_of_C (d := (0 : Int)) hx, hb⟩
theorem put_k (k : Int) (n : Nat) (hk : (n : Int) = k) (h : n < 128) (w : World) : Calls Tryz.prog 52 #[.int .u64 k] w fun e w' => ∃ A c, e = .returned (.slice A 1 c) ∧ ReadsInt w' .u8 A 1 [k] ∧ Below w.heap.size w w' := hk ▸ put_calls n h w
theorem put_l (k : Int) (h : 0 ≤ k ∧ k < 128) (w : World) : Calls Tryz.prog 52 #[.int .u64 k] w fun e w' => ∃ A c, e = .returned (.slice A 1 c) ∧ ReadsInt w' .u8 A 1 [k] ∧ Below w.heap.size w w' := put_k k k.toNat (by omega) (by omega) w
theorem signed_l (k : Int) (h : 0 ≤ k ∧ k < 64) (w : World) : Calls Tryz.prog 53 #[.int .i64 k] w fun e w' => e = .returned (.int .u64 (2 * k)) ∧ Below w.heap.size w w' := by
  refine (odometerref02_Signed.calls k (2 * k) w ?_).mono fun e w' h => ⟨h.1, h.2.below⟩
  unfold odometerref02_Signed.f
  rw [if_pos h.1]
  congr 1
  unfold IntKind.wrap
  simp [IntKind.bits, IntKind.signed]
  omega
theorem crc_lt (bs : List UInt8) : crc bs < 4294967296 := by
  unfold crc
  exact Nat.xor_lt_two_pow (n := 32) (crF_lt _) (by decide)
theorem sum_ex (bs : List UInt8) (hl : bs.length ≤ 1000000) : ∃ k, odometerref20_sum.f k (nb bs) = some (nb (be4 (crc bs))) := by
  obtain ⟨k, hk⟩ := (Rs.sum_ev bs hl)
  have h1 : odometerref02_Sum.f k (nb bs) = some ((crc bs : Nat) : Int) := hk k (Nat.le_refl _)
  refine ⟨k, ?_⟩
  unfold odometerref20_sum.f
  rw [h1]
  have hc := crc_lt bs
  obtain ⟨c, hcc⟩ : ∃ c, c = crc bs := ⟨_, rfl⟩
  rw [← hcc] at hc ⊢
  show some _ = some _
  congr 1
  rw [Int.tdiv_eq_ediv_of_nonneg (by omega), Int.tdiv_eq_ediv_of_nonneg (by omega), Int.tdiv_eq_ediv_of_nonneg (by omega), Int.tmod_eq_emod_of_nonneg (by omega)]
  simp [be4, nb]
theorem sum_l {w : World} {A : Option Addr} {c : Nat} (bs : List UInt8) (hl : bs.length ≤ 1000000) (h : ReadsInt w .u8 A bs.length (nb bs)) (hc : bs.length ≤ c) : Calls Tryz.prog 54 #[.slice A bs.length c] w fun e w' => ∃ A' c', e = .returned (.slice A' 4 c') ∧ ReadsInt w' .u8 A' 4 (nb (be4 (crc bs))) ∧ Below w.heap.size w w' := by
  obtain ⟨k, hk⟩ := sum_ex bs hl
  have := odometerref20_sum.calls k A c (nb bs) _ w (Kd.C_of_reads (d := (0 : Int)) (by rw [nb_len]; exact h)) (by rw [nb_len]; exact hc) hk
  rw [nb_len] at this
  refine this.mono ?_
  rintro e w' ⟨v, rfl, hr, hb⟩
  obtain ⟨A', c', rfl, hc', hx⟩ := Kd.R_reads hr
  exact ⟨A', c', rfl, Kd.reads_of_C (d := (0 : Int)) hx, hb⟩
end Go.Proofs.YtpihpkphhkcdlaaGreatDoor.En
