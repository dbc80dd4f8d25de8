/- A row of bytes under way: one of one's own, or what a conversion of a constant has made (marked, full): appending a string to it, or a byte. -/
import Derived.Test.YtfpcoanlkfgagaaGreatDoorExtConv
import Derived.Lib.AppendStr
import Derived.ArgAppend
namespace Go.Proofs.YtfpcoanlkfgagaaGreatDoor.Ext
open Go.RowKit Go.Proofs.YtfpcoanlkfgagaaGreatDoorW.PrintWords

def Buf (W : World) (base : Nat) (v : Value) (xs : List Int) : Prop :=
  W.ownsRow base 5 1 v xs.length (nums .u8 xs) ∨ ∃ g, v = .slice (some ⟨g, 0, none⟩) xs.length xs.length ∧ base ≤ g ∧ W.heap[g]? = some (.cells (nums .u8 xs).toArray 5 (xs.length, xs.length + 1))
theorem Buf.slice {W : World} {base : Nat} {v : Value} {xs : List Int} (h : Buf W base v xs) : ∃ A c, v = .slice A xs.length c := by
  rcases h with h | ⟨g, rfl, _, _⟩
  · rcases h.2 with ⟨rfl, h0⟩ | ⟨g, cap, cur, rfl, _⟩
    · exact ⟨none, 0, by rw [h0]⟩
    · exact ⟨_, _, rfl⟩
  · exact ⟨_, _, rfl⟩
section
variable {P : Program} {ops : Array Oper} {rest : List Oper} {o : Oper} {a : Act} {Q : Exit → Act → World → Prop}
theorem buf_append_str {w0 W : World} (base : Nat) (hgd : o.guard = none) (s x : Operand) (t u : TypeId)
    (ho : o.op = .call { callee := .builtin .append, args := #[s, x], argTypes := #[t, u] })
    (ht : P.underlying t = some (.slice 5)) (hu : P.underlying u = some .string) (hinfo : (P.info? 5).map (fun i => (i.zero, i.size, i.bytes)) = some (some (.int .u8 0), 1, 1))
    (v : Value) (xs : List Int) (y : ByteArray) (hs : a.eval s = v) (hx : a.eval x = .string y) (hy : 0 < y.size)
    (HO : Buf W base v xs) (HB : Below base w0 W) (hbase : base ≤ W.heap.size) (hl : xs.length + y.size ≤ 1000000)
    (h : ∀ v1 w1, w1.ownsRow base 5 1 v1 (xs ++ bytesOf y).length (nums .u8 (xs ++ bytesOf y)) → Below base w0 w1 → wpList P ops Q rest (a.put o.dst v1) w1) :
    wpList P ops Q (o :: rest) a W := by
  rcases HO with HO | ⟨g, rfl, hbg, hg⟩
  · exact print_append_str base hgd s x t u 5 ho ht hu hinfo v xs y hs hx HO HB hbase (by omega) (fun v1 w1 h1 h2 _ => h v1 w1 h1 h2)
  · obtain ⟨i0, hi, hzz⟩ := Option.map_eq_some_iff.1 hinfo
    simp only [Prod.mk.injEq] at hzz
    obtain ⟨hz0, hz1, hz2⟩ := hzz
    have holds : ∀ j u, (nums .u8 xs)[j]? = some u → W.cell? ((⟨g, 0, none⟩ : Addr).add j) = some u := by
      intro j u hj
      rw [add_plain]
      simp only [World.cell?, hg]
      simpa using hj
    have hr := Lib.run_append_grow_string (P := P) W t u o.type 5 i0 (.int .u8 0) ht hu hi hz0 ⟨g, 0, none⟩ xs.length xs.length (nums .u8 xs) (by rw [hz1, nums_length]; omega) holds y (by omega) (by omega) (by rw [hz2]; exact growslice_fits (by omega) (by omega))
    have hge := grownCap_ge W (xs.length + y.size) xs.length 5
    have hcm2 : grownCap W (xs.length + y.size) xs.length 5 ≤ maxLen := grownCap_le_maxLen W (xs.length + y.size) xs.length 5 (by simp only [maxLen]; omega)
    have hl2 : (xs ++ bytesOf y).length = xs.length + y.size := by rw [List.length_append, bytesOf_length]
    have hc : nums .u8 (xs ++ bytesOf y) = nums .u8 xs ++ Lib.strCells y := by
      rw [nums_append]
      congr 1
      simp [nums, bytesOf, Lib.strCells]
    refine wpList_plain hgd fun K hK' => ?_
    unfold Oper.wp
    simp [execOp, ho, resolve, invoke, builtin, hs, hx, hr, Result.andThen]
    refine hK' _ _ (h _ _ ⟨by rw [nums_length, Nat.mul_one], .inr ⟨W.heap.size, _, _, by rw [hl2], hbase, heap_alloc_new W.drew _, by rw [hl2]; exact hge, hcm2, ?_, ?_⟩⟩ (HB.drew.alloc hbase _))
    · have hz3 : (Value.int IntKind.u8 0).cells.size = 1 := rfl
      simp only [Array.size_append, List.size_toArray, size_zeroCells, hz3, List.length_append, nums_length, Lib.strCells_length] at hge ⊢
      omega
    · simp only [Array.toList_append, List.append_assoc]
      rw [hc, hl2, ← List.append_assoc, Nat.mul_one]
      have hlen : (nums .u8 xs ++ Lib.strCells y).length = xs.length + y.size := by rw [List.length_append, nums_length, Lib.strCells_length]
      rw [← hlen]
      exact List.take_left
end
section
variable {P : Program} {ops : Array Oper} {rest : List Oper} {o1 o2 : Oper} {a : Act} {Q : Exit → Act → World → Prop} {W : World} {T : TypeId}
theorem lit_buf (base : Nat) (hbase : base ≤ W.heap.size) {xs : List Int} {inner : List Value} (hg1 : o1.guard = none) (hg2 : o2.guard = none) {N1 : Tmp} (hd1 : o1.dst = some N1) (ho2 : o2.op = .convert T T (.tmp N1))
    (hT : P.underlying T = some (.slice 5)) (he : P.underlying 5 = some (.int .u8)) (hin : inner = xs.map (Value.int .u8))
    (hrun : (execOp a.eval o1).run P W = .ok (.value (.slice (some ⟨W.heap.size, 0, none⟩) xs.length xs.length)) (W.alloc (.cells inner.toArray 5)))
    (htmp : ∀ v, (a.put (some N1) v).eval (.tmp N1) = v)
    (h : ∀ v w1, Buf w1 base v xs → Below W.heap.size W w1 → wpList P ops Q rest ((a.put o1.dst v).put o2.dst v) w1) :
    wpList P ops Q (o1 :: o2 :: rest) a W := by
  subst hin
  refine Kd.event_run hg1 hrun ?_
  have hc := Lib.run_convert_bytes_const (P := P) W T 5 (xs.map (Value.int .u8)).toArray xs.length xs.length hT he
  refine Kd.event_run (v := .slice (some ⟨W.heap.size, 0, none⟩) xs.length xs.length) (w1 := W.alloc (.cells (xs.map (Value.int .u8)).toArray 5 ((xs.map (Value.int .u8)).toArray.size, (xs.map (Value.int .u8)).toArray.size + 1))) hg2 ?_ (h _ _ ?_ ?_)
  · unfold execOp
    rw [hd1]
    simp only [ho2, Sem.run_bind, Sem.run_pure, Result.andThen_ok, htmp, hc]
  · refine .inr ⟨_, rfl, hbase, ?_⟩
    show (W.heap.push _)[W.heap.size]? = _
    simp [nums]
  · exact below_alloc (Below.refl _ _) _
end
theorem own_C {w : World} {base : Nat} {v : Value} {xs : List Int} (h : w.ownsRow base 5 1 v xs.length (nums .u8 xs)) : ∃ A c, v = .slice A xs.length c ∧ xs.length ≤ c ∧ Kd.C (Kd.int .u8) w A xs.length xs := by
  obtain ⟨A, c, h1, h2, h3⟩ := own_reads_of_le (enc := Value.int .u8) (d := (0 : Int)) (xs := xs) h
  exact ⟨A, c, h1, h2, Kd.C_of_reads (d := (0 : Int)) (h1 := fun _ => rfl) h3⟩
def Byt (xs : List Int) : Prop := ∀ x ∈ xs, (Lit.int .u8 x).wf = true
theorem app_str {xs : List Int} (h : Byt xs) (s : ByteArray) (n : Nat) (hn : s.size = n) : ∃ ys, ys = xs ++ bytesOf s ∧ ys.length = xs.length + n ∧ Byt ys := by
  refine ⟨_, rfl, by rw [List.length_append, bytesOf_length, hn], fun x hx => ?_⟩
  rcases List.mem_append.1 hx with hx | hx
  · exact h x hx
  · unfold bytesOf at hx
    obtain ⟨b, _, rfl⟩ := List.mem_map.1 hx
    have := b.toNat_lt
    have h1 : IntKind.u8.min = 0 := rfl
    have h2 : IntKind.u8.max = 255 := rfl
    simp only [Lit.wf, Bool.and_eq_true, decide_eq_true_eq, h1, h2]
    omega
theorem app_one {xs : List Int} (h : Byt xs) (y : Int) (hy : (Lit.int .u8 y).wf = true) : ∃ ys, ys = xs ++ [y] ∧ ys.length = xs.length + 1 ∧ Byt ys := by
  refine ⟨_, rfl, by simp, fun x hx => ?_⟩
  rcases List.mem_append.1 hx with hx | hx
  · exact h x hx
  · rw [List.mem_singleton.1 hx]; exact hy
theorem wrap64_inc (i : Int) (h0 : 0 ≤ i) (h : i ≤ 100000) : wrap64 (i + 1) = i + 1 := by unfold wrap64; omega
end Go.Proofs.YtfpcoanlkfgagaaGreatDoor.Ext
