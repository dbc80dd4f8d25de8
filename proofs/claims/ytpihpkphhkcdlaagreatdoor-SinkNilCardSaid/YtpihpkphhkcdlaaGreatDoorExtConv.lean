/- What the printed walks of this seat lean on beside the print's own words: what package variables hold ('Glob'), and '[]byte(s)' as one step. -/
import Derived.Test.YtpihpkphhkcdlaaGreatDoorProg
import Derived.Test.YtpihpkphhkcdlaaGreatDoorWWords
import Derived.Test.YtpihpkphhkcdlaaGreatDoorWShare
import Derived.Test.YtpihpkphhkcdlaaGreatDoorWMore
import Derived.Lib.SlBytesConst
namespace Go.Proofs.YtpihpkphhkcdlaaGreatDoor.Ext
open Go.RowKit Go.Proofs.YtpihpkphhkcdlaaGreatDoorW.PrintWords

/-- []byte(s): the bytes as numbers. -/
def bytesConv.f (s : ByteArray) : Option (List Int) := if s.size ≤ 9223372036854775807 then some (bytesOf s) else none

theorem bytesConv_V (W : World) (e : TypeId) (s : ByteArray) (hs : s.size ≤ 9223372036854775807) :
    Kd.V (Kd.int .u8) e (Lib.bytesWorld W e s) W.heap.size (fun k => W.heap.size ≤ k) (.slice (some ⟨W.heap.size, 0, none⟩) s.size (grownCap W s.size 0 e)) (bytesOf s) := by
  refine ⟨some ⟨W.heap.size, 0, none⟩, grownCap W s.size 0 e, ?_, ?_, ?_⟩
  · rw [bytesOf_length]
  · rw [bytesOf_length]; exact grownCap_ge W s.size 0 e
  · intro W' hW'
    have hlt : W.heap.size < (Lib.bytesWorld W e s).heap.size := by rw [Lib.bytesWorld_size]; omega
    have hb := hW' W.heap.size (Nat.le_refl _) hlt
    refine Kd.C_of_reads (d := (0 : Int)) (h1 := fun _ => rfl) ?_
    have hr := bytes_reads W e s hs
    rw [bytesOf_length]
    refine ⟨hr.1, hr.2.1, fun hn => ?_⟩
    obtain ⟨ad, he, hc⟩ := hr.2.2 hn
    refine ⟨ad, he, fun j hj => ?_⟩
    obtain rfl : ad = ⟨W.heap.size, 0, none⟩ := by injection he with he; exact he.symm
    have h1 := hc j hj
    rw [add_plain] at h1 ⊢
    simp only [World.cell?, hb] at h1 ⊢
    exact h1

theorem bytesConv_below (W : World) (e : TypeId) (s : ByteArray) : Below W.heap.size W (Lib.bytesWorld W e s) := bytes_below (Below.refl _ _) (Nat.le_refl _) e s

/-- '[]byte(s)', as one step of a walk, guarded or not: the row is only read from then on. -/
theorem conv_upon {P : Program} {o : Oper} {a : Act} {K : Act → World → Prop} {Q : Exit → Act → World → Prop} {W : World} {src dst e : TypeId} {u : TypeDesc}
    (hs : P.underlying src = some u) (hd : P.underlying dst = some (.slice e)) (he : P.underlying e = some (.int .u8))
    (s : ByteArray) (t : List Int) (hA : bytesConv.f s = some t)
    (h : ∀ v w1, Kd.V (Kd.int .u8) e w1 W.heap.size (fun k_ => (W.heap.size ≤ k_)) v t → Below W.heap.size W w1 → Oper.upon P o a K Q (.ok (Next.value v) w1)) :
    Oper.upon P o a K Q ((Sem.run P (convert src dst (.string s)) W).andThen fun a w' => Result.ok (Next.value a) w') := by
  unfold bytesConv.f at hA
  split at hA
  · rename_i hsz
    obtain rfl := Option.some.inj hA
    rw [show Sem.run P (convert src dst (.string s)) W = _ from print_bytes src dst e hs hd he s W]
    exact h _ _ (bytesConv_V W e s hsz) (bytesConv_below W e s)
  · cases hA

/-- string(b) of a row that is only read. -/
theorem V_string {P : Program} {w : World} {base : Nat} {ok : Nat → Prop} {e' e src dst : TypeId} {v : Value} {xs : List Int} (hs : P.underlying src = some (.slice e)) (he : P.underlying e = some (.int .u8)) (hd : P.underlying dst = some .string)
    (h : (Kd.int .u8).V e' w base ok v xs) : (convert src dst v).run P w = .ok (.string (strOfNums xs)) w := by
  obtain ⟨A, c, rfl⟩ := Kd.V_slice h
  exact Kd.C_string hs he hd (Kd.V_reads' h).2.2

theorem size_append_ (a b : ByteArray) : (a ++ b).size = a.size + b.size := ByteArray.size_append
theorem size_mk_ (l : Array UInt8) : (⟨l⟩ : ByteArray).size = l.size := rfl
theorem size_norm {n : Nat} (h : n ≤ 9223372036854775807) : n < 9223372036854775808 := Nat.lt_succ_of_le h

/-- string(b) of a row that came in, or of a cut of it; the length as the walk has it. -/
theorem C_string0 {P : Program} {w : World} {src dst e : TypeId} {A : Option Addr} {n c : Nat} {xs : List Int} (hs : P.underlying src = some (.slice e)) (he : P.underlying e = some (.int .u8)) (hd : P.underlying dst = some .string)
    (h : (Kd.int .u8).C w A n xs) : ∀ m, m = n → (convert src dst (.slice A m c)).run P w = .ok (.string (strOfNums xs)) w := by
  rintro m rfl
  exact Kd.C_string hs he hd h
theorem C_stringN {P : Program} {w : World} {src dst e : TypeId} {A : Option Addr} {n c : Nat} {xs : List Int} (hs : P.underlying src = some (.slice e)) (he : P.underlying e = some (.int .u8)) (hd : P.underlying dst = some .string)
    (h : (Kd.int .u8).C w A n xs) : ∀ q m, m = n → (convert src dst (.slice A m c)).run P (w.drewN q) = .ok (.string (strOfNums xs)) (w.drewN q) := by
  rintro q m rfl
  exact Kd.C_string hs he hd (Kd.C_drewN h q)
/-- []byte("..") of a constant: its numbers. -/
def bytesLit.f (xs : List Int) : Option (List Int) := some xs
section
variable {P : Program} {ops : Array Oper} {rest : List Oper} {o1 o2 : Oper} {a : Act} {Q : Exit → Act → World → Prop} {W : World} {T e : TypeId}
theorem lit_marked {xs : List Int} {inner : List Value} (hg1 : o1.guard = none) (hg2 : o2.guard = none) {N1 : Tmp} (hd1 : o1.dst = some N1) (ho2 : o2.op = .convert T T (.tmp N1))
    (hT : P.underlying T = some (.slice e)) (he : P.underlying e = some (.int .u8)) (t' : List Int) (hA : bytesLit.f xs = some t') (hin : inner = xs.map (Value.int .u8))
    (hrun : (execOp a.eval o1).run P W = .ok (.value (.slice (some ⟨W.heap.size, 0, none⟩) xs.length xs.length)) (W.alloc (.cells inner.toArray e)))
    (htmp : ∀ v, (a.put (some N1) v).eval (.tmp N1) = v) (hm : xs.length ≤ 9223372036854775807)
    (h : ∀ v w1, Kd.V (Kd.int .u8) e w1 W.heap.size (fun k_ => (W.heap.size ≤ k_)) v t' → Below W.heap.size W w1 → wpList P ops Q rest ((a.put o1.dst v).put o2.dst v) w1) :
    wpList P ops Q (o1 :: o2 :: rest) a W := by
  obtain rfl := Option.some.inj hA
  subst hin
  refine Kd.event_run hg1 hrun ?_
  have hc := Lib.run_convert_bytes_const (P := P) W T e (xs.map (Value.int .u8)).toArray xs.length xs.length hT he
  refine Kd.event_run (v := .slice (some ⟨W.heap.size, 0, none⟩) xs.length xs.length) (w1 := W.alloc (.cells (xs.map (Value.int .u8)).toArray e ((xs.map (Value.int .u8)).toArray.size, (xs.map (Value.int .u8)).toArray.size + 1))) hg2 ?_ (h _ _ ?_ ?_)
  · unfold execOp
    rw [hd1]
    simp only [ho2, Sem.run_bind, Sem.run_pure, Result.andThen_ok, htmp, hc]
  · refine Kd.V_mk (Nat.le_refl _) ?_
    intro W' hW'
    have hsz : (W.alloc (.cells (xs.map (Value.int .u8)).toArray e ((xs.map (Value.int .u8)).toArray.size, (xs.map (Value.int .u8)).toArray.size + 1))).heap[W.heap.size]? = some (.cells (xs.map (Value.int .u8)).toArray e ((xs.map (Value.int .u8)).toArray.size, (xs.map (Value.int .u8)).toArray.size + 1)) := by
      show (W.heap.push _)[W.heap.size]? = _
      simp
    have hb := (hW' W.heap.size (Nat.le_refl _) (Array.getElem?_eq_some_iff.1 hsz).1).trans hsz
    refine Kd.C_of_reads (d := (0 : Int)) (h1 := fun _ => rfl) ⟨rfl, hm, fun _ => ⟨_, rfl, fun j hj => ?_⟩⟩
    rw [add_plain]
    simp only [World.cell?, hb]
    simp [List.getElem?_eq_getElem hj, List.getD_eq_getElem?_getD]
  · exact below_alloc (Below.refl _ _) _
end
end Go.Proofs.YtpihpkphhkcdlaaGreatDoor.Ext
