/- What a decoder of an answer's body is in memory: its block, the rows of its line and of its body; and what a call on it leaves alone. -/
import Derived.Test.YtfpcoanlkfgagaaGreatDoorBuf
import Derived.Test.YtfpcoanlkfgagaaGreatDoorDec
namespace Go.Proofs.YtfpcoanlkfgagaaGreatDoor.DecW
open Go.RowKit Go.Proofs.YtfpcoanlkfgagaaGreatDoorW.PrintWords Go.Proofs.YtfpcoanlkfgagaaGreatDoor.Ext Go.Proofs.YtfpcoanlkfgagaaGreatDoor.Dec

/-- All blocks of w but those of F are in w' as they were. -/
structure Keep (F : Nat → Prop) (w w' : World) : Prop where
  os : w'.os = w.os
  tape : w'.tape = w.tape
  output : w'.output = w.output
  size : w.heap.size ≤ w'.heap.size
  block : ∀ k, k < w.heap.size → ¬ F k → w'.heap[k]? = w.heap[k]?
section
variable {F G : Nat → Prop} {a b c w w' : World}
theorem Keep.refl (F : Nat → Prop) (w : World) : Keep F w w := ⟨rfl, rfl, rfl, Nat.le_refl _, fun _ _ _ => rfl⟩
theorem Keep.trans (h : Keep F a b) (k : Keep G b c) (hF : ∀ i, i < a.heap.size → G i → F i) : Keep F a c :=
  ⟨k.os.trans h.os, k.tape.trans h.tape, k.output.trans h.output, Nat.le_trans h.size k.size, fun i hi hn => (k.block i (Nat.lt_of_lt_of_le hi h.size) (fun hg => hn (hF i hi hg))).trans (h.block i hi hn)⟩
theorem Keep.mono (h : Keep G a b) (hF : ∀ i, i < a.heap.size → G i → F i) : Keep F a b := (Keep.refl F a).trans h hF
theorem Keep.of_below (h : Below a.heap.size a b) : Keep F a b := ⟨h.os, h.tape, h.output, h.size, fun i hi _ => h.block i hi⟩
theorem Keep.step (h : Keep F a b) (k : Below b.heap.size b c) : Keep F a c := h.trans (Keep.of_below (F := F) k) fun _ _ => id
theorem Keep.set (h : Keep F a w) {g : Nat} (hg : F g) (i : Nat) (v : Value) : Keep F a (w.setCell ⟨g, i, none⟩ v) :=
  ⟨h.os, h.tape, h.output, Nat.le_trans h.size (by simp [World.setCell]), fun k hk hn => (Below.heap_setCell w ⟨g, i, none⟩ v k (fun e => hn (e ▸ hg))).trans (h.block k hk hn)⟩
theorem Keep.alloc (h : Keep F a w) (o : Obj) : Keep F a (w.alloc o) := h.step (below_alloc (Below.refl _ _) o)
theorem Keep.drew (h : Keep F a w) : Keep F a w.drew := h.step (below_drew (Below.refl _ _))
theorem Keep.drewN (h : Keep F a w) (n : Nat) : Keep F a (w.drewN n) := h.step (pw_below_drewN (Below.refl _ _) n)
theorem Keep.grown {row : Option Nat} (h : Keep F a w) (hg : w.grownBy w' row) (hr : ∀ k, row = some k → k < a.heap.size → F k) : Keep F a w' :=
  h.trans (G := fun k => row = some k) ⟨hg.os, hg.tape, hg.output, hg.size, fun k hk hn => hg.block k hk (fun e => hn e.symm)⟩ fun k hk e => hr k e hk
theorem Keep.below {B : Nat} (h : Keep F a b) (hF : ∀ k, F k → B ≤ k) (hB : B ≤ a.heap.size) : Below B a b :=
  ⟨h.os, h.tape, h.output, h.size, fun k hk => h.block k (by omega) (fun hf => by have := hF k hf; omega)⟩
theorem Keep.blk {g : Nat} {o : Obj} (h : Keep F a b) (hg : a.heap[g]? = some o) (hn : ¬ F g) : b.heap[g]? = some o := (h.block g (blk_lt hg) hn).trans hg
end
/-- A row of bytes of one's own. -/
def Own (w : World) (v : Value) (xs : List Int) : Prop := w.ownsRow 0 5 1 v xs.length (nums .u8 xs)
theorem Own.keep {F : Nat → Prop} {w w' : World} {v : Value} {xs : List Int} (h : Own w v xs) (k : Keep F w w') (hn : ∀ i, v.ownBlock = some i → ¬ F i) : Own w' v xs := by
  obtain ⟨h1, h2⟩ := h
  refine ⟨h1, h2.imp id ?_⟩
  rintro ⟨g, cap, cur, he, hb, hr, h3⟩
  exact ⟨g, cap, cur, he, hb, k.blk hr (hn g (by rw [he]; rfl)), h3⟩
theorem Own.lt {w : World} {v : Value} {xs : List Int} (h : Own w v xs) {k : Nat} (hk : v.ownBlock = some k) : k < w.heap.size := (World.ownsRow.lt h k hk).2
theorem own_slice2 {w : World} {v : Value} {xs : List Int} (h : Own w v xs) : ∃ A n, v = .slice A xs.length n ∧ xs.length ≤ n := by
  rcases h.2 with ⟨rfl, h0⟩ | ⟨g, cap, cur, rfl, _, _, hc, _⟩
  · exact ⟨none, 0, by rw [h0], by omega⟩
  · exact ⟨_, _, rfl, hc⟩
theorem own_empty (w : World) : Own w (.slice none 0 0) [] := own_nil w 0 5 1

def cellsD (vn vl vb : Value) (d : D) : Array Value := #[vn, .int .i64 d.most, .int .i64 d.left, .int .i64 d.all, vl, .int .i64 d.tail, vb, .bool d.opn, .bool d.done, .int .i64 d.e]
/-- The decoder at block g: its cells, its rows of bytes. -/
structure IsB (w : World) (g : Nat) (vn vl vb : Value) (d : D) : Prop where
  blk : w.heap[g]? = some (.cells (cellsD vn vl vb d) 72 (0, 0))
  line : Own w vl d.line
  body : Own w vb d.body
  gl : vl.ownBlock ≠ some g
  gb : vb.ownBlock ≠ some g
  lb : ∀ k, vl.ownBlock = some k → vb.ownBlock ≠ some k
/-- The blocks that a call on the decoder may write. -/
def Wt (g : Nat) (vl vb : Value) (k : Nat) : Prop := k = g ∨ vl.ownBlock = some k ∨ vb.ownBlock = some k
theorem IsB.keep {F : Nat → Prop} {w w' : World} {g : Nat} {vn vl vb : Value} {d : D} (h : IsB w g vn vl vb d) (k : Keep F w w') (hn : ∀ i, Wt g vl vb i → ¬ F i) : IsB w' g vn vl vb d :=
  ⟨k.blk h.blk (hn g (.inl rfl)), h.line.keep k fun i hi => hn i (.inr (.inl hi)), h.body.keep k fun i hi => hn i (.inr (.inr hi)), h.gl, h.gb, h.lb⟩
theorem IsB.below {w w' : World} {g : Nat} {vn vl vb : Value} {d : D} (h : IsB w g vn vl vb d) (k : Below w.heap.size w w') : IsB w' g vn vl vb d := h.keep (Keep.of_below (F := fun _ => False) k) fun _ _ => id
/-- A store into one of the decoder's cells. -/
theorem IsB.put {w : World} {g : Nat} {vn vl vb vn' : Value} {d d' : D} (h : IsB w g vn vl vb d) (i : Nat) (u : Value) (e : (cellsD vn vl vb d).setIfInBounds i u = cellsD vn' vl vb d') (hl : d'.line = d.line) (hb : d'.body = d.body) :
    IsB (w.setCell ⟨g, i, none⟩ u) g vn' vl vb d' := by
  have k : Keep (fun k => k = g) w (w.setCell ⟨g, i, none⟩ u) := (Keep.refl (fun k => k = g) w).set (g := g) rfl i u
  exact ⟨blk_put h.blk i u e, hl ▸ h.line.keep k fun j hj e => h.gl (e ▸ hj), hb ▸ h.body.keep k fun j hj e => h.gb (e ▸ hj), h.gl, h.gb, h.lb⟩
theorem IsB.go {w : World} {g : Nat} {vn vl vb : Value} {d : D} (h : IsB w g vn vl vb d) (s : St) : IsB w g vn vl vb (d.go s) := ⟨h.blk, h.line, h.body, h.gl, h.gb, h.lb⟩
theorem IsB.cell {w : World} {g : Nat} {vn vl vb : Value} {d : D} (h : IsB w g vn vl vb d) (i : Nat) : w.cell? ⟨g, i, none⟩ = (cellsD vn vl vb d)[i]? := blk_cell h.blk i
theorem IsB.fz {w : World} {g : Nat} {vn vl vb : Value} {d : D} (h : IsB w g vn vl vb d) (i : Nat) : w.frozen? ⟨g, i, none⟩ = false := blk_frozen h.blk i
theorem IsB.lt {w : World} {g : Nat} {vn vl vb : Value} {d : D} (h : IsB w g vn vl vb d) : g < w.heap.size := blk_lt h.blk
/-- A function's value that captures nothing. -/
def fnS (k : Nat) : Value := .func (.func k) #[] #[]
/-- A function's value that 'must' has made, of a byte 10, then a size. -/
def Must2 (w : World) (G : Nat → Prop) (v : Value) : Prop :=
  ∃ a b, v = .func (.func 90) #[] #[.pointer (some ⟨a, 0, none⟩), .pointer (some ⟨b, 0, none⟩)] ∧ G a ∧ G b ∧ w.heap[a]? = some (.cells #[.int .u8 10] 5 (0, 0)) ∧ w.heap[b]? = some (.cells #[fnS 32] 70 (0, 0))
/-- The same of a byte 13, then that one. -/
def Must1 (w : World) (G : Nat → Prop) (v : Value) : Prop :=
  ∃ a b v2, v = .func (.func 90) #[] #[.pointer (some ⟨a, 0, none⟩), .pointer (some ⟨b, 0, none⟩)] ∧ G a ∧ G b ∧ w.heap[a]? = some (.cells #[.int .u8 13] 5 (0, 0)) ∧ w.heap[b]? = some (.cells #[v2] 70 (0, 0)) ∧ Must2 w G v2
/-- What a function's value stands for; what it captures lies in G. -/
def FnV (w : World) (G : Nat → Prop) (v : Value) : St → Prop
  | .nil => v = .nilFunc
  | .size => v = fnS 32
  | .whole => v = fnS 33
  | .rest => v = fnS 36
  | .chunk => v = fnS 48
  | .trailer => v = fnS 47
  | .must1 => Must1 w G v
  | .must2 => Must2 w G v
theorem Must2.keep {F G G' : Nat → Prop} {w w' : World} {v : Value} (h : Must2 w G v) (k : Keep F w w') (hn : ∀ i, i < w.heap.size → G i → ¬ F i) (hg : ∀ i, i < w.heap.size → G i → G' i) : Must2 w' G' v := by
  obtain ⟨a, b, rfl, ha, hb, ca, cb⟩ := h
  exact ⟨a, b, rfl, hg a (blk_lt ca) ha, hg b (blk_lt cb) hb, k.blk ca (hn a (blk_lt ca) ha), k.blk cb (hn b (blk_lt cb) hb)⟩
theorem FnV.keep {F G G' : Nat → Prop} {w w' : World} {v : Value} {s : St} (h : FnV w G v s) (k : Keep F w w') (hn : ∀ i, i < w.heap.size → G i → ¬ F i) (hg : ∀ i, i < w.heap.size → G i → G' i) : FnV w' G' v s := by
  cases s with
  | must1 =>
    obtain ⟨a, b, v2, rfl, ha, hb, ca, cb, h2⟩ := h
    exact ⟨a, b, v2, rfl, hg a (blk_lt ca) ha, hg b (blk_lt cb) hb, k.blk ca (hn a (blk_lt ca) ha), k.blk cb (hn b (blk_lt cb) hb), h2.keep k hn hg⟩
  | must2 => exact Must2.keep h k hn hg
  | _ => exact h
/-- The decoder at block g; all that is its own lies in F. -/
def IsD (w : World) (F : Nat → Prop) (g : Nat) (d : D) : Prop :=
  ∃ vn vl vb, IsB w g vn vl vb d ∧ (∀ k, Wt g vl vb k → F k) ∧ FnV w (fun k => F k ∧ ¬ Wt g vl vb k) vn d.st
theorem IsD.keep {F G : Nat → Prop} {w w' : World} {g : Nat} {d : D} (h : IsD w F g d) (k : Keep G w w') (hn : ∀ i, i < w.heap.size → F i → ¬ G i) : IsD w' F g d := by
  obtain ⟨vn, vl, vb, hB, hF, hV⟩ := h
  have hlt : ∀ i, Wt g vl vb i → i < w.heap.size := by
    rintro i (rfl | hi | hi)
    · exact hB.lt
    · exact hB.line.lt hi
    · exact hB.body.lt hi
  exact ⟨vn, vl, vb, hB.keep k fun i hi => hn i (hlt i hi) (hF i hi), hF, hV.keep k (fun i hi hg => hn i hi hg.1) fun i _ hg => hg⟩
theorem IsD.below {F : Nat → Prop} {w w' : World} {g : Nat} {d : D} (h : IsD w F g d) (k : Below w.heap.size w w') : IsD w' F g d := h.keep (Keep.of_below (F := fun _ => False) k) fun _ _ _ => id
theorem IsD.lt {w : World} {F : Nat → Prop} {g : Nat} {d : D} (h : IsD w F g d) : g < w.heap.size := by
  obtain ⟨_, _, _, hB, _, _⟩ := h
  exact hB.lt
/-- What a state's function leaves: the decoder is as d' (its 'next' is what it was, or nothing); v is what comes next. -/
def After (w w' : World) (F : Nat → Prop) (g : Nat) (vn v : Value) (d' : D) : Prop :=
  ∃ vl vb, IsB w' g (if d'.st = .nil then .nilFunc else vn) vl vb d' ∧ (∀ k, Wt g vl vb k → F k ∨ w.heap.size ≤ k) ∧ (d'.st ≠ .nil → FnV w' (fun k => (F k ∨ w.heap.size ≤ k) ∧ ¬ Wt g vl vb k) v d'.st) ∧ Keep F w w'
/-- 'wrong' or 'ends' has been called at the end, where IsB held before. -/
theorem After.nil {w w' : World} {F : Nat → Prop} {g : Nat} {vn v vl vb : Value} {d' : D} (hs : d'.st = .nil) (h : IsB w' g .nilFunc vl vb d') (hW : ∀ k, Wt g vl vb k → F k ∨ w.heap.size ≤ k) (k : Keep F w w') : After w w' F g vn v d' :=
  ⟨vl, vb, by rw [if_pos hs]; exact h, hW, fun e => absurd hs e, k⟩
theorem After.on {w w' : World} {F : Nat → Prop} {g : Nat} {vn v vl vb : Value} {d' : D} (hs : d'.st ≠ .nil) (h : IsB w' g vn vl vb d') (hW : ∀ k, Wt g vl vb k → F k ∨ w.heap.size ≤ k) (hV : FnV w' (fun k => (F k ∨ w.heap.size ≤ k) ∧ ¬ Wt g vl vb k) v d'.st) (k : Keep F w w') : After w w' F g vn v d' :=
  ⟨vl, vb, by rw [if_neg hs]; exact h, hW, fun _ => hV, k⟩
theorem wt_put {w : World} {F : Nat → Prop} {g : Nat} {vl vb vb' : Value} (hF : ∀ k, Wt g vl vb k → F k) (hat : vb'.ownBlock = vb.ownBlock ∨ ∃ b, vb'.ownBlock = some b ∧ w.heap.size ≤ b) : ∀ k, Wt g vl vb' k → F k ∨ w.heap.size ≤ k := by
  rintro k (h | h | h)
  · exact .inl (hF k (.inl h))
  · exact .inl (hF k (.inr (.inl h)))
  · rcases hat with e | ⟨b, e, hb⟩
    · exact .inl (hF k (.inr (.inr (e ▸ h))))
    · rw [e] at h; simp at h; subst h; exact .inr hb
theorem wt_line {w : World} {F : Nat → Prop} {g : Nat} {vl vb vl' : Value} (hF : ∀ k, Wt g vl vb k → F k) (hat : vl'.ownBlock = vl.ownBlock ∨ ∃ b, vl'.ownBlock = some b ∧ w.heap.size ≤ b) : ∀ k, Wt g vl' vb k → F k ∨ w.heap.size ≤ k := by
  rintro k (h | h | h)
  · exact .inl (hF k (.inl h))
  · rcases hat with e | ⟨b, e, hb⟩
    · exact .inl (hF k (.inr (.inl (e ▸ h))))
    · rw [e] at h; simp at h; subst h; exact .inr hb
  · exact .inl (hF k (.inr (.inr h)))
end Go.Proofs.YtfpcoanlkfgagaaGreatDoor.DecW
