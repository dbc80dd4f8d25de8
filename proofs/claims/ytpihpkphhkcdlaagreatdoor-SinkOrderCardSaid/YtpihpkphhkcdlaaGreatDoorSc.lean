/- What a sink is in memory. -/
import Derived.Test.YtpihpkphhkcdlaaGreatDoorDe
import Derived.Maps.OwnSet
import Derived.Maps.OwnOps
import Derived.Maps.RangeWalk
import Derived.Maps.Ext
import Derived.Lib.SlKeysI
namespace Go.Proofs.YtpihpkphhkcdlaaGreatDoor.Sk
open Go.RowKit Go.Maps Go.Proofs.YtpihpkphhkcdlaaGreatDoorW.PrintWords Go.Proofs.YtpihpkphhkcdlaaGreatDoorW.PrintLast Go.Proofs.YtpihpkphhkcdlaaGreatDoor.Tab Go.Proofs.YtpihpkphhkcdlaaGreatDoor.Kp Go.Proofs.YtpihpkphhkcdlaaGreatDoor.Pd Go.Proofs.YtpihpkphhkcdlaaGreatDoor.Fr Go.Proofs.YtpihpkphhkcdlaaGreatDoor.May Go.Proofs.YtpihpkphhkcdlaaGreatDoor.De
set_option linter.unusedVariables false
set_option linter.unusedSimpArgs false
/-- A map's element, as it stands. -/
def idR (v : Value) : Option (DataW Value × List MemPlace) := some (.held v, [])
/-- .. of four cells. -/
def kR : Value → Option (DataW Value × List MemPlace)
  | .agg cs => if cs.size = 4 ∧ cs.all (·.oneCell') = true then some (.held (.agg cs), []) else none
  | _ => none
theorem kR_inv (v : Value) (y : DataW Value × List MemPlace) (h : kR v = some y) : ∃ q : Value × Value × Value × Value, v = (fun q : Value × Value × Value × Value => Value.agg #[q.1, q.2.1, q.2.2.1, q.2.2.2]) q := by
  unfold kR at h
  split at h
  · rename_i cs
    split at h
    · rename_i h4
      obtain ⟨l⟩ := cs
      match l, h4.1 with
      | [a, b, c, d], _ => exact ⟨(a, b, c, d), rfl⟩
    · cases h
  · cases h
theorem kR_one {cs : Array Value} {y : DataW Value × List MemPlace} (h : kR (.agg cs) = some y) : cs.all (·.oneCell') = true := by
  have h2 : (if cs.size = 4 ∧ cs.all (·.oneCell') = true then some (DataW.held (.agg cs), ([] : List MemPlace)) else none) = some y := h
  split at h2
  · rename_i h4; exact h4.2
  · cases h2
theorem kR_held {v : Value} {y : DataW Value × List MemPlace} (h : kR v = some y) : y = (.held v, []) := by
  unfold kR at h
  split at h
  · split at h
    · injection h with h; exact h.symm
    · cases h
  · cases h
theorem kR_mk (a b c d : Value) (h : (#[a, b, c, d] : Array Value).all (·.oneCell') = true) : kR (.agg #[a, b, c, d]) = some (.held (.agg #[a, b, c, d]), []) := if_pos ⟨rfl, h⟩
theorem kL : Keyed Tryz.prog 40 := int_keyed Tryz.underlying40
theorem kW : Keyed Tryz.prog 2 := int_keyed Tryz.underlying2
abbrev uL (n : Nat) : Lit := .int .u64 (n : Int)
abbrev iL (n : Int) : Lit := .int .i64 n
theorem wf_u {n : Nat} (h : n < 18446744073709551616) : (uL n).wf = true := by
  unfold uL Lit.wf
  simp [IntKind.min, IntKind.max, IntKind.bits, IntKind.signed]
  omega
theorem wf_i {n : Int} (h0 : -9223372036854775808 ≤ n) (h1 : n < 9223372036854775808) : (iL n).wf = true := by
  unfold iL Lit.wf
  simp [IntKind.min, IntKind.max, IntKind.bits, IntKind.signed]
  omega
/-- A kept frame and its bytes, as a value and in memory; its rows lie where ok says. -/
def KeptV (w : World) (ok : Nat → Prop) (v : Value) (f : Frm) (b : List UInt8) : Prop :=
  ∃ Ar cr Ab cb, v = .agg #[.int .u64 (f.seq : Nat), .int .i64 f.win, .slice Ar f.recs.length cr, .slice Ab b.length cb] ∧ f.recs.length ≤ cr ∧ RecsAt w Ar f.win f.recs ∧ b.length ≤ cb ∧ ReadsInt w .u8 Ab b.length (nb b) ∧ (∀ ad, Ar = some ad → 0 < f.recs.length → ok ad.block) ∧ (∀ ad, Ab = some ad → 0 < b.length → ok ad.block)
theorem RecsAt.keep {F : Nat → Prop} {w W : World} {A : Option Addr} {win : Int} {rs : List Rec} (h : RecsAt w A win rs) (k : Keep F w W) (hF : ∀ ad, A = some ad → 0 < rs.length → ¬ F ad.block) : RecsAt W A win rs :=
  ⟨h.1, fun hp => by
    obtain ⟨gr, e, hl, hc⟩ := h.2 hp
    refine ⟨gr, e, Nat.lt_of_lt_of_le hl k.size, fun i hi j v hv => ?_⟩
    have h1 := hc i hi j v hv
    unfold World.cell? at *
    rw [k.block _ hl (hF _ e hp)]
    exact h1⟩
theorem reads_keepF {F : Nat → Prop} {w W : World} {A : Option Addr} {n : Nat} {xs : List Int} (h : ReadsInt w .u8 A n xs) (k : Keep F w W) (hF : ∀ ad, A = some ad → 0 < n → ¬ F ad.block) : ReadsInt W .u8 A n xs := by
  refine ⟨h.1, h.2.1, fun hn => ?_⟩
  obtain ⟨ad, e, hcell⟩ := h.2.2 hn
  refine ⟨ad, e, fun j hj => ?_⟩
  have h1 := hcell j hj
  have hbk : (ad.add j).block = ad.block := by unfold Addr.add; split <;> rfl
  have hlt := reads_lt h ad e hn
  unfold World.cell? at *
  rw [hbk] at h1 ⊢
  rw [k.block _ hlt (hF _ e hn)]
  exact h1
theorem KeptV.keep {F ok : Nat → Prop} {w W : World} {v : Value} {f : Frm} {b : List UInt8} (h : KeptV w ok v f b) (k : Keep F w W) (hF : ∀ j, ok j → ¬ F j) : KeptV W ok v f b := by
  obtain ⟨Ar, cr, Ab, cb, e, h1, h2, h3, h4, h5, h6⟩ := h
  exact ⟨Ar, cr, Ab, cb, e, h1, RecsAt.keep h2 k fun ad e hn => hF _ (h5 ad e hn), h3, reads_keepF h4 k fun ad e hn => hF _ (h6 ad e hn), h5, h6⟩
abbrev K := List (Frm × List UInt8)
/-- The two maps' data say what is kept. -/
structure Says (w : World) (ok : Nat → Prop) (D D2 : DataW Value) (k : K) : Prop where
  has1 : ∀ q : Nat, has D (uL q) = k.any fun e => decide (e.1.seq = q)
  val1 : ∀ e ∈ k, ∃ v, (∀ z, D.atKey (uL e.1.seq) z = .held v) ∧ KeptV w ok v e.1 e.2
  has2 : ∀ q : Int, has D2 (iL q) = k.any fun e => decide (e.1.win = q)
  val2 : ∀ e ∈ k, ∀ z, D2.atKey (iL e.1.win) z = .held (.int .u64 (e.1.seq : Nat))
  size1 : Maps.size D = k.length
  size2 : Maps.size D2 = k.length
  seqs : k.Pairwise fun a b => a.1.seq ≠ b.1.seq
  wins : k.Pairwise fun a b => a.1.win ≠ b.1.win
  fits : ∀ e ∈ k, e.1.seq < 18446744073709551616 ∧ -9223372036854775808 ≤ e.1.win ∧ e.1.win < 9223372036854775808
/-- A sink's own block. -/
def skC (ml mw : Option Nat) (c : List Int) : Array Value := #[.map ml, .map mw, .int .i64 (c.getD 0 0), .int .i64 (c.getD 1 0), .int .i64 (c.getD 2 0), .int .i64 (c.getD 3 0), .int .i64 (c.getD 4 0), .int .i64 (c.getD 5 0)]
structure IsS (w : World) (ok : Nat → Prop) (g ml mw : Nat) (k : K) (c : List Int) : Prop where
  blk : w.heap[g]? = some (.cells (skC (some ml) (some mw) c) 54 (0, 0))
  maps : ∃ D D2, w.ownsMap Tryz.prog 40 kR ml k.length D ∧ w.ownsMap Tryz.prog 2 idR mw k.length D2 ∧ Says w ok D D2 k
  apart : g ≠ ml ∧ g ≠ mw ∧ ml ≠ mw
  nok : ¬ ok g ∧ ¬ ok ml ∧ ¬ ok mw
theorem own_map_keep {R : Value → Option (DataW Value × List MemPlace)} {F : Nat → Prop} {w W : World} {kt : TypeId} {b n : Nat} {D : DataW Value} (h : w.ownsMap Tryz.prog kt R b n D) (k : Keep F w W) (hF : ¬ F b) : W.ownsMap Tryz.prog kt R b n D := by
  obtain ⟨es, clock, hb, r⟩ := h
  exact ⟨es, clock, k.blk hb hF, r⟩
theorem Says.keep {F ok : Nat → Prop} {w W : World} {D D2 : DataW Value} {kk : K} (h : Says w ok D D2 kk) (k : Keep F w W) (hF : ∀ j, ok j → ¬ F j) : Says W ok D D2 kk :=
  ⟨h.has1, fun e he => by
    obtain ⟨v, h1, h2⟩ := h.val1 e he
    exact ⟨v, h1, h2.keep k hF⟩, h.has2, h.val2, h.size1, h.size2, h.seqs, h.wins, h.fits⟩
theorem IsS.keep {F ok : Nat → Prop} {w W : World} {g ml mw : Nat} {kk : K} {c : List Int} (h : IsS w ok g ml mw kk c) (k : Keep F w W) (h1 : ¬ F g) (h2 : ¬ F ml) (h3 : ¬ F mw) (hF : ∀ j, ok j → ¬ F j) : IsS W ok g ml mw kk c := by
  obtain ⟨hb, ⟨D, D2, a, b, s⟩, p, q⟩ := h
  exact ⟨k.blk hb h1, ⟨D, D2, own_map_keep a k h2, own_map_keep b k h3, s.keep k hF⟩, p, q⟩
theorem IsS.below {ok : Nat → Prop} {w W : World} {g ml mw : Nat} {kk : K} {c : List Int} (h : IsS w ok g ml mw kk c) (k : Below w.heap.size w W) : IsS W ok g ml mw kk c :=
  h.keep (Keep.of_below (F := fun _ => False) k) id id id fun _ _ => id
theorem new_says (w : World) (ok : Nat → Prop) : Says w ok (.map []) (.map []) [] :=
  ⟨fun _ => rfl, fun _ h => absurd h (by simp), fun _ => rfl, fun _ h => absurd h (by simp), rfl, rfl, List.Pairwise.nil, List.Pairwise.nil, fun _ h => absurd h (by simp)⟩
set_option maxHeartbeats 4000000 in
set_option maxRecDepth 100000 in
theorem new_calls (w : World) : Calls Tryz.prog 8 #[] w fun e w' => e = .returned (.pointer (some ⟨w.heap.size + 1 + 1, 0, none⟩)) ∧ (∀ ok : Nat → Prop, (¬ ok (w.heap.size + 1 + 1) ∧ ¬ ok w.heap.size ∧ ¬ ok (w.heap.size + 1)) → IsS w' ok (w.heap.size + 1 + 1) w.heap.size (w.heap.size + 1) [] []) ∧ Below w.heap.size w w' := by
  have hmm := @run_makeMap Tryz.prog
  go_enter Tryz.func8, Tryz.ntmps8
  go_wp2
  go_ret
  have b1 : Below w.heap.size w (w.alloc (.map #[] 0)) := below_alloc (Below.refl _ _) _
  refine ⟨rfl, fun ok hok => ⟨?_, ⟨.map [], .map [], ?_, ?_, new_says _ ok⟩, by omega, hok⟩, below_alloc (below_alloc b1 _) _⟩
  · have := blk_new ((w.alloc (Obj.map #[] 0)).alloc (Obj.map #[] 0)) (skC (some w.heap.size) (some (w.heap.size + 1)) [] |> fun c => Obj.cells c 54)
    simpa [skC] using this
  · exact ((World.ownsMap_made w Tryz.prog 40 kR).alloc _).alloc _
  · have := (World.ownsMap_made (w.alloc (.map #[] 0)) Tryz.prog 2 idR).alloc (Obj.cells (skC (some w.heap.size) (some (w.heap.size + 1)) []) 54)
    simpa [skC] using this
end Go.Proofs.YtpihpkphhkcdlaaGreatDoor.Sk
namespace Go.Proofs.YtpihpkphhkcdlaaGreatDoor.Lk
open Go.RowKit Go.Maps Go.Proofs.YtpihpkphhkcdlaaGreatDoorW.PrintWords Go.Proofs.YtpihpkphhkcdlaaGreatDoorW.PrintLast Go.Proofs.YtpihpkphhkcdlaaGreatDoor.Tab Go.Proofs.YtpihpkphhkcdlaaGreatDoor.Kp Go.Proofs.YtpihpkphhkcdlaaGreatDoor.Pd Go.Proofs.YtpihpkphhkcdlaaGreatDoor.Fr Go.Proofs.YtpihpkphhkcdlaaGreatDoor.May Go.Proofs.YtpihpkphhkcdlaaGreatDoor.De Go.Proofs.YtpihpkphhkcdlaaGreatDoor.Sk
set_option linter.unusedVariables false
set_option linter.unusedSimpArgs false
def unheld : DataW Value → Value
  | .held v => v
  | _ => undef
def zeroKept : Value := .agg #[.int .u64 0, .int .i64 0, .slice none 0 0, .slice none 0 0]
theorem zero_kept (w : World) : (zeroValue 71).run Tryz.prog w = .ok zeroKept w := by kernel_rfl
theorem zero_u64 (w : World) : (zeroValue 40).run Tryz.prog w = .ok (.int .u64 0) w := by kernel_rfl
theorem look1 {w : World} {ml n : Nat} {D : DataW Value} (h : w.ownsMap Tryz.prog 40 kR ml n D) (q : Nat) (hq : q < 18446744073709551616) :
    (Instr.lookup 51 (.map (some ml)) (.int .u64 (q : Int)) true).run Tryz.prog w = .ok (.tuple #[unheld (D.atKey (uL q) (.held zeroKept)), .bool (has D (uL q))]) w := by
  obtain ⟨v, ps, hrun, hv⟩ := h.look_ok kL Tryz.underlying51 (zero_kept w) (zd := .held zeroKept) (zp := []) (kR_mk _ _ _ _ (by simp [Value.oneCell'])) (keyOf_int_mk Tryz.underlying40 (wf_u hq))
  have h1 := congrArg Prod.fst (kR_held hv)
  dsimp only at h1
  rw [hrun, h1]
  simp only [unheld]
theorem look1v {w : World} {ml n : Nat} {D : DataW Value} (h : w.ownsMap Tryz.prog 40 kR ml n D) (q : Nat) (hq : q < 18446744073709551616) :
    (Instr.lookup 51 (.map (some ml)) (.int .u64 (q : Int)) false).run Tryz.prog w = .ok (unheld (D.atKey (uL q) (.held zeroKept))) w := by
  obtain ⟨v, ps, hrun, hv⟩ := h.lookup kL Tryz.underlying51 (zero_kept w) (zd := .held zeroKept) (zp := []) (kR_mk _ _ _ _ (by simp [Value.oneCell'])) (keyOf_int_mk Tryz.underlying40 (wf_u hq))
  have h1 := congrArg Prod.fst (kR_held hv)
  dsimp only at h1
  rw [hrun, h1]
  simp only [unheld]
theorem look2 {w : World} {mw n : Nat} {D : DataW Value} (h : w.ownsMap Tryz.prog 2 idR mw n D) (q : Int) (h0 : -9223372036854775808 ≤ q) (h1 : q < 9223372036854775808) :
    (Instr.lookup 52 (.map (some mw)) (.int .i64 q) true).run Tryz.prog w = .ok (.tuple #[unheld (D.atKey (iL q) (.held (.int .u64 0))), .bool (has D (iL q))]) w := by
  obtain ⟨v, ps, hrun, hv⟩ := h.look_ok kW Tryz.underlying52 (zero_u64 w) (zd := .held (.int .u64 0)) (zp := []) rfl (keyOf_int_mk Tryz.underlying2 (wf_i h0 h1))
  clear h1
  have h1 := congrArg Prod.fst (Option.some.inj hv)
  dsimp only at h1
  rw [hrun, ← h1]
  simp only [unheld]
theorem look2v {w : World} {mw n : Nat} {D : DataW Value} (h : w.ownsMap Tryz.prog 2 idR mw n D) (q : Int) (h0 : -9223372036854775808 ≤ q) (h1 : q < 9223372036854775808) :
    (Instr.lookup 52 (.map (some mw)) (.int .i64 q) false).run Tryz.prog w = .ok (unheld (D.atKey (iL q) (.held (.int .u64 0)))) w := by
  obtain ⟨v, ps, hrun, hv⟩ := h.lookup kW Tryz.underlying52 (zero_u64 w) (zd := .held (.int .u64 0)) (zp := []) rfl (keyOf_int_mk Tryz.underlying2 (wf_i h0 h1))
  have h1 := congrArg Prod.fst (Option.some.inj hv)
  dsimp only at h1
  rw [hrun, ← h1]
  simp only [unheld]
theorem lenL {w : World} {ml n : Nat} {D : DataW Value} (h : w.ownsMap Tryz.prog 40 kR ml n D) : (Builtin.len_ #[51] 3 #[.map (some ml)]).run Tryz.prog w = .ok (.int .i64 (Maps.size D)) w := h.len Tryz.underlying51 3
theorem keyW {f : Frm} : True := trivial
/-- decP's frames fit into their kinds. -/
theorem zig_bd (n : Nat) (h : n < 18446744073709551616) : -9223372036854775808 ≤ zig n ∧ zig n < 9223372036854775808 := by
  unfold zig
  split <;> omega
theorem numP_bd (s : S) : (numP s).1 < 18446744073709551616 := by
  have := (Pk.rd_bd s.1).1
  unfold numP
  dsimp only
  split
  · exact this
  · decide
theorem sgP_bd (s : S) : -9223372036854775808 ≤ (sgP s).1 ∧ (sgP s).1 < 9223372036854775808 := by
  have := zig_bd _ (Pk.rd_bd s.1).1
  unfold sgP
  dsimp only
  split
  · exact this
  · decide
theorem decP_bd (bs : List UInt8) : (decP bs).1.seq < 18446744073709551616 ∧ -9223372036854775808 ≤ (decP bs).1.win ∧ (decP bs).1.win < 9223372036854775808 := by
  have hz : (0 : Nat) < 18446744073709551616 ∧ -9223372036854775808 ≤ (0 : Int) ∧ (0 : Int) < 9223372036854775808 := by decide
  unfold decP
  split
  · exact hz
  · split
    · exact hz
    · split
      · exact hz
      · dsimp only
        split
        · exact hz
        · split
          · exact hz
          · exact ⟨numP_bd _, sgP_bd _⟩
/-- What becomes of bytes, and what is kept then. -/
def tookP (k : K) (bs : List UInt8) : Int × K :=
  if (decP bs).2 ≠ 0 then (5, k) else
  match k.find? fun e => decide (e.1.seq = (decP bs).1.seq) with
  | some e => (if e.2 = bs then 2 else 3, k)
  | none => if k.any (fun e => decide (e.1.win = (decP bs).1.win)) then (4, k) else if 65536 ≤ k.length then (5, k) else (1, ((decP bs).1, bs) :: k)
end Go.Proofs.YtpihpkphhkcdlaaGreatDoor.Lk
namespace Go.Proofs.YtpihpkphhkcdlaaGreatDoor.Cl
open Go.RowKit Go.Maps Go.Proofs.YtpihpkphhkcdlaaGreatDoorW.PrintWords Go.Proofs.YtpihpkphhkcdlaaGreatDoorW.PrintLast Go.Proofs.YtpihpkphhkcdlaaGreatDoor.Tab Go.Proofs.YtpihpkphhkcdlaaGreatDoor.Kp Go.Proofs.YtpihpkphhkcdlaaGreatDoor.Pd Go.Proofs.YtpihpkphhkcdlaaGreatDoor.Fr Go.Proofs.YtpihpkphhkcdlaaGreatDoor.May Go.Proofs.YtpihpkphhkcdlaaGreatDoor.De Go.Proofs.YtpihpkphhkcdlaaGreatDoor.Sk Go.Proofs.YtpihpkphhkcdlaaGreatDoor.Eq
set_option linter.unusedVariables false
set_option linter.unusedSimpArgs false
theorem info5 : (Tryz.prog.info? 5).map (fun i => (i.zero, i.size, i.bytes)) = some (some (.int .u8 0), 1, 1) := by kernel_rfl
theorem eql_sl (ad : Addr) (n c : Nat) (W : World) : (binOp .eql 29 (.slice (some ad) n c) (.slice none 0 0)).run Tryz.prog W = .ok (.bool false) W := by kernel_rfl
set_option maxHeartbeats 2000000 in
set_option maxRecDepth 100000 in
theorem clone_calls {w : World} (ad : Addr) (bs : List UInt8) (cp : Nat) (h : ReadsInt w .u8 (some ad) bs.length (nb bs)) (hm : bs.length ≤ 1000000) :
    Calls Tryz.prog 42 #[.slice (some ad) bs.length cp] w fun e w' => ∃ A' c', e = .returned (.slice A' bs.length c') ∧ bs.length ≤ c' ∧ ReadsInt w' .u8 A' bs.length (nb bs) ∧ (∀ a, A' = some a → w.heap.size ≤ a.block) ∧ Below w.heap.size w w' := by
  have hq := eql_sl
  have HRR := Aside0.mk h
  have HM := Aside0.mk hm
  clear h hm
  go_enter Tryz.func42, Tryz.ntmps42
  have HO := Aside0.mk (own_lit w w.heap.size 5 .u8 [] (Nat.le_refl _) (by simp))
  go_wp2_with (first | (at_builtin; refine print_append_row (w0 := w) w.heap.size rfl (.tmp 5) (.tmp 6) 29 5 .u8 1 rfl Tryz.underlying29 info5 (by decide) (.slice (some ⟨w.heap.size, 0, none⟩) 0 0) [] (nb bs) (some ad) bs.length cp rfl rfl HO.out (HRR.out.allocS _) (below_alloc (Below.refl _ _) _) (by simp) (by have := HM.out; simp; omega) ?_; intro v1 w1 ho hb _ _; have HO1 := Aside0.mk ho; have HB1 := Aside0.mk hb; clear ho hb))
  go_ret
  obtain ⟨A', c', hv, hr⟩ := own_reads HO1.out
  rw [List.nil_append, nb_len] at hv hr
  have hO := HO1.out
  rw [List.nil_append] at hO
  rw [nb_len] at hO
  refine ⟨A', c', by first | exact congrArg Ending.returned hv | (rw [hv]), ?_, hr, fun a ha => ?_, HB1.out⟩
  · rw [hv] at hO
    exact own_le hO
  · have := own_base hO a.block (by rw [hv, ha]; rfl)
    exact this
end Go.Proofs.YtpihpkphhkcdlaaGreatDoor.Cl
namespace Go.Proofs.YtpihpkphhkcdlaaGreatDoor.Sc
open Go.RowKit Go.Maps Go.Proofs.YtpihpkphhkcdlaaGreatDoorW.PrintWords Go.Proofs.YtpihpkphhkcdlaaGreatDoorW.PrintLast Go.Proofs.YtpihpkphhkcdlaaGreatDoor.Tab Go.Proofs.YtpihpkphhkcdlaaGreatDoor.Kp Go.Proofs.YtpihpkphhkcdlaaGreatDoor.Pd Go.Proofs.YtpihpkphhkcdlaaGreatDoor.Fr Go.Proofs.YtpihpkphhkcdlaaGreatDoor.May Go.Proofs.YtpihpkphhkcdlaaGreatDoor.De Go.Proofs.YtpihpkphhkcdlaaGreatDoor.Sk Go.Proofs.YtpihpkphhkcdlaaGreatDoor.Eq Go.Proofs.YtpihpkphhkcdlaaGreatDoor.Lk
set_option linter.unusedVariables false
set_option linter.unusedSimpArgs false
theorem keyU (n : Nat) : WideAt.IsKeyLit (uL n) := trivial
theorem keyI (n : Int) : WideAt.IsKeyLit (iL n) := trivial
theorem uL_inj {a b : Nat} (h : uL a = uL b) : a = b := by
  unfold uL at h
  injection h with _ h
  omega
theorem iL_inj {a b : Int} (h : iL a = iL b) : a = b := by
  unfold iL at h
  injection h
theorem Says.cons {w : World} {ok : Nat → Prop} {D D2 : DataW Value} {k : K} (h : Says w ok D D2 k) (t1 : Tidy D) (t2 : Tidy D2) (f : Frm) (b : List UInt8) (v : Value)
    (hb : f.seq < 18446744073709551616 ∧ -9223372036854775808 ≤ f.win ∧ f.win < 9223372036854775808) (hn : ∀ e ∈ k, e.1.seq ≠ f.seq) (hw : ∀ e ∈ k, e.1.win ≠ f.win) (hv : KeptV w ok v f b) :
    Says w ok (D.put (uL f.seq) (.held v)) (D2.put (iL f.win) (.held (.int .u64 (f.seq : Nat)))) ((f, b) :: k) := by
  have n1 : has D (uL f.seq) = false := by
    rw [h.has1, List.any_eq_false]
    intro e he
    simpa using hn e he
  have n2 : has D2 (iL f.win) = false := by
    rw [h.has2, List.any_eq_false]
    intro e he
    simpa using hw e he
  refine ⟨fun q => ?_, fun e he => ?_, fun q => ?_, fun e he z => ?_, ?_, ?_, ?_, ?_, fun e he => ?_⟩
  · rw [List.any_cons]
    by_cases hq : f.seq = q
    · subst hq
      rw [has_put_same t1.isMap (keyU _)]
      simp
    · rw [has_put_other (fun e => hq (uL_inj e).symm), h.has1]
      simp [hq]
  · rcases List.mem_cons.1 he with rfl | he
    · exact ⟨v, fun z => atKey_put_same t1.isMap (keyU _) _ z, hv⟩
    · obtain ⟨v', h1, h2⟩ := h.val1 e he
      exact ⟨v', fun z => by rw [atKey_put_other (fun x => hn e he (uL_inj x))]; exact h1 z, h2⟩
  · rw [List.any_cons]
    by_cases hq : f.win = q
    · subst hq
      rw [has_put_same t2.isMap (keyI _)]
      simp
    · rw [has_put_other (fun e => hq (iL_inj e).symm), h.has2]
      simp [hq]
  · rcases List.mem_cons.1 he with rfl | he
    · exact atKey_put_same t2.isMap (keyI _) _ z
    · rw [atKey_put_other (fun x => hw e he (iL_inj x))]
      exact h.val2 e he z
  · rw [size_put t1, n1]
    simp [h.size1]
  · rw [size_put t2, n2]
    simp [h.size2]
  · exact List.pairwise_cons.2 ⟨fun e he => fun x => hn e he x.symm, h.seqs⟩
  · exact List.pairwise_cons.2 ⟨fun e he => fun x => hw e he x.symm, h.wins⟩
  · rcases List.mem_cons.1 he with rfl | he
    · exact hb
    · exact h.fits e he
end Go.Proofs.YtpihpkphhkcdlaaGreatDoor.Sc
