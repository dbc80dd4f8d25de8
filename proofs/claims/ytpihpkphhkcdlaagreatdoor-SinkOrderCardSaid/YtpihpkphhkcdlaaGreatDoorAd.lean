/- slices.Sorted(maps.Keys(windows)). -/
import Derived.Test.YtpihpkphhkcdlaaGreatDoorTke
import Derived.Test.YtpihpkphhkcdlaaGreatDoorShelf
import Derived.Test.YtpihpkphhkcdlaaGreatDoorPRx10
namespace Go.Proofs.YtpihpkphhkcdlaaGreatDoor.It
open Go.RowKit Go.Maps Go.Sort Go.Shelf Go.Proofs.YtpihpkphhkcdlaaGreatDoorW.PrintWords Go.Proofs.YtpihpkphhkcdlaaGreatDoorW.PrintLast
theorem sortsW (m : Nat) : AnyZI.SortsIn Tryz.prog Tryz.sortedW_ren Fence.wide m :=
  ⟨fun blk off cap ss W hH hblk hsz => callsIn_wide.2 (AnyM.slices_Sort_int Tryz.sortW blk off cap ss W hH hblk hsz),
   fun p cap W => callsIn_wide.2 (AnyM.slices_Sort_int_none Tryz.sortW p cap W)⟩
theorem keys_calls (mb : Option Nat) (W : World) : Calls Tryz.prog 25 #[.map mb] W fun e w' => e = .returned (.func (.func 45) #[] #[.pointer (some ⟨W.heap.size, 0, none⟩)]) ∧ w' = W.alloc (.cells #[.map mb] 52) :=
  callsIn_wide.1 (AnyZI.keys_in Tryz.keysW Fence.wide 5 trivial rfl mb W)
set_option maxHeartbeats 1000000 in
theorem sorted_calls {H : Type} (b nn : Nat) (D0 : DataW H) (R : Value → Option (DataW H × List MemPlace)) (w : World) (hown : w.ownsMap Tryz.prog 2 R b nn D0) (hmax : Maps.size D0 ≤ maxLen) (hbytes : Maps.size D0 * 8 ≤ 140737488355328) :
    Calls Tryz.prog 24 #[.func (.func 45) #[] #[.pointer (some ⟨w.heap.size, 0, none⟩)]] (w.alloc (.cells #[.map (some b)] 52)) fun e w' => ∃ (v : Value) (ss : List Int), e = .returned v ∧ ss.Perm (intKeys D0) ∧
      w'.ownsRow (w.heap.size + 1) 2 1 v ss.length ((ss.mergeSort (fun x y => decide (x ≤ y))).map encZ) ∧ Below (w.heap.size + 1) (w.alloc (.cells #[.map (some b)] 52)) w' := by
  have hbl := hown.lt
  have hseq : SeqGives Fence.wide 2 Tryz.prog 45 #[.pointer (some ⟨w.heap.size, 0, none⟩)] encZ (fun ss => ss.Perm (intKeys D0)) (Maps.size D0) (w.alloc (.cells #[.map (some b)] 52)) :=
    AnyZI.keys_gives (ρ := Tryz.keysW_ren) { Tryz.keysW with } Fence.wide _ trivial rfl (by omega) w.heap.size b nn D0 _ (by simp) (by simp) (by
      obtain ⟨es, clock, hb, Ft, hs, hD⟩ := hown
      exact ⟨es, clock, (Below.heap_alloc _ _ b hbl).trans hb, Ft, hs, hD⟩)
  have cS := AnyZI.sorted_in Tryz.sortedW Fence.wide 5 trivial trivial trivial trivial rfl (by omega) (sortsW _) (enters_of Tryz.func44 (by kernel_rfl) rfl) 45 #[.pointer (some ⟨w.heap.size, 0, none⟩)] trivial (enters_of Tryz.func45 (by kernel_rfl) rfl) _ _ hmax hbytes _ hseq
  change CallsIn _ _ Tryz.prog 24 _ _ _ at cS
  refine (callsIn_wide.1 cS).mono ?_
  rintro e w' ⟨v, ss, rfl, hS, hrow, hnil, hb⟩
  refine ⟨v, ss, rfl, hS, ?_, ?_⟩
  · have h := hrow
    rw [World.size_alloc] at h
    exact h
  · simpa using hb
end Go.Proofs.YtpihpkphhkcdlaaGreatDoor.It
namespace Go.Proofs.YtpihpkphhkcdlaaGreatDoor.Ad
open Go.RowKit Go.Maps Go.Proofs.YtpihpkphhkcdlaaGreatDoorW.PrintWords Go.Proofs.YtpihpkphhkcdlaaGreatDoorW.PrintLast Go.Proofs.YtpihpkphhkcdlaaGreatDoor.Tab Go.Proofs.YtpihpkphhkcdlaaGreatDoor.Kp Go.Proofs.YtpihpkphhkcdlaaGreatDoor.Pd Go.Proofs.YtpihpkphhkcdlaaGreatDoor.Fr Go.Proofs.YtpihpkphhkcdlaaGreatDoor.May Go.Proofs.YtpihpkphhkcdlaaGreatDoor.De Go.Proofs.YtpihpkphhkcdlaaGreatDoor.Sk Go.Proofs.YtpihpkphhkcdlaaGreatDoor.Eq Go.Proofs.YtpihpkphhkcdlaaGreatDoor.Lk Go.Proofs.YtpihpkphhkcdlaaGreatDoor.PR
set_option linter.unusedVariables false
set_option linter.unusedSimpArgs false
def addP (a b : Int) : Int × Bool := if 9223372036854775807 < a + b then (9223372036854775807, true) else (a + b, false)
theorem add_f (a b : Int) (ha : 0 ≤ a ∧ a ≤ 9223372036854775807) (hb : 0 ≤ b ∧ b ≤ 9223372036854775807) : fix_Add.f 1 a b = some (addP a b) := by
  unfold fix_Add.f addP
  by_cases h1 : a > 0
  · by_cases h2 : b > 0
    · rw [if_pos h1, if_pos h2, fix_Add.j0]
      by_cases h3 : 9223372036854775807 < a + b
      · rw [if_pos h3, if_pos (decide_eq_true (show wrap64 (a + b) ≤ 0 from by unfold wrap64; omega))]
      · rw [if_neg h3, if_neg (fun h => absurd (of_decide_eq_true h) (by unfold wrap64; omega)), if_neg (by omega)]
        have : wrap64 (a + b) = a + b := by unfold wrap64; omega
        rw [this]
    · rw [if_pos h1, if_neg h2, fix_Add.j0, if_neg (by decide), if_neg (by omega), if_neg (by omega)]
      have : wrap64 (a + b) = a + b := by unfold wrap64; omega
      rw [this]
  · rw [if_neg h1, fix_Add.j0, if_neg (by decide), if_neg (by omega), if_neg (by omega)]
    have : wrap64 (a + b) = a + b := by unfold wrap64; omega
    rw [this]
theorem add_calls (a b : Int) (ha : 0 ≤ a ∧ a ≤ 9223372036854775807) (hb : 0 ≤ b ∧ b ≤ 9223372036854775807) (w : World) : Calls Tryz.prog 26 #[.int .i64 a, .int .i64 b] w fun e w' => e = .returned (.tuple #[.int .i64 (addP a b).1, .bool (addP a b).2]) ∧ Below w.heap.size w w' :=
  (fix_Add.calls 1 a b _ _ w (add_f a b ha hb)).mono fun e w' h => ⟨h.1, h.2.below⟩
theorem addP_bd (a b : Int) (ha : 0 ≤ a ∧ a ≤ 9223372036854775807) (hb : 0 ≤ b ∧ b ≤ 9223372036854775807) : 0 ≤ (addP a b).1 ∧ (addP a b).1 ≤ 9223372036854775807 := by
  unfold addP
  split <;> dsimp only <;> omega
/-- A record more in a total. -/
def totR (name : ByteArray) (s : Int × Bool) (r : Rec) : Int × Bool := if r.name = name then ((addP s.1 r.inc).1, s.2 || (addP s.1 r.inc).2 || r.over) else s
def ofWin (k : K) (q : Int) : List Rec := match k.find? (fun e => decide (e.1.win = q)) with | some e => e.1.recs | none => []
def totW (k : K) (name : ByteArray) (fr tt : Int) (s : Int × Bool) (q : Int) : Int × Bool := if q < fr ∨ tt < q then s else (ofWin k q).foldl (totR name) s
def totP (k : K) (name : ByteArray) (fr tt : Int) (ws : List Int) : Int × Bool := ws.foldl (totW k name fr tt) (0, false)
/-- All increases are in range. -/
def Incs (k : K) : Prop := ∀ e ∈ k, ∀ r ∈ e.1.recs, 0 ≤ r.inc ∧ r.inc ≤ 9223372036854775807
theorem totR_bd (name : ByteArray) (s : Int × Bool) (r : Rec) (hs : 0 ≤ s.1 ∧ s.1 ≤ 9223372036854775807) (hr : 0 ≤ r.inc ∧ r.inc ≤ 9223372036854775807) : 0 ≤ (totR name s r).1 ∧ (totR name s r).1 ≤ 9223372036854775807 := by
  unfold totR
  split
  · exact addP_bd _ _ hs hr
  · exact hs
theorem foldR_bd (name : ByteArray) : ∀ (rs : List Rec) (s : Int × Bool), (0 ≤ s.1 ∧ s.1 ≤ 9223372036854775807) → (∀ r ∈ rs, 0 ≤ r.inc ∧ r.inc ≤ 9223372036854775807) → 0 ≤ (rs.foldl (totR name) s).1 ∧ (rs.foldl (totR name) s).1 ≤ 9223372036854775807
  | [], s, hs, _ => hs
  | r :: t, s, hs, h => foldR_bd name t _ (totR_bd name s r hs (h r (by simp))) fun x hx => h x (by simp [hx])
theorem ofWin_mem {k : K} {q : Int} (h : Incs k) : ∀ r ∈ ofWin k q, 0 ≤ r.inc ∧ r.inc ≤ 9223372036854775807 := by
  unfold ofWin
  split
  · rename_i e he
    exact h e (List.mem_of_find?_eq_some he)
  · intro r hr; simp at hr
theorem totW_bd (k : K) (name : ByteArray) (fr tt : Int) (s : Int × Bool) (q : Int) (hk : Incs k) (hs : 0 ≤ s.1 ∧ s.1 ≤ 9223372036854775807) : 0 ≤ (totW k name fr tt s q).1 ∧ (totW k name fr tt s q).1 ≤ 9223372036854775807 := by
  unfold totW
  split
  · exact hs
  · exact foldR_bd name _ s hs (ofWin_mem hk)
/-- The windows' keys. -/
theorem keys_perm {w : World} {ok : Nat → Prop} {mw n : Nat} {D D2 : DataW Value} {k : K} (ho : w.ownsMap Tryz.prog 2 idR mw n D2) (hs : Says w ok D D2 k) : (k.map fun e => e.1.win).Perm (intKeys D2) := by
  obtain ⟨es, hD, hp, _⟩ := ho.entries kW
  have hk : ∀ p ∈ es, ∃ x, p.1 = .int .i64 x := by
    obtain ⟨es2, clock, hb, F, _, hD'⟩ := ho
    intro p hp'
    rw [hD'] at hD
    injection hD with hD
    rw [← hD] at hp'
    obtain ⟨v, hv⟩ := fit_keys F p (mem_sorted.1 hp')
    obtain ⟨x, _, h2, _⟩ := keyOf_i64 Tryz.underlying2 hv
    exact ⟨x, h2⟩
  rw [hD]
  refine perm_intKeys hp hk ?_ fun x => ?_
  · exact List.pairwise_map.2 (hs.wins.imp fun h => h)
  · rw [← hD, hs.has2 x, List.any_eq_true, List.mem_map]
    constructor
    · rintro ⟨e, he, rfl⟩
      exact ⟨e, he, by simp⟩
    · rintro ⟨e, he, h⟩
      exact ⟨e, he, by simpa using h⟩
end Go.Proofs.YtpihpkphhkcdlaaGreatDoor.Ad
