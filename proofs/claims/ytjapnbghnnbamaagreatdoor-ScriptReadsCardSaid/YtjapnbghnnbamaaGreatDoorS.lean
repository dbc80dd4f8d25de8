/- script.Same: rows of entries, and when two are the same. -/
import Derived.Test.YtjapnbghnnbamaaGreatDoorU
namespace Go.Proofs.YtjapnbghnnbamaaGreatDoor.S
open Go.RowKit Go.Proofs.YtjapnbghnnbamaaGreatDoorW.PrintWords Go.Proofs.YtjapnbghnnbamaaGreatDoorW.PrintLast Go.Proofs.YtjapnbghnnbamaaGreatDoor.Ext Go.Proofs.YtjapnbghnnbamaaGreatDoor.Q
set_option linter.unusedVariables false
set_option linter.unusedSimpArgs false
/-- An entry: its kind, its connection, its number, its bytes. -/
structure En where
  k : Int
  a : Int
  n : Int
  b : List UInt8
theorem En.ext' {x y : En} (h1 : x.k = y.k) (h2 : x.a = y.a) (h3 : x.n = y.n) (h4 : x.b = y.b) : x = y := by cases x; cases y; simp_all
/-- Are both the same? -/
def En.eqB (x y : En) : Bool := x.k == y.k && x.a == y.a && x.n == y.n && x.b == y.b
theorem eqB_iff (x y : En) : x.eqB y = true ↔ x = y := by
  unfold En.eqB
  simp only [Bool.and_eq_true, beq_iff_eq]
  exact ⟨fun h => En.ext' h.1.1.1 h.1.1.2 h.1.2 h.2, fun h => by rw [h]; exact ⟨⟨⟨rfl, rfl⟩, rfl⟩, rfl⟩⟩
/-- v reads as the bytes b. -/
def Byt (w : World) (v : Value) (b : List UInt8) : Prop := ∃ A c, v = .slice A b.length c ∧ b.length ≤ c ∧ ReadsInt w .u8 A b.length (nb b)
theorem Byt.below {w w1 : World} {v : Value} {b : List UInt8} (h : Byt w v b) (hb : Below w.heap.size w w1) : Byt w1 v b := by
  obtain ⟨A, c, e, hc, hr⟩ := h
  exact ⟨A, c, e, hc, hr.below hb⟩
/-- An entry's four cells. -/
def En.cs (e : En) (v : Value) : List Value := [.int .i64 e.k, .int .i64 e.a, .int .i64 e.n, v]
def En.val (e : En) (v : Value) : Value := .agg #[.int .i64 e.k, .int .i64 e.a, .int .i64 e.n, v]
theorem bytesOf_nb (b : List UInt8) : Lib.bytesOf (nb b) = b := by
  unfold nb Lib.bytesOf
  rw [List.map_map]
  exact (List.map_congr_left (fun c _ => by simp)).trans (List.map_id b)
theorem bytes_in {w : World} {A : Option Addr} {b : List UInt8} (h : ReadsInt w .u8 A b.length (nb b)) : Lib.BytesIn w A b.length (nb b) := fun hn => by
  obtain ⟨ad, rfl, hc⟩ := h.2.2 hn
  exact Lib.BytesIn.of_cells hc hn
set_option maxHeartbeats 4000000 in
set_option maxRecDepth 100000 in
theorem alike_calls (x y : En) (vx vy : Value) (w : World) (hx : Byt w vx x.b) (hy : Byt w vy y.b) :
    Calls Tryz.prog 23 #[x.val vx, y.val vy] w fun e w' => e = .returned (.bool (x.eqB y)) ∧ Below w.heap.size w w' := by
  obtain ⟨A1, c1, rfl, hc1, hr1⟩ := hx
  obtain ⟨A2, c2, rfl, hc2, hr2⟩ := hy
  obtain ⟨k1, a1, n1, b1⟩ := x
  obtain ⟨k2, a2, n2, b2⟩ := y
  simp only at hr1 hr2 hc1 hc2
  have HR1 := Aside0.mk hr1
  have HR2 := Aside0.mk hr2
  clear hr1 hr2 hc1 hc2
  have HE := Aside0.mk (Tryz.bytes_Equal_all A1 A2 b1.length c1 b2.length c2 (nb b1) (nb b2))
  unfold En.val En.eqB
  simp only
  cases hk : (k1 == k2) with
  | false =>
    go_enter Tryz.func23, Tryz.ntmps23
    go_wp2
    go_ret
    exact ⟨rfl, (below_alloc (below_alloc (Below.refl _ _) _) _)⟩
  | true =>
    cases ha : (a1 == a2) with
    | false =>
      go_enter Tryz.func23, Tryz.ntmps23
      go_wp2
      go_ret
      exact ⟨rfl, (below_alloc (below_alloc (Below.refl _ _) _) _)⟩
    | true =>
      cases hn : (n1 == n2) with
      | false =>
        go_enter Tryz.func23, Tryz.ntmps23
        go_wp2
        go_ret
        exact ⟨rfl, (below_alloc (below_alloc (Below.refl _ _) _) _)⟩
      | true =>
        have hb : ∀ W : World, Below w.heap.size w W → Calls Tryz.prog 24 #[.slice A1 b1.length c1, .slice A2 b2.length c2] W fun e w' => e = .returned (.bool (b1 == b2)) ∧ W = w' := fun W hW => by
          have := HE.out W (nb_length b1) (nb_length b2) (bytes_in (HR1.out.below hW)) (bytes_in (HR2.out.below hW))
          rw [bytesOf_nb, bytesOf_nb] at this
          exact this.mono fun e w' h => ⟨h.1, h.2.symm⟩
        have HBB := Aside0.mk hb
        clear hb
        obtain ⟨q, hq⟩ : ∃ q, q = (b1 == b2) := ⟨_, rfl⟩
        rw [← hq] at HBB ⊢
        clear hq
        go_enter Tryz.func23, Tryz.ntmps23
        go_wp2_with (first | (go_at_call 24; (with_reducible refine (HBB.out _ ?hW).mono ?_); (case hW => exact below_alloc (below_alloc (Below.refl _ _) _) _); rintro e w1 ⟨rfl, rfl⟩))
        go_ret
        exact ⟨rfl, (below_alloc (below_alloc (Below.refl _ _) _) _)⟩
/-- A row of entries. -/
def ER (w : World) (A : Option Addr) (n : Nat) (es : List En) : Prop := ReadsRow (fun e cs => ∃ v, cs = En.cs e v ∧ Byt w v e.b) 4 w A n es
theorem ER.below {w w1 : World} {A : Option Addr} {n : Nat} {es : List En} (h : ER w A n es) (hb : Below w.heap.size w w1) : ER w1 A n es :=
  ReadsRow.imp_ h hb (fun e cs ⟨v, hc, hv⟩ => ⟨v, hc, hv.below hb⟩)
theorem ER.get {w : World} {b off : Nat} {n : Nat} {es : List En} (h : ER w (some ⟨b, off, none⟩) n es) (k : Nat) (hk : k < es.length) : ∃ v, Byt w v es[k].b ∧ w.cell? ⟨b, off + k * 4, none⟩ = some (.int .i64 es[k].k) ∧ w.cell? ⟨b, off + k * 4 + 1, none⟩ = some (.int .i64 es[k].a) ∧ w.cell? ⟨b, off + k * 4 + 2, none⟩ = some (.int .i64 es[k].n) ∧ w.cell? ⟨b, off + k * 4 + 3, none⟩ = some v := by
  obtain ⟨ad, e, hc⟩ := h.2.2 (by have := h.1; omega)
  obtain rfl := Option.some.inj e
  obtain ⟨cs, _, ⟨v, rfl, hv⟩, hcell⟩ := hc k _ (List.getElem?_eq_getElem hk)
  have g : ∀ i u, (En.cs es[k] v)[i]? = some u → w.cell? ⟨b, off + (k * 4 + i), none⟩ = some u := fun i u h => by rw [← Go.WideShapes.add_plain]; exact hcell i u h
  exact ⟨v, hv, g 0 _ rfl, by rw [Nat.add_assoc]; exact g 1 _ rfl, by rw [Nat.add_assoc]; exact g 2 _ rfl, by rw [Nat.add_assoc]; exact g 3 _ rfl⟩
theorem ER.plain {w : World} {ad : Addr} {n : Nat} {es : List En} (h : ER w (some ad) n es) (h0 : 0 < n) : ad = ⟨ad.block, ad.off, none⟩ := by
  obtain ⟨a, e, hc⟩ := h.2.2 h0
  obtain rfl := Option.some.inj e
  obtain ⟨cs, _, ⟨v, rfl, hv⟩, hcell⟩ := hc 0 _ (List.getElem?_eq_getElem (show 0 < es.length by have := h.1; omega))
  have := hcell 0 _ rfl
  obtain ⟨b, o, s⟩ := ad
  obtain rfl : s = none := by simpa [Addr.add] using World.cell?_spot this
  rfl
def sameB : List En → List En → Bool
  | [], [] => true
  | x :: xs, y :: ys => x.eqB y && sameB xs ys
  | _, _ => false
theorem sameB_iff : ∀ xs ys : List En, sameB xs ys = true ↔ xs = ys
  | [], [] => by simp [sameB]
  | [], _ :: _ => by simp [sameB]
  | _ :: _, [] => by simp [sameB]
  | x :: xs, y :: ys => by simp [sameB, eqB_iff, sameB_iff xs ys]
theorem sameB_len : ∀ xs ys : List En, xs.length ≠ ys.length → sameB xs ys = false
  | [], [], h => absurd rfl h
  | [], _ :: _, _ => rfl
  | _ :: _, [], _ => rfl
  | x :: xs, y :: ys, h => by
    have := sameB_len xs ys (fun e => h (by simp [e]))
    simp [sameB, this]
def fn17 : Value := .func (.func 23) #[] #[]
set_option maxHeartbeats 8000000 in
set_option maxRecDepth 100000 in
theorem ef_some (b1 o1 c1 b2 o2 c2 : Nat) (xs ys : List En) (w : World) (h1 : ER w (some ⟨b1, o1, none⟩) xs.length xs) (h2 : ER w (some ⟨b2, o2, none⟩) ys.length ys) (hl : xs.length = ys.length) (hp : 0 < xs.length) :
    Calls Tryz.prog 25 #[.slice (some ⟨b1, o1, none⟩) xs.length c1, .slice (some ⟨b2, o2, none⟩) ys.length c2, fn17] w fun e w' => e = .returned (.bool (sameB xs ys)) ∧ Below w.heap.size w w' := by
  have H1 := Aside0.mk h1
  have H2 := Aside0.mk h2
  have HL := Aside0.mk hl
  have hX : xs.length ≤ 9223372036854775807 := h1.2.1
  have hne : ((xs.length : Int) != (ys.length : Int)) = false := by rw [hl]; simp
  have hlt : (ys.length : Int) = xs.length := by rw [hl]
  obtain ⟨n, hn⟩ : ∃ n, n = ys.length := ⟨_, rfl⟩
  have hnx : xs.length = n := by rw [hn, hl]
  rw [← hn]
  rw [hnx] at hX ⊢
  have HN := Aside0.mk hn
  have HNX := Aside0.mk hnx
  clear h1 h2 hl hlt hne hn hnx hp
  unfold fn17
  go_enter Tryz.func25, Tryz.ntmps25
  go_wp2
  go_loopg [17] n (fun kq v17 w' => ∃ k : Nat, v17 = .int .i64 (k : Int) ∧ Aside0 (kq + k = n) ∧ Aside0 (sameB xs ys = sameB (xs.drop k) (ys.drop k)) ∧ Aside0 (Below w.heap.size w w'))
  case atStart => exact ⟨0, rfl, ⟨rfl⟩, ⟨rfl⟩, ⟨Below.refl _ _⟩⟩
  case round =>
    obtain ⟨k, rfl, HI, HE, HB⟩ := hrel
    by_cases hk : k < n
    · have hc0 : ((k : Int) < (n : Int)) = True := eq_true (Int.ofNat_lt.2 hk)
      have hc1 : decide ((k : Int) < (n : Int)) = true := decide_eq_true (Int.ofNat_lt.2 hk)
      have hwi : wrap64 ((k : Int) + 1) = ((k + 1 : Nat) : Int) := wrap64_next k (by omega)
      have hk1 : k < xs.length := by have := HNX.out; omega
      have hk2 : k < ys.length := by have := HN.out; omega
      obtain ⟨v1, hv1, p0, p1, p2, p3⟩ := (H1.out.below HB.out).get k hk1
      obtain ⟨v2, hv2, q0, q1, q2, q3⟩ := (H2.out.below HB.out).get k hk2
      have hv1' := hv1
      have hv2' := hv2
      obtain ⟨A1, d1, rfl, -, -⟩ := hv1'
      obtain ⟨A2, d2, rfl, -, -⟩ := hv2'
      have HD := Aside0.mk (show sameB (xs.drop k) (ys.drop k) = (xs[k].eqB ys[k] && sameB (xs.drop (k + 1)) (ys.drop (k + 1))) by rw [List.drop_eq_getElem_cons hk1, List.drop_eq_getElem_cons hk2]; rfl)
      have HAL := Aside0.mk (fun W (hW : Below wr.heap.size wr W) => alike_calls xs[k] ys[k] _ _ W (hv1.below hW) (hv2.below hW))
      obtain ⟨x, hx⟩ : ∃ x, x = xs[k] := ⟨_, rfl⟩
      obtain ⟨y, hy⟩ : ∃ y, y = ys[k] := ⟨_, rfl⟩
      rw [← hx, ← hy] at HD HAL
      rw [← hx] at p0 p1 p2 p3
      rw [← hy] at q0 q1 q2 q3
      have hb2 : b2 < wr.heap.size := World.block_lt_of_cell? wr ⟨b2, o2 + k * 4, none⟩ q0
      have HW := Aside0.mk hwi
      have HK := Aside0.mk hk
      clear hv1 hv2 hx hy hwi hk hk1 hk2
      obtain ⟨k1, a1, n1, l1⟩ := x
      obtain ⟨k2, a2, n2, l2⟩ := y
      simp only at p0 p1 p2 p3 q0 q1 q2 q3
      unfold En.val at HAL
      simp only at HAL
      cases hq : ((En.mk k1 a1 n1 l1).eqB (En.mk k2 a2 n2 l2)) with
      | true =>
        rw [hq] at HAL HD
        go_wp2_with (first | (go_at_call 23; (with_reducible refine (HAL.out _ ?hW).mono ?_); (case hW => exact below_alloc (below_alloc (Below.refl _ _) _) _); rintro e w2 ⟨rfl, hb⟩; have HB2 := Aside0.mk (show Below wr.heap.size wr w2 from (below_alloc (below_alloc (Below.refl _ _) _) _).trans (hb.mono (by simp; omega))); clear hb))
        go_roundg (gk - 1)
        case measure => have := HI.out; have := HK.out; omega
        case rel => exact ⟨k + 1, by first | rfl | (rw [HW.out]; done), ⟨by have := HI.out; have := HK.out; omega⟩, ⟨by rw [HE.out, HD.out]; rfl⟩, ⟨HB.out.trans (HB2.out.mono HB.out.size)⟩⟩
      | false =>
        rw [hq] at HAL HD
        go_wp2_with (first | (go_at_call 23; (with_reducible refine (HAL.out _ ?hW).mono ?_); (case hW => exact below_alloc (below_alloc (Below.refl _ _) _) _); rintro e w2 ⟨rfl, hb⟩; have HB2 := Aside0.mk (show Below wr.heap.size wr w2 from (below_alloc (below_alloc (Below.refl _ _) _) _).trans (hb.mono (by simp; omega))); clear hb))
        go_ret
        exact ⟨by rw [HE.out, HD.out]; rfl, HB.out.trans (HB2.out.mono HB.out.size)⟩
    · have hkk : k = n := by have := HI.out; omega
      subst hkk
      have hc0 : ((k : Int) < (k : Int)) = False := eq_false (Int.lt_irrefl _)
      have HE2 := Aside0.mk (show sameB xs ys = true by rw [HE.out, List.drop_eq_nil_of_le (by rw [HNX.out]; exact Nat.le_refl _), List.drop_eq_nil_of_le (by rw [← HN.out]; exact Nat.le_refl _)]; rfl)
      go_wp2
      go_ret
      exact ⟨by rw [HE2.out]; rfl, HB.out⟩
set_option maxHeartbeats 4000000 in
set_option maxRecDepth 100000 in
theorem ef_ne (A B : Option Addr) (m n c1 c2 : Nat) (w : World) (hm : m ≤ 9223372036854775807) (hn : n ≤ 9223372036854775807) (h : m ≠ n) :
    Calls Tryz.prog 25 #[.slice A m c1, .slice B n c2, fn17] w fun e w' => e = .returned (.bool false) ∧ Below w.heap.size w w' := by
  have hne : ((m : Int) != (n : Int)) = true := by rw [bne_iff_ne]; omega
  unfold fn17
  go_enter Tryz.func25, Tryz.ntmps25
  go_wp2
  go_ret
  exact ⟨rfl, Below.refl _ _⟩
set_option maxHeartbeats 4000000 in
set_option maxRecDepth 100000 in
theorem ef_nil (A B : Option Addr) (c1 c2 : Nat) (w : World) :
    Calls Tryz.prog 25 #[.slice A 0 c1, .slice B 0 c2, fn17] w fun e w' => e = .returned (.bool true) ∧ Below w.heap.size w w' := by
  unfold fn17
  go_enter Tryz.func25, Tryz.ntmps25
  go_wp2
  refine wp_loop_rounds 1 ?_
  rw [rounds_succ]
  go_wp2
  go_ret
  exact ⟨rfl, Below.refl _ _⟩
theorem ef_calls (A B : Option Addr) (c1 c2 : Nat) (xs ys : List En) (w : World) (h1 : ER w A xs.length xs) (h2 : ER w B ys.length ys) :
    Calls Tryz.prog 25 #[.slice A xs.length c1, .slice B ys.length c2, fn17] w fun e w' => e = .returned (.bool (sameB xs ys)) ∧ Below w.heap.size w w' := by
  by_cases hl : xs.length = ys.length
  · rcases Nat.eq_zero_or_pos xs.length with h0 | h0
    · obtain rfl := List.length_eq_zero_iff.1 h0
      obtain rfl := List.length_eq_zero_iff.1 (hl ▸ h0)
      exact ef_nil A B c1 c2 w
    · obtain ⟨a, rfl, _⟩ := h1.2.2 h0
      obtain ⟨b, rfl, _⟩ := h2.2.2 (hl ▸ h0)
      have ea := h1.plain h0
      have eb := h2.plain (hl ▸ h0)
      rw [ea] at h1 ⊢
      rw [eb] at h2 ⊢
      exact ef_some _ _ c1 _ _ c2 xs ys w h1 h2 hl h0
  · rw [sameB_len xs ys hl]
    exact ef_ne A B _ _ c1 c2 w h1.2.1 h2.2.1 hl
set_option maxHeartbeats 4000000 in
set_option maxRecDepth 100000 in
/-- script.Same, of any rows of entries. -/
theorem same_calls (A B : Option Addr) (c1 c2 : Nat) (xs ys : List En) (w : World) (h1 : ER w A xs.length xs) (h2 : ER w B ys.length ys) :
    Calls Tryz.prog 13 #[.slice A xs.length c1, .slice B ys.length c2] w fun e w' => e = .returned (.bool (sameB xs ys)) ∧ Below w.heap.size w w' := by
  have HE := Aside0.mk (ef_calls A B c1 c2 xs ys w h1 h2)
  unfold fn17 at HE
  clear h1 h2
  go_enter Tryz.func13, Tryz.ntmps13
  go_wp2_with (first | (go_at_call 25; (with_reducible refine HE.out.mono ?_); rintro e w1 ⟨rfl, hb⟩; have HB := Aside0.mk hb; clear hb))
  go_ret
  exact ⟨rfl, HB.out⟩
end Go.Proofs.YtjapnbghnnbamaaGreatDoor.S
