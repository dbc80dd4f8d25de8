/- What the sinks keep, in whatever order: SinkOrder's plain law. -/
import Derived.Test.YtpihpkphhkcdlaaGreatDoorRt
import Derived.Test.YtpihpkphhkcdlaaGreatDoorIc
import Derived.Test.YtpihpkphhkcdlaaGreatDoorTx
import Derived.Test.YtpihpkphhkcdlaaGreatDoorPRx16
import Derived.Test.YtpihpkphhkcdlaaGreatDoorKn
namespace Go.Proofs.YtpihpkphhkcdlaaGreatDoor.Od
open Go.RowKit Go.Proofs.YtpihpkphhkcdlaaGreatDoor.Tab Go.Proofs.YtpihpkphhkcdlaaGreatDoor.Kp Go.Proofs.YtpihpkphhkcdlaaGreatDoor.Pd Go.Proofs.YtpihpkphhkcdlaaGreatDoor.Sk Go.Proofs.YtpihpkphhkcdlaaGreatDoor.Lk Go.Proofs.YtpihpkphhkcdlaaGreatDoor.Tke Go.Proofs.YtpihpkphhkcdlaaGreatDoor.Ad Go.Proofs.YtpihpkphhkcdlaaGreatDoor.Pl Go.Proofs.YtpihpkphhkcdlaaGreatDoor.Ic Go.Proofs.YtpihpkphhkcdlaaGreatDoor.PR Go.Proofs.YtpihpkphhkcdlaaGreatDoor.Wk Go.Proofs.YtpihpkphhkcdlaaGreatDoor.Wt Go.Proofs.YtpihpkphhkcdlaaGreatDoor.Rt
set_option linter.unusedVariables false
set_option linter.unusedSimpArgs false
/-- What is kept is what the texts of T say. -/
structure Mm (k : K) (T : List UInt8 → Prop) : Prop where
  seqs : k.Pairwise fun a b => a.1.seq ≠ b.1.seq
  wins : k.Pairwise fun a b => a.1.win ≠ b.1.win
  mem : ∀ e, e ∈ k ↔ (T e.2 ∧ decP e.2 = (e.1, 0))
theorem pw_eq {α : Type} {β : Type} [DecidableEq β] (f : α → β) : ∀ {k : List α}, k.Pairwise (fun a b => f a ≠ f b) → ∀ {a b : α}, a ∈ k → b ∈ k → f a = f b → a = b
  | [], _, _, _, h, _, _ => by cases h
  | x :: t, h, a, b, ha, hb, e => by
    rw [List.pairwise_cons] at h
    rcases List.mem_cons.1 ha with ea | ha
    · rcases List.mem_cons.1 hb with eb | hb
      · rw [ea, eb]
      · exact absurd (ea ▸ e) (h.1 _ hb)
    · rcases List.mem_cons.1 hb with eb | hb
      · exact absurd (eb ▸ e).symm (h.1 _ ha)
      · exact pw_eq f h.2 ha hb e
theorem mm_nil : Mm [] (fun _ => False) := ⟨List.Pairwise.nil, List.Pairwise.nil, fun e => by simp⟩
theorem mm_congr {k : K} {T T' : List UInt8 → Prop} (h : Mm k T) (e : ∀ b, T b ↔ T' b) : Mm k T' := ⟨h.seqs, h.wins, fun x => by rw [h.mem, e]⟩
theorem dec_eta (bs : List UInt8) (h : (decP bs).2 = 0) : decP bs = ((decP bs).1, 0) := by rw [← h]
/-- What is taken, where nothing clashes. -/
theorem mm_take {k : K} {T : List UInt8 → Prop} (h : Mm k T) (bs : List UInt8) (h3 : (tookP k bs).1 ≠ 3) (h4 : (tookP k bs).1 ≠ 4) (hl : k.length < 65536) : Mm (tookP k bs).2 (fun b => T b ∨ b = bs) := by
  unfold tookP at h3 h4 ⊢
  by_cases h0 : (decP bs).2 ≠ 0
  · rw [if_pos h0]
    refine ⟨h.seqs, h.wins, fun e => ?_⟩
    rw [h.mem]
    refine ⟨fun ⟨a, b⟩ => ⟨.inl a, b⟩, fun ⟨a, b⟩ => ⟨?_, b⟩⟩
    rcases a with a | rfl
    · exact a
    · exact absurd (by rw [b]) h0
  · have hd := dec_eta bs (by omega)
    rw [if_neg h0] at h3 h4 ⊢
    cases hf : k.find? fun e => decide (e.1.seq = (decP bs).1.seq) with
    | some e =>
      rw [hf] at h3 h4
      dsimp only at h3 h4 ⊢
      have hb : e.2 = bs := by
        by_cases hb : e.2 = bs
        · exact hb
        · rw [if_neg hb] at h3; exact absurd rfl h3
      have he := (h.mem e).1 (List.mem_of_find?_eq_some hf)
      refine ⟨h.seqs, h.wins, fun x => ?_⟩
      rw [h.mem]
      refine ⟨fun ⟨a, b⟩ => ⟨.inl a, b⟩, fun ⟨a, b⟩ => ⟨?_, b⟩⟩
      rcases a with a | a
      · exact a
      · rw [a, ← hb]; exact he.1
    | none =>
      rw [hf] at h3 h4
      dsimp only at h3 h4 ⊢
      by_cases hw : (k.any fun e => decide (e.1.win = (decP bs).1.win)) = true
      · rw [if_pos hw] at h4; exact absurd rfl h4
      · rw [if_neg hw, if_neg (by omega)]
        dsimp only
        refine ⟨List.pairwise_cons.2 ⟨fun e he => ?_, h.seqs⟩, List.pairwise_cons.2 ⟨fun e he => ?_, h.wins⟩, fun e => ?_⟩
        · have := List.find?_eq_none.1 hf e he
          simp at this
          exact fun q => this q.symm
        · intro q
          exact hw (List.any_eq_true.2 ⟨e, he, decide_eq_true q.symm⟩)
        · rw [List.mem_cons, h.mem]
          constructor
          · rintro (rfl | ⟨a, b⟩)
            · exact ⟨.inr rfl, hd⟩
            · exact ⟨.inl a, b⟩
          · rintro ⟨a | a, b⟩
            · exact .inr ⟨a, b⟩
            · refine .inl ?_
              obtain ⟨f, x⟩ := e
              dsimp only at a b
              subst a
              rw [b]
/-- What is in a whole that does not clash does not clash. -/
theorem mm_fate {ks k : K} {S T : List UInt8 → Prop} (hs : Mm ks S) (h : Mm k T) (hT : ∀ b, T b → S b) (bs : List UInt8) (hb : S bs) : (tookP k bs).1 ≠ 3 ∧ (tookP k bs).1 ≠ 4 := by
  have sub : ∀ e, e ∈ k → e ∈ ks := fun e he => (hs.mem e).2 ⟨hT _ ((h.mem e).1 he).1, ((h.mem e).1 he).2⟩
  unfold tookP
  by_cases h0 : (decP bs).2 ≠ 0
  · rw [if_pos h0]; exact ⟨by simp, by simp⟩
  · have hd := dec_eta bs (by omega)
    have hm : ((decP bs).1, bs) ∈ ks := (hs.mem _).2 ⟨hb, hd⟩
    rw [if_neg h0]
    cases hf : k.find? fun e => decide (e.1.seq = (decP bs).1.seq) with
    | some e =>
      have he := sub e (List.mem_of_find?_eq_some hf)
      have hq := List.find?_some hf
      simp only [decide_eq_true_eq] at hq
      have := pw_eq (fun e : Frm × List UInt8 => e.1.seq) hs.seqs he hm hq
      dsimp only
      rw [if_pos (by rw [this])]
      exact ⟨by simp, by simp⟩
    | none =>
      dsimp only
      rw [if_neg]
      · split <;> exact ⟨by simp, by simp⟩
      · intro hw
        obtain ⟨e, he, hq⟩ := List.any_eq_true.1 hw
        have := pw_eq (fun e : Frm × List UInt8 => e.1.win) hs.wins (sub e he) hm (of_decide_eq_true hq)
        have h9 := List.find?_eq_none.1 hf e he
        simp [this] at h9
theorem nodup_of {k : K} (h : k.Pairwise fun a b => a.1.seq ≠ b.1.seq) : k.Nodup := h.imp fun hab e => hab (by rw [e])
theorem mm_perm {k k' : K} {T T' : List UInt8 → Prop} (h : Mm k T) (h' : Mm k' T') (e : ∀ b, T b ↔ T' b) : k.Perm k' := by
  have hm : ∀ x, x ∈ k ↔ x ∈ k' := fun x => by rw [h.mem, h'.mem, e]
  exact (List.perm_ext_iff_of_nodup (nodup_of h.seqs) (nodup_of h'.seqs)).2 hm
theorem find_perm {k k' : K} (h : k.Perm k') (hw : k.Pairwise fun a b => a.1.win ≠ b.1.win) (q : Int) : (k.find? fun e => decide (e.1.win = q)) = k'.find? fun e => decide (e.1.win = q) := by
  cases h1 : k.find? fun e => decide (e.1.win = q) with
  | none =>
    symm
    rw [List.find?_eq_none] at h1 ⊢
    exact fun e he => h1 e (h.mem_iff.2 he)
  | some e =>
    cases h2 : k'.find? fun e => decide (e.1.win = q) with
    | none => exact absurd (List.find?_some h1) (List.find?_eq_none.1 h2 e (h.mem_iff.1 (List.mem_of_find?_eq_some h1)))
    | some e' =>
      have a := List.find?_some h1
      have b := List.find?_some h2
      simp only [decide_eq_true_eq] at a b
      rw [pw_eq (fun e : Frm × List UInt8 => e.1.win) hw (List.mem_of_find?_eq_some h1) (h.mem_iff.2 (List.mem_of_find?_eq_some h2)) (a.trans b.symm)]
theorem max_perm {l l' : List Nat} (h : l.Perm l') : ∀ a, l.foldl max a = l'.foldl max a := by
  induction h with
  | nil => exact fun _ => rfl
  | cons x _ ih => exact fun a => ih _
  | swap x y l => intro a; simp only [List.foldl_cons]; rw [show max (max a y) x = max (max a x) y by omega]
  | trans _ _ a b => exact fun x => (a x).trans (b x)
/-- What is told of a sink, by a name or number. -/
theorem mm_keep {k : K} {T : List UInt8 → Prop} (h : Mm k T) (bs : List UInt8) (h3 : (tookP k bs).1 ≠ 3) (h4 : (tookP k bs).1 ≠ 4) (hl : k.length < 65536) (hT : T bs) : Mm (tookP k bs).2 T :=
  mm_congr (mm_take h bs h3 h4 hl) fun b => ⟨fun a => a.elim id fun e => e ▸ hT, .inl⟩
theorem mm_of_perm {k k' : K} {T : List UInt8 → Prop} (h : Mm k T) (p : k.Perm k') : Mm k' T :=
  ⟨(p.pairwise_iff (fun {_ _} hne => Ne.symm hne)).1 h.seqs, (p.pairwise_iff (fun {_ _} hne => Ne.symm hne)).1 h.wins, fun e => by rw [← p.mem_iff, h.mem]⟩
theorem mm_incs {k : K} {T : List UInt8 → Prop} (h : Mm k T) : Incs k := fun e he r hr => by
  have hd := ((h.mem e).1 he).2
  have hd2 : (decP e.2).2 = 0 := congrArg Prod.snd hd
  have hd1 : (decP e.2).1 = e.1 := congrArg Prod.fst hd
  exact decP_incs e.2 hd2 r (by rw [hd1]; exact hr)
theorem nb_inj : ∀ {a b : List UInt8}, nb a = nb b → a = b
  | [], [], _ => rfl
  | [], _ :: _, h => by simp [nb] at h
  | _ :: _, [], h => by simp [nb] at h
  | x :: a, y :: b, h => by
    have h' : ((x.toNat : Int) :: nb a) = ((y.toNat : Int) :: nb b) := h
    injection h' with h1 h2
    have hx : x = y := UInt8.toNat_inj.1 (show x.toNat = y.toNat by omega)
    rw [nb_inj h2, hx]
/-- A text of the first i. -/
def tt (l0 : List (List Int)) (i : Nat) (b : List UInt8) : Prop := ∃ j, j < i ∧ j < l0.length ∧ nb b = rd_L1 l0 (j : Int)
theorem tt_zero (l0 : List (List Int)) (b : List UInt8) : False ↔ tt l0 0 b := ⟨fun h => h.elim, fun ⟨_, h, _⟩ => absurd h (Nat.not_lt_zero _)⟩
theorem tt_succ (l0 : List (List Int)) (i : Nat) (hi : i < l0.length) (bs : List UInt8) (h : rd_L1 l0 (i : Int) = nb bs) (b : List UInt8) : (tt l0 i b ∨ b = bs) ↔ tt l0 (i + 1) b := by
  constructor
  · rintro (⟨j, a, c, d⟩ | rfl)
    · exact ⟨j, by omega, c, d⟩
    · exact ⟨i, by omega, hi, h.symm⟩
  · rintro ⟨j, a, c, d⟩
    by_cases e : j = i
    · subst e
      exact .inr (nb_inj (d.trans h))
    · exact .inl ⟨j, by omega, c, d⟩
theorem tt_mem (l0 : List (List Int)) (j : Nat) (hj : j < l0.length) (bs : List UInt8) (h : rd_L1 l0 (j : Int) = nb bs) : tt l0 l0.length bs := ⟨j, hj, hj, h.symm⟩
/-- A round of the first loop. -/
theorem round1 {P P' : List KP} {k : K} {l0 : List (List Int)} {i : Nat} (hi : i < l0.length) {bs : List UInt8} (hb : rd_L1 l0 (i : Int) = nb bs) (hP : Mm (KF P) (tt l0 i)) (hk : Mm k (tt l0 i)) (h3 : (tookP (KF P) bs).1 ≠ 3) (h4 : (tookP (KF P) bs).1 ≠ 4) (l1 : P.length < 65536) (l2 : k.length < 65536) (hp : (KF P').Perm (tookP (KF P) bs).2) :
    Mm (KF P') (tt l0 (i + 1)) ∧ Mm (tookP k bs).2 (tt l0 (i + 1)) := by
  have a := mm_take hP bs h3 h4 (by rw [List.length_map]; exact l1)
  have f := mm_fate a hk (fun b h => .inl h) bs (.inr rfl)
  have b := mm_take hk bs f.1 f.2 l2
  exact ⟨mm_congr (mm_of_perm a hp.symm) (tt_succ l0 i hi bs hb), mm_congr b (tt_succ l0 i hi bs hb)⟩
theorem len1 {P P' : List KP} {bs : List UInt8} (hp : (KF P').Perm (tookP (KF P) bs).2) : P'.length ≤ P.length + 1 := by
  have h := hp.length_eq
  have h2 := tookP_len (KF P) bs
  rw [List.length_map] at h h2
  omega
/-- A round of the later loops. -/
theorem round2 {L k : K} {S T : List UInt8 → Prop} (hL : Mm L S) (hk : Mm k T) (hT : ∀ b, T b → S b) (bs : List UInt8) (hb : S bs) (l2 : k.length < 65536) : Mm (tookP k bs).2 (fun b => T b ∨ b = bs) ∧ ∀ b, (T b ∨ b = bs) → S b := by
  have f := mm_fate hL hk hT bs hb
  exact ⟨mm_take hk bs f.1 f.2 l2, fun b h => h.elim (hT b) (fun e => e ▸ hb)⟩
theorem ofWin_perm {k k' : K} (h : k.Perm k') (hw : k.Pairwise fun a b => a.1.win ≠ b.1.win) : ofWin k = ofWin k' := by
  funext q
  unfold ofWin
  rw [find_perm h hw q]
theorem tot_perm {k k' : K} (h : k.Perm k') (hw : k.Pairwise fun a b => a.1.win ≠ b.1.win) (hI : Incs k) (name : ByteArray) (fr tt : Int) (ws ws' : List Int) (p : ws.Perm (k.map fun e => e.1.win)) (p' : ws'.Perm (k'.map fun e => e.1.win)) : totP k name fr tt ws = totP k' name fr tt ws' := by
  have e1 : totP k' name fr tt ws' = totP k name fr tt ws' := by
    unfold totP
    congr 1
    unfold totW
    rw [ofWin_perm h hw]
  have hp : ws.Perm ws' := p.trans ((h.map _).trans p'.symm)
  rw [e1, (totP_sat k hI name fr tt ws).1, (totP_sat k hI name fr tt ws').1, sumP_perm k name fr tt hp, anyP_perm k name fr tt hp]
theorem same19 (l : List S73) (hl : l.length ≤ 1000000) : ∀ (d i : Nat), i + d = l.length → ∀ m, d < m → odometerref19_Same.l0 m l l (i : Int) = some true := by
  intro d
  induction d with
  | zero =>
    intro i hi m hm
    obtain ⟨m, rfl⟩ : ∃ m', m = m' + 1 := ⟨m - 1, by omega⟩
    unfold odometerref19_Same.l0
    rw [if_neg (by omega)]
  | succ d ih =>
    intro i hi m hm
    obtain ⟨m, rfl⟩ : ∃ m', m = m' + 1 := ⟨m - 1, by omega⟩
    unfold odometerref19_Same.l0
    rw [if_pos (by omega), if_pos (by omega), if_pos (by omega), if_neg (by simp), show wrap64 ((i : Int) + 1) = ((i + 1 : Nat) : Int) by unfold wrap64; omega]
    exact ih (i + 1) (by omega) m (by omega)
theorem same20 (a b : Int) (l : List S73) (hl : l.length ≤ 1000000) : odometerref20_Same.f (l.length + 1) a b l a b l = some true := by
  unfold odometerref20_Same.f odometerref19_Same.f
  rw [if_pos rfl, if_pos rfl, if_pos rfl, show odometerref19_Same.l0 (l.length + 1) l l 0 = some true from same19 l hl l.length 0 (by omega) (l.length + 1) (by omega)]
  rfl
theorem text_at (l0 : List (List Int)) (hw : ∀ t ∈ l0, ∀ z ∈ t, (Lit.int .u8 z).wf = true) (i : Nat) (hi : i < l0.length) : ∃ bs, rd_L1 l0 (i : Int) = nb bs := by
  have e : rd_L1 l0 (i : Int) = l0[i] := by unfold rd_L1; simp [List.getD, hi]
  rw [e]
  exact Tx.nb_of _ (hw _ (List.getElem_mem hi))
theorem len_at (l0 : List (List Int)) (hw : ∀ t ∈ l0, t.length ≤ 9000) (i : Nat) (hi : i < l0.length) : (rd_L1 l0 (i : Int)).length ≤ 9000 := by
  have e : rd_L1 l0 (i : Int) = l0[i] := by unfold rd_L1; simp [List.getD, hi]
  rw [e]
  exact hw _ (List.getElem_mem hi)
end Go.Proofs.YtpihpkphhkcdlaaGreatDoor.Od
namespace Go.Proofs.YtpihpkphhkcdlaaGreatDoor.Os
open Go.RowKit Go.Maps Go.Proofs.YtpihpkphhkcdlaaGreatDoorW.PrintWords Go.Proofs.YtpihpkphhkcdlaaGreatDoorW.PrintLast Go.Proofs.YtpihpkphhkcdlaaGreatDoor.Tab Go.Proofs.YtpihpkphhkcdlaaGreatDoor.Kp Go.Proofs.YtpihpkphhkcdlaaGreatDoor.Pd Go.Proofs.YtpihpkphhkcdlaaGreatDoor.Pk Go.Proofs.YtpihpkphhkcdlaaGreatDoor.Sk Go.Proofs.YtpihpkphhkcdlaaGreatDoor.Lk Go.Proofs.YtpihpkphhkcdlaaGreatDoor.Tk Go.Proofs.YtpihpkphhkcdlaaGreatDoor.Tke Go.Proofs.YtpihpkphhkcdlaaGreatDoor.Ad Go.Proofs.YtpihpkphhkcdlaaGreatDoor.To Go.Proofs.YtpihpkphhkcdlaaGreatDoor.Pl Go.Proofs.YtpihpkphhkcdlaaGreatDoor.Ic Go.Proofs.YtpihpkphhkcdlaaGreatDoor.PR Go.Proofs.YtpihpkphhkcdlaaGreatDoor.Eq Go.Proofs.YtpihpkphhkcdlaaGreatDoor.De Go.Proofs.YtpihpkphhkcdlaaGreatDoor.Fr Go.Proofs.YtpihpkphhkcdlaaGreatDoor.May Go.Proofs.YtpihpkphhkcdlaaGreatDoor.Wk Go.Proofs.YtpihpkphhkcdlaaGreatDoor.Wd Go.Proofs.YtpihpkphhkcdlaaGreatDoor.Wt Go.Proofs.YtpihpkphhkcdlaaGreatDoor.Rt Go.Proofs.YtpihpkphhkcdlaaGreatDoor.Od Go.Proofs.YtpihpkphhkcdlaaGreatDoor.Ext
set_option linter.unusedVariables false
set_option linter.unusedSimpArgs false
structure St (w W : World) (g1 m1 n1 gw g2 m2 n2 lo : Nat) (L : List KP) (k ko : K) : Prop where
  s : ∃ c, IsS W (fun j => lo ≤ j) g1 m1 n1 k c
  r : ∃ A c N, IsW W gw lo A c N L
  o : ∃ c, IsS W (fun j => lo ≤ j) g2 m2 n2 ko c
  glob : Glob W
  bel : Below w.heap.size w W
  ap : w.heap.size ≤ m1 ∧ m1 < n1 ∧ n1 < g1 ∧ g1 < gw ∧ gw < m2 ∧ m2 < n2 ∧ n2 < g2 ∧ g2 < lo ∧ lo ≤ W.heap.size
  gl : 0 < w.heap.size
variable {w W : World} {g1 m1 n1 gw g2 m2 n2 lo : Nat} {L : List KP} {k ko : K}
theorem St.below {W' : World} (h : St w W g1 m1 n1 gw g2 m2 n2 lo L k ko) (hb : Below W.heap.size W W') : St w W' g1 m1 n1 gw g2 m2 n2 lo L k ko := by
  obtain ⟨c, hs⟩ := h.s
  obtain ⟨A, cr, N, hr⟩ := h.r
  obtain ⟨c2, ho⟩ := h.o
  have := hb.size
  have := h.ap
  exact ⟨⟨c, hs.below hb⟩, ⟨A, cr, N, hr.below hb⟩, ⟨c2, ho.below hb⟩, h.glob.below hb, h.bel.trans (hb.mono h.bel.size), by omega, h.gl⟩
theorem St.stake (h : St w W g1 m1 n1 gw g2 m2 n2 lo L k ko) (A : Option Addr) (cp : Nat) (bs : List UInt8) (hl : bs.length ≤ 1000000) (hcp : bs.length ≤ cp) (hr : ReadsInt W .u8 A bs.length (nb bs)) (hk : k.length ≤ 1000000) :
    Calls Tryz.prog 9 #[.pointer (some ⟨g1, 0, none⟩), .slice A bs.length cp] W fun e W' => e = .returned (.int .i64 (tookP k bs).1) ∧ St w W' g1 m1 n1 gw g2 m2 n2 lo L (tookP k bs).2 ko := by
  obtain ⟨c, hs⟩ := h.s
  obtain ⟨A1, cr, N, hrw⟩ := h.r
  obtain ⟨c2, ho⟩ := h.o
  have ap := h.ap
  have gl := h.gl
  refine (take_calls (fun j => lo ≤ j) g1 m1 n1 k c A cp bs hl hcp W h.glob hr hs (fun j hj => by show lo ≤ j; omega) hk).mono ?_
  rintro e W' ⟨he, h1, h2⟩
  have := h2.size
  exact ⟨he, ⟨_, h1⟩, ⟨A1, cr, N, hrw.keep h2 (fun e => by rcases e with e | e | e <;> omega) (fun j hj e => by rcases e with e | e | e <;> omega)⟩,
    ⟨c2, ho.keep h2 (fun e => by rcases e with e | e | e <;> omega) (fun e => by rcases e with e | e | e <;> omega) (fun e => by rcases e with e | e | e <;> omega) (fun j hj e => by have hj' : lo ≤ j := hj; rcases e with e | e | e <;> omega)⟩,
    h.glob.keep h2 (fun e => by rcases e with e | e | e <;> omega), h.bel.trans (h2.below (B := w.heap.size) (fun k e => by rcases e with e | e | e <;> omega) h.bel.size), by omega, gl⟩
theorem St.otake (h : St w W g1 m1 n1 gw g2 m2 n2 lo L k ko) (A : Option Addr) (cp : Nat) (bs : List UInt8) (hl : bs.length ≤ 1000000) (hcp : bs.length ≤ cp) (hr : ReadsInt W .u8 A bs.length (nb bs)) (hk : ko.length ≤ 1000000) :
    Calls Tryz.prog 9 #[.pointer (some ⟨g2, 0, none⟩), .slice A bs.length cp] W fun e W' => e = .returned (.int .i64 (tookP ko bs).1) ∧ St w W' g1 m1 n1 gw g2 m2 n2 lo L k (tookP ko bs).2 := by
  obtain ⟨c, hs⟩ := h.s
  obtain ⟨A1, cr, N, hrw⟩ := h.r
  obtain ⟨c2, ho⟩ := h.o
  have ap := h.ap
  have gl := h.gl
  refine (take_calls (fun j => lo ≤ j) g2 m2 n2 ko c2 A cp bs hl hcp W h.glob hr ho (fun j hj => by show lo ≤ j; omega) hk).mono ?_
  rintro e W' ⟨he, h1, h2⟩
  have := h2.size
  exact ⟨he, ⟨c, hs.keep h2 (fun e => by rcases e with e | e | e <;> omega) (fun e => by rcases e with e | e | e <;> omega) (fun e => by rcases e with e | e | e <;> omega) (fun j hj e => by have hj' : lo ≤ j := hj; rcases e with e | e | e <;> omega)⟩,
    ⟨A1, cr, N, hrw.keep h2 (fun e => by rcases e with e | e | e <;> omega) (fun j hj e => by rcases e with e | e | e <;> omega)⟩, ⟨_, h1⟩,
    h.glob.keep h2 (fun e => by rcases e with e | e | e <;> omega), h.bel.trans (h2.below (B := w.heap.size) (fun k e => by rcases e with e | e | e <;> omega) h.bel.size), by omega, gl⟩
theorem St.rtake (h : St w W g1 m1 n1 gw g2 m2 n2 lo L k ko) (A : Option Addr) (cp : Nat) (bs : List UInt8) (hl : bs.length ≤ 1000000) (hcp : bs.length ≤ cp) (hr : ReadsInt W .u8 A bs.length (nb bs)) (hk : L.length ≤ 1000) :
    Calls Tryz.prog 11 #[.pointer (some ⟨gw, 0, none⟩), .slice A bs.length cp] W fun e W' => e = .returned (.int .i64 (tookP (KF L) bs).1) ∧ ∃ L', (KF L').Perm (tookP (KF L) bs).2 ∧ St w W' g1 m1 n1 gw g2 m2 n2 lo L' k ko := by
  obtain ⟨c, hs⟩ := h.s
  obtain ⟨A1, cr, N, hrw⟩ := h.r
  obtain ⟨c2, ho⟩ := h.o
  have ap := h.ap
  have gl := h.gl
  refine (reftake_calls gw lo A1 cr N L A cp bs hl hcp W hr hrw (by omega) hk).mono ?_
  rintro e W' ⟨he, ⟨A', c', N', L', h1, hp⟩, h2⟩
  have := h2.size
  have e1 : ∀ j, j ≠ gw → ¬ (fun j => j = gw) j := fun j hj => hj
  exact ⟨he, L', hp, ⟨c, hs.keep h2 (e1 _ (by omega)) (e1 _ (by omega)) (e1 _ (by omega)) (fun j hj => e1 j (by have hj' : lo ≤ j := hj; omega))⟩, ⟨A', c', N', h1⟩,
    ⟨c2, ho.keep h2 (e1 _ (by omega)) (e1 _ (by omega)) (e1 _ (by omega)) (fun j hj => e1 j (by have hj' : lo ≤ j := hj; omega))⟩,
    h.glob.keep h2 (e1 _ (by omega)), h.bel.trans (h2.below (B := w.heap.size) (fun k e => by have e' : k = gw := e; omega) h.bel.size), by omega, gl⟩
theorem St.stot (h : St w W g1 m1 n1 gw g2 m2 n2 lo L k ko) (hI : Incs k) (hk : k.length ≤ 1000000) (name : ByteArray) (fr tt : Int) :
    Calls Tryz.prog 10 #[.pointer (some ⟨g1, 0, none⟩), .string name, .int .i64 fr, .int .i64 tt] W fun e W' => (∃ ws, ws.Perm (k.map fun e => e.1.win) ∧ e = .returned (.tuple #[.int .i64 (totP k name fr tt ws).1, .bool (totP k name fr tt ws).2])) ∧ Below W.heap.size W W' := by
  obtain ⟨c, hs⟩ := h.s
  refine (total_calls (fun j => lo ≤ j) g1 m1 n1 k c name fr tt W hs hI hk).mono ?_
  rintro e W' ⟨ws, p, he, hb⟩
  exact ⟨⟨ws, p, he⟩, hb⟩
theorem St.otot (h : St w W g1 m1 n1 gw g2 m2 n2 lo L k ko) (hI : Incs ko) (hk : ko.length ≤ 1000000) (name : ByteArray) (fr tt : Int) :
    Calls Tryz.prog 10 #[.pointer (some ⟨g2, 0, none⟩), .string name, .int .i64 fr, .int .i64 tt] W fun e W' => (∃ ws, ws.Perm (ko.map fun e => e.1.win) ∧ e = .returned (.tuple #[.int .i64 (totP ko name fr tt ws).1, .bool (totP ko name fr tt ws).2])) ∧ Below W.heap.size W W' := by
  obtain ⟨c, hs⟩ := h.o
  refine (total_calls (fun j => lo ≤ j) g2 m2 n2 ko c name fr tt W hs hI hk).mono ?_
  rintro e W' ⟨ws, p, he, hb⟩
  exact ⟨⟨ws, p, he⟩, hb⟩
theorem St.slen (h : St w W g1 m1 n1 gw g2 m2 n2 lo L k ko) : Calls Tryz.prog 12 #[.pointer (some ⟨g1, 0, none⟩)] W fun e W' => e = .returned (.int .i64 (k.length : Nat)) ∧ W' = W := by
  obtain ⟨c, hs⟩ := h.s
  exact slen_calls _ _ _ _ _ _ W hs
theorem St.olen (h : St w W g1 m1 n1 gw g2 m2 n2 lo L k ko) : Calls Tryz.prog 12 #[.pointer (some ⟨g2, 0, none⟩)] W fun e W' => e = .returned (.int .i64 (ko.length : Nat)) ∧ W' = W := by
  obtain ⟨c, hs⟩ := h.o
  exact slen_calls _ _ _ _ _ _ W hs
theorem St.slast (h : St w W g1 m1 n1 gw g2 m2 n2 lo L k ko) : Calls Tryz.prog 13 #[.pointer (some ⟨g1, 0, none⟩)] W fun e W' => (∃ m : Nat, e = .returned (.int .u64 (m : Int)) ∧ IsMax k m) ∧ Below W.heap.size W W' := by
  obtain ⟨c, hs⟩ := h.s
  exact slast_calls _ _ _ _ _ _ W hs
theorem St.olast (h : St w W g1 m1 n1 gw g2 m2 n2 lo L k ko) : Calls Tryz.prog 13 #[.pointer (some ⟨g2, 0, none⟩)] W fun e W' => (∃ m : Nat, e = .returned (.int .u64 (m : Int)) ∧ IsMax ko m) ∧ Below W.heap.size W W' := by
  obtain ⟨c, hs⟩ := h.o
  exact slast_calls _ _ _ _ _ _ W hs
theorem St.oget (h : St w W g1 m1 n1 gw g2 m2 n2 lo L k ko) (e0 : Frm × List UInt8) (he : e0 ∈ ko) (hl : e0.1.recs.length ≤ 1000000) : Calls Tryz.prog 14 #[.pointer (some ⟨g2, 0, none⟩), .int .u64 (e0.1.seq : Nat)] W fun e W' => (∃ A' c', e = .returned (.tuple #[.agg #[.int .u64 (e0.1.seq : Nat), .int .i64 e0.1.win, .slice A' e0.1.recs.length c'], .bool true]) ∧ e0.1.recs.length ≤ c' ∧ RecsAt W' A' e0.1.win e0.1.recs) ∧ Below W.heap.size W W' := by
  obtain ⟨c, hs⟩ := h.o
  exact sget_calls _ _ _ _ _ _ W hs e0 he hl
end Go.Proofs.YtpihpkphhkcdlaaGreatDoor.Os
namespace Go.Proofs.YtpihpkphhkcdlaaGreatDoor.Ow
open Go.RowKit Go.Maps Go.Proofs.YtpihpkphhkcdlaaGreatDoorW.PrintWords Go.Proofs.YtpihpkphhkcdlaaGreatDoorW.PrintLast Go.Proofs.YtpihpkphhkcdlaaGreatDoor.Tab Go.Proofs.YtpihpkphhkcdlaaGreatDoor.Kp Go.Proofs.YtpihpkphhkcdlaaGreatDoor.Pd Go.Proofs.YtpihpkphhkcdlaaGreatDoor.Pk Go.Proofs.YtpihpkphhkcdlaaGreatDoor.Sk Go.Proofs.YtpihpkphhkcdlaaGreatDoor.Lk Go.Proofs.YtpihpkphhkcdlaaGreatDoor.Tk Go.Proofs.YtpihpkphhkcdlaaGreatDoor.Tke Go.Proofs.YtpihpkphhkcdlaaGreatDoor.Ad Go.Proofs.YtpihpkphhkcdlaaGreatDoor.To Go.Proofs.YtpihpkphhkcdlaaGreatDoor.Kn Go.Proofs.YtpihpkphhkcdlaaGreatDoor.Pl Go.Proofs.YtpihpkphhkcdlaaGreatDoor.Ic Go.Proofs.YtpihpkphhkcdlaaGreatDoor.PR Go.Proofs.YtpihpkphhkcdlaaGreatDoor.Eq Go.Proofs.YtpihpkphhkcdlaaGreatDoor.De Go.Proofs.YtpihpkphhkcdlaaGreatDoor.Fr Go.Proofs.YtpihpkphhkcdlaaGreatDoor.May Go.Proofs.YtpihpkphhkcdlaaGreatDoor.Wk Go.Proofs.YtpihpkphhkcdlaaGreatDoor.Wd Go.Proofs.YtpihpkphhkcdlaaGreatDoor.Wt Go.Proofs.YtpihpkphhkcdlaaGreatDoor.Rt Go.Proofs.YtpihpkphhkcdlaaGreatDoor.Od Go.Proofs.YtpihpkphhkcdlaaGreatDoor.Os Go.Proofs.YtpihpkphhkcdlaaGreatDoor.Ext
set_option linter.unusedVariables false
set_option linter.unusedSimpArgs false
/-- The world once the three sinks are made. -/
theorem made {w w1 w2 w3 : World} {gw : Nat} (hG : Glob w) (hs : Below w.heap.size w w1) (h1 : ∀ ok : Nat → Prop, (¬ ok (w.heap.size + 1 + 1) ∧ ¬ ok w.heap.size ∧ ¬ ok (w.heap.size + 1)) → IsS w1 ok (w.heap.size + 1 + 1) w.heap.size (w.heap.size + 1) [] [])
    (e2 : w2 = w1.alloc (.cells #[.slice none 0 0, .int .i64 0, .int .i64 0, .int .i64 0, .int .i64 0, .int .i64 0, .int .i64 0] 38)) (eg : gw = w1.heap.size) (h3 : ∀ ok : Nat → Prop, (¬ ok (w2.heap.size + 1 + 1) ∧ ¬ ok w2.heap.size ∧ ¬ ok (w2.heap.size + 1)) → IsS w3 ok (w2.heap.size + 1 + 1) w2.heap.size (w2.heap.size + 1) [] []) (hb3 : Below w2.heap.size w2 w3) :
    St w w3 (w.heap.size + 1 + 1) w.heap.size (w.heap.size + 1) gw (w2.heap.size + 1 + 1) w2.heap.size (w2.heap.size + 1) (w2.heap.size + 3) [] [] [] := by
  have hs2 : w2.heap.size = w1.heap.size + 1 := by rw [e2]; simp
  have a1 := blk_lt (h1 (fun _ => False) ⟨id, id, id⟩).blk
  have a3 := blk_lt (h3 (fun _ => False) ⟨id, id, id⟩).blk
  have hb2 : Below w1.heap.size w1 w2 := by rw [e2]; exact below_alloc (Below.refl _ _) _
  have hb13 : Below w1.heap.size w1 w3 := hb2.trans (hb3.mono hb2.size)
  have hbw : Below w.heap.size w w3 := hs.trans (hb13.mono hs.size)
  refine ⟨⟨[], (h1 (fun j => w2.heap.size + 3 ≤ j) ⟨fun e => by have e' : w2.heap.size + 3 ≤ w.heap.size + 1 + 1 := e; omega, fun e => by have e' : w2.heap.size + 3 ≤ w.heap.size := e; omega, fun e => by have e' : w2.heap.size + 3 ≤ w.heap.size + 1 := e; omega⟩).below hb13⟩, ⟨none, 0, [], ⟨?_, .inl ⟨rfl, rfl, rfl⟩, fun p hp => absurd hp (by simp), by omega⟩⟩,
    ⟨[], h3 (fun j => w2.heap.size + 3 ≤ j) ⟨fun e => by have e' : w2.heap.size + 3 ≤ w2.heap.size + 1 + 1 := e; omega, fun e => by have e' : w2.heap.size + 3 ≤ w2.heap.size := e; omega, fun e => by have e' : w2.heap.size + 3 ≤ w2.heap.size + 1 := e; omega⟩⟩, hG.below hbw, hbw, by omega, hG.lt⟩
  have hn : w2.heap[gw]? = some (.cells (wC none 0 0 []) 38 (0, 0)) := by rw [e2, eg]; exact blk_new w1 _
  exact blk_below hn hb3
set_option maxHeartbeats 16000000 in
set_option maxRecDepth 1000000 in
theorem walk_ (k : Nat) (A0 : Option Addr) (c0 : Nat) (l0 : List (List Int)) (A1 : Option Addr) (c1 : Nat) (l1 : List Int) (name : ByteArray) (b : Bool) (w : World) (hb : b = true → l0.length ≤ 20 ∧ ∀ x ∈ l0, x.length ≤ 9000) (hw : ∀ t ∈ l0, ∀ z ∈ t, (Lit.int .u8 z).wf = true) (hG : Glob w) (hr0 : Kd.C (Kd.slice 5 (Kd.int .u8)) w A0 l0.length l0) (hc0 : l0.length ≤ c0) (hr1 : ReadsInt w .i64 A1 l1.length l1) (hc1 : l1.length ≤ c1) (hf : odometerlaw31_few.f k l0 20 = some b) :
    Calls Tryz.prog 4 #[.slice A0 l0.length c0, .slice A1 l1.length c1, .string name] w fun e w' => e = .returned (.bool true) ∧ Below w.heap.size w w' := by
  have HF := Aside0.mk (odometerlaw31_few.calls k A0 c0 l0 20 b w hr0 hc0 hf)
  have HG := Aside0.mk hG
  clear hc0 hf hG
  go_enter Tryz.func4, Tryz.ntmps4
  cases b with
  | false =>
    clear hr0 hr1 hc1
    go_wp2_with (first
      | (go_at_call 6; refine HF.out.mono ?_; clear HF; rintro e_ w1 ⟨rfl, ⟨m1, rfl⟩⟩)
      | (go_at_call 7; refine (known_calls _ (HG.out.below (pw_below_drewN (Below.refl _ _) _))).mono ?_; rintro e_ w2 ⟨rfl, h1⟩))
    go_ret
    exact ⟨rfl, (pw_below_drewN (Below.refl _ _) _).trans h1⟩
  | true =>
    by_cases c60 : 60 < l1.length
    · have d1 : decide ((60 : Int) < (l1.length : Int)) = true := decide_eq_true (by omega)
      have d2 : ((60 : Int) < (l1.length : Int)) = True := eq_true (by omega)
      have d3 : decide (60 < l1.length) = true := decide_eq_true c60
      clear hr0 hr1 hc1
      go_wp2_with (first
        | (go_at_call 6; refine HF.out.mono ?_; clear HF; rintro e_ w1 ⟨rfl, ⟨m1, rfl⟩⟩)
        | (go_at_call 7; refine (known_calls _ (HG.out.below (pw_below_drewN (Below.refl _ _) _))).mono ?_; rintro e_ w2 ⟨rfl, h1⟩))
      go_ret
      exact ⟨rfl, (pw_below_drewN (Below.refl _ _) _).trans h1⟩
    · have HB2 := Aside0.mk (And.intro (hb rfl) (show l1.length ≤ 60 from by omega))
      have HWF := Aside0.mk hw
      have HRR := Aside0.mk hr0
      have HR1 := Aside0.mk (And.intro hr1 hc1)
      have d1 : decide ((60 : Int) < (l1.length : Int)) = false := decide_eq_false (by omega)
      have d2 : ((60 : Int) < (l1.length : Int)) = False := eq_false (by omega)
      have d3 : decide (60 < l1.length) = false := decide_eq_false c60
      clear hb hw hr0 hr1 hc1 c60
      go_upto_region 3 with (first
        | (go_at_call 6; refine HF.out.mono ?_; clear HF; rintro e_ w1 ⟨rfl, ⟨m1, rfl⟩⟩))
      have HBM := Aside0.mk (show Below w.heap.size w (w.drewN m1) from pw_below_drewN (Below.refl _ _) _)
      have HSM := Aside0.mk (show (w.drewN m1).heap.size = w.heap.size from by simp)
      generalize w.drewN m1 = wa at HBM HSM ⊢
      clear d1 d2 d3
      go_upto_region 4 with (first
        | (go_at_call 8; refine (new_calls _).mono ?_; rintro e_ w1 ⟨rfl, h1, h2⟩; rw [HSM.out] at h1; have HN := Aside0.mk (And.intro h1 (HBM.out.trans (h2.mono (by rw [HSM.out]; exact Nat.le_refl _)))); clear h1 h2))
      rw [HSM.out]
      obtain ⟨w2, hw2⟩ : ∃ w2, w2 = w1.alloc (.cells #[.slice none 0 0, .int .i64 0, .int .i64 0, .int .i64 0, .int .i64 0, .int .i64 0, .int .i64 0] 38) := ⟨_, rfl⟩
      have HW2 := Aside0.mk hw2
      rw [← hw2]
      clear hw2
      obtain ⟨gw, hgw⟩ : ∃ gw, gw = w1.heap.size := ⟨_, rfl⟩
      have HGW := Aside0.mk hgw
      rw [← hgw]
      clear hgw
      go_upto_region 5 with (first
        | (go_at_call 8; refine (new_calls _).mono ?_; rintro e_ w3 ⟨rfl, h1, h2⟩; have HN3 := Aside0.mk (And.intro h1 h2); clear h1 h2))
      have HST := Aside0.mk (made HG.out HN.out.2 HN.out.1 HW2.out HGW.out HN3.out.1 HN3.out.2)
      clear HN HN3 HW2 HGW HBM HSM
      obtain ⟨g1, hg1⟩ : ∃ g1, g1 = w.heap.size + 1 + 1 := ⟨_, rfl⟩
      obtain ⟨m1, hm1⟩ : ∃ m1, m1 = w.heap.size := ⟨_, rfl⟩
      obtain ⟨n1, hn1⟩ : ∃ n1, n1 = w.heap.size + 1 := ⟨_, rfl⟩
      obtain ⟨g2, hg2⟩ : ∃ g2, g2 = w2.heap.size + 1 + 1 := ⟨_, rfl⟩
      obtain ⟨m2, hm2⟩ : ∃ m2, m2 = w2.heap.size := ⟨_, rfl⟩
      obtain ⟨n2, hn2⟩ : ∃ n2, n2 = w2.heap.size + 1 := ⟨_, rfl⟩
      obtain ⟨lo, hlo⟩ : ∃ lo, lo = w2.heap.size + 3 := ⟨_, rfl⟩
      have HST := Aside0.mk (show St w w3 g1 m1 n1 gw g2 m2 n2 lo [] [] [] from by rw [hg1, hm1, hn1, hg2, hm2, hn2, hlo]; exact HST.out)
      rw [← hg1, ← hg2]
      clear hg1 hm1 hn1 hg2 hm2 hn2 hlo
      have HM0 := Aside0.mk (show Mm [] (tt l0 0) from mm_congr mm_nil (tt_zero l0))
      go_wp2
      go_loopg [10, 11] l0.length (fun kq v10 v11 wr => ∃ (i : Nat) (L : List KP) (kk : K), v10 = .int .i64 i ∧ i + kq = l0.length ∧ Aside0 (St w wr g1 m1 n1 gw g2 m2 n2 lo L kk []) ∧ Aside0 (Mm (KF L) (tt l0 i) ∧ Mm kk (tt l0 i)) ∧ Aside0 (L.length ≤ i ∧ kk.length ≤ i))
      case atStart => exact ⟨0, [], [], rfl, by omega, HST, ⟨HM0.out, HM0.out⟩, ⟨Nat.le_refl _, Nat.le_refl _⟩⟩
      case round =>
        clear HST HM0
        obtain ⟨i, L, kk, rfl, hik, HS, HM, HL⟩ := hrel
        by_cases hi : i < l0.length
        · have d1 : decide ((i : Int) < (l0.length : Int)) = true := decide_eq_true (by omega)
          have d1n : decide (i < l0.length) = true := decide_eq_true hi
          have d1q : (i < l0.length) = True := eq_true hi
          have d1p : ((i : Int) < (l0.length : Int)) = True := eq_true (by omega)
          have hwi : wrap64 ((i : Int) + 1) = ((i + 1 : Nat) : Int) := by unfold wrap64; have := HB2.out.1.1; omega
          have HWI := Aside0.mk hwi
          clear hwi
          obtain ⟨ad, A', c', eA, hcell, hcap, hbs⟩ := at_L1 HRR.out (i : Int) (by omega) (by omega)
          rw [Int.toNat_natCast] at hcell
          obtain ⟨bs, ebs⟩ := text_at l0 HWF.out i hi
          have hl9 := len_at l0 HB2.out.1.2 i hi
          have HEB := Aside0.mk ebs
          rw [ebs] at hcell hcap hbs hl9
          rw [nb_len] at hcell hcap hbs hl9
          have HRD := Aside0.mk (show ReadsInt w .u8 A' bs.length (nb bs) from Kd.reads_of_C hbs)
          subst eA
          have hi0 : (0 : Int) ≤ (i : Int) := by omega
          have hi1 : (i : Int) < (l0.length : Int) := by omega
          have HCELL := Aside0.mk hcell
          have HIK := Aside0.mk (And.intro hik hi)
          have x0 := pw_cell_below HS.out.bel hcell
          have HTK := Aside0.mk (HS.out.rtake A' c' bs (by omega) hcap (HRD.out.below HS.out.bel) (by have := HL.out.1; have := HB2.out.1.1; omega))
          have HCAP := Aside0.mk (And.intro hcap hl9)
          clear hbs hl9 hcap ebs hik hcell hi
          go_upto_region 11 with (first
            | (go_at_call 11; (with_reducible refine HTK.out.mono ?_); clear HTK; rintro e_ w4 ⟨rfl, L', hp, h2⟩; have HS4 := Aside0.mk h2; have HPL := Aside0.mk hp; clear h2 hp))
          clear x0
          have x0 := pw_cell_below HS4.out.bel HCELL.out
          have HTK := Aside0.mk (HS4.out.stake A' c' bs (by have := HCAP.out.2; omega) HCAP.out.1 (HRD.out.below HS4.out.bel) (by have := HL.out.2; have := HB2.out.1.1; omega))
          go_upto_region 12 with (first
            | (go_at_call 9; (with_reducible refine HTK.out.mono ?_); clear HTK; rintro e_ w5 ⟨rfl, h2⟩; have HS5 := Aside0.mk h2; clear h2))
          obtain ⟨t, ht⟩ : ∃ t, t = (tookP (KF L) bs).1 := ⟨_, rfl⟩
          rw [← ht]
          have HT := Aside0.mk ht
          clear ht x0 HS4
          by_cases h3 : t = 3
          · subst h3
            have HG5 := Aside0.mk HS5.out.glob
            go_wp2_with (first
              | (go_at_call 7; refine (known_calls _ HG5.out).mono ?_; rintro e_ w6 ⟨rfl, h1⟩))
            go_ret
            exact ⟨rfl, HS5.out.bel.trans (h1.mono HS5.out.bel.size)⟩
          · by_cases h4 : t = 4
            · subst h4
              have HG5 := Aside0.mk HS5.out.glob
              go_wp2_with (first
                | (go_at_call 7; refine (known_calls _ HG5.out).mono ?_; rintro e_ w6 ⟨rfl, h1⟩))
              go_ret
              exact ⟨rfl, HS5.out.bel.trans (h1.mono HS5.out.bel.size)⟩
            · have q3 : (t == 3) = false := beq_eq_false_iff_ne.2 h3
              have q4 : (t == 4) = false := beq_eq_false_iff_ne.2 h4
              have HQ := Aside0.mk (round1 HIK.out.2 HEB.out HM.out.1 HM.out.2 (by rw [← HT.out]; exact h3) (by rw [← HT.out]; exact h4) (by have := HL.out.1; have := HB2.out.1.1; omega) (by have := HL.out.2; have := HB2.out.1.1; omega) HPL.out)
              have HQ2 := Aside0.mk (And.intro (len1 HPL.out) (tookP_len kk bs))
              have h3n := eq_false h3
              have h4n := eq_false h4
              go_wp2
              go_roundg (gk - 1)
              case measure => have := HIK.out; omega
              case rel => exact ⟨i + 1, L', (tookP kk bs).2, by first | rfl | (rw [HWI.out]), by have := HIK.out; omega, HS5, HQ, ⟨by have := HQ2.out.1; have := HL.out.1; omega, by have := HQ2.out.2; have := HL.out.2; omega⟩⟩
        · have d1 : decide ((i : Int) < (l0.length : Int)) = false := decide_eq_false (by omega)
          have d1n : decide (i < l0.length) = false := decide_eq_false hi
          have d1q : (i < l0.length) = False := eq_false hi
          have d1p : ((i : Int) < (l0.length : Int)) = False := eq_false (by omega)
          have hiL : i = l0.length := by omega
          subst hiL
          clear hik hi
          go_wp2
          have HML := Aside0.mk HM.out.1
          have HMK := Aside0.mk HM.out.2
          have HLL := Aside0.mk HL.out
          clear d1 d1n d1q d1p HST HM HL
          have HO0 := Aside0.mk (And.intro mm_nil (show ∀ b : List UInt8, False → tt l0 l0.length b from fun _ h => h.elim))
          go_loopg [12] l1.length (fun kq v12 wr => ∃ (j : Nat) (ko : K) (To : List UInt8 → Prop), v12 = .int .i64 j ∧ j + kq = l1.length ∧ Aside0 (St w wr g1 m1 n1 gw g2 m2 n2 lo L kk ko) ∧ Aside0 (Mm ko To ∧ ∀ b, To b → tt l0 l0.length b) ∧ Aside0 (ko.length ≤ j))
          case atStart => exact ⟨0, [], _, rfl, by omega, HS, HO0, ⟨Nat.le_refl _⟩⟩
          case round =>
            clear HS HO0
            obtain ⟨j, ko, To, rfl, hjk, HS, HO, HL⟩ := hrel
            by_cases hj : j < l1.length
            · have d1 : decide ((j : Int) < (l1.length : Int)) = true := decide_eq_true (by omega)
              have d1n : decide (j < l1.length) = true := decide_eq_true hj
              have d1q : (j < l1.length) = True := eq_true hj
              have d1p : ((j : Int) < (l1.length : Int)) = True := eq_true (by omega)
              have hwj : wrap64 ((j : Int) + 1) = ((j + 1 : Nat) : Int) := by unfold wrap64; have := HB2.out.2; omega
              have HWJ := Aside0.mk hwj
              clear hwj
              have hj0 : (0 : Int) ≤ (j : Int) := by omega
              have hj1 : (j : Int) < (l1.length : Int) := by omega
              obtain ⟨ad1, eA1, hcell1⟩ := HR1.out.1.2.2 (by omega)
              subst eA1
              have HC1 := Aside0.mk hcell1
              obtain ⟨z, hz⟩ : ∃ z, z = l1.getD j 0 := ⟨_, rfl⟩
              have y0 := pw_cell_below HS.out.bel (hcell1 j hj)
              rw [← hz] at y0
              have HJK := Aside0.mk (And.intro hjk hj)
              clear hcell1 hjk hj hz
              by_cases hz0 : z < 0
              · have e1 : decide (z ≥ 0) = false := decide_eq_false (by omega)
                have e2 : decide (0 ≤ z) = false := decide_eq_false (by omega)
                have e3 : (0 ≤ z) = False := eq_false (by omega)
                have e4 : (z < 0) = True := eq_true hz0
                go_wp2
                go_roundg (gk - 1)
                case measure => have := HJK.out; omega
                case rel => exact ⟨j + 1, ko, To, by first | rfl | (rw [HWJ.out]), by have := HJK.out; omega, HS, HO, ⟨by have := HL.out; omega⟩⟩
              · have e1 : decide (z ≥ 0) = true := decide_eq_true (by omega)
                have e2 : decide (0 ≤ z) = true := decide_eq_true (by omega)
                have e3 : (0 ≤ z) = True := eq_true (by omega)
                have e4 : (z < 0) = False := eq_false hz0
                by_cases hzn : z < (l0.length : Int)
                · have f1 : decide (z < (l0.length : Int)) = true := decide_eq_true hzn
                  have f2 : (z < (l0.length : Int)) = True := eq_true hzn
                  obtain ⟨i, rfl⟩ := Int.eq_ofNat_of_zero_le (show 0 ≤ z by omega)
                  have hi : i < l0.length := by omega
                  obtain ⟨ad, A', c', eA, hcell, hcap, hbs⟩ := at_L1 HRR.out (i : Int) (by omega) (by omega)
                  rw [Int.toNat_natCast] at hcell
                  obtain ⟨bs, ebs⟩ := text_at l0 HWF.out i hi
                  have hl9 := len_at l0 HB2.out.1.2 i hi
                  have HEB := Aside0.mk (tt_mem l0 i hi bs ebs)
                  rw [ebs] at hcell hcap hbs hl9
                  rw [nb_len] at hcell hcap hbs hl9
                  have HRD := Aside0.mk (show ReadsInt w .u8 A' bs.length (nb bs) from Kd.reads_of_C hbs)
                  subst eA
                  have hi0 : (0 : Int) ≤ (i : Int) := by omega
                  have x0 := pw_cell_below HS.out.bel hcell
                  have HTK := Aside0.mk (HS.out.otake A' c' bs (by omega) hcap (HRD.out.below HS.out.bel) (by have := HL.out; have := HB2.out.2; have := HJK.out; omega))
                  have HQ := Aside0.mk (round2 HML.out HO.out.1 HO.out.2 bs HEB.out (by have := HL.out; have := HB2.out.2; have := HJK.out; omega))
                  have f1n : decide (i < l0.length) = true := decide_eq_true hi
                  have f2n : (i < l0.length) = True := eq_true hi
                  clear hbs hl9 hcap ebs hcell hz0 hzn hi
                  go_wp2_with (first
                    | (go_at_call 9; (with_reducible refine HTK.out.mono ?_); clear HTK; rintro e_ w5 ⟨rfl, h2⟩; have HS5 := Aside0.mk h2; clear h2))
                  go_roundg (gk - 1)
                  case measure => have := HJK.out; omega
                  case rel => exact ⟨j + 1, (tookP ko bs).2, _, by first | rfl | (rw [HWJ.out]), by have := HJK.out; omega, HS5, HQ, ⟨by have := HL.out; have := tookP_len ko bs; omega⟩⟩
                · have f1 : decide (z < (l0.length : Int)) = false := decide_eq_false hzn
                  have f2 : (z < (l0.length : Int)) = False := eq_false hzn
                  clear hz0 hzn
                  go_wp2
                  go_roundg (gk - 1)
                  case measure => have := HJK.out; omega
                  case rel => exact ⟨j + 1, ko, To, by first | rfl | (rw [HWJ.out]), by have := HJK.out; omega, HS, HO, ⟨by have := HL.out; omega⟩⟩
            · have d1 : decide ((j : Int) < (l1.length : Int)) = false := decide_eq_false (by omega)
              have d1n : decide (j < l1.length) = false := decide_eq_false hj
              have d1q : (j < l1.length) = False := eq_false hj
              have d1p : ((j : Int) < (l1.length : Int)) = False := eq_false (by omega)
              have HLO := Aside0.mk (show ko.length ≤ 60 from by have := HL.out; have := HB2.out.2; omega)
              have HNN := Aside0.mk (show wrap64 ((l0.length : Int) - 1) = (l0.length : Int) - 1 from by unfold wrap64; have := HB2.out.1.1; omega)
              clear hjk HL
              go_wp2
              rw [HNN.out]
              clear d1 d1n d1q d1p hj
              have HO3 := Aside0.mk (And.intro HO.out.1 (And.intro HO.out.2 (show ∀ (b : List UInt8) (jj : Nat), (l0.length : Int) - 1 < (jj : Int) → jj < l0.length → nb b = rd_L1 l0 (jj : Int) → To b from fun b jj h1 h2 _ => by omega)))
              clear HO
              go_loopg [13] l0.length (fun kq v13 wr => ∃ (x : Int) (ko : K) (To : List UInt8 → Prop), v13 = .int .i64 x ∧ x + 1 = (kq : Int) ∧ Aside0 (x < (l0.length : Int)) ∧ Aside0 (St w wr g1 m1 n1 gw g2 m2 n2 lo L kk ko) ∧ Aside0 (Mm ko To ∧ (∀ b, To b → tt l0 l0.length b) ∧ ∀ (b : List UInt8) (jj : Nat), x < (jj : Int) → jj < l0.length → nb b = rd_L1 l0 (jj : Int) → To b) ∧ Aside0 ((ko.length : Int) + x + 1 ≤ 80))
              case atStart => exact ⟨(l0.length : Int) - 1, ko, To, rfl, by omega, ⟨by omega⟩, HS, HO3, ⟨by have := HLO.out; have := HB2.out.1.1; omega⟩⟩
              case round =>
                clear HS HO3 HLO HNN
                obtain ⟨x, ko, To, rfl, hxk, HXN, HS, HO, HL⟩ := hrel
                by_cases hx : 0 ≤ x
                · obtain ⟨i, rfl⟩ := Int.eq_ofNat_of_zero_le hx
                  have e1 : decide ((i : Int) ≥ 0) = true := decide_eq_true (by omega)
                  have e2 : decide (0 ≤ (i : Int)) = true := decide_eq_true (by omega)
                  have e3 : (0 ≤ (i : Int)) = True := eq_true (by omega)
                  have hi : i < l0.length := by have := HXN.out; omega
                  have hwi : wrap64 ((i : Int) - 1) = (i : Int) - 1 := by unfold wrap64; have := HB2.out.1.1; omega
                  have HWI := Aside0.mk hwi
                  clear hwi
                  obtain ⟨ad, A', c', eA, hcell, hcap, hbs⟩ := at_L1 HRR.out (i : Int) (by omega) (by omega)
                  rw [Int.toNat_natCast] at hcell
                  obtain ⟨bs, ebs⟩ := text_at l0 HWF.out i hi
                  have hl9 := len_at l0 HB2.out.1.2 i hi
                  have HEB := Aside0.mk ebs
                  rw [ebs] at hcell hcap hbs hl9
                  rw [nb_len] at hcell hcap hbs hl9
                  have HRD := Aside0.mk (show ReadsInt w .u8 A' bs.length (nb bs) from Kd.reads_of_C hbs)
                  subst eA
                  have hi0 : (0 : Int) ≤ (i : Int) := by omega
                  have hi1 : (i : Int) < (l0.length : Int) := by omega
                  have x0 := pw_cell_below HS.out.bel hcell
                  have HTK := Aside0.mk (HS.out.otake A' c' bs (by omega) hcap (HRD.out.below HS.out.bel) (by have := HL.out; omega))
                  have HQ := Aside0.mk (round2 HML.out HO.out.1 HO.out.2.1 bs (tt_mem l0 i hi bs HEB.out) (by have := HL.out; omega))
                  have HXK := Aside0.mk hxk
                  clear hbs hl9 hcap ebs hcell hx hi hxk
                  go_wp2_with (first
                    | (go_at_call 9; (with_reducible refine HTK.out.mono ?_); clear HTK; rintro e_ w5 ⟨rfl, h2⟩; have HS5 := Aside0.mk h2; clear h2))
                  go_roundg (gk - 1)
                  case measure => have := HXK.out; omega
                  case rel => exact ⟨(i : Int) - 1, (tookP ko bs).2, _, by first | rfl | (rw [HWI.out]), by have := HXK.out; omega, ⟨by have := HXN.out; omega⟩, HS5, ⟨HQ.out.1, HQ.out.2, fun b jj a1 a2 a3 => by
                    by_cases e : jj = i
                    · exact .inr (nb_inj (a3.trans (by rw [e]; exact HEB.out)))
                    · exact .inl (HO.out.2.2 b jj (by omega) a2 a3)⟩, ⟨by have := HL.out; have := tookP_len ko bs; omega⟩⟩
                · have e1 : decide (x ≥ 0) = false := decide_eq_false (by omega)
                  have e2 : decide (0 ≤ x) = false := decide_eq_false (by omega)
                  have e3 : (0 ≤ x) = False := eq_false hx
                  have HMO := Aside0.mk (show Mm ko (tt l0 l0.length) from mm_congr HO.out.1 fun b => ⟨HO.out.2.1 b, fun ⟨jj, a1, a2, a3⟩ => HO.out.2.2 b jj (by omega) a2 a3⟩)
                  have HLO := Aside0.mk (show ko.length ≤ 1000 from by have := HL.out; omega)
                  have HLK := Aside0.mk (show kk.length ≤ 1000 ∧ L.length ≤ 1000 from by have := HLL.out; have := HB2.out.1.1; omega)
                  have HPK := Aside0.mk (mm_perm HMK.out HMO.out (fun _ => Iff.rfl))
                  have HTT := Aside0.mk (tot_perm HPK.out HMK.out.wins (mm_incs HMK.out) name (-9223372036854775808) 9223372036854775807)
                  have HS1 := Aside0.mk HS.out
                  clear hxk HXN HL HO
                  go_upto_region 24 with (first
                    | (go_at_call 10; (with_reducible refine (HS.out.stot (mm_incs HMK.out) (by have := HLK.out.1; omega) name (-9223372036854775808) 9223372036854775807).mono ?_); rintro e_ w5 ⟨⟨ws1, p1, rfl⟩, b1⟩; have HS2 := Aside0.mk (HS.out.below b1); have HP1 := Aside0.mk p1; clear b1 p1))
                  obtain ⟨⟨ta, tx⟩, htx⟩ : ∃ z, z = totP kk name (-9223372036854775808) 9223372036854775807 ws1 := ⟨_, rfl⟩
                  rw [← htx]
                  have HTX := Aside0.mk htx
                  clear htx HS HS1
                  go_upto_region 25 with (first
                    | (go_at_call 10; (with_reducible refine (HS2.out.otot (mm_incs HMO.out) (by have := HLO.out; omega) name (-9223372036854775808) 9223372036854775807).mono ?_); rintro e_ w6 ⟨⟨ws2, p2, rfl⟩, b2⟩; have HS3 := Aside0.mk (HS2.out.below b2); have hte := HTT.out ws1 ws2 HP1.out p2; rw [← hte, ← HTX.out]; clear b2 p2 hte))
                  clear HS2 HTT HP1
                  have HXN := Aside0.mk hx
                  clear e1 e2 e3 hx
                  go_wp2_with (first
                    | (go_at_call 12; (with_reducible refine HS3.out.slen.mono ?_); rintro e_ w7 ⟨rfl, rfl⟩)
                    | (go_at_call 12; (with_reducible refine HS3.out.olen.mono ?_); rintro e_ w7 ⟨rfl, rfl⟩; rw [← HPK.out.length_eq])
                    | (go_at_call 13; (with_reducible refine HS3.out.slast.mono ?_); rintro e_ w8 ⟨⟨mx, rfl, hmx⟩, b3⟩; have HS4 := Aside0.mk (HS3.out.below b3); have HMX := Aside0.mk hmx; clear hmx b3)
                    | (go_at_call 13; (with_reducible refine HS4.out.olast.mono ?_); rintro e_ w9 ⟨⟨my, rfl, hmy⟩, b4⟩; have HS5 := Aside0.mk (HS4.out.below b4); obtain rfl := isMax_uniq HPK.out HMX.out hmy; clear hmy b4))
                  go_loopg [18, 19, 20] L.length (fun kq v18 v19 v20 wr => ∃ (i : Nat), v18 = .int .i64 i ∧ i + kq = L.length ∧ Aside0 (St w wr g1 m1 n1 gw g2 m2 n2 lo L kk ko))
                  case atStart => exact ⟨0, rfl, by omega, HS5⟩
                  case round =>
                    clear HS3 HS4 HS5 HMX
                    obtain ⟨i, rfl, hik, HS⟩ := hrel
                    obtain ⟨Aw, cw, Nw, hrw⟩ := HS.out.r
                    have HWR := Aside0.mk hrw
                    clear hrw
                    have s0 : wr.cell? ⟨gw, 0, none⟩ = some (.slice Aw L.length cw) := (blk_cell HWR.out.blk 0).trans rfl
                    by_cases hi : i < L.length
                    · have d1 : decide ((i : Int) < (L.length : Int)) = true := decide_eq_true (by omega)
                      have d1n : decide (i < L.length) = true := decide_eq_true hi
                      have d1q : (i < L.length) = True := eq_true hi
                      have d1p : ((i : Int) < (L.length : Int)) = True := eq_true (by omega)
                      have d0 : (0 : Int) ≤ (i : Int) := by omega
                      have d0p : ((0 : Int) ≤ (i : Int)) = True := eq_true d0
                      have hwi : wrap64 ((i : Int) + 1) = ((i + 1 : Nat) : Int) := by unfold wrap64; have := HLK.out.2; omega
                      have HWI := Aside0.mk hwi
                      obtain ⟨gr, rfl, hrow⟩ : ∃ gr, Aw = some ⟨gr, 0, none⟩ ∧ ∀ j u, (cellsK L)[j]? = some u → wr.cell? ⟨gr, j, none⟩ = some u := by
                        rcases HWR.out.row with ⟨_, _, h⟩ | ⟨gr, e, _, _, _, h⟩
                        · rw [h] at hi; simp at hi
                        · exact ⟨gr, e, h⟩
                      obtain ⟨X, hX⟩ : ∃ X, X = L[i] := ⟨_, rfl⟩
                      have q0 : wr.cell? ⟨gr, i * 4, none⟩ = some (.int .u64 (X.1.1.seq : Nat)) := hrow (i * 4) _ (by have := cellsK_at L i 0 hi (by omega); rw [Nat.add_zero] at this; rw [this, ← hX]; rfl)
                      have q1 : wr.cell? ⟨gr, i * 4 + 1, none⟩ = some (.int .i64 X.1.1.win) := hrow (i * 4 + 1) _ (by rw [cellsK_at L i 1 hi (by omega), ← hX]; rfl)
                      have q2 : wr.cell? ⟨gr, i * 4 + 2, none⟩ = some (.slice X.2.1 X.1.1.recs.length X.2.2) := hrow (i * 4 + 2) _ (by rw [cellsK_at L i 2 hi (by omega), ← hX]; rfl)
                      have hXL : X ∈ L := hX ▸ List.getElem_mem hi
                      have hXm := (HML.out.mem X.1).1 (List.mem_map_of_mem hXL)
                      have HXO := Aside0.mk ((HMO.out.mem X.1).2 hXm)
                      have HRL := Aside0.mk (show X.1.1.recs.length ≤ 4096 from dec_recs hXm.2)
                      have HRX := Aside0.mk (show X.1.1.recs.length ≤ X.2.2 ∧ RecsAt wr X.2.1 X.1.1.win X.1.1.recs from ⟨(HWR.out.all X hXL).1, (HWR.out.all X hXL).2.1⟩)
                      have HIK := Aside0.mk (And.intro hik hi)
                      clear hX hXL hXm hrow hwi hik hi HWR
                      obtain ⟨⟨⟨seq, win, recs⟩, bs⟩, Ar, cr⟩ := X
                      dsimp only at q0 q1 q2 HXO HRL HRX
                      have HGET := Aside0.mk (HS.out.oget ⟨⟨seq, win, recs⟩, bs⟩ HXO.out (by have := HRL.out; show recs.length ≤ 1000000; omega))
                      go_upto_region 31 with (first
                        | (go_at_call 14; (with_reducible refine HGET.out.mono ?_); rintro e_ w5 ⟨⟨A5, c5, rfl, h1, h2⟩, hb⟩; have HG5 := Aside0.mk (And.intro h1 h2); have HB5 := Aside0.mk hb; clear h1 h2 hb))
                      try dsimp only at HG5 ⊢
                      have hbl := below_alloc (Below.refl w5.heap.size w5) (.cells #[.int .u64 (seq : Nat), .int .i64 win, .slice A5 recs.length c5] 44)
                      have HX := Aside0.mk (blk_new w5 (.cells #[.int .u64 (seq : Nat), .int .i64 win, .slice A5 recs.length c5] 44))
                      have HB7 := Aside0.mk (HB5.out.trans (hbl.mono HB5.out.size))
                      have HRA := Aside0.mk (HG5.out.2.below hbl)
                      have HRC := Aside0.mk (HRX.out.2.below HB7.out)
                      clear hbl HGET
                      generalize w5.alloc (.cells #[.int .u64 (seq : Nat), .int .i64 win, .slice A5 recs.length c5] 44) = W7 at HX HB7 HRA HRC ⊢
                      generalize w5.heap.size = gx at HX ⊢
                      have hs0 := pw_cell_below HB7.out s0
                      have hq0 := pw_cell_below HB7.out q0
                      have hq1 := pw_cell_below HB7.out q1
                      have hq2 := pw_cell_below HB7.out q2
                      clear s0 q0 q1 q2
                      have x0 : W7.cell? ⟨gx, 0, none⟩ = some (.int .u64 (seq : Nat)) := (blk_cell HX.out 0).trans rfl
                      have x1 : W7.cell? ⟨gx, 1, none⟩ = some (.int .i64 win) := (blk_cell HX.out 1).trans rfl
                      have x2 : W7.cell? ⟨gx, 2, none⟩ = some (.slice A5 recs.length c5) := (blk_cell HX.out 2).trans rfl
                      refine start_ (n := 15) (S := fun w' => Below W7.heap.size W7 w') (ds := []) #[false, false, false, false, false, false, false, false, false, false, false, false, false, false, false] (by kernel_rfl) rfl rfl (below_drew1 (Below.refl _ _)) (fun hHeld => ?_)
                      have hS0 := Aside0.mk (show Below W7.heap.size W7 W7.drew from below_drew1 (Below.refl _ _))
                      refine pure_ (i := 0) (N := some 164) (v := ?_) (a' := ?_) #[true, false, false, false, false, false, false, false, false, false, false, false, false, false, false] rfl rfl (by kernel_rfl) (fun _ _ _ h => h) (Or.inl ⟨by rfl, ?_⟩) ?_ ?_
                      rotate_left
                      · intro w'
                        go_simp
                        with_reducible rfl
                      rotate_left
                      · simp only [Act.put, List.setIfInBounds_toArray, List.set_cons_zero, List.set_cons_succ, i64_w, i32_w]
                        rfl
                      refine pure_ (i := 1) (N := some 165) (v := ?_) (a' := ?_) #[true, true, false, false, false, false, false, false, false, false, false, false, false, false, false] rfl rfl (by kernel_rfl) (fun _ _ _ h => h) (Or.inl ⟨by rfl, ?_⟩) ?_ ?_
                      rotate_left
                      · intro w'
                        go_simp
                        with_reducible rfl
                      rotate_left
                      · simp only [Act.put, List.setIfInBounds_toArray, List.set_cons_zero, List.set_cons_succ, i64_w, i32_w]
                        rfl
                      refine pure_ (i := 2) (N := some 166) (v := ?_) (a' := ?_) #[true, true, true, false, false, false, false, false, false, false, false, false, false, false, false] rfl rfl (by kernel_rfl) (fun _ _ _ h => h) (Or.inl ⟨by rfl, ?_⟩) ?_ ?_
                      rotate_left
                      · intro w'
                        go_simp
                        with_reducible rfl
                      rotate_left
                      · simp only [Act.put, List.setIfInBounds_toArray, List.set_cons_zero, List.set_cons_succ, i64_w, i32_w]
                        rfl
                      refine take_ (i := 3) (N := some 167) (v := ?_) (a' := ?_) #[true, true, true, true, false, false, false, false, false, false, false, false, false, false, false] rfl rfl (by kernel_rfl) (fun _ _ _ h => h) (Or.inl ⟨by rfl, ?_⟩) hHeld ?_ ?_
                      rotate_left
                      · intro w' hS'
                        have x0' := pw_cell_below hS' x0; have x1' := pw_cell_below hS' x1; have x2' := pw_cell_below hS' x2; have s0' := pw_cell_below hS' hs0; have q0' := pw_cell_below hS' hq0; have q1' := pw_cell_below hS' hq1; have q2' := pw_cell_below hS' hq2
                        go_simp
                        with_reducible rfl
                      rotate_left
                      · simp only [Act.put, List.setIfInBounds_toArray, List.set_cons_zero, List.set_cons_succ, i64_w, i32_w]
                        rfl
                      refine pure_ (i := 4) (N := some 168) (v := ?_) (a' := ?_) #[true, true, true, true, true, false, false, false, false, false, false, false, false, false, false] rfl rfl (by kernel_rfl) (fun _ _ _ h => h) (Or.inl ⟨by rfl, ?_⟩) ?_ ?_
                      rotate_left
                      · intro w'
                        go_simp
                        with_reducible rfl
                      rotate_left
                      · simp only [Act.put, List.setIfInBounds_toArray, List.set_cons_zero, List.set_cons_succ, i64_w, i32_w]
                        rfl
                      refine pure_ (i := 5) (N := some 169) (v := ?_) (a' := ?_) #[true, true, true, true, true, true, false, false, false, false, false, false, false, false, false] rfl rfl (by kernel_rfl) (fun _ _ _ h => h) (Or.inl ⟨by rfl, ?_⟩) ?_ ?_
                      rotate_left
                      · intro w'
                        go_simp
                        with_reducible rfl
                      rotate_left
                      · simp only [Act.put, List.setIfInBounds_toArray, List.set_cons_zero, List.set_cons_succ, i64_w, i32_w]
                        rfl
                      refine pure_ (i := 6) (N := some 170) (v := ?_) (a' := ?_) #[true, true, true, true, true, true, true, false, false, false, false, false, false, false, false] rfl rfl (by kernel_rfl) (fun _ _ _ h => h) (Or.inl ⟨by rfl, ?_⟩) ?_ ?_
                      rotate_left
                      · intro w'
                        go_simp
                        with_reducible rfl
                      rotate_left
                      · simp only [Act.put, List.setIfInBounds_toArray, List.set_cons_zero, List.set_cons_succ, i64_w, i32_w]
                        rfl
                      refine take_ (i := 7) (N := some 171) (v := ?_) (a' := ?_) #[true, true, true, true, true, true, true, true, false, false, false, false, false, false, false] rfl rfl (by kernel_rfl) (fun _ _ _ h => h) (Or.inl ⟨by rfl, ?_⟩) hHeld ?_ ?_
                      rotate_left
                      · intro w' hS'
                        have x0' := pw_cell_below hS' x0; have x1' := pw_cell_below hS' x1; have x2' := pw_cell_below hS' x2; have s0' := pw_cell_below hS' hs0; have q0' := pw_cell_below hS' hq0; have q1' := pw_cell_below hS' hq1; have q2' := pw_cell_below hS' hq2
                        go_simp
                        with_reducible rfl
                      rotate_left
                      · simp only [Act.put, List.setIfInBounds_toArray, List.set_cons_zero, List.set_cons_succ, i64_w, i32_w]
                        rfl
                      refine pure_ (i := 8) (N := some 172) (v := ?_) (a' := ?_) #[true, true, true, true, true, true, true, true, true, false, false, false, false, false, false] rfl rfl (by kernel_rfl) (fun _ _ _ h => h) (Or.inl ⟨by rfl, ?_⟩) ?_ ?_
                      rotate_left
                      · intro w'
                        go_simp
                        with_reducible rfl
                      rotate_left
                      · simp only [Act.put, List.setIfInBounds_toArray, List.set_cons_zero, List.set_cons_succ, i64_w, i32_w]
                        rfl
                      refine pure_ (i := 9) (N := some 173) (v := ?_) (a' := ?_) #[true, true, true, true, true, true, true, true, true, true, false, false, false, false, false] rfl rfl (by kernel_rfl) (fun _ _ _ h => h) (Or.inl ⟨by rfl, ?_⟩) ?_ ?_
                      rotate_left
                      · intro w'
                        go_simp
                        with_reducible rfl
                      rotate_left
                      · simp only [Act.put, List.setIfInBounds_toArray, List.set_cons_zero, List.set_cons_succ, i64_w, i32_w]
                        rfl
                      refine pure_ (i := 10) (N := some 174) (v := ?_) (a' := ?_) #[true, true, true, true, true, true, true, true, true, true, true, false, false, false, false] rfl rfl (by kernel_rfl) (fun _ _ _ h => h) (Or.inl ⟨by rfl, ?_⟩) ?_ ?_
                      rotate_left
                      · intro w'
                        go_simp
                        with_reducible rfl
                      rotate_left
                      · simp only [Act.put, List.setIfInBounds_toArray, List.set_cons_zero, List.set_cons_succ, i64_w, i32_w]
                        rfl
                      refine take_ (i := 11) (N := some 175) (v := ?_) (a' := ?_) #[true, true, true, true, true, true, true, true, true, true, true, true, false, false, false] rfl rfl (by kernel_rfl) (fun _ _ _ h => h) (Or.inl ⟨by rfl, ?_⟩) hHeld ?_ ?_
                      rotate_left
                      · intro w' hS'
                        have x0' := pw_cell_below hS' x0; have x1' := pw_cell_below hS' x1; have x2' := pw_cell_below hS' x2; have s0' := pw_cell_below hS' hs0; have q0' := pw_cell_below hS' hq0; have q1' := pw_cell_below hS' hq1; have q2' := pw_cell_below hS' hq2
                        go_simp
                        with_reducible rfl
                      rotate_left
                      · simp only [Act.put, List.setIfInBounds_toArray, List.set_cons_zero, List.set_cons_succ, i64_w, i32_w]
                        rfl
                      refine one_ (i := 12) (N := some 176) #[true, true, true, true, true, true, true, true, true, true, true, true, true, false, false] rfl rfl (by kernel_rfl) (by decide) (fun K hK => ?_)
                      refine goes_ Tryz.func15 (by kernel_rfl) rfl #[.agg #[.int .u64 (seq : Int), .int .i64 win, .slice A5 recs.length c5], .agg #[.int .u64 (seq : Int), .int .i64 win, .slice Ar recs.length cr]] (by rfl) rfl rfl (by simp [Act.eval]) ?_
                      have hsm := odometerref20_Same.calls ((recs.map (Rh.toS win)).length + 1) (seq : Int) win A5 c5 (recs.map (Rh.toS win)) (seq : Int) win Ar cr (recs.map (Rh.toS win)) true W7.drew (by rw [List.length_map]; exact kd_recs (HRA.out.below hS0.out)) (by rw [List.length_map]; exact HG5.out.1) (by rw [List.length_map]; exact kd_recs (HRC.out.below hS0.out)) (by rw [List.length_map]; exact HRX.out.1) (same20 _ _ _ (by rw [List.length_map]; have := HRL.out; omega))
                      rw [List.length_map] at hsm
                      refine hsm.mono ?_
                      clear hsm
                      rintro e_ w8 ⟨rfl, hb⟩
                      refine ⟨_, rfl, ?_⟩
                      have hSa := Aside0.mk (hS0.out.trans (hb.mono hS0.out.size))
                      refine hK.out _ _ hSa.out (fun hHeld => ?_)
                      clear hK K hb
                      refine norm_ (a' := ?_) ?_ ?_
                      rotate_left
                      · show Act.put _ (some 176) _ = _
                        simp only [Act.put, List.setIfInBounds_toArray, List.set_cons_zero, List.set_cons_succ, i64_w, i32_w]
                        rfl
                      refine pure_ (i := 13) (N := some 177) (v := ?_) (a' := ?_) #[true, true, true, true, true, true, true, true, true, true, true, true, true, true, false] rfl rfl (by kernel_rfl) (fun _ _ _ h => h) (Or.inl ⟨by rfl, ?_⟩) ?_ ?_
                      rotate_left
                      · intro w'
                        go_simp
                        with_reducible rfl
                      rotate_left
                      · simp only [Act.put, List.setIfInBounds_toArray, List.set_cons_zero, List.set_cons_succ, i64_w, i32_w]
                        rfl
                      refine pure_ (i := 14) (N := some 178) (v := ?_) (a' := ?_) #[true, true, true, true, true, true, true, true, true, true, true, true, true, true, true] rfl rfl (by kernel_rfl) (fun _ _ _ h => h) (Or.inl ⟨by rfl, ?_⟩) ?_ ?_
                      rotate_left
                      · intro w'
                        go_simp
                        with_reducible rfl
                      rotate_left
                      · simp only [Act.put, List.setIfInBounds_toArray, List.set_cons_zero, List.set_cons_succ, i64_w, i32_w]
                        rfl
                      refine done_ (by kernel_rfl) ?_
                      have HS9 := Aside0.mk (HS.out.below (HB7.out.trans (hSa.out.mono HB7.out.size)))
                      clear x0 x1 x2 hs0 hq0 hq1 hq2
                      go_wp2
                      go_roundg (gk - 1)
                      case measure => have := HIK.out; omega
                      case rel => exact ⟨i + 1, by first | rfl | (rw [HWI.out]), by have := HIK.out; omega, HS9⟩
                    · have d1 : decide ((i : Int) < (L.length : Int)) = false := decide_eq_false (by omega)
                      have d1n : decide (i < L.length) = false := decide_eq_false hi
                      have d1q : (i < L.length) = False := eq_false hi
                      have d1p : ((i : Int) < (L.length : Int)) = False := eq_false (by omega)
                      have HG9 := Aside0.mk HS.out.glob
                      go_wp2_with (first
                        | (go_at_call 7; refine (known_calls _ HG9.out).mono ?_; rintro e_ w6 ⟨rfl, h1⟩))
                      go_ret
                      exact ⟨rfl, HS.out.bel.trans (h1.mono HS.out.bel.size)⟩
def odometerlaw31_SinkOrder.Pure : Prop := True
theorem odometerlaw31_SinkOrder.walk (_P : odometerlaw31_SinkOrder.Pure) (a0 : Option Addr) (len0 cap0 : Nat) (z0 : List (List Int)) (a1 : Option Addr) (len1 cap1 : Nat) (z1 : List Int) (a2 : ByteArray) (w : World) (w0 : (a0 = none ∧ len0 = 0 ∧ cap0 = 0 ∧ z0 = []) ∨ (len0 ≤ cap0 ∧ z0.length = len0 ∧ Tx.Txt w a0 len0 z0)) (w1 : (a1 = none ∧ len1 = 0 ∧ cap1 = 0 ∧ z1 = []) ∨ ∃ x, a1 = some x ∧ len1 ≤ cap1 ∧ cap1 ≤ maxLen ∧ z1.length = cap1 ∧ (∀ i, i < z1.length → w.cell? (x.add i) = some (.int .i64 (z1.getD i 0))) ∧ ∀ n ∈ z1, (Lit.int .i64 n).wf = true) (_y1 : len1 * 8 ≤ 140737488351232) (w2 : a2.size ≤ 140737488351232) (hG : Glob w) :
    Calls Tryz.prog 4 #[.slice a0 len0 cap0, .slice a1 len1 cap1, .string a2] w fun e w' => e = .returned (.bool true) ∧ Below w.heap.size w w' := by
  obtain ⟨l1, rfl, hr1, hm1, hw1, hc1⟩ := ReadsInt.ofRowC w1
  rcases w0 with ⟨rfl, rfl, rfl, rfl⟩ | ⟨hl, rfl, hE⟩
  · obtain ⟨b, hf, hb⟩ := Fw.few_ex [] (by simp)
    exact walk_ 22 none 0 [] a1 cap1 l1 a2 b w hb (by simp) hG ⟨rfl, by simp, fun h => absurd h (Nat.lt_irrefl 0)⟩ (Nat.le_refl _) hr1 hc1 hf
  · obtain ⟨b, hf, hb⟩ := Fw.few_ex z0 (fun x hx => (hE.2 x hx).1)
    exact walk_ 22 a0 cap0 z0 a1 cap1 l1 a2 b w hb (fun t ht => (hE.2 t ht).2) hG hE.1 hl hr1 hc1 hf
end Go.Proofs.YtpihpkphhkcdlaaGreatDoor.Ow
