/- The document's parts: who reaches whom. -/
import Derived.Test.YtfkoepdakghpjaaQc
import Derived.Test.YtfkoepdakghpjaaQt
import Derived.Test.YtfkoepdakghpjaaPGx9
namespace Go.Proofs.Ytfkoepdakghpjaa.Qp
open Go.RowKit Go.Proofs.YtfkoepdakghpjaaW.PrintWords Go.Proofs.YtfkoepdakghpjaaW.PrintMore Go.Proofs.Ytfkoepdakghpjaa.Mp Go.Proofs.Ytfkoepdakghpjaa.Qs Go.Proofs.Ytfkoepdakghpjaa.Qr Go.Proofs.Ytfkoepdakghpjaa.Qk
set_option linter.unusedVariables false
/-- By one edge at least. -/
def Rp (G : Int → List Int) (a y : Int) : Prop := ∃ z ∈ G a, Qt.Reach G z y
theorem Rp.next {G : Int → List Int} {a y w : Int} (h : Rp G a y) (hw : w ∈ G y) : Rp G a w := by
  obtain ⟨z, hz, hr⟩ := h
  exact ⟨z, hz, hr.trans (Qt.Reach.one hw)⟩
theorem Rp.of_ne {G : Int → List Int} {a y : Int} (h : Qt.Reach G a y) (hne : a ≠ y) : Rp G a y := by
  cases h with
  | refl => exact absurd rfl hne
  | step e k => exact ⟨_, e, k⟩
theorem Rp.reach {G : Int → List Int} {a y : Int} (h : Rp G a y) : Qt.Reach G a y := by
  obtain ⟨z, hz, hr⟩ := h
  exact .step hz hr
/-- One edge's turn at x. -/
def turn (n x : Int) (st : List Int × List Int) (e : S31) : List Int × List Int := if PG.Gr.cnt n e = true ∧ e.f0 = x ∧ rd st.1 e.f1 = 0 then (st.1.set e.f1.toNat 1, st.2 ++ [e.f1]) else st
/-- The marks are just those of ms. -/
structure Mk (N : Nat) (mark ms : List Int) : Prop where
  len : mark.length = N
  nodup : ms.Nodup
  rng : ∀ y ∈ ms, InR N y
  val : ∀ y, InR N y → rd mark y = if y ∈ ms then 1 else 0
theorem turn_mk {n x : Int} {st : List Int × List Int} {ms : List Int} (h : Mk n.toNat st.1 ms) (e : S31) : ∃ ms', Mk n.toNat (turn n x st e).1 ms' ∧ (∀ y ∈ ms, y ∈ ms') ∧ (∃ nw, (turn n x st e).2 = st.2 ++ nw ∧ (∀ u ∈ nw, u ∈ ms') ∧ (∀ u ∈ ms', u ∈ ms ∨ u ∈ nw) ∧ ms'.length = ms.length + nw.length ∧ ∀ u ∈ nw, PG.Gr.cnt n e = true ∧ e.f0 = x ∧ e.f1 = u) ∧ (PG.Gr.cnt n e = true → e.f0 = x → e.f1 ∈ ms') := by
  unfold turn
  by_cases hc : PG.Gr.cnt n e = true ∧ e.f0 = x ∧ rd st.1 e.f1 = 0
  · rw [if_pos hc]
    obtain ⟨h0, h1⟩ := cnt_rng hc.1
    have hnm : e.f1 ∉ ms := fun hm => by
      have := h.val _ h1
      rw [if_pos hm] at this
      omega
    refine ⟨ms ++ [e.f1], ⟨by simp [h.len], ?_, fun y hy => ?_, fun y hy => ?_⟩, fun y hy => by simp [hy], ⟨[e.f1], rfl, fun u hu => by simp [List.mem_singleton.1 hu], fun u hu => by simpa using hu, by simp, fun u hu => by rw [List.mem_singleton.1 hu]; exact ⟨hc.1, hc.2.1, rfl⟩⟩, fun _ _ => by simp⟩
    · rw [List.nodup_append]
      exact ⟨h.nodup, by simp, fun a ha b hb => by rw [List.mem_singleton.1 hb]; exact fun e1 => hnm (e1 ▸ ha)⟩
    · rcases List.mem_append.1 hy with hy | hy
      · exact h.rng y hy
      · rw [List.mem_singleton.1 hy]
        exact h1
    · simp only
      rw [rd_set (by rw [h.len]; exact h1) (by rw [h.len]; exact hy)]
      by_cases hye : y = e.f1
      · rw [if_pos hye, if_pos (by simp [hye])]
      · rw [if_neg hye, h.val y hy]
        by_cases hm : y ∈ ms
        · rw [if_pos hm, if_pos (by simp [hm])]
        · rw [if_neg hm, if_neg (by simp [hm, hye])]
  · rw [if_neg hc]
    refine ⟨ms, h, fun y hy => hy, ⟨[], by simp, fun u hu => (by cases hu), fun u hu => .inl hu, by simp, fun u hu => (by cases hu)⟩, fun h1 h2 => ?_⟩
    obtain ⟨_, hr⟩ := cnt_rng h1
    have hv := h.val _ hr
    refine Classical.byContradiction fun hm => ?_
    rw [if_neg hm] at hv
    exact hc ⟨h1, h2, hv⟩
theorem fold_mk {n x : Int} : ∀ (l : List S31) {st : List Int × List Int} {ms : List Int}, Mk n.toNat st.1 ms → ∃ ms', Mk n.toNat (l.foldl (turn n x) st).1 ms' ∧ (∀ y ∈ ms, y ∈ ms') ∧ (∃ nw, (l.foldl (turn n x) st).2 = st.2 ++ nw ∧ (∀ u ∈ nw, u ∈ ms') ∧ (∀ u ∈ ms', u ∈ ms ∨ u ∈ nw) ∧ ms'.length = ms.length + nw.length ∧ ∀ u ∈ nw, ∃ e ∈ l, PG.Gr.cnt n e = true ∧ e.f0 = x ∧ e.f1 = u) ∧ ∀ e ∈ l, PG.Gr.cnt n e = true → e.f0 = x → e.f1 ∈ ms'
  | [], st, ms, h => ⟨ms, h, fun y hy => hy, ⟨[], by simp, fun u hu => (by cases hu), fun u hu => .inl hu, by simp, fun u hu => (by cases hu)⟩, fun e he => (by cases he)⟩
  | d :: l, st, ms, h => by
    rw [List.foldl_cons]
    obtain ⟨m1, a1, a2, ⟨n1, a3, a4, a5, a6, a7⟩, a8⟩ := turn_mk (x := x) h d
    obtain ⟨m2, b1, b2, ⟨n2, b3, b4, b5, b6, b7⟩, b8⟩ := fold_mk l a1
    refine ⟨m2, b1, fun y hy => b2 y (a2 y hy), ⟨n1 ++ n2, by rw [b3, a3, List.append_assoc], fun u hu => ?_, fun u hu => ?_, by rw [b6, a6, List.length_append]; omega, fun u hu => ?_⟩, fun e he h1 h2 => ?_⟩
    · rcases List.mem_append.1 hu with hu | hu
      · exact b2 u (a4 u hu)
      · exact b4 u hu
    · rcases b5 u hu with hu | hu
      · rcases a5 u hu with hu | hu
        · exact .inl hu
        · exact .inr (by simp [hu])
      · exact .inr (by simp [hu])
    · rcases List.mem_append.1 hu with hu | hu
      · exact ⟨d, by simp, a7 u hu⟩
      · obtain ⟨e, he, h1⟩ := b7 u hu
        exact ⟨e, by simp [he], h1⟩
    · rcases List.mem_cons.1 he with rfl | he
      · exact b2 _ (a8 h1 h2)
      · exact b8 e he h1 h2
theorem far_l1 (n x : Int) (l : List S31) (hn : n ≤ 1000) (hl : l.length ≤ 1000) (r : List Int) : ∀ (j i : Nat) (st : List Int × List Int) (ms : List Int), i + j = l.length → Mk n.toNat st.1 ms → st.2.length + j ≤ 1000000 →
    Evt (fun k => PG.caliperref15_far.l0 k n l ((l.drop i).foldl (turn n x) st).1 ((l.drop i).foldl (turn n x) st).2) r → Evt (fun k => PG.caliperref15_far.l1 k n l st.1 st.2 x (i : Int)) r
  | 0, i, st, ms, h, hm, ht, hr => by
    rw [List.drop_eq_nil_of_le (by omega), List.foldl_nil] at hr
    refine Evt.succ (h := fun k => PG.caliperref15_far.l0 k n l st.1 st.2) (fun k => ?_) hr
    simp only [PG.caliperref15_far.l1]
    rw [if_neg (by omega)]
  | j + 1, i, st, ms, h, hm, ht, hr => by
    have hi : i < l.length := by omega
    rw [drop_cons hi, List.foldl_cons] at hr
    have hw : wrap64 ((i : Int) + 1) = ((i + 1 : Nat) : Int) := by rw [wrap_id (by omega) (by omega)]; omega
    obtain ⟨m1, a1, a2, ⟨n1, a3, a4, a5, a6, a7⟩, a8⟩ := turn_mk (x := x) hm l[i]
    have hlen2 : (turn n x st l[i]).2.length ≤ st.2.length + 1 := by
      unfold turn
      split <;> simp
    have ih := far_l1 n x l hn hl r j (i + 1) (turn n x st l[i]) m1 (by omega) a1 (by omega) hr
    refine Evt.succ (h := fun k => PG.caliperref15_far.l1 k n l (turn n x st l[i]).1 (turn n x st l[i]).2 x ((i + 1 : Nat) : Int)) (fun k => ?_) ih
    simp only [PG.caliperref15_far.l1]
    rw [if_pos (by omega), if_pos (by omega), rdT hi, counts_eq, Option.bind_some, hw]
    unfold turn
    by_cases hc : PG.Gr.cnt n l[i] = true
    · obtain ⟨h0, h1⟩ := cnt_rng hc
      rw [if_pos hc]
      by_cases h2 : l[i].f0 = x
      · rw [if_pos h2, if_pos h1.1, if_pos (by rw [hm.len]; exact h1.2)]
        by_cases h3 : rd st.1 l[i].f1 = 0
        · rw [if_pos h3, if_pos (by omega), if_pos ⟨hc, h2, h3⟩]
        · rw [if_neg h3, if_neg (fun h => h3 h.2.2)]
      · rw [if_neg h2, if_neg (fun h => h2 h.2.1)]
    · rw [if_neg hc, if_neg (fun h => hc h.1)]
/-- All that a reaches. -/
theorem far_l0 (n a : Int) (l : List S31) (hn : n ≤ 1000) (hl : l.length ≤ 1000) : ∀ (M : Nat) (mark todo ms : List Int), todo.length + (n.toNat - ms.length) ≤ M → M ≤ 2000 → Mk n.toNat mark ms → (∀ u ∈ todo, u = a ∨ u ∈ ms) → (∀ y ∈ ms, Rp (PG.Gr.of n l) a y) → (∀ u, (u = a ∨ u ∈ ms) → u ∉ todo → ∀ w ∈ PG.Gr.of n l u, w ∈ ms) →
    ∃ mark', Evt (fun k => PG.caliperref15_far.l0 k n l mark todo) mark' ∧ mark'.length = n.toNat ∧ ∀ y, InR n.toNat y → (rd mark' y = 1 ↔ Rp (PG.Gr.of n l) a y) := by
  intro M
  induction M with
  | zero =>
    intro mark todo ms hM _ hm ht hr hc
    have : todo = [] := List.length_eq_zero_iff.1 (by omega)
    subst this
    refine ⟨mark, Evt.succ (h := fun _ => some mark) (fun k => ?_) (Evt.const _), hm.len, fun y hy => ?_⟩
    · simp only [PG.caliperref15_far.l0]
      rw [if_neg (by simp)]
    · rw [hm.val y hy]
      constructor
      · intro h
        split at h
        · exact hr y (by assumption)
        · cases h
      · rintro ⟨z, hz, hzr⟩
        have hz1 := hc a (.inl rfl) (by simp) z hz
        have key : ∀ {p q : Int}, Qt.Reach (PG.Gr.of n l) p q → p ∈ ms → q ∈ ms := by
          intro p q h
          induction h with
          | refl => exact fun h => h
          | step e _ ih => exact fun h => ih (hc _ (.inr h) (by simp) _ e)
        rw [if_pos (key hzr hz1)]
  | succ M ih =>
    intro mark todo ms hM hMb hm ht hr hc
    cases todo with
    | nil =>
      refine ⟨mark, Evt.succ (h := fun _ => some mark) (fun k => ?_) (Evt.const _), hm.len, fun y hy => ?_⟩
      · simp only [PG.caliperref15_far.l0]
        rw [if_neg (by simp)]
      · rw [hm.val y hy]
        constructor
        · intro h
          split at h
          · exact hr y (by assumption)
          · cases h
        · rintro ⟨z, hz, hzr⟩
          have hz1 := hc a (.inl rfl) (by simp) z hz
          have key : ∀ {p q : Int}, Qt.Reach (PG.Gr.of n l) p q → p ∈ ms → q ∈ ms := by
            intro p q h
            induction h with
            | refl => exact fun h => h
            | step e _ ih => exact fun h => ih (hc _ (.inr h) (by simp) _ e)
          rw [if_pos (key hzr hz1)]
    | cons x todo =>
      obtain ⟨m1, a1, a2, ⟨n1, a3, a4, a5, a6, a7⟩, a8⟩ := fold_mk (n := n) (x := x) l (st := (mark, todo)) hm
      have hm1 := nodup_len n.toNat m1 a1.nodup a1.rng
      rw [List.length_cons] at hM
      have xr : ∀ w ∈ PG.Gr.of n l x, Rp (PG.Gr.of n l) a w := fun w hw => by
        rcases ht x (by simp) with rfl | hx
        · exact ⟨w, hw, .refl w⟩
        · exact (hr x hx).next hw
      obtain ⟨mark', b1, b2, b3⟩ := ih (l.foldl (turn n x) (mark, todo)).1 (l.foldl (turn n x) (mark, todo)).2 m1 (by rw [a3]; simp only [List.length_append]; omega) (by omega) a1 (fun u hu => by
        rw [a3] at hu
        rcases List.mem_append.1 hu with hu | hu
        · rcases ht u (by simp [hu]) with h | h
          · exact .inl h
          · exact .inr (a2 u h)
        · exact .inr (a4 u hu)) (fun y hy => by
        rcases a5 y hy with hy | hy
        · exact hr y hy
        · obtain ⟨e, he, h1, h2, h3⟩ := a7 y hy
          exact xr y ((mem_of n l x y).2 ⟨e, he, h1, h2, h3⟩)) (fun u hu hut w hw => by
        rw [a3] at hut
        by_cases hux : u = x
        · rw [hux] at hw
          obtain ⟨e, he, h1, h2, h3⟩ := (mem_of n l x w).1 hw
          rw [← h3]
          exact a8 e he h1 h2
        · have hold : u = a ∨ u ∈ ms := by
            rcases hu with h | h
            · exact .inl h
            · rcases a5 u h with h | h
              · exact .inr h
              · exact absurd (by simp [h]) hut
          exact a2 w (hc u hold (by simp only [List.mem_cons, not_or]; exact ⟨hux, fun h => hut (by simp [h])⟩) w hw))
      refine ⟨mark', ?_, b2, b3⟩
      refine Evt.succ (h := fun k => PG.caliperref15_far.l1 k n l mark todo x 0) (fun k => ?_) ?_
      · simp only [PG.caliperref15_far.l0]
        rw [if_pos (by simp), if_pos (by simp), if_pos (by simp; omega)]
        rfl
      · exact far_l1 n x l hn hl mark' l.length 0 (mark, todo) ms (by omega) hm (by simp only; omega) (by rw [List.drop_zero]; exact b1)
theorem far_ok (n a : Int) (l : List S31) (h0 : 0 ≤ n) (hn : n ≤ 300) (hl : l.length ≤ 300) : ∃ mark, Evt (fun k => PG.caliperref15_far.f k n l a) mark ∧ mark.length = n.toNat ∧ ∀ y, InR n.toNat y → (rd mark y = 1 ↔ Rp (PG.Gr.of n l) a y) := by
  have hz : ∀ y, rd (List.replicate n.toNat (0 : Int)) y = 0 := fun y => by
    unfold rd
    rw [List.getD_eq_getElem?_getD, List.getElem?_replicate]
    split <;> rfl
  obtain ⟨mark, h1, h2, h3⟩ := far_l0 n a l (by omega) (by omega) (1 + n.toNat) (List.replicate n.toNat 0) [a] [] (by simp) (by omega) ⟨by simp, List.nodup_nil, fun y hy => (by cases hy), fun y hy => by rw [hz, if_neg (by simp)]⟩ (fun u hu => .inl (List.mem_singleton.1 hu)) (fun y hy => by cases hy) (fun u hu hut => by
    rcases hu with rfl | hu
    · exact absurd (by simp) hut
    · cases hu)
  refine ⟨mark, ?_, h2, h3⟩
  unfold PG.caliperref15_far.f
  have h4 : n.toNat ≤ 35184372088832 := by omega
  simp only [if_pos h0, if_pos h4]
  exact h1
/-! ### the parts -/
/-- The rows of marks, one a number. -/
def Rows (n : Int) (l : List S31) (all : List (List Int)) : Prop := ∀ i, i < all.length → (all.getD i []).length = n.toNat ∧ ∀ y, InR n.toNat y → (rd (all.getD i []) y = 1 ↔ Rp (PG.Gr.of n l) (i : Int) y)
theorem rdL (all : List (List Int)) (i : Nat) : PG.rd_L4 all (i : Int) = all.getD i [] := by
  unfold PG.rd_L4
  rw [Int.toNat_natCast]
theorem parts_l2 (n : Int) (l : List S31) (all : List (List Int)) (out : List Int) (hn : n ≤ 300) (ha : all.length = n.toNat) (hR : Rows n l all) (i m : Nat) (hi : i < n.toNat) (hm : Qt.Least (G := PG.Gr.of n l) (i : Int) (m : Int)) (ho : out.length ≤ 1000) (r : List Int)
    (hr : Evt (fun k => PG.caliperref15_Parts.l1 k n all (out ++ [(m : Int)]) ((i + 1 : Nat) : Int)) r) : ∀ (j k0 : Nat), k0 + j = i → k0 ≤ m → Evt (fun k => PG.caliperref15_Parts.l2 k n all out (i : Int) (i : Int) (k0 : Int)) r := by
  have hmi : m ≤ i := by have := hm.2 (i : Int) (Qt.SC.refl _); omega
  have hw1 : wrap64 ((i : Int) + 1) = ((i + 1 : Nat) : Int) := by rw [wrap_id (by omega) (by omega)]; omega
  -- the end: the number is appended
  have fin : ∀ (kk : Int), Evt (fun k => PG.caliperref15_Parts.j3 k n all out (i : Int) (m : Int) kk false) r := fun kk => by
    refine Evt.succ (h := fun k => PG.caliperref15_Parts.l1 k n all (out ++ [(m : Int)]) ((i + 1 : Nat) : Int)) (fun k => ?_) hr
    simp only [PG.caliperref15_Parts.j3]
    rw [if_neg (by decide), if_pos (by omega), hw1]
  have stop : ∀ (kk : Int), (m : Int) ≠ (i : Int) ∨ ¬ kk < (i : Int) → Evt (fun k => PG.caliperref15_Parts.l2 k n all out (i : Int) (m : Int) kk) r := fun kk h => by
    refine Evt.succ (h := fun k => PG.caliperref15_Parts.j3 k n all out (i : Int) (m : Int) kk false) (fun k => ?_) (fin kk)
    simp only [PG.caliperref15_Parts.l2]
    by_cases hk : kk < (i : Int)
    · rw [if_pos hk]
      rcases h with h | h
      · rw [show ((m : Int) == (i : Int)) = false by rw [beq_eq_false_iff_ne]; exact h]
      · exact absurd hk h
    · rw [if_neg hk]
  intro j
  induction j with
  | zero =>
    intro k0 h0 hk
    have : m = i := by omega
    have h := stop (k0 : Int) (.inr (by omega))
    rw [this] at h
    exact h
  | succ j ih =>
    intro k0 h0 hk
    have hki : k0 < i := by omega
    have hw : wrap64 ((k0 : Int) + 1) = ((k0 + 1 : Nat) : Int) := by rw [wrap_id (by omega) (by omega)]; omega
    obtain ⟨li, ri⟩ := hR i (by omega)
    obtain ⟨lk, rk⟩ := hR k0 (by omega)
    have e1 := ri (k0 : Int) ⟨by omega, by omega⟩
    have e2 := rk (i : Int) ⟨by omega, by omega⟩
    have ne : (i : Int) ≠ (k0 : Int) := by omega
    refine Evt.succ (h := fun k => PG.caliperref15_Parts.j3 k n all out (i : Int) (i : Int) (k0 : Int) true) (fun k => ?_) ?_
    · simp only [PG.caliperref15_Parts.l2]
      rw [if_pos (by omega), beq_self_eq_true]
    · by_cases hkm : k0 = m
      · subst hkm
        have g1 : rd (all.getD i []) (k0 : Int) = 1 := e1.2 (Rp.of_ne hm.1.1 ne)
        have g2 : rd (all.getD k0 []) (i : Int) = 1 := e2.2 (Rp.of_ne hm.1.2 ne.symm)
        refine Evt.succ (h := fun k => PG.caliperref15_Parts.l2 k n all out (i : Int) (k0 : Int) ((k0 + 1 : Nat) : Int)) (fun k => ?_) (stop _ (.inl (by omega)))
        simp only [PG.caliperref15_Parts.j3]
        rw [if_pos trivial, if_pos (by omega), if_pos (by omega), if_pos (by omega), rdL, rdL, if_pos (by rw [li]; omega), if_pos g1, if_pos (by omega), if_pos (by rw [lk]; omega), if_pos g2, hw]
      · have hlt : k0 < m := by omega
        have nsc : ¬ (rd (all.getD i []) (k0 : Int) = 1 ∧ rd (all.getD k0 []) (i : Int) = 1) := fun h => by
          have := hm.2 (k0 : Int) ⟨(e1.1 h.1).reach, (e2.1 h.2).reach⟩
          omega
        refine Evt.succ (h := fun k => PG.caliperref15_Parts.l2 k n all out (i : Int) (i : Int) ((k0 + 1 : Nat) : Int)) (fun k => ?_) (ih (k0 + 1) (by omega) (by omega))
        simp only [PG.caliperref15_Parts.j3]
        rw [if_pos trivial, if_pos (by omega), if_pos (by omega), if_pos (by omega), rdL, rdL, if_pos (by rw [li]; omega), hw]
        by_cases g1 : rd (all.getD i []) (k0 : Int) = 1
        · rw [if_pos g1, if_pos (by omega), if_pos (by rw [lk]; omega), if_neg (fun g2 => nsc ⟨g1, g2⟩)]
        · rw [if_neg g1]
theorem parts_l1 (n : Int) (l : List S31) (all : List (List Int)) (hn : n ≤ 300) (ha : all.length = n.toNat) (hR : Rows n l all) (P : Int → Int) (hP : ∀ x, InR n.toNat x → Qt.Least (G := PG.Gr.of n l) x (P x)) : ∀ (j i : Nat), i + j = n.toNat → Evt (fun k => PG.caliperref15_Parts.l1 k n all (((Lp.nums n).take i).map P) (i : Int)) ((Lp.nums n).map P)
  | 0, i, h => by
    refine Evt.succ (h := fun _ => some ((Lp.nums n).map P)) (fun k => ?_) (Evt.const _)
    simp only [PG.caliperref15_Parts.l1]
    rw [if_neg (by omega), List.take_of_length_le (by simp [Lp.nums]; omega)]
  | j + 1, i, h => by
    have hi : i < n.toNat := by omega
    have hnl : (Lp.nums n).length = n.toNat := by simp [Lp.nums]
    have ih := parts_l1 n l all hn ha hR P hP j (i + 1) (by omega)
    have hl := hP (i : Int) ⟨by omega, by omega⟩
    have hrng : InR n.toNat (P (i : Int)) := by
      have hle := hl.2 (i : Int) (Qt.SC.refl _)
      by_cases he : P (i : Int) = (i : Int)
      · rw [he]
        exact ⟨by omega, by omega⟩
      · have := Rp.of_ne hl.1.2 he
        obtain ⟨z, hz, _⟩ := this
        exact (of_rng n l _ z hz).1
    obtain ⟨m, hm⟩ : ∃ m : Nat, P (i : Int) = (m : Int) := ⟨(P (i : Int)).toNat, by have := hrng.1; omega⟩
    rw [hm] at hl
    have htk : ((Lp.nums n).take (i + 1)).map P = ((Lp.nums n).take i).map P ++ [(m : Int)] := by
      rw [List.take_succ_eq_append_getElem (by rw [hnl]; exact hi), List.map_append]
      simp [Lp.nums, hm]
    rw [htk] at ih
    refine Evt.succ (h := fun k => PG.caliperref15_Parts.l2 k n all (((Lp.nums n).take i).map P) (i : Int) (i : Int) ((0 : Nat) : Int)) (fun k => ?_) (parts_l2 n l all _ hn ha hR i m hi hl (by rw [List.length_map, List.length_take]; omega) _ ih i 0 (by omega) (by omega))
    simp only [PG.caliperref15_Parts.l1]
    rw [if_pos (by omega)]
    rfl
theorem parts_l0 (n : Int) (l : List S31) (hn : n ≤ 300) (hl : l.length ≤ 300) (P : Int → Int) (hP : ∀ x, InR n.toNat x → Qt.Least (G := PG.Gr.of n l) x (P x)) : ∀ (j i : Nat) (all : List (List Int)), i + j = n.toNat → all.length = i → Rows n l all → Evt (fun k => PG.caliperref15_Parts.l0 k n l all (i : Int)) ((Lp.nums n).map P)
  | 0, i, all, h, ha, hR => by
    refine Evt.succ (h := fun k => PG.caliperref15_Parts.l1 k n all (((Lp.nums n).take 0).map P) ((0 : Nat) : Int)) (fun k => ?_) (parts_l1 n l all hn (by omega) hR P hP n.toNat 0 (by omega))
    simp only [PG.caliperref15_Parts.l0]
    rw [if_neg (by omega)]
    rfl
  | j + 1, i, all, h, ha, hR => by
    have hi : i < n.toNat := by omega
    have hw : wrap64 ((i : Int) + 1) = ((i + 1 : Nat) : Int) := by rw [wrap_id (by omega) (by omega)]; omega
    obtain ⟨mark, h1, h2, h3⟩ := far_ok n (i : Int) l (by omega) hn hl
    have ih := parts_l0 n l hn hl P hP j (i + 1) (all ++ [mark]) (by omega) (by simp [ha]) (fun q hq => by
      by_cases hqi : q < all.length
      · rw [List.getD_eq_getElem?_getD, List.getElem?_append_left hqi, ← List.getD_eq_getElem?_getD]
        exact hR q hqi
      · have : q = i := by simp at hq; omega
        rw [List.getD_eq_getElem?_getD, List.getElem?_append_right (by omega), this, ha, Nat.sub_self]
        exact ⟨h2, h3⟩)
    refine Evt.succ (h := fun k => (PG.caliperref15_far.f k n l (i : Int)).bind fun t => if all.length < 5864062014805 then PG.caliperref15_Parts.l0 k n l (all ++ [t]) ((i + 1 : Nat) : Int) else none) (fun k => ?_) ?_
    · simp only [PG.caliperref15_Parts.l0]
      rw [if_pos (by omega), hw]
    · refine Evt.bind (h := fun k t => if all.length < 5864062014805 then PG.caliperref15_Parts.l0 k n l (all ++ [t]) ((i + 1 : Nat) : Int) else none) h1 ?_
      have h5 : all.length < 5864062014805 := by omega
      simp only [if_pos h5]
      exact ih
theorem parts_ref (n : Int) (l : List S31) (hn : n ≤ 300) (hl : l.length ≤ 300) (P : Int → Int) (hP : ∀ x, InR n.toNat x → Qt.Least (G := PG.Gr.of n l) x (P x)) : Evt (fun k => PG.caliperref15_Parts.f k n l) ((Lp.nums n).map P) :=
  parts_l0 n l hn hl P hP n.toNat 0 [] (by omega) rfl (fun q hq => by simp at hq)
/-- What loops.Parts answers. -/
theorem parts_f (n : Int) (l : List S31) (hn : n ≤ 300) (hl : l.length ≤ 300) : ∃ P : Int → Int, PG.loops_Parts.f n l = some ((Lp.nums n).map P) ∧ ∀ x, InR n.toNat x → Qt.Least (G := PG.Gr.of n l) x (P x) := by
  obtain ⟨s, h1, h2⟩ := Qt.parts_ok (PG.Gr.of n l) n (fun x y h => (of_rng n l x y h).2) (by omega)
  refine ⟨fun x => (s.part x).getD 0, ?_, fun x hx => ?_⟩
  · unfold PG.loops_Parts.f
    rw [if_pos ⟨by omega, by omega⟩, h1]
    rfl
  · obtain ⟨m, hm, hl⟩ := h2 x hx
    simp only [hm, Option.getD_some]
    exact hl
end Go.Proofs.Ytfkoepdakghpjaa.Qp
