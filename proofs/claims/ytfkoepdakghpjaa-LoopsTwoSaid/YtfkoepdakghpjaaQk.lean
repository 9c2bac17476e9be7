/- The document's ranks: raised till nothing rises. -/
import Derived.Test.YtfkoepdakghpjaaQr
namespace Go.Proofs.Ytfkoepdakghpjaa.Qk
open Go.RowKit Go.Proofs.YtfkoepdakghpjaaW.PrintWords Go.Proofs.YtfkoepdakghpjaaW.PrintMore Go.Proofs.Ytfkoepdakghpjaa.Mp Go.Proofs.Ytfkoepdakghpjaa.Lp Go.Proofs.Ytfkoepdakghpjaa.Qs Go.Proofs.Ytfkoepdakghpjaa.Qr
set_option linter.unusedVariables false
def can (n : Int) (o : List Int) (e : S31) : Prop := PG.Gr.cnt n e = true ∧ rd o e.f0 < rd o e.f1 + 1
instance (n : Int) (o : List Int) (e : S31) : Decidable (can n o e) := by unfold can; infer_instance
def relax (n : Int) (st : List Int × Bool) (e : S31) : List Int × Bool := if can n st.1 e then (st.1.set e.f0.toNat (rd st.1 e.f1 + 1), false) else st
structure Bd (N M : Nat) (o : List Int) : Prop where
  len : o.length = N
  bd : ∀ x : Int, InR N x → 0 ≤ rd o x ∧ rd o x ≤ (M : Int)
theorem rd_set {o : List Int} {x y v : Int} (hx : InR o.length x) (hy : InR o.length y) : rd (o.set x.toNat v) y = if y = x then v else rd o y := by
  unfold rd InR at *
  rw [List.getD_eq_getElem?_getD, List.getElem?_set]
  by_cases h : x.toNat = y.toNat
  · rw [if_pos h, if_pos (by omega), if_pos (by omega)]
    rfl
  · rw [if_neg h, if_neg (by omega), List.getD_eq_getElem?_getD]
theorem cnt_rng {n : Int} {e : S31} (h : PG.Gr.cnt n e = true) : InR n.toNat e.f0 ∧ InR n.toNat e.f1 := by
  obtain ⟨_, h1, h2, h3, h4⟩ := PG.Gr.cnt_true h
  exact ⟨⟨h1, by omega⟩, ⟨h3, by omega⟩⟩
theorem relax_bd {n : Int} {M : Nat} {st : List Int × Bool} (h : Bd n.toNat M st.1) (e : S31) : Bd n.toNat (M + 1) (relax n st e).1 := by
  unfold relax
  split
  · rename_i hc
    obtain ⟨h0, h1⟩ := cnt_rng hc.1
    refine ⟨by simp [h.len], fun x hx => ?_⟩
    simp only
    rw [rd_set (by rw [h.len]; exact h0) (by rw [h.len]; exact hx)]
    have b1 := h.bd _ h1
    have b2 := h.bd _ hx
    split <;> omega
  · exact ⟨h.len, fun x hx => by have := h.bd x hx; omega⟩
theorem fold_bd {n : Int} : ∀ (l : List S31) {M : Nat} {st : List Int × Bool}, Bd n.toNat M st.1 → Bd n.toNat (M + l.length) (l.foldl (relax n) st).1
  | [], M, st, h => h
  | e :: l, M, st, h => by
    rw [List.foldl_cons, List.length_cons, show M + (l.length + 1) = M + 1 + l.length by omega]
    exact fold_bd l (relax_bd h e)
/-- Values only rise. -/
theorem relax_le {n : Int} {st : List Int × Bool} (hl : st.1.length = n.toNat) (e : S31) {x : Int} (hx : InR n.toNat x) : rd st.1 x ≤ rd (relax n st e).1 x := by
  unfold relax
  split
  · rename_i hc
    obtain ⟨h0, h1⟩ := cnt_rng hc.1
    simp only
    rw [rd_set (by rw [hl]; exact h0) (by rw [hl]; exact hx)]
    have := hc.2
    split
    · rename_i hxe
      rw [hxe]
      omega
    · omega
  · omega
theorem relax_len {n : Int} {st : List Int × Bool} (e : S31) : (relax n st e).1.length = st.1.length := by
  unfold relax
  split <;> simp
theorem fold_len {n : Int} : ∀ (l : List S31) (st : List Int × Bool), (l.foldl (relax n) st).1.length = st.1.length
  | [], st => rfl
  | e :: l, st => by rw [List.foldl_cons, fold_len l, relax_len]
theorem fold_le {n : Int} {x : Int} (hx : InR n.toNat x) : ∀ (l : List S31) (st : List Int × Bool), st.1.length = n.toNat → rd st.1 x ≤ rd (l.foldl (relax n) st).1 x
  | [], st, _ => Int.le_refl _
  | e :: l, st, h => by
    rw [List.foldl_cons]
    exact Int.le_trans (relax_le h e hx) (fold_le hx l _ (by rw [relax_len]; exact h))
/-- Behind an edge's turn its first end is above its second end as it was. -/
theorem fold_edge {n : Int} : ∀ (l : List S31) (st : List Int × Bool), st.1.length = n.toNat → ∀ e ∈ l, PG.Gr.cnt n e = true → rd st.1 e.f1 + 1 ≤ rd (l.foldl (relax n) st).1 e.f0
  | [], st, _, e, he, _ => by cases he
  | d :: l, st, h, e, he, hc => by
    rw [List.foldl_cons]
    obtain ⟨h0, h1⟩ := cnt_rng hc
    rcases List.mem_cons.1 he with rfl | he
    · have h2 : rd st.1 e.f1 + 1 ≤ rd (relax n st e).1 e.f0 := by
        unfold relax
        split
        · simp only
          rw [rd_set (by rw [h]; exact h0) (by rw [h]; exact h0), if_pos rfl]
          exact Int.le_refl _
        · rename_i hn
          have : ¬ rd st.1 e.f0 < rd st.1 e.f1 + 1 := fun hlt => hn ⟨hc, hlt⟩
          omega
      exact Int.le_trans h2 (fold_le h0 l _ (by rw [relax_len]; exact h))
    · exact Int.le_trans (by have := relax_le h d h1; omega) (fold_edge l _ (by rw [relax_len]; exact h) e he hc)
/-- Nothing has risen: nothing can. -/
theorem fold_same {n : Int} : ∀ (l : List S31) (st : List Int × Bool), (l.foldl (relax n) st).2 = true → (l.foldl (relax n) st).1 = st.1 ∧ st.2 = true ∧ ∀ e ∈ l, ¬ can n st.1 e
  | [], st, h => ⟨rfl, h, fun e he => by cases he⟩
  | d :: l, st, h => by
    rw [List.foldl_cons] at h ⊢
    obtain ⟨h1, h2, h3⟩ := fold_same l _ h
    have hn : ¬ can n st.1 d := fun hc => by
      unfold relax at h2
      rw [if_pos hc] at h2
      cases h2
    have hr : relax n st d = st := by unfold relax; rw [if_neg hn]
    rw [hr] at h1 h2 h3 ⊢
    refine ⟨h1, h2, fun e he => ?_⟩
    rcases List.mem_cons.1 he with rfl | he
    · exact hn
    · exact h3 e he
theorem fold_not {n : Int} : ∀ (l : List S31) (o : List Int), (∀ e ∈ l, ¬ can n o e) → l.foldl (relax n) (o, true) = (o, true)
  | [], o, _ => rfl
  | d :: l, o, h => by
    rw [List.foldl_cons, show relax n (o, true) d = (o, true) by unfold relax; rw [if_neg (h d (by simp))]]
    exact fold_not l o (fun e he => h e (by simp [he]))
/-- Values stay below whatever falls along each edge. -/
theorem fold_up {n : Int} {R : Int → Int} (hR : ∀ e : S31, PG.Gr.cnt n e = true → R e.f1 + 1 ≤ R e.f0) : ∀ (l : List S31) (st : List Int × Bool), (∀ e ∈ l, PG.Gr.cnt n e = true → R e.f1 + 1 ≤ R e.f0) → st.1.length = n.toNat → (∀ x, InR n.toNat x → rd st.1 x ≤ R x) → ∀ x, InR n.toNat x → rd (l.foldl (relax n) st).1 x ≤ R x := by
  intro l
  induction l with
  | nil => exact fun st _ _ h => h
  | cons d l ih =>
    intro st hl hlen h
    rw [List.foldl_cons]
    refine ih _ (fun e he => hl e (by simp [he])) (by rw [relax_len]; exact hlen) (fun x hx => ?_)
    unfold relax
    split
    · rename_i hc
      obtain ⟨h0, h1⟩ := cnt_rng hc.1
      simp only
      rw [rd_set (by rw [hlen]; exact h0) (by rw [hlen]; exact hx)]
      split
      · rename_i hxe
        rw [hxe]
        have := hl d (by simp) hc.1
        have := h _ h1
        omega
      · exact h x hx
    · exact h x hx
/-! ### the program's text -/
def rest (n : Int) (l : List S31) (rnd : Int) (p : List Int × Bool) (k : Nat) : Option (List Int × Bool) := if p.2 = true then some (p.1, true) else PG.caliperref15_Ranks.l0 k n l p.1 (wrap64 (rnd + 1))
theorem l1_run (n : Int) (l : List S31) (rnd : Int) (hl : l.length ≤ 1000000) (r : List Int × Bool) : ∀ (j i M : Nat) (o : List Int) (same : Bool), i + j = l.length → Bd n.toNat M o → M + j ≤ 1000000000 →
    Evt (rest n l rnd ((l.drop i).foldl (relax n) (o, same))) r → Evt (fun k => PG.caliperref15_Ranks.l1 k n l o rnd same (i : Int)) r
  | 0, i, M, o, same, h, hb, hM, hr => by
    rw [List.drop_eq_nil_of_le (by omega), List.foldl_nil] at hr
    refine Evt.succ (h := rest n l rnd (o, same)) (fun k => ?_) hr
    simp only [PG.caliperref15_Ranks.l1]
    rw [if_neg (by omega)]
    rfl
  | j + 1, i, M, o, same, h, hb, hM, hr => by
    have hi : i < l.length := by omega
    rw [drop_cons hi, List.foldl_cons] at hr
    have hw : wrap64 ((i : Int) + 1) = ((i + 1 : Nat) : Int) := by rw [wrap_id (by omega) (by omega)]; omega
    have ih := l1_run n l rnd hl r j (i + 1) (M + 1) (relax n (o, same) l[i]).1 (relax n (o, same) l[i]).2 (by omega) (relax_bd hb l[i]) (by omega) hr
    refine Evt.succ (h := fun k => PG.caliperref15_Ranks.l1 k n l (relax n (o, same) l[i]).1 rnd (relax n (o, same) l[i]).2 ((i + 1 : Nat) : Int)) (fun k => ?_) ih
    simp only [PG.caliperref15_Ranks.l1]
    rw [if_pos (by omega), if_pos (by omega), rdT hi, counts_eq, Option.bind_some, hw]
    unfold relax
    by_cases hc : PG.Gr.cnt n l[i] = true
    · obtain ⟨h0, h1⟩ := cnt_rng hc
      have b1 := hb.bd _ h1
      have hlen := hb.len
      rw [if_pos hc, if_pos h0.1, if_pos (by rw [hlen]; exact h0.2), if_pos h1.1, if_pos (by rw [hlen]; exact h1.2), wrap_id (x := rd o l[i].f1 + 1) (by omega) (by omega)]
      by_cases hlt : rd o l[i].f0 < rd o l[i].f1 + 1
      · rw [if_pos hlt, if_pos ⟨hc, hlt⟩]
      · rw [if_neg hlt, if_neg (fun h => hlt h.2)]
    · rw [if_neg hc, if_neg (fun h => hc h.1)]
theorem l0_run (n : Int) (l : List S31) (rnd : Nat) (o : List Int) (M : Nat) (r : List Int × Bool) (hl : l.length ≤ 1000000) (hb : Bd n.toNat M o) (hM : M + l.length ≤ 1000000000) (hrn : rnd ≤ n.toNat)
    (hr : Evt (rest n l (rnd : Int) (l.foldl (relax n) (o, true))) r) : Evt (fun k => PG.caliperref15_Ranks.l0 k n l o (rnd : Int)) r := by
  refine Evt.succ (h := fun k => PG.caliperref15_Ranks.l1 k n l o (rnd : Int) true 0) (fun k => ?_) ?_
  · simp only [PG.caliperref15_Ranks.l0]
    rw [if_pos]
    unfold mx
    split <;> omega
  · exact l1_run n l (rnd : Int) hl r l.length 0 M o true (by omega) hb hM (by rw [List.drop_zero]; exact hr)
/-- Without a cycle: the ranks. -/
theorem acyc (n : Int) (l : List S31) (hn : n ≤ 1000) (hl : l.length ≤ 1000) (R : Int → Int) (hR : ∀ x, InR n.toNat x → 0 ≤ R x ∧ R x < (n.toNat : Int)) (hE : ∀ e ∈ l, PG.Gr.cnt n e = true → R e.f1 + 1 ≤ R e.f0)
    (hD : ∀ x, InR n.toNat x → R x = 0 ∨ ∃ e ∈ l, PG.Gr.cnt n e = true ∧ e.f0 = x ∧ R e.f1 + 1 = R x) :
    ∀ (j rnd : Nat) (o : List Int), rnd + j = n.toNat → Bd n.toNat (rnd * 1000) o → (∀ x, InR n.toNat x → rd o x ≤ R x) → (∀ x, InR n.toNat x → R x ≤ (rnd : Int) → R x ≤ rd o x) → Evt (fun k => PG.caliperref15_Ranks.l0 k n l o (rnd : Int)) ((nums n).map R, true) := by
  have fin : ∀ (o : List Int), o.length = n.toNat → (∀ x, InR n.toNat x → rd o x = R x) → o = (nums n).map R := by
    intro o ho hx
    have hnl : (nums n).length = n.toNat := by simp [Lp.nums]
    apply List.ext_getElem
    · rw [List.length_map, hnl, ho]
    · intro i h1 h2
      have h3 : i < n.toNat := by omega
      have := hx (i : Int) ⟨by omega, by omega⟩
      rw [rd_nat, getD_lt h1] at this
      rw [this, List.getElem_map]
      simp [Lp.nums]
  intro j
  induction j with
  | zero =>
    intro rnd o hj hb hu hs
    have hall : ∀ x, InR n.toNat x → rd o x = R x := fun x hx => by
      have h1 := hu x hx
      have h2 := hs x hx (by have := (hR x hx).2; omega)
      omega
    have hbd : rnd * 1000 ≤ 1000000 := by omega
    have hM : rnd * 1000 + l.length ≤ 1000000000 := Nat.le_trans (Nat.add_le_add hbd hl) (Nat.le_of_ble_eq_true rfl)
    have hl6 : l.length ≤ 1000000 := by omega
    have hrn : rnd ≤ n.toNat := by omega
    refine l0_run n l rnd o (rnd * 1000) _ hl6 hb hM hrn ?_
    rw [fold_not l o (fun e he hc => by
      obtain ⟨h0, h1⟩ := cnt_rng hc.1
      have := hE e he hc.1
      have := hc.2
      rw [hall _ h0, hall _ h1] at this
      omega)]
    refine ⟨0, fun k _ => ?_⟩
    unfold rest
    rw [if_pos rfl, fin o hb.len hall]
  | succ j ih =>
    intro rnd o hj hb hu hs
    have hbd : rnd * 1000 ≤ 1000000 := by omega
    have hM : rnd * 1000 + l.length ≤ 1000000000 := Nat.le_trans (Nat.add_le_add hbd hl) (Nat.le_of_ble_eq_true rfl)
    have hl6 : l.length ≤ 1000000 := by omega
    have hrn : rnd ≤ n.toNat := by omega
    refine l0_run n l rnd o (rnd * 1000) _ hl6 hb hM hrn ?_
    have hup : ∀ x, InR n.toNat x → rd (l.foldl (relax n) (o, true)).1 x ≤ R x := by
      have key : ∀ (l' : List S31) (st : List Int × Bool), (∀ e ∈ l', PG.Gr.cnt n e = true → R e.f1 + 1 ≤ R e.f0) → st.1.length = n.toNat → (∀ x, InR n.toNat x → rd st.1 x ≤ R x) → ∀ x, InR n.toNat x → rd (l'.foldl (relax n) st).1 x ≤ R x := by
        intro l'
        induction l' with
        | nil => exact fun st _ _ h => h
        | cons d l' ih' =>
          intro st hl' hlen h
          rw [List.foldl_cons]
          refine ih' _ (fun e he => hl' e (by simp [he])) (by rw [relax_len]; exact hlen) (fun x hx => ?_)
          unfold relax
          split
          · rename_i hc
            obtain ⟨h0, h1⟩ := cnt_rng hc.1
            simp only
            rw [rd_set (by rw [hlen]; exact h0) (by rw [hlen]; exact hx)]
            split
            · rename_i hxe
              rw [hxe]
              have := hl' d (by simp) hc.1
              have := h _ h1
              omega
            · exact h x hx
          · exact h x hx
      exact key l (o, true) hE hb.len hu
    cases hsame : (l.foldl (relax n) (o, true)).2 with
    | true =>
      obtain ⟨h1, _, h3⟩ := fold_same l (o, true) hsame
      refine ⟨0, fun k _ => ?_⟩
      unfold rest
      rw [hsame, if_pos rfl, h1]
      congr 2
      refine fin o hb.len (fun x hx => ?_)
      have low : ∀ (m : Nat) (x : Int), InR n.toNat x → R x = (m : Int) → R x ≤ rd o x := by
        intro m
        induction m with
        | zero => intro x hx hm; have := (hb.bd x hx).1; omega
        | succ m ihm =>
          intro x hx hm
          rcases hD x hx with h0 | ⟨e, he, hc, rfl, hr⟩
          · omega
          · obtain ⟨g0, g1⟩ := cnt_rng hc
            have h4 := ihm e.f1 g1 (by omega)
            have h5 : ¬ rd o e.f0 < rd o e.f1 + 1 := fun hlt => h3 e he ⟨hc, hlt⟩
            omega
      have h6 := low (R x).toNat x hx (by have := (hR x hx).1; omega)
      have h7 := hu x hx
      omega
    | false =>
      have hw : wrap64 ((rnd : Int) + 1) = ((rnd + 1 : Nat) : Int) := by rw [wrap_id (by omega) (by omega)]; omega
      have hbn : Bd n.toNat ((rnd + 1) * 1000) (l.foldl (relax n) (o, true)).1 := by
        have h1 := fold_bd (n := n) l (st := (o, true)) hb
        exact ⟨h1.len, fun x hx => by have := h1.bd x hx; have h3 : ((rnd + 1) * 1000 : Nat) = rnd * 1000 + 1000 := by omega
                                      omega⟩
      have h := ih (rnd + 1) _ (by omega) hbn hup (fun x hx hx2 => by
        rcases Int.lt_or_le (rnd : Int) (R x) with hlt | hle
        · rcases hD x hx with h0 | ⟨e, he, hc, rfl, hr⟩
          · omega
          · obtain ⟨g0, g1⟩ := cnt_rng hc
            have h1 := hs e.f1 g1 (by omega)
            have h2 := fold_edge l (o, true) hb.len e he hc
            simp only at h2
            omega
        · exact Int.le_trans (hs x hx hle) (fold_le hx l (o, true) hb.len))
      obtain ⟨K, hK⟩ := h
      refine ⟨K, fun k hk => ?_⟩
      unfold rest
      rw [hsame, if_neg (by decide), hw]
      exact hK k hk
/-- With a cycle: none. -/
theorem cyclic (n : Int) (l : List S31) (hn : n ≤ 1000) (hl : l.length ≤ 1000) (hno : ∀ o : List Int, o.length = n.toNat → ∃ e ∈ l, can n o e) :
    ∀ (j rnd : Nat) (o : List Int), rnd + j = n.toNat + 1 → Bd n.toNat (rnd * 1000) o → Evt (fun k => PG.caliperref15_Ranks.l0 k n l o (rnd : Int)) (([] : List Int), false) := by
  intro j
  induction j with
  | zero =>
    intro rnd o hj hb
    refine Evt.succ (h := fun _ => some (([] : List Int), false)) (fun k => ?_) (Evt.const _)
    simp only [PG.caliperref15_Ranks.l0]
    rw [if_neg]
    unfold mx
    split <;> omega
  | succ j ih =>
    intro rnd o hj hb
    have hbd : rnd * 1000 ≤ 1001000 := by omega
    have hM : rnd * 1000 + l.length ≤ 1000000000 := Nat.le_trans (Nat.add_le_add hbd hl) (Nat.le_of_ble_eq_true rfl)
    have hl6 : l.length ≤ 1000000 := by omega
    have hrn : rnd ≤ n.toNat := by omega
    refine l0_run n l rnd o (rnd * 1000) _ hl6 hb hM hrn ?_
    have hw : wrap64 ((rnd : Int) + 1) = ((rnd + 1 : Nat) : Int) := by rw [wrap_id (by omega) (by omega)]; omega
    have hsame : (l.foldl (relax n) (o, true)).2 = false := by
      cases hs : (l.foldl (relax n) (o, true)).2 with
      | false => rfl
      | true =>
        obtain ⟨h1, _, h3⟩ := fold_same l (o, true) hs
        obtain ⟨e, he, hc⟩ := hno o hb.len
        exact absurd hc (h3 e he)
    have hbn : Bd n.toNat ((rnd + 1) * 1000) (l.foldl (relax n) (o, true)).1 := by
      have h1 := fold_bd (n := n) l (st := (o, true)) hb
      exact ⟨h1.len, fun x hx => by have := h1.bd x hx; have h3 : ((rnd + 1) * 1000 : Nat) = rnd * 1000 + 1000 := by omega
                                    omega⟩
    obtain ⟨K, hK⟩ := ih (rnd + 1) _ (by omega) hbn
    refine ⟨K, fun k hk => ?_⟩
    unfold rest
    rw [hsame, if_neg (by decide), hw]
    exact hK k hk
theorem start_bd (n : Int) : Bd n.toNat (0 * 1000) (List.replicate n.toNat (0 : Int)) := by
  refine ⟨by simp, fun x hx => ?_⟩
  have : rd (List.replicate n.toNat (0 : Int)) x = 0 := by
    unfold rd
    rw [List.getD_eq_getElem?_getD, List.getElem?_replicate]
    split <;> rfl
  rw [this]
  exact ⟨Int.le_refl _, by simp⟩
theorem f_eq (n : Int) (l : List S31) (hn : n ≤ 1000) (k : Nat) : PG.caliperref15_Ranks.f k n l = PG.caliperref15_Ranks.l0 k n l (List.replicate n.toNat 0) ((0 : Nat) : Int) := by
  unfold PG.caliperref15_Ranks.f
  have h1 : (mx n 0).toNat = n.toNat := by unfold mx; split <;> omega
  have h2 : 0 ≤ mx n 0 := by unfold mx; split <;> omega
  rw [if_pos h2, h1, if_pos (by omega)]
  rfl
end Go.Proofs.Ytfkoepdakghpjaa.Qk
