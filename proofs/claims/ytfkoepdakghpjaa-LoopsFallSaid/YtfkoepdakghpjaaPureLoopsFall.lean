/- LoopsFall answers true. -/
import Derived.Test.YtfkoepdakghpjaaQc
import Derived.Test.YtfkoepdakghpjaaPGx12
namespace Go.Proofs.Ytfkoepdakghpjaa.Pure
open Go.RowKit Go.Proofs.YtfkoepdakghpjaaW.PrintWords Go.Proofs.YtfkoepdakghpjaaW.PrintMore Go.Proofs.Ytfkoepdakghpjaa.Lp Go.Proofs.Ytfkoepdakghpjaa.Qs Go.Proofs.Ytfkoepdakghpjaa.Qr Go.Proofs.Ytfkoepdakghpjaa.Qk Go.Proofs.Ytfkoepdakghpjaa.Qc
set_option linter.unusedVariables false
namespace Fall
/-- What the law notes of an edge. -/
def note (n : Int) (R : Int → Int) (nxt : List Bool) (e : S31) : List Bool := if PG.Gr.cnt n e = true then nxt.set e.f0.toNat (rdOf false nxt e.f0 || decide (R e.f0 = R e.f1 + 1)) else nxt
theorem note_len {n : Int} {R : Int → Int} {nxt : List Bool} (e : S31) : (note n R nxt e).length = nxt.length := by
  unfold note
  split <;> simp
theorem rdOf_set {o : List Bool} {x y : Int} {v : Bool} (hx : InR o.length x) (hy : InR o.length y) : rdOf false (o.set x.toNat v) y = if y = x then v else rdOf false o y := by
  unfold rdOf InR at *
  rw [List.getD_eq_getElem?_getD, List.getElem?_set]
  by_cases h : x.toNat = y.toNat
  · rw [if_pos h, if_pos (by omega), if_pos (by omega)]
    rfl
  · rw [if_neg h, if_neg (by omega), List.getD_eq_getElem?_getD]
theorem fold_note {n : Int} {R : Int → Int} {x : Int} (hx : InR n.toNat x) : ∀ (l : List S31) (nxt : List Bool), nxt.length = n.toNat → rdOf false (l.foldl (note n R) nxt) x = (rdOf false nxt x || l.any fun e => PG.Gr.cnt n e && (decide (e.f0 = x) && decide (R e.f0 = R e.f1 + 1)))
  | [], nxt, _ => by simp
  | e :: l, nxt, h => by
    rw [List.foldl_cons, fold_note hx l _ (by rw [note_len]; exact h), List.any_cons, ← Bool.or_assoc]
    congr 1
    unfold note
    by_cases hc : PG.Gr.cnt n e = true
    · obtain ⟨h0, _⟩ := cnt_rng hc
      rw [if_pos hc, rdOf_set (by rw [h]; exact h0) (by rw [h]; exact hx), hc]
      by_cases hxe : x = e.f0
      · subst hxe
        simp
      · have : ¬ e.f0 = x := fun e => hxe e.symm
        simp [hxe, this]
    · have hc' : PG.Gr.cnt n e = false := by simpa using hc
      rw [if_neg hc, hc']
      simp
theorem l1_run (rs : List Int) (nxt : List Bool) (hl : nxt.length = rs.length) (hb : rs.length ≤ 1000) (hok : ∀ i, i < rs.length → 0 ≤ rs.getD i 0 ∧ rdOf false nxt (i : Int) = decide (rs.getD i 0 > 0)) : ∀ (j i : Nat), i + j = rs.length → Evt (fun k => PG.caliperlaw15_LoopsFall.l1 k rs nxt (i : Int)) true
  | 0, i, h => by
    refine Evt.succ (h := fun k => (PG.caliperlaw15_heads.f k).bind fun t => some t) (fun k => ?_) heads_bind
    simp only [PG.caliperlaw15_LoopsFall.l1]
    rw [if_neg (by omega)]
  | j + 1, i, h => by
    have hi : i < rs.length := by omega
    have ih := l1_run rs nxt hl hb hok j (i + 1) (by omega)
    have hw : wrap64 ((i : Int) + 1) = ((i + 1 : Nat) : Int) := by rw [wrap_id (by omega) (by omega)]; omega
    obtain ⟨h0, h1⟩ := hok i hi
    refine Evt.succ (h := fun k => PG.caliperlaw15_LoopsFall.l1 k rs nxt ((i + 1 : Nat) : Int)) (fun k => ?_) ih
    simp only [PG.caliperlaw15_LoopsFall.l1]
    rw [if_pos (by omega), if_pos (by omega), if_pos (by omega), rd_nat, h1, if_neg (by simp), if_neg (by omega), hw]
theorem l0_run (n : Int) (l : List S31) (rs : List Int) (R : Int → Int) (hn : n ≤ 300) (hlb : l.length ≤ 300) (hrl : rs.length = n.toNat) (hR : ∀ x, InR n.toNat x → rd rs x = R x ∧ 0 ≤ R x ∧ R x < (n.toNat : Int)) (hE : ∀ e ∈ l, PG.Gr.cnt n e = true → R e.f1 + 1 ≤ R e.f0) :
    ∀ (j i : Nat) (nxt : List Bool), i + j = l.length → nxt.length = n.toNat → Evt (fun k => PG.caliperlaw15_LoopsFall.l1 k rs ((l.drop i).foldl (note n R) nxt) 0) true → Evt (fun k => PG.caliperlaw15_LoopsFall.l0 k n l rs nxt (i : Int)) true
  | 0, i, nxt, h, hx, hr => by
    rw [List.drop_eq_nil_of_le (by omega), List.foldl_nil] at hr
    refine Evt.succ (h := fun k => PG.caliperlaw15_LoopsFall.l1 k rs nxt 0) (fun k => ?_) hr
    simp only [PG.caliperlaw15_LoopsFall.l0]
    rw [if_neg (by omega)]
  | j + 1, i, nxt, h, hx, hr => by
    have hi : i < l.length := by omega
    rw [drop_cons hi, List.foldl_cons] at hr
    have hw : wrap64 ((i : Int) + 1) = ((i + 1 : Nat) : Int) := by rw [wrap_id (by omega) (by omega)]; omega
    have ih := l0_run n l rs R hn hlb hrl hR hE j (i + 1) (note n R nxt l[i]) (by omega) (by rw [note_len]; exact hx) hr
    refine Evt.succ (h := fun k => PG.caliperlaw15_LoopsFall.j3 k n l rs nxt (i : Int) (!PG.Gr.cnt n l[i]) l[i].f0 l[i].f1 l[i].f2 l[i].f3 l[i].f4) (fun k => ?_) ?_
    · simp only [PG.caliperlaw15_LoopsFall.l0]
      rw [if_pos (by omega), if_pos (by omega), rdT hi]
      unfold PG.Gr.cnt
      by_cases h1 : l[i].f3 = true
      · rw [if_pos h1]
        by_cases h2 : l[i].f0 < 0
        · rw [if_pos h2]
          have : decide (l[i].f0 ≥ 0) = false := decide_eq_false (by omega)
          simp [this]
        · rw [if_neg h2]
          by_cases h3 : l[i].f0 ≥ n
          · rw [if_pos h3]
            have : decide (l[i].f0 < n) = false := decide_eq_false (by omega)
            simp [this]
          · rw [if_neg h3]
            by_cases h4 : l[i].f1 < 0
            · rw [if_pos h4]
              have : decide (l[i].f1 ≥ 0) = false := decide_eq_false (by omega)
              simp [this]
            · rw [if_neg h4]
              have e1 : decide (l[i].f0 ≥ 0) = true := decide_eq_true (by omega)
              have e2 : decide (l[i].f0 < n) = true := decide_eq_true (by omega)
              have e3 : decide (l[i].f1 ≥ 0) = true := decide_eq_true (by omega)
              have e4 : decide (l[i].f1 ≥ n) = !decide (l[i].f1 < n) := by
                rw [← decide_not]
                exact decide_eq_decide.2 (by omega)
              rw [h1, e1, e2, e3, e4]
              simp
      · rw [if_neg h1]
        have : l[i].f3 = false := by simpa using h1
        rw [this]
        simp
    · by_cases hc : PG.Gr.cnt n l[i] = true
      · obtain ⟨h0, h1⟩ := cnt_rng hc
        have hf := hE _ (List.getElem_mem hi) hc
        obtain ⟨r0, r1, r2⟩ := hR _ h0
        obtain ⟨q0, q1, q2⟩ := hR _ h1
        refine Evt.succ (h := fun k => PG.caliperlaw15_LoopsFall.l0 k n l rs (note n R nxt l[i]) ((i + 1 : Nat) : Int)) (fun k => ?_) ih
        simp only [PG.caliperlaw15_LoopsFall.j3]
        rw [hc, if_neg (by decide), if_pos h0.1, if_pos (by rw [hrl]; exact h0.2), if_pos h1.1, if_pos (by rw [hrl]; exact h1.2), r0, q0, if_neg (by omega), if_pos (by rw [hx]; exact h0.2), hw, wrap_id (x := R l[i].f1 + 1) (by omega) (by omega)]
        unfold note
        rw [if_pos hc]
        cases hb : rdOf false nxt l[i].f0 with
        | true => rw [if_pos rfl, Bool.true_or]
        | false =>
          rw [if_neg (by decide), Bool.false_or]
          rfl
      · have hc' : PG.Gr.cnt n l[i] = false := by simpa using hc
        refine Evt.succ (h := fun k => PG.caliperlaw15_LoopsFall.l0 k n l rs (note n R nxt l[i]) ((i + 1 : Nat) : Int)) (fun k => ?_) ih
        simp only [PG.caliperlaw15_LoopsFall.j3]
        rw [hc', if_pos (by rfl), hw]
        unfold note
        rw [if_neg hc]
end Fall
theorem LoopsFall (n : Int) (l : List PG.S31) (hn : (Lit.int .i64 n).wf = true) (hl : l.length ≤ 9223372036854775807) : ∃ k, PG.caliperlaw15_LoopsFall.f k n l = some true := by
  have hd : Evt (fun k => PG.caliperlaw15_LoopsFall.j0 k n l true) true := by
    refine Evt.succ (h := fun k => (PG.caliperlaw15_heads.f k).bind fun t => some t) (fun k => ?_) heads_bind
    simp only [PG.caliperlaw15_LoopsFall.j0]
    rfl
  refine Evt.one (g := fun k => PG.caliperlaw15_LoopsFall.f k n l) ?_
  unfold PG.caliperlaw15_LoopsFall.f
  by_cases h1 : n > 200
  · simp only [if_pos h1]
    exact hd
  · simp only [if_neg h1]
    by_cases h2 : (l.length : Int) > 300
    · rw [decide_eq_true h2]
      exact hd
    · rw [decide_eq_false h2]
      rcases both n l (by omega) (by omega) with ⟨c, h3, ⟨h4, _⟩, h5⟩ | ⟨s, h3, h4, h5⟩
      · refine Evt.succ (h := fun k => PG.caliperlaw15_LoopsFall.j1 k n l [] false false) (fun k => ?_) ?_
        · simp only [PG.caliperlaw15_LoopsFall.j0]
          rw [if_neg (by decide), Ranks_inl (by omega) (by omega) h3, Cycle_inl (by omega) (by omega) h3 h4]
          rfl
        · refine Evt.succ (h := fun k => (PG.caliperlaw15_heads.f k).bind fun t => some t) (fun k => ?_) heads_bind
          simp only [PG.caliperlaw15_LoopsFall.j1]
          rw [if_neg (by decide), if_neg (by decide), if_pos (by simp)]
      · obtain ⟨rs, hrs⟩ : ∃ rs, rs = (Lp.nums n).map (fun i => (s.rk i).getD 0) := ⟨_, rfl⟩
        have hrl : rs.length = n.toNat := by rw [hrs, List.length_map]; simp [Lp.nums]
        have hR : ∀ x, InR n.toNat x → rd rs x = (s.rk x).getD 0 ∧ 0 ≤ (s.rk x).getD 0 ∧ (s.rk x).getD 0 < (n.toNat : Int) := by
          intro x hx
          obtain ⟨r, hr, r0, r1, _⟩ := h4 x hx
          refine ⟨?_, by rw [hr]; exact r0, by rw [hr]; exact r1⟩
          have hx' : x.toNat < rs.length := by rw [hrl]; have := hx.1; have := hx.2; omega
          unfold rd
          rw [getD_lt hx']
          subst hrs
          rw [List.getElem_map]
          have : (Lp.nums n)[x.toNat]'(by rw [List.length_map] at hx'; exact hx') = x := by
            simp [Lp.nums]
            have := hx.1
            omega
          rw [this]
        have hE : ∀ e ∈ l, PG.Gr.cnt n e = true → (s.rk e.f1).getD 0 + 1 ≤ (s.rk e.f0).getD 0 := fun e he hc => h4.fall _ _ ((mem_of n l _ _).2 ⟨e, he, hc, rfl, rfl⟩)
        refine Evt.succ (h := fun k => PG.caliperlaw15_LoopsFall.j1 k n l rs true false) (fun k => ?_) ?_
        · simp only [PG.caliperlaw15_LoopsFall.j0]
          rw [if_neg (by decide), Ranks_inr (by omega) (by omega) h3, Cycle_inr (by omega) (by omega) h3, ← hrs]
          rfl
        · refine Evt.succ (h := fun k => PG.caliperlaw15_LoopsFall.l0 k n l rs (List.replicate n.toNat false) 0) (fun k => ?_) ?_
          · simp only [PG.caliperlaw15_LoopsFall.j1]
            have hm : (rs.length : Int) = mx n 0 := by rw [hrl]; unfold mx; split <;> omega
            rw [if_neg (by decide), if_pos trivial, if_pos hm, if_pos (by omega), if_pos (by omega), hrl, Int.toNat_natCast]
          · refine Fall.l0_run n l rs (fun x => (s.rk x).getD 0) (by omega) (by omega) hrl hR hE l.length 0 _ (by omega) (by simp) ?_
            rw [List.drop_zero]
            refine Fall.l1_run rs _ ?_ (by omega) (fun i hi => ?_) rs.length 0 (by omega)
            · have : ∀ (l' : List S31) (nxt : List Bool), (l'.foldl (Fall.note n (fun x => (s.rk x).getD 0)) nxt).length = nxt.length := by
                intro l'
                induction l' with
                | nil => exact fun _ => rfl
                | cons e l' ih => intro nxt; rw [List.foldl_cons, ih, Fall.note_len]
              rw [this, hrl]
              simp
            · have hx : InR n.toNat (i : Int) := ⟨by omega, by omega⟩
              obtain ⟨r0, r1, r2⟩ := hR _ hx
              rw [rd_nat] at r0
              refine ⟨by rw [r0]; exact r1, ?_⟩
              rw [Fall.fold_note hx _ _ (by simp), r0]
              have hz : rdOf false (List.replicate n.toNat false) (i : Int) = false := by
                unfold rdOf
                rw [List.getD_eq_getElem?_getD, List.getElem?_replicate]
                split <;> rfl
              rw [hz, Bool.false_or, Bool.eq_iff_iff, List.any_eq_true, decide_eq_true_iff]
              constructor
              · rintro ⟨e, he, hc⟩
                simp only [Bool.and_eq_true, decide_eq_true_eq] at hc
                obtain ⟨hc0, hc1, hc2⟩ := hc
                obtain ⟨_, g1⟩ := cnt_rng hc0
                have := (hR _ g1).2.1
                rw [← hc1]
                omega
              · intro hpos
                obtain ⟨r, hr, _, _, hL⟩ := h4 _ hx
                rcases hL.2 with h0 | ⟨y, hy, q, hq, hqr⟩
                · rw [hr, h0] at hpos
                  simp at hpos
                · obtain ⟨e, he, hc, he0, rfl⟩ := (mem_of n l _ y).1 hy
                  refine ⟨e, he, ?_⟩
                  simp only [Bool.and_eq_true, decide_eq_true_eq]
                  refine ⟨hc, he0, ?_⟩
                  rw [he0, hr, hq]
                  exact hqr.symm
end Go.Proofs.Ytfkoepdakghpjaa.Pure
