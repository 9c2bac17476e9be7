/- LoopsTwo answers true. -/
import Derived.Test.YtfkoepdakghpjaaQp
import Derived.Test.YtfkoepdakghpjaaPGx11
namespace Go.Proofs.Ytfkoepdakghpjaa.Pure
open Go.RowKit Go.Proofs.YtfkoepdakghpjaaW.PrintWords Go.Proofs.YtfkoepdakghpjaaW.PrintMore Go.Proofs.Ytfkoepdakghpjaa.Qs Go.Proofs.Ytfkoepdakghpjaa.Qr Go.Proofs.Ytfkoepdakghpjaa.Qk Go.Proofs.Ytfkoepdakghpjaa.Qc Go.Proofs.Ytfkoepdakghpjaa.Qp
set_option linter.unusedVariables false
namespace Two
/-- An edge from a number to itself. -/
def selfE (n : Int) (e : S31) : Bool := e.f3 && (decide (e.f0 = e.f1) && (decide (e.f0 ≥ 0) && decide (e.f0 < n)))
theorem l1_run (n : Int) (l : List S31) (hl : l.length ≤ 300) (ok : Bool) : ∀ (j i : Nat) (some_ : Bool), i + j = l.length → (ok = (some_ || (l.drop i).any (selfE n))) → Evt (fun k => PG.caliperlaw15_LoopsTwo.l1 k n l ok some_ (i : Int)) true
  | 0, i, sm, h, hok => by
    rw [List.drop_eq_nil_of_le (by omega), List.any_nil, Bool.or_false] at hok
    subst hok
    refine Evt.succ (h := fun k => (PG.caliperlaw15_heads.f k).bind fun t => some t) (fun k => ?_) heads_bind
    simp only [PG.caliperlaw15_LoopsTwo.l1]
    rw [if_neg (by omega), if_pos (by simp)]
  | j + 1, i, sm, h, hok => by
    have hi : i < l.length := by omega
    have hw : wrap64 ((i : Int) + 1) = ((i + 1 : Nat) : Int) := by rw [wrap_id (by omega) (by omega)]; omega
    rw [drop_cons hi, List.any_cons, ← Bool.or_assoc] at hok
    refine Evt.succ (h := fun k => PG.caliperlaw15_LoopsTwo.l1 k n l ok (sm || selfE n l[i]) ((i + 1 : Nat) : Int)) (fun k => ?_) (l1_run n l hl ok j (i + 1) (sm || selfE n l[i]) (by omega) hok)
    simp only [PG.caliperlaw15_LoopsTwo.l1]
    rw [if_pos (by omega), if_pos (by omega), rdT hi, hw]
    unfold selfE
    cases sm with
    | true => rw [if_pos rfl, Bool.true_or]
    | false =>
      rw [if_neg (by decide), Bool.false_or]
      by_cases h1 : l[i].f3 = true
      · rw [if_pos h1, h1]
        by_cases h2 : l[i].f0 = l[i].f1
        · rw [if_pos h2, decide_eq_true h2]
          by_cases h3 : l[i].f0 ≥ 0
          · rw [if_pos h3, decide_eq_true h3]
            simp
          · rw [if_neg h3, decide_eq_false h3]
            simp
        · rw [if_neg h2, decide_eq_false h2]
          simp
      · have h1' : l[i].f3 = false := by simpa using h1
        rw [if_neg h1, h1']
        simp
theorem l0_run (n : Int) (l : List S31) (hl : l.length ≤ 300) (ok : Bool) (p : List Int) (hpl : p.length ≤ 300) (hp : ∀ i, i < p.length → 0 ≤ p.getD i 0 ∧ p.getD i 0 ≤ (i : Int) ∧ rd p (p.getD i 0) = p.getD i 0) : ∀ (j i : Nat) (some_ : Bool), i + j = p.length →
    (ok = ((some_ || (List.range' i j).any fun q => p.getD q 0 != (q : Int)) || l.any (selfE n))) → Evt (fun k => PG.caliperlaw15_LoopsTwo.l0 k n l ok p some_ (i : Int)) true
  | 0, i, sm, h, hok => by
    refine Evt.succ (h := fun k => PG.caliperlaw15_LoopsTwo.l1 k n l ok sm 0) (fun k => ?_) (l1_run n l hl ok l.length 0 sm (by omega) (by simpa using hok))
    simp only [PG.caliperlaw15_LoopsTwo.l0]
    rw [if_neg (by omega)]
  | j + 1, i, sm, h, hok => by
    have hi : i < p.length := by omega
    have hw : wrap64 ((i : Int) + 1) = ((i + 1 : Nat) : Int) := by rw [wrap_id (by omega) (by omega)]; omega
    obtain ⟨h0, h1, h2⟩ := hp i hi
    rw [List.range'_succ, List.any_cons, ← Bool.or_assoc] at hok
    refine Evt.succ (h := fun k => PG.caliperlaw15_LoopsTwo.l0 k n l ok p (sm || (p.getD i 0 != (i : Int))) ((i + 1 : Nat) : Int)) (fun k => ?_) (l0_run n l hl ok p hpl hp j (i + 1) _ (by omega) hok)
    simp only [PG.caliperlaw15_LoopsTwo.l0]
    rw [if_pos (by omega), if_pos (by omega), rd_nat, if_neg (by omega), if_neg (by omega), if_pos h0, if_pos (by omega), if_pos h2, hw]
    cases sm with
    | true => rw [if_pos rfl, Bool.true_or]
    | false => rw [if_neg (by decide), Bool.false_or]
end Two
theorem LoopsTwo (n : Int) (l : List PG.S31) (hn : (Lit.int .i64 n).wf = true) (hl : l.length ≤ 9223372036854775807) : ∃ k, PG.caliperlaw15_LoopsTwo.f k n l = some true := by
  have hd : Evt (fun k => PG.caliperlaw15_LoopsTwo.j0 k n l true) true := by
    refine Evt.succ (h := fun k => (PG.caliperlaw15_heads.f k).bind fun t => some t) (fun k => ?_) heads_bind
    simp only [PG.caliperlaw15_LoopsTwo.j0]
    rfl
  refine Evt.one (g := fun k => PG.caliperlaw15_LoopsTwo.f k n l) ?_
  unfold PG.caliperlaw15_LoopsTwo.f
  by_cases h1 : n > 200
  · simp only [if_pos h1]
    exact hd
  · simp only [if_neg h1]
    by_cases h2 : (l.length : Int) > 300
    · rw [decide_eq_true h2]
      exact hd
    · rw [decide_eq_false h2]
      obtain ⟨P, p1, p2⟩ := parts_f n l (by omega) (by omega)
      obtain ⟨p, hp⟩ : ∃ p, p = (Lp.nums n).map P := ⟨_, rfl⟩
      have hpl : p.length = n.toNat := by rw [hp, List.length_map]; simp [Lp.nums]
      have hget : ∀ x, InR n.toNat x → rd p x = P x := fun x hx => by
        have hx' : x.toNat < p.length := by rw [hpl]; have := hx.1; have := hx.2; omega
        unfold rd
        rw [getD_lt hx']
        subst hp
        rw [List.getElem_map]
        congr 1
        simp [Lp.nums]
        have := hx.1
        omega
      have hPr : ∀ x, InR n.toNat x → 0 ≤ P x ∧ P x ≤ x := fun x hx => by
        have hle := (p2 x hx).2 x (Qt.SC.refl _)
        refine ⟨?_, hle⟩
        by_cases he : P x = x
        · rw [he]
          exact hx.1
        · obtain ⟨z, hz, _⟩ := Rp.of_ne (p2 x hx).1.2 he
          exact (of_rng n l _ z hz).1.1
      have hPP : ∀ x y, InR n.toNat x → InR n.toNat y → Qt.SC (PG.Gr.of n l) x y → P x = P y := fun x y hx hy h => by
        have a1 := (p2 x hx).2 (P y) (h.trans (p2 y hy).1)
        have a2 := (p2 y hy).2 (P x) (h.symm.trans (p2 x hx).1)
        omega
      have hpi : ∀ i, i < p.length → 0 ≤ p.getD i 0 ∧ p.getD i 0 ≤ (i : Int) ∧ rd p (p.getD i 0) = p.getD i 0 := fun i hi => by
        have hx : InR n.toNat (i : Int) := ⟨by omega, by omega⟩
        have e1 := hget _ hx
        rw [rd_nat] at e1
        obtain ⟨g1, g2⟩ := hPr _ hx
        rw [e1]
        have hx2 : InR n.toNat (P (i : Int)) := ⟨g1, by omega⟩
        exact ⟨g1, g2, by rw [hget _ hx2]; exact (hPP _ _ hx hx2 (p2 _ hx).1).symm⟩
      have main : ∀ (a : List Int) (ok : Bool), PG.loops_Cycle.f n l = some (a, ok) → (ok = ((List.range' 0 p.length).any (fun q => p.getD q 0 != (q : Int)) || l.any (Two.selfE n))) → Evt (fun k => PG.caliperlaw15_LoopsTwo.j0 k n l false) true := by
        intro a ok hc hok
        refine Evt.succ (h := fun k => PG.caliperlaw15_LoopsTwo.l0 k n l ok p false 0) (fun k => ?_) (Two.l0_run n l (by omega) ok p (by omega) hpi p.length 0 false (by omega) (by rw [Bool.false_or]; exact hok))
        simp only [PG.caliperlaw15_LoopsTwo.j0]
        have hm : (p.length : Int) = mx n 0 := by rw [hpl]; unfold mx; split <;> omega
        rw [if_neg (by decide), hc, p1, ← hp]
        simp only [Option.bind_some]
        rw [if_pos hm]
      rcases both n l (by omega) (by omega) with ⟨c, h3, ⟨h4, _⟩, h5⟩ | ⟨s, h3, h4, h5⟩
      · refine main c true (Cycle_inl (by omega) (by omega) h3 h4) ?_
        symm
        rw [Bool.or_eq_true]
        have hcl : 0 < c.length := List.length_pos_iff.2 h4.1
        have e01 := h4.2 0 hcl
        obtain ⟨x0, hx0⟩ : ∃ x0, c.getD 0 0 = x0 := ⟨_, rfl⟩
        obtain ⟨x1, hx1⟩ : ∃ x1, c.getD ((0 + 1) % c.length) 0 = x1 := ⟨_, rfl⟩
        rw [hx0, hx1] at e01
        by_cases hxx : x0 = x1
        · right
          obtain ⟨e, he, g1, g2, g3⟩ := (mem_of n l x0 x1).1 e01
          rw [List.any_eq_true]
          refine ⟨e, he, ?_⟩
          obtain ⟨f1, f2, f3, _, _⟩ := PG.Gr.cnt_true g1
          unfold Two.selfE
          rw [f1, decide_eq_true (show e.f0 = e.f1 by rw [g2, g3]; exact hxx), decide_eq_true (show e.f0 ≥ 0 from f2), decide_eq_true f3]
          rfl
        · left
          obtain ⟨r0, r1⟩ := of_rng n l _ _ e01
          -- the way round the cycle leads back from x1 to x0
          have back : ∀ j, ∀ i, i + j = c.length → 0 < i → Qt.Reach (PG.Gr.of n l) (c.getD (i % c.length) 0) x0 := by
            intro j
            induction j with
            | zero =>
              intro i hi _
              rw [show i = c.length by omega, Nat.mod_self, hx0]
              exact .refl _
            | succ j ih =>
              intro i hi hi0
              rw [Nat.mod_eq_of_lt (by omega)]
              exact .step (h4.2 i (by omega)) (ih (i + 1) (by omega) (by omega))
          have hb := back (c.length - 1) 1 (by omega) (by omega)
          rw [show (1 : Nat) = 0 + 1 by rfl, hx1] at hb
          have hP := hPP x0 x1 r0 r1 ⟨Qt.Reach.one e01, hb⟩
          rw [List.any_eq_true]
          have pick : ∀ x, InR n.toNat x → P x ≠ x → ∃ q ∈ List.range' 0 p.length, (p.getD q 0 != (q : Int)) = true := fun x hx hne => by
            refine ⟨x.toNat, ?_, ?_⟩
            · rw [List.mem_range'_1]
              have := hx.1
              have := hx.2
              omega
            · have e1 := hget x hx
              have hxx : ((x.toNat : Nat) : Int) = x := by have := hx.1; omega
              rw [bne_iff_ne, hxx]
              unfold rd at e1
              rw [e1]
              exact hne
          by_cases hc0 : P x0 = x0
          · exact pick x1 r1 (fun e => hxx (by rw [← hc0, hP, e]))
          · exact pick x0 r0 hc0
      · refine main [] false (Cycle_inr (by omega) (by omega) h3) ?_
        symm
        rw [Bool.or_eq_false_iff]
        have fall : ∀ {a b : Int}, Qt.Reach (PG.Gr.of n l) a b → (s.rk b).getD 0 ≤ (s.rk a).getD 0 := by
          intro a b h
          induction h with
          | refl => exact Int.le_refl _
          | step e _ ih =>
            have := h4.fall _ _ e
            omega
        constructor
        · rw [List.any_eq_false]
          intro q hq
          rw [List.mem_range'_1] at hq
          have hx : InR n.toNat (q : Int) := ⟨by omega, by omega⟩
          have e1 := hget _ hx
          rw [rd_nat] at e1
          rw [e1, bne_iff_ne]
          intro hne
          obtain ⟨z, hz, hr⟩ := Rp.of_ne (p2 _ hx).1.1 (fun e => hne e.symm)
          have g1 := h4.fall _ _ hz
          have g2 := fall hr
          have g3 := fall (p2 _ hx).1.2
          omega
        · rw [List.any_eq_false]
          intro e he hs
          unfold Two.selfE at hs
          simp only [Bool.and_eq_true, decide_eq_true_eq] at hs
          obtain ⟨f1, f2, f3, f4⟩ := hs
          have hc : PG.Gr.cnt n e = true := by
            unfold PG.Gr.cnt
            rw [f1, decide_eq_true (show e.f0 ≥ 0 from f3), decide_eq_true f4, decide_eq_true (show e.f1 ≥ 0 by rw [← f2]; exact f3), decide_eq_true (show e.f1 < n by rw [← f2]; exact f4)]
            rfl
          have := h4.fall _ _ ((mem_of n l _ _).2 ⟨e, he, hc, rfl, rfl⟩)
          rw [f2] at this
          omega
end Go.Proofs.Ytfkoepdakghpjaa.Pure
