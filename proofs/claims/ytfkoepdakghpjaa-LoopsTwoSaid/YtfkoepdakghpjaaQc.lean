/- Cycles and ranks: what loops and the document's answer come to. -/
import Derived.Test.YtfkoepdakghpjaaQk
import Derived.Test.YtfkoepdakghpjaaPh
namespace Go.Proofs.Ytfkoepdakghpjaa.Qc
open Go.RowKit Go.Proofs.YtfkoepdakghpjaaW.PrintWords Go.Proofs.YtfkoepdakghpjaaW.PrintMore Go.Proofs.Ytfkoepdakghpjaa.Mp Go.Proofs.Ytfkoepdakghpjaa.Lp Go.Proofs.Ytfkoepdakghpjaa.Qs Go.Proofs.Ytfkoepdakghpjaa.Qr Go.Proofs.Ytfkoepdakghpjaa.Qk
set_option linter.unusedVariables false
/-- Nothing falls all the way round a cycle. -/
theorem no_fall {G : Int → List Int} {c : List Int} (h : Cyc G c) (f : Int → Int) (hf : ∀ x y, y ∈ G x → f y + 1 ≤ f x) : False := by
  have hp : 0 < c.length := List.length_pos_iff.2 h.1
  have key : ∀ j, j ≤ c.length → f (c.getD (j % c.length) 0) + (j : Int) ≤ f (c.getD 0 0) := by
    intro j
    induction j with
    | zero => intro _; rw [Nat.zero_mod]; simp
    | succ j ih =>
      intro hj
      have h1 := ih (by omega)
      rw [Nat.mod_eq_of_lt (by omega)] at h1
      have h2 := hf _ _ (h.2 j (by omega))
      omega
  have h1 := key c.length (Nat.le_refl _)
  rw [Nat.mod_self] at h1
  omega
/-- Ranks: what loops.search answers where there is no cycle. -/
def Rk (n : Int) (G : Int → List Int) (rk : Int → Option Int) : Prop := ∀ x, InR n.toNat x → ∃ r, rk x = some r ∧ 0 ≤ r ∧ r < (n.toNat : Int) ∧ Qs.Loc G rk x r
theorem Rk.fall {n : Int} {l : List S31} {rk : Int → Option Int} (h : Rk n (PG.Gr.of n l) rk) : ∀ x y, y ∈ PG.Gr.of n l x → (rk y).getD 0 + 1 ≤ (rk x).getD 0 := by
  intro x y hy
  obtain ⟨hx, hy2⟩ := of_rng n l x y hy
  obtain ⟨r, hr, _, _, hl⟩ := h x hx
  obtain ⟨q, hq, hle⟩ := hl.1 y hy
  rw [hr, hq]
  exact hle
theorem both (n : Int) (l : List S31) (hn : n ≤ 300) (hl : l.length ≤ 300) :
    (∃ c, search (PG.Gr.of n l) n = some (.inl c) ∧ (Cyc (PG.Gr.of n l) c ∧ c.length ≤ n.toNat) ∧ Evt (fun k => PG.caliperref15_Ranks.f k n l) (([] : List Int), false)) ∨
    (∃ s, search (PG.Gr.of n l) n = some (.inr s) ∧ Rk n (PG.Gr.of n l) s.rk ∧ Evt (fun k => PG.caliperref15_Ranks.f k n l) ((Lp.nums n).map (fun i => (s.rk i).getD 0), true)) := by
  obtain ⟨o, ho, hc, hs⟩ := search_ok (PG.Gr.of n l) n (fun x y h => (of_rng n l x y h).2) (by omega)
  have fe : (fun k => PG.caliperref15_Ranks.f k n l) = fun k => PG.caliperref15_Ranks.l0 k n l (List.replicate n.toNat 0) ((0 : Nat) : Int) := funext fun k => f_eq n l (by omega) k
  cases o with
  | inl c =>
    refine .inl ⟨c, ho, hc c rfl, ?_⟩
    rw [fe]
    refine cyclic n l (by omega) (by omega) (fun o ho => ?_) (n.toNat + 1) 0 _ (by omega) (start_bd n)
    refine Classical.byContradiction fun hno => ?_
    refine no_fall (hc c rfl).1 (fun x => rd o x) (fun x y hy => ?_)
    obtain ⟨e, he, h1, rfl, rfl⟩ := (mem_of n l x y).1 hy
    have : ¬ can n o e := fun hcan => hno ⟨e, he, hcan⟩
    have h2 : ¬ rd o e.f0 < rd o e.f1 + 1 := fun hlt => this ⟨h1, hlt⟩
    show rd o e.f1 + 1 ≤ rd o e.f0
    omega
  | inr s =>
    have hk : Rk n (PG.Gr.of n l) s.rk := hs s rfl
    refine .inr ⟨s, ho, hk, ?_⟩
    rw [fe]
    refine acyc n l (by omega) (by omega) (fun x => (s.rk x).getD 0) (fun x hx => ?_) (fun e he hc => ?_) (fun x hx => ?_) n.toNat 0 _ (by omega) (start_bd n) (fun x hx => ?_) (fun x hx hx2 => ?_)
    · obtain ⟨r, hr, h0, h1, _⟩ := hk x hx
      simp only [hr, Option.getD_some]
      exact ⟨h0, h1⟩
    · exact hk.fall _ _ ((mem_of n l _ _).2 ⟨e, he, hc, rfl, rfl⟩)
    · obtain ⟨r, hr, h0, h1, hL⟩ := hk x hx
      simp only [hr, Option.getD_some]
      rcases hL.2 with h | ⟨y, hy, q, hq, hqr⟩
      · exact .inl h
      · obtain ⟨e, he, hc, rfl, rfl⟩ := (mem_of n l x y).1 hy
        exact .inr ⟨e, he, hc, rfl, by rw [hq]; exact hqr⟩
    · have h0 : rd (List.replicate n.toNat (0 : Int)) x = 0 := by
        have := (start_bd n).bd x hx
        omega
      obtain ⟨r, hr, h1, _⟩ := hk x hx
      rw [h0, hr]
      exact h1
    · have h0 : rd (List.replicate n.toNat (0 : Int)) x = 0 := by
        have := (start_bd n).bd x hx
        omega
      rw [h0]
      exact_mod_cast hx2
theorem Cycle_inl {n : Int} {l : List S31} {c : List Int} (hn : n ≤ 300) (hl : l.length ≤ 300) (h : search (PG.Gr.of n l) n = some (.inl c)) (hc : Cyc (PG.Gr.of n l) c) : PG.loops_Cycle.f n l = some (c, true) := by
  unfold PG.loops_Cycle.f
  rw [if_pos ⟨by omega, by omega⟩, h]
  have : 0 < c.length := List.length_pos_iff.2 hc.1
  simp [this]
theorem Cycle_inr {n : Int} {l : List S31} {s : St} (hn : n ≤ 300) (hl : l.length ≤ 300) (h : search (PG.Gr.of n l) n = some (.inr s)) : PG.loops_Cycle.f n l = some ([], false) := by
  unfold PG.loops_Cycle.f
  rw [if_pos ⟨by omega, by omega⟩, h]
  rfl
theorem Ranks_inl {n : Int} {l : List S31} {c : List Int} (hn : n ≤ 300) (hl : l.length ≤ 300) (h : search (PG.Gr.of n l) n = some (.inl c)) : PG.loops_Ranks.f n l = some ([], false) := by
  unfold PG.loops_Ranks.f
  rw [if_pos ⟨by omega, by omega⟩, h]
  rfl
theorem Ranks_inr {n : Int} {l : List S31} {s : St} (hn : n ≤ 300) (hl : l.length ≤ 300) (h : search (PG.Gr.of n l) n = some (.inr s)) : PG.loops_Ranks.f n l = some ((Lp.nums n).map (fun i => (s.rk i).getD 0), true) := by
  unfold PG.loops_Ranks.f
  rw [if_pos ⟨by omega, by omega⟩, h]
  rfl
theorem heads : Evt (fun k => PG.caliperlaw15_heads.f k) true := ⟨40, fun k hk => Pure.heads k hk⟩
theorem heads_bind : Evt (fun k => (PG.caliperlaw15_heads.f k).bind fun t => some t) true := by
  obtain ⟨K, hK⟩ := heads
  refine ⟨K, fun k hk => ?_⟩
  have := hK k hk
  simp only at this ⊢
  rw [this]
  rfl
end Go.Proofs.Ytfkoepdakghpjaa.Qc
