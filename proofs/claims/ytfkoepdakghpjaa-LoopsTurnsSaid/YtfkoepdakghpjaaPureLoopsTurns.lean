/- LoopsTurns answers true. -/
import Derived.Test.YtfkoepdakghpjaaQp
import Derived.Test.YtfkoepdakghpjaaPGx13
namespace Go.Proofs.Ytfkoepdakghpjaa.Pure
open Go.RowKit Go.Proofs.YtfkoepdakghpjaaW.PrintWords Go.Proofs.YtfkoepdakghpjaaW.PrintMore Go.Proofs.Ytfkoepdakghpjaa.Qs Go.Proofs.Ytfkoepdakghpjaa.Qr Go.Proofs.Ytfkoepdakghpjaa.Qc Go.Proofs.Ytfkoepdakghpjaa.Qp
set_option linter.unusedVariables false
namespace Turns
def flip (e : S31) : S31 := ⟨e.f1, e.f0, (⟨#[]⟩ : ByteArray), e.f3, (⟨#[]⟩ : ByteArray)⟩
theorem cnt_flip (n : Int) (e : S31) : PG.Gr.cnt n (flip e) = PG.Gr.cnt n e := by
  unfold PG.Gr.cnt flip
  simp only
  cases e.f3 <;> cases decide (e.f0 ≥ 0) <;> cases decide (e.f0 < n) <;> cases decide (e.f1 ≥ 0) <;> cases decide (e.f1 < n) <;> rfl
theorem mem_flip (n : Int) (l : List S31) (a b : Int) : b ∈ PG.Gr.of n (l.reverse.map flip) a ↔ a ∈ PG.Gr.of n l b := by
  rw [mem_of, mem_of]
  constructor
  · rintro ⟨e, he, h1, h2, h3⟩
    obtain ⟨d, hd, rfl⟩ := List.mem_map.1 he
    rw [cnt_flip] at h1
    exact ⟨d, List.mem_reverse.1 hd, h1, h3, h2⟩
  · rintro ⟨e, he, h1, h2, h3⟩
    exact ⟨flip e, List.mem_map.2 ⟨e, List.mem_reverse.2 he, rfl⟩, by rw [cnt_flip]; exact h1, h3, h2⟩
theorem reach_flip {n : Int} {l : List S31} {a b : Int} (h : Qt.Reach (PG.Gr.of n (l.reverse.map flip)) a b) : Qt.Reach (PG.Gr.of n l) b a := by
  induction h with
  | refl => exact .refl _
  | step e _ ih => exact ih.trans (Qt.Reach.one ((mem_flip n l _ _).1 e))
theorem reach_flip' {n : Int} {l : List S31} {a b : Int} (h : Qt.Reach (PG.Gr.of n l) a b) : Qt.Reach (PG.Gr.of n (l.reverse.map flip)) b a := by
  induction h with
  | refl => exact .refl _
  | step e _ ih => exact ih.trans (Qt.Reach.one ((mem_flip n l _ _).2 e))
theorem sc_flip {n : Int} {l : List S31} {a b : Int} : Qt.SC (PG.Gr.of n (l.reverse.map flip)) a b ↔ Qt.SC (PG.Gr.of n l) a b :=
  ⟨fun h => ⟨reach_flip h.2, reach_flip h.1⟩, fun h => ⟨reach_flip' h.2, reach_flip' h.1⟩⟩
theorem least_uniq {G G' : Int → List Int} (h : ∀ a b, Qt.SC G a b ↔ Qt.SC G' a b) {x m m' : Int} (h1 : Qt.Least (G := G) x m) (h2 : Qt.Least (G := G') x m') : m = m' := by
  have a1 := h1.2 m' ((h _ _).2 h2.1)
  have a2 := h2.2 m ((h _ _).1 h1.1)
  omega
def tail (n : Int) (l back : List S31) (k : Nat) : Option Bool := (PG.loops_Cycle.f n l).bind fun bt257 => (PG.loops_Cycle.f n back).bind fun bt261 => if (bt257.2 == bt261.2) = true then ((PG.loops_Parts.f n l).bind fun t265 => (PG.loops_Parts.f n back).bind fun t268 => (PG.caliperref01_Ints.f k t265 t268).bind fun t271 => if t271 = true then ((PG.caliperlaw15_heads.f k).bind fun t => some t) else some false) else some false
theorem l0_run (n : Int) (l : List S31) (hl : l.length ≤ 300) (r : Bool) (hr : Evt (tail n l (l.reverse.map flip)) r) : ∀ (i : Nat) (back : List S31), i ≤ l.length → back = (l.drop i).reverse.map flip → Evt (fun k => PG.caliperlaw15_LoopsTurns.l0 k n l back ((i : Int) - 1)) r
  | 0, back, hi, hb => by
    rw [List.drop_zero] at hb
    subst hb
    refine Evt.succ (h := tail n l (l.reverse.map flip)) (fun k => ?_) hr
    simp only [PG.caliperlaw15_LoopsTurns.l0]
    rw [if_neg (by omega)]
    rfl
  | i + 1, back, hi, hb => by
    have h := l0_run n l hl r hr i ((l.drop i).reverse.map flip) (by omega) rfl
    have hil : i < l.length := by omega
    have hbl : back.length ≤ 300 := by rw [hb, List.length_map, List.length_reverse, List.length_drop]; omega
    refine Evt.succ (h := fun k => PG.caliperlaw15_LoopsTurns.l0 k n l ((l.drop i).reverse.map flip) ((i : Int) - 1)) (fun k => ?_) h
    simp only [PG.caliperlaw15_LoopsTurns.l0]
    have hx : ((i + 1 : Nat) : Int) - 1 = (i : Int) := by omega
    rw [hx, if_pos (by omega), if_pos (by omega), if_pos (by omega), if_pos (by omega), rdT hil, wrap_id (x := (i : Int) - 1) (by omega) (by omega)]
    congr 1
    rw [hb, drop_cons hil, List.reverse_cons, List.map_append]
    rfl
end Turns
theorem LoopsTurns (n : Int) (l : List PG.S31) (hn : (Lit.int .i64 n).wf = true) (hl : l.length ≤ 9223372036854775807) : ∃ k, PG.caliperlaw15_LoopsTurns.f k n l = some true := by
  have hd : Evt (fun k => PG.caliperlaw15_LoopsTurns.j0 k n l true) true := by
    refine Evt.succ (h := fun k => (PG.caliperlaw15_heads.f k).bind fun t => some t) (fun k => ?_) heads_bind
    simp only [PG.caliperlaw15_LoopsTurns.j0]
    rfl
  refine Evt.one (g := fun k => PG.caliperlaw15_LoopsTurns.f k n l) ?_
  unfold PG.caliperlaw15_LoopsTurns.f
  by_cases h1 : n > 200
  · simp only [if_pos h1]
    exact hd
  · simp only [if_neg h1]
    by_cases h2 : (l.length : Int) > 300
    · rw [decide_eq_true h2]
      exact hd
    · rw [decide_eq_false h2]
      obtain ⟨back, hback⟩ : ∃ back, back = l.reverse.map Turns.flip := ⟨_, rfl⟩
      have hbl : back.length ≤ 300 := by rw [hback, List.length_map, List.length_reverse]; omega
      obtain ⟨P, p1, p2⟩ := parts_f n l (by omega) (by omega)
      obtain ⟨P', q1, q2⟩ := parts_f n back (by omega) hbl
      have hPP : (Lp.nums n).map P = (Lp.nums n).map P' := by
        refine List.map_congr_left fun x hx => ?_
        obtain ⟨i, hi, rfl⟩ := List.mem_map.1 hx
        have := List.mem_range.1 hi
        have hr : InR n.toNat (i : Int) := ⟨by omega, by omega⟩
        have g2 := q2 _ hr
        rw [hback] at g2
        exact Turns.least_uniq (fun a b => Turns.sc_flip.symm) (p2 _ hr) g2
      have hlen : ((Lp.nums n).map P').length ≤ 9223372036854775807 := by
        rw [List.length_map]
        simp [Lp.nums]
        omega
      have hcyc : ∃ a b c, PG.loops_Cycle.f n l = some (a, c) ∧ PG.loops_Cycle.f n back = some (b, c) := by
        rcases both n l (by omega) (by omega) with ⟨c, h3, ⟨h4, _⟩, h5⟩ | ⟨s, h3, h4, h5⟩ <;> rcases both n back (by omega) hbl with ⟨c', g3, ⟨g4, _⟩, g5⟩ | ⟨s', g3, g4, g5⟩
        · exact ⟨c, c', true, Cycle_inl (by omega) (by omega) h3 h4, Cycle_inl (by omega) hbl g3 g4⟩
        · refine absurd (no_fall h4 (fun x => -(s'.rk x).getD 0) (fun x y hy => ?_)) (fun h => h)
          have := g4.fall y x (by rw [hback]; exact (Turns.mem_flip n l y x).2 hy)
          show -(s'.rk y).getD 0 + 1 ≤ -(s'.rk x).getD 0
          omega
        · refine absurd (no_fall g4 (fun x => -(s.rk x).getD 0) (fun x y hy => ?_)) (fun h => h)
          rw [hback] at hy
          have := h4.fall y x ((Turns.mem_flip n l x y).1 hy)
          show -(s.rk y).getD 0 + 1 ≤ -(s.rk x).getD 0
          omega
        · exact ⟨[], [], false, Cycle_inr (by omega) (by omega) h3, Cycle_inr (by omega) hbl g3⟩
      obtain ⟨a, b, c, c1, c2⟩ := hcyc
      have htail : Evt (Turns.tail n l (l.reverse.map Turns.flip)) true := by
        have e : Turns.tail n l (l.reverse.map Turns.flip) = fun k => (PG.caliperref01_Ints.f k ((Lp.nums n).map P') ((Lp.nums n).map P')).bind fun t271 => if t271 = true then ((PG.caliperlaw15_heads.f k).bind fun t => some t) else some false := by
          funext k
          unfold Turns.tail
          rw [← hback, c1, c2, p1, q1, hPP]
          simp only [Option.bind_some, beq_self_eq_true, if_true]
        rw [e]
        refine Evt.bind (h := fun k t2 => if t2 = true then ((PG.caliperlaw15_heads.f k).bind fun t => some t) else some false) (ints_same _ hlen) ?_
        simp only [if_true]
        exact heads_bind
      refine Evt.succ (h := fun k => PG.caliperlaw15_LoopsTurns.l0 k n l [] ((l.length : Int) - 1)) (fun k => ?_) (Turns.l0_run n l (by omega) true htail l.length [] (Nat.le_refl _) (by simp))
      simp only [PG.caliperlaw15_LoopsTurns.j0]
      rw [if_neg (by decide), wrap_id (x := (l.length : Int) - 1) (by omega) (by omega)]
end Go.Proofs.Ytfkoepdakghpjaa.Pure
