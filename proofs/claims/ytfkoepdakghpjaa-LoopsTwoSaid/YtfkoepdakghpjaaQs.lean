/- Depth first search answers a real cycle, or ranks that fall along every edge: plain lists and integers. -/
import Derived.Test.YtfkoepdakghpjaaLp
namespace Go.Proofs.Ytfkoepdakghpjaa.Qs
open Go.RowKit Go.Proofs.YtfkoepdakghpjaaW.PrintWords Go.Proofs.YtfkoepdakghpjaaW.PrintMore Go.Proofs.Ytfkoepdakghpjaa.Mp Go.Proofs.Ytfkoepdakghpjaa.Lp
set_option linter.unusedVariables false

/-! ### lists without repetition -/
theorem filter_len {a : Int} : ∀ {l : List Int}, l.Nodup → l.length ≤ (l.filter fun x => decide (x ≠ a)).length + 1
  | [], _ => by simp
  | x :: l, h => by
    rw [List.nodup_cons] at h
    rw [List.filter_cons]
    by_cases hx : x = a
    · subst hx
      have : (l.filter fun y => decide (y ≠ x)) = l := by
        rw [List.filter_eq_self]
        intro y hy
        simp only [decide_eq_true_eq]
        exact fun e => h.1 (e ▸ hy)
      rw [if_neg (by simp), this, List.length_cons]
      exact Nat.le_refl _
    · rw [if_pos (by simpa using hx)]
      have := filter_len (a := a) h.2
      simp only [List.length_cons]
      omega
theorem nodup_len : ∀ (N : Nat) (l : List Int), l.Nodup → (∀ x ∈ l, 0 ≤ x ∧ x < (N : Int)) → l.length ≤ N
  | 0, l, _, h => by
    cases l with
    | nil => simp
    | cons x l => have := h x (by simp); omega
  | N + 1, l, hn, h => by
    have h1 := filter_len (a := (N : Int)) hn
    have h2 := nodup_len N (l.filter fun x => decide (x ≠ (N : Int))) (hn.filter _) (fun x hx => by
      have h3 := List.mem_filter.1 hx
      have h4 := h x h3.1
      have h5 : x ≠ (N : Int) := by simpa using h3.2
      omega)
    omega

def onOf (p : List Int) : Int → Option Int := fun x => if x ∈ p then some ((p.idxOf x : Int) + 1) else none
theorem onOf_push {p : List Int} {x : Int} (hx : x ∉ p) : upd (onOf p) x (some ((p.length : Int) + 1)) = onOf (p ++ [x]) := by
  funext y
  unfold upd onOf
  by_cases hy : y = x
  · subst hy
    rw [if_pos rfl, if_pos (by simp), List.idxOf_append, if_neg hx]
    simp
  · rw [if_neg hy]
    by_cases hp : y ∈ p
    · rw [if_pos hp, if_pos (by simp [hp]), List.idxOf_append, if_pos hp]
    · rw [if_neg hp, if_neg (by simp [hp, hy])]
theorem onOf_pop {p : List Int} {x : Int} (hx : x ∉ p) : upd (onOf (p ++ [x])) x none = onOf p := by
  rw [← onOf_push hx]
  funext y
  unfold upd
  by_cases hy : y = x
  · subst hy
    rw [if_pos rfl]
    unfold onOf
    rw [if_neg hx]
  · rw [if_neg hy, if_neg hy]

section
variable (G : Int → List Int) (N : Nat)
def InR (x : Int) : Prop := 0 ≤ x ∧ x < (N : Int)
/-- A cycle: each one leads to the next, the last to the first. -/
def Cyc (c : List Int) : Prop := c ≠ [] ∧ ∀ j, j < c.length → c.getD ((j + 1) % c.length) 0 ∈ G (c.getD j 0)
/-- What a rank says: along each edge it falls, along some by one. -/
def Loc (rk : Int → Option Int) (x r : Int) : Prop := (∀ y ∈ G x, ∃ q, rk y = some q ∧ q + 1 ≤ r) ∧ (r = 0 ∨ ∃ y ∈ G x, ∃ q, rk y = some q ∧ q + 1 = r)
structure Inv (s : St) : Prop where
  nodup : s.path.Nodup
  rng : ∀ x ∈ s.path, InR N x
  on : s.on = onOf s.path
  onN : s.onN = s.path.length
  edges : ∀ i, i + 1 < s.path.length → s.path.getD (i + 1) 0 ∈ G (s.path.getD i 0)
  rk : ∀ x r, s.rk x = some r → InR N x ∧ x ∉ s.path ∧ 0 ≤ r ∧ r < (s.rkN : Int) ∧ Loc G s.rk x r
  done : ∃ d : List Int, d.Nodup ∧ (∀ x, x ∈ d ↔ (s.rk x).isSome = true) ∧ d.length = s.rkN
variable {G N}
theorem Inv.len {s : St} (h : Inv G N s) : s.path.length ≤ N := nodup_len N _ h.nodup h.rng
theorem Inv.rkN_le {s : St} (h : Inv G N s) : s.rkN ≤ N := by
  obtain ⟨d, h1, h2, h3⟩ := h.done
  rw [← h3]
  refine nodup_len N d h1 (fun x hx => ?_)
  have := (h2 x).1 hx
  obtain ⟨r, hr⟩ := Option.isSome_iff_exists.1 this
  exact (h.rk x r hr).1
theorem Inv.small {s : St} (h : Inv G N s) (hN : N ≤ 1000) : s.small := by
  have h1 := h.len
  have h2 := h.rkN_le
  have h3 := h.onN
  exact ⟨by omega, by omega, by omega⟩
theorem Loc.mono {rk rk' : Int → Option Int} (hm : ∀ y r, rk y = some r → rk' y = some r) {x r : Int} (h : Loc G rk x r) : Loc G rk' x r := by
  refine ⟨fun y hy => ?_, ?_⟩
  · obtain ⟨q, h1, h2⟩ := h.1 y hy
    exact ⟨q, hm _ _ h1, h2⟩
  · rcases h.2 with h0 | ⟨y, hy, q, h1, h2⟩
    · exact .inl h0
    · exact .inr ⟨y, hy, q, hm _ _ h1, h2⟩
def Post (s s' : St) (x : Int) : Prop := Inv G N s' ∧ s'.path = s.path ∧ (∀ y r, s.rk y = some r → s'.rk y = some r) ∧ (s'.rk x).isSome = true ∧ s.rkN ≤ s'.rkN
def Good (s : St) (x : Int) : (List Int ⊕ St) → Prop
  | .inl c => Cyc G c ∧ c.length ≤ N
  | .inr s' => Post (G := G) (N := N) s s' x
theorem getD_lt {l : List Int} {i : Nat} (h : i < l.length) : l.getD i 0 = l[i] := by
  rw [List.getD_eq_getElem?_getD, List.getElem?_eq_getElem h]
  rfl
theorem cyc_of {s : St} (h : Inv G N s) {x : Int} (hx : x ∈ s.path) (he : x ∈ G (s.path.getD (s.path.length - 1) 0)) : Cyc G (s.path.drop (s.path.idxOf x)) := by
  have hq := List.idxOf_lt_length_of_mem hx
  generalize hqe : s.path.idxOf x = q at hq ⊢
  refine ⟨fun h0 => ?_, fun j hj => ?_⟩
  · have := List.drop_eq_nil_iff.1 h0
    omega
  · rw [List.length_drop] at hj ⊢
    have hd : ∀ i, (s.path.drop q).getD i 0 = s.path.getD (q + i) 0 := fun i => by
      rw [List.getD_eq_getElem?_getD, List.getElem?_drop, ← List.getD_eq_getElem?_getD]
    rw [hd, hd]
    by_cases hl : j + 1 < s.path.length - q
    · rw [Nat.mod_eq_of_lt hl]
      exact h.edges (q + j) (by omega)
    · have : j + 1 = s.path.length - q := by omega
      rw [this, Nat.mod_self, Nat.add_zero]
      have h1 : s.path.getD q 0 = x := by
        rw [getD_lt hq]
        subst hqe
        exact List.getElem_idxOf hq
      rw [h1, show q + j = s.path.length - 1 by omega]
      exact he
theorem push_inv {s : St} (h : Inv G N s) {x : Int} (hx : x ∉ s.path) (hr : s.rk x = none) (hxr : InR N x) (he : s.path ≠ [] → x ∈ G (s.path.getD (s.path.length - 1) 0)) : Inv G N (s.push x) := by
  have hon : s.on x = none := by rw [h.on]; unfold onOf; rw [if_neg hx]
  refine ⟨?_, fun y hy => ?_, ?_, ?_, fun i hi => ?_, fun y r hy => ?_, h.done⟩
  · show (s.path ++ [x]).Nodup
    rw [List.nodup_append]
    exact ⟨h.nodup, by simp, fun a ha b hb => by rw [List.mem_singleton.1 hb]; exact fun e => hx (e ▸ ha)⟩
  · rcases List.mem_append.1 hy with hy | hy
    · exact h.rng y hy
    · rw [List.mem_singleton.1 hy]; exact hxr
  · show upd s.on x (some ((s.path.length : Int) + 1)) = onOf (s.path ++ [x])
    rw [h.on]
    exact onOf_push hx
  · show (if (s.on x).isSome = true then s.onN else s.onN + 1) = (s.path ++ [x]).length
    rw [hon, h.onN]
    simp
  · show (s.path ++ [x]).getD (i + 1) 0 ∈ G ((s.path ++ [x]).getD i 0)
    have hi' : i + 1 < s.path.length + 1 := by simpa [St.push] using hi
    by_cases hl : i + 1 < s.path.length
    · have e1 : (s.path ++ [x]).getD (i + 1) 0 = s.path.getD (i + 1) 0 := by rw [List.getD_eq_getElem?_getD, List.getElem?_append_left hl, ← List.getD_eq_getElem?_getD]
      have e2 : (s.path ++ [x]).getD i 0 = s.path.getD i 0 := by rw [List.getD_eq_getElem?_getD, List.getElem?_append_left (by omega), ← List.getD_eq_getElem?_getD]
      rw [e1, e2]
      exact h.edges i hl
    · have e0 : i + 1 = s.path.length := by omega
      have e1 : (s.path ++ [x]).getD (i + 1) 0 = x := by rw [List.getD_eq_getElem?_getD, e0, List.getElem?_append_right (Nat.le_refl _)]; simp
      have e2 : (s.path ++ [x]).getD i 0 = s.path.getD i 0 := by rw [List.getD_eq_getElem?_getD, List.getElem?_append_left (by omega), ← List.getD_eq_getElem?_getD]
      rw [e1, e2, show i = s.path.length - 1 by omega]
      exact he (fun e => by rw [e] at e0; simp at e0)
  · obtain ⟨h1, h2, h3, h4, h5⟩ := h.rk y r hy
    refine ⟨h1, fun hm => ?_, h3, h4, h5⟩
    rcases List.mem_append.1 hm with hm | hm
    · exact h2 hm
    · have hy' : s.rk y = some r := hy
      rw [List.mem_singleton.1 hm, hr] at hy'
      cases hy'
/-- The loop over what x leads to. -/
theorem loop_ok (v : St → Int → Option (List Int ⊕ St)) (x : Int) (p : List Int) (hp : p ≠ []) (hpx : p.getD (p.length - 1) 0 = x) (hG : ∀ y ∈ G x, InR N y)
    (hv : ∀ s y, Inv G N s → s.path = p → y ∈ G x → ∃ o, v s y = some o ∧ Good (G := G) (N := N) s y o) (hN : N ≤ 1000) :
    ∀ (ys done : List Int) (s : St) (r : Int), done ++ ys = G x → Inv G N s → s.path = p → 0 ≤ r → r ≤ (s.rkN : Int) → (∀ y ∈ done, ∃ q, s.rk y = some q ∧ q + 1 ≤ r) → (r = 0 ∨ ∃ y ∈ done, ∃ q, s.rk y = some q ∧ q + 1 = r) →
      ∃ o, loop v ys s r = some o ∧ (∀ c, o = .inl c → Cyc G c ∧ c.length ≤ N) ∧ (∀ s2 r2, o = .inr (s2, r2) → Inv G N s2 ∧ s2.path = p ∧ (∀ y q, s.rk y = some q → s2.rk y = some q) ∧ s.rkN ≤ s2.rkN ∧ 0 ≤ r2 ∧ r2 ≤ (s2.rkN : Int) ∧ Loc G s2.rk x r2) := by
  intro ys
  induction ys with
  | nil =>
    intro done s r hd hi hs h0 h1 h2 h3
    rw [List.append_nil] at hd
    subst hd
    exact ⟨_, rfl, fun c hc => (by cases hc), fun s2 r2 h => (by cases h; exact ⟨hi, hs, fun y q hq => hq, Nat.le_refl _, h0, h1, h2, h3⟩)⟩
  | cons y ys ih =>
    intro done s r hd hi hs h0 h1 h2 h3
    have hy : y ∈ G x := by rw [← hd]; simp
    obtain ⟨o, ho, hg⟩ := hv s y hi hs hy
    simp only [loop, ho]
    cases o with
    | inl c => exact ⟨_, rfl, fun c' hc => (by cases hc; exact hg), fun s2 r2 h => (by cases h)⟩
    | inr s2 =>
      obtain ⟨hi2, hp2, hm2, hsome, hle⟩ := hg
      obtain ⟨q, hq⟩ := Option.isSome_iff_exists.1 hsome
      obtain ⟨hq1, hq2, hq3, hq4, hq5⟩ := hi2.rk y q hq
      have hrn := hi2.rkN_le
      simp only [hq, Option.getD_some]
      rw [if_pos ⟨hq3, by omega⟩]
      have hmx : mx r (q + 1) = if r < q + 1 then q + 1 else r := rfl
      obtain ⟨o, ho, hc, hr⟩ := ih (done ++ [y]) s2 (mx r (q + 1)) (by rw [← hd]; simp) hi2 (hp2.trans hs) (by rw [hmx]; split <;> omega) (by rw [hmx]; split <;> omega)
        (fun z hz => by
          rcases List.mem_append.1 hz with hz | hz
          · obtain ⟨qz, hz1, hz2⟩ := h2 z hz
            exact ⟨qz, hm2 _ _ hz1, by rw [hmx]; split <;> omega⟩
          · rw [List.mem_singleton.1 hz]
            exact ⟨q, hq, by rw [hmx]; split <;> omega⟩)
        (by
          rw [hmx]
          split
          · exact .inr ⟨y, by simp, q, hq, rfl⟩
          · rcases h3 with h3 | ⟨z, hz, qz, hz1, hz2⟩
            · exact .inl h3
            · exact .inr ⟨z, by simp [hz], qz, hm2 _ _ hz1, hz2⟩)
      refine ⟨o, ho, hc, fun s3 r3 h => ?_⟩
      obtain ⟨g1, g2, g3, g4, g5, g6, g7⟩ := hr s3 r3 h
      exact ⟨g1, g2, fun z qz hz => g3 z qz (hm2 z qz hz), Nat.le_trans hle g4, g5, g6, g7⟩
theorem pop_ok {s s2 : St} {x r : Int} (h : Inv G N s) (hx : x ∉ s.path) (hrk : s.rk x = none) (hi : Inv G N s2) (hp : s2.path = s.path ++ [x]) (hm : ∀ y q, s.rk y = some q → s2.rk y = some q) (hle : s.rkN ≤ s2.rkN) (hr0 : 0 ≤ r) (hr1 : r ≤ (s2.rkN : Int)) (hl : Loc G s2.rk x r) (hxr : InR N x) : Post (G := G) (N := N) s (s2.pop x r) x := by
  have hn2 : s2.rk x = none := by
    cases h2 : s2.rk x with
    | none => rfl
    | some q =>
      have := (hi.rk x q h2).2.1
      rw [hp] at this
      exact absurd (by simp) this
  have hon : (s2.on x).isSome = true := by rw [hi.on]; unfold onOf; rw [hp, if_pos (by simp)]; rfl
  have hpath : (s2.pop x r).path = s.path := by
    show s2.path.take (s2.path.length - 1) = s.path
    rw [hp]
    simp
  have hrk2 : ∀ y q, s2.rk y = some q → (s2.pop x r).rk y = some q := fun y q hq => by
    show upd s2.rk x (some r) y = some q
    unfold upd
    rw [if_neg (fun e => by rw [e, hn2] at hq; cases hq)]
    exact hq
  have hrkN : (s2.pop x r).rkN = s2.rkN + 1 := by
    show (if (s2.rk x).isSome = true then s2.rkN else s2.rkN + 1) = _
    rw [hn2]
    rfl
  refine ⟨⟨?_, ?_, ?_, ?_, ?_, fun y q hq => ?_, ?_⟩, hpath, fun y q hq => hrk2 y q (hm y q hq), ?_, by rw [hrkN]; omega⟩
  · rw [hpath]; exact h.nodup
  · rw [hpath]; exact h.rng
  · rw [hpath]
    show upd s2.on x none = onOf s.path
    rw [hi.on, hp]
    exact onOf_pop hx
  · rw [hpath]
    show (if (s2.on x).isSome = true then s2.onN - 1 else s2.onN) = _
    rw [if_pos hon, hi.onN, hp]
    simp
  · rw [hpath]; exact h.edges
  · rw [hpath, hrkN]
    by_cases hy : y = x
    · subst hy
      have : q = r := by
        have h3 : upd s2.rk y (some r) y = some q := hq
        rw [upd_same] at h3
        exact (Option.some.inj h3).symm
      subst this
      exact ⟨hxr, hx, hr0, by omega, hl.mono hrk2⟩
    · have h3 : s2.rk y = some q := by
        have h4 : upd s2.rk x (some r) y = some q := hq
        rwa [upd_other _ _ hy] at h4
      obtain ⟨g1, g2, g3, g4, g5⟩ := hi.rk y q h3
      refine ⟨g1, fun hm => g2 (by rw [hp]; simp [hm]), g3, by omega, g5.mono hrk2⟩
  · obtain ⟨d, d1, d2, d3⟩ := hi.done
    refine ⟨x :: d, List.nodup_cons.2 ⟨fun hxd => ?_, d1⟩, fun y => ?_, by rw [hrkN, List.length_cons, d3]⟩
    · have := (d2 x).1 hxd
      rw [hn2] at this
      cases this
    · rw [List.mem_cons]
      show _ ↔ (upd s2.rk x (some r) y).isSome = true
      unfold upd
      by_cases hy : y = x
      · simp [hy]
      · rw [if_neg hy, ← d2 y]
        simp [hy]
  · show (upd s2.rk x (some r) x).isSome = true
    rw [upd_same]
    rfl
theorem visit_ok (hG : ∀ x y, y ∈ G x → InR N y) (hN : N ≤ 1000) : ∀ (k : Nat) (s : St) (x : Int), Inv G N s → N < k + s.path.length → InR N x → (s.path ≠ [] → x ∈ G (s.path.getD (s.path.length - 1) 0)) → ∃ o, visit G k s x = some o ∧ Good (G := G) (N := N) s x o := by
  intro k
  induction k with
  | zero =>
    intro s x hi hk
    have := hi.len
    omega
  | succ k ih =>
    intro s x hi hk hx he
    have hsm := hi.small hN
    have hlen := hi.len
    simp only [visit]
    by_cases hxp : x ∈ s.path
    · have hq := List.idxOf_lt_length_of_mem hxp
      have hon : s.on x = some ((s.path.idxOf x : Int) + 1) := by rw [hi.on]; unfold onOf; rw [if_pos hxp]
      simp only [hon, Option.getD_some]
      rw [if_pos (by omega), if_pos ⟨by omega, by omega⟩]
      refine ⟨_, rfl, ?_⟩
      rw [show ((s.path.idxOf x : Int) + 1).toNat - 1 = s.path.idxOf x by omega]
      exact ⟨cyc_of hi hxp (he (fun e => by rw [e] at hxp; cases hxp)), by rw [List.length_drop]; omega⟩
    · have hon : s.on x = none := by rw [hi.on]; unfold onOf; rw [if_neg hxp]
      simp only [hon, Option.getD_none]
      rw [if_neg (by omega)]
      by_cases hr : (s.rk x).isSome = true
      · rw [if_pos hr]
        exact ⟨_, rfl, hi, rfl, fun y q hq => hq, hr, Nat.le_refl _⟩
      · rw [if_neg hr, if_pos hsm]
        have hrn : s.rk x = none := by simpa using hr
        have hpi := push_inv hi hxp hrn hx he
        obtain ⟨o, ho, hc, hrr⟩ := loop_ok (G := G) (N := N) (visit G k) x (s.path ++ [x]) (by simp) (by simp) (fun y hy => hG x y hy)
          (fun s2 y hi2 hp2 hy => ih s2 y hi2 (by rw [hp2]; simp; omega) (hG x y hy) (fun _ => by rw [hp2]; simpa using hy)) hN (G x) [] (s.push x) 0 rfl hpi rfl (by omega) (by show (0 : Int) ≤ (s.rkN : Int); omega) (fun y hy => by cases hy) (.inl rfl)
        rw [ho]
        cases o with
        | inl c => exact ⟨_, rfl, hc c rfl⟩
        | inr sr =>
          obtain ⟨s2, r⟩ := sr
          obtain ⟨g1, g2, g3, g4, g5, g6, g7⟩ := hrr s2 r rfl
          have hl2 := g1.len
          have hrl := g1.rkN_le
          simp only
          rw [if_pos ⟨g1.small hN, by rw [g2]; simp, g5, by omega⟩]
          exact ⟨_, rfl, pop_ok hi hxp hrn g1 g2 g3 g4 g5 g6 g7 hx⟩
theorem start_inv : Inv G N Lp.start := ⟨List.nodup_nil, fun x hx => (by cases hx), (by funext x; simp [Lp.start, onOf]), rfl, fun i hi => (by simp [Lp.start] at hi), fun x r h => (by cases h), ⟨[], List.nodup_nil, fun x => (by simp [Lp.start]), rfl⟩⟩
theorem top_ok (hG : ∀ x y, y ∈ G x → InR N y) (hN : N ≤ 1000) (k : Nat) (hk : N < k) : ∀ (l : List Int) (s : St), (∀ x ∈ l, InR N x) → Inv G N s → s.path = [] → ∃ o, top G k l s = some o ∧ (∀ c, o = .inl c → Cyc G c ∧ c.length ≤ N) ∧ (∀ s2, o = .inr s2 → Inv G N s2 ∧ (∀ y q, s.rk y = some q → s2.rk y = some q) ∧ ∀ x ∈ l, (s2.rk x).isSome = true)
  | [], s, _, hi, hp => ⟨_, rfl, fun c hc => (by cases hc), fun s2 h => (by cases h; exact ⟨hi, fun y q hq => hq, fun x hx => (by cases hx)⟩)⟩
  | i :: l, s, hl, hi, hp => by
    obtain ⟨o, ho, hg⟩ := visit_ok hG hN k s i hi (by rw [hp]; simp; omega) (hl i (by simp)) (fun h => absurd hp h)
    simp only [top, ho]
    cases o with
    | inl c => exact ⟨_, rfl, fun c' hc => (by cases hc; exact hg), fun s2 h => (by cases h)⟩
    | inr s2 =>
      obtain ⟨g1, g2, g3, g4, g5⟩ := hg
      obtain ⟨o, ho, hc, hs⟩ := top_ok hG hN k hk l s2 (fun x hx => hl x (by simp [hx])) g1 (g2.trans hp)
      refine ⟨o, ho, hc, fun s3 h => ?_⟩
      obtain ⟨f1, f2, f3⟩ := hs s3 h
      refine ⟨f1, fun y q hq => f2 y q (g3 y q hq), fun x hx => ?_⟩
      rcases List.mem_cons.1 hx with rfl | hx
      · obtain ⟨q, hq⟩ := Option.isSome_iff_exists.1 g4
        rw [f2 _ _ hq]
        rfl
      · exact f3 x hx
end
/-- What loops.search comes to. -/
theorem search_ok (G : Int → List Int) (n : Int) (hG : ∀ x y, y ∈ G x → InR n.toNat y) (hn : n ≤ 1000) : ∃ o, search G n = some o ∧ (∀ c, o = .inl c → Cyc G c ∧ c.length ≤ n.toNat) ∧
    (∀ s, o = .inr s → ∀ x, InR n.toNat x → ∃ r, s.rk x = some r ∧ 0 ≤ r ∧ r < (n.toNat : Int) ∧ Loc G s.rk x r) := by
  obtain ⟨o, ho, hc, hs⟩ := top_ok (G := G) (N := n.toNat) hG (by omega) (n.toNat + 2) (by omega) (nums n) Lp.start (fun x hx => by
    obtain ⟨i, hi, rfl⟩ := List.mem_map.1 hx
    have := List.mem_range.1 hi
    exact ⟨by omega, by omega⟩) start_inv rfl
  refine ⟨o, ho, hc, fun s h x hx => ?_⟩
  obtain ⟨f1, _, f3⟩ := hs s h
  obtain ⟨r, hr⟩ := Option.isSome_iff_exists.1 (f3 x (by
    refine List.mem_map.2 ⟨x.toNat, List.mem_range.2 ?_, ?_⟩
    · unfold InR at hx; omega
    · unfold InR at hx; omega))
  obtain ⟨g1, g2, g3, g4, g5⟩ := f1.rk x r hr
  have := f1.rkN_le
  exact ⟨r, hr, g3, by omega, g5⟩
end Go.Proofs.Ytfkoepdakghpjaa.Qs
