/- Tarjan's way answers the strongly connected parts: plain lists and integers. -/
import Derived.Test.YtfkoepdakghpjaaQs
import Derived.Test.YtfkoepdakghpjaaTp
namespace Go.Proofs.Ytfkoepdakghpjaa.Qt
open Go.RowKit Go.Proofs.YtfkoepdakghpjaaW.PrintWords Go.Proofs.YtfkoepdakghpjaaW.PrintMore Go.Proofs.Ytfkoepdakghpjaa.Mp Go.Proofs.Ytfkoepdakghpjaa.Tp
open Go.Proofs.Ytfkoepdakghpjaa.Qs (InR nodup_len)
set_option linter.unusedVariables false

section
variable (G : Int → List Int) (N : Nat)
inductive Reach : Int → Int → Prop where
  | refl (x : Int) : Reach x x
  | step {x y z : Int} : y ∈ G x → Reach y z → Reach x z
def SC (x y : Int) : Prop := Reach G x y ∧ Reach G y x
variable {G}
theorem Reach.trans {x y z : Int} (h : Reach G x y) (k : Reach G y z) : Reach G x z := by
  induction h with
  | refl => exact k
  | step e _ ih => exact .step e (ih k)
theorem Reach.one {x y : Int} (h : y ∈ G x) : Reach G x y := .step h (.refl y)
theorem SC.refl (x : Int) : SC G x x := ⟨.refl x, .refl x⟩
theorem SC.symm {x y : Int} (h : SC G x y) : SC G y x := ⟨h.2, h.1⟩
theorem SC.trans {x y z : Int} (h : SC G x y) (k : SC G y z) : SC G x z := ⟨h.1.trans k.1, k.2.trans h.2⟩
/-- From inside a set that has no way out but into D. -/
theorem Reach.stay {C D : Int → Prop} (hC : ∀ z, C z → ∀ w ∈ G z, C w ∨ D w) {x y : Int} (h : Reach G x y) (hx : C x) : C y ∨ ∃ w, D w ∧ Reach G w y := by
  induction h with
  | refl => exact .inl hx
  | step e k ih =>
    rcases hC _ hx _ e with h1 | h1
    · exact ih h1
    · exact .inr ⟨_, h1, k⟩
def Dn (s : St) (y : Int) : Prop := (s.num y).isSome = true ∧ y ∉ s.stack
/-- The part's number: the least of those that reach each other. -/
def Least (x m : Int) : Prop := SC G x m ∧ ∀ z, SC G x z → m ≤ z
variable (G)
structure TI (s : St) (p : List Int) : Prop where
  vis : ∃ d : List Int, d.Nodup ∧ (∀ x, x ∈ d ↔ (s.num x).isSome = true) ∧ d.length = s.numN ∧ ∀ x ∈ d, InR N x
  num : ∀ x v, s.num x = some v → 1 ≤ v ∧ v ≤ (s.numN : Int)
  low : ∀ x, (s.num x).isSome = true → (s.low x).isSome = true
  lowN : s.lowN ≤ s.numN
  partN : s.partN + s.stack.length ≤ s.numN
  stk : ∀ x ∈ s.stack, (s.num x).isSome = true
  ord : s.stack.Pairwise (fun a b => at0 s.num a < at0 s.num b)
  gray : ∀ g ∈ p, g ∈ s.stack
  back : ∀ y ∈ s.stack, ∃ g ∈ p, at0 s.num g ≤ at0 s.num y ∧ Reach G y g
  forth : ∀ g ∈ p, ∀ y ∈ s.stack, at0 s.num g ≤ at0 s.num y → Reach G g y
  black : ∀ y ∈ s.stack, y ∉ p → ∀ z ∈ G y, (s.num z).isSome = true
  done : ∀ y, Dn s y → (∃ m, s.part y = some m ∧ Least (G := G) y m) ∧ ∀ z, Reach G y z → Dn s z
variable {G N}
theorem TI.numN_le {s : St} {p : List Int} (h : TI G N s p) : s.numN ≤ N := by
  obtain ⟨d, h1, h2, h3, h4⟩ := h.vis
  rw [← h3]
  exact nodup_len N d h1 h4
theorem TI.small {s : St} {p : List Int} (h : TI G N s p) (hN : N ≤ 1000) : s.small := by
  have h1 := h.numN_le
  have h2 := h.lowN
  have h3 := h.partN
  exact ⟨by omega, by omega, by omega, by omega⟩
theorem at0_some {g : Int → Option Int} {x v : Int} (h : g x = some v) : at0 g x = v := by unfold at0; rw [h]; rfl
theorem TI.at0_pos {s : St} {p : List Int} (h : TI G N s p) {x : Int} (hx : (s.num x).isSome = true) : 1 ≤ at0 s.num x ∧ at0 s.num x ≤ (s.numN : Int) := by
  obtain ⟨v, hv⟩ := Option.isSome_iff_exists.1 hx
  rw [at0_some hv]
  exact h.num x v hv
theorem TI.white {s : St} {p : List Int} (h : TI G N s p) {x : Int} (hx : at0 s.num x = 0) : s.num x = none := by
  cases hn : s.num x with
  | none => rfl
  | some v =>
    have := h.num x v hn
    rw [at0_some hn] at hx
    omega
structure Post (s s' : St) (x : Int) (p : List Int) : Prop where
  inv : TI G N s' p
  ext : ∃ ex, s'.stack = s.stack ++ ex ∧ ∀ y ∈ s.stack, ∀ z ∈ ex, y ∈ G z → at0 s'.low x ≤ at0 s'.num y
  num : ∀ y v, s.num y = some v → s'.num y = some v
  low : ∀ y, (s.num y).isSome = true → s'.low y = s.low y
  numN : s.numN ≤ s'.numN
  vis : s'.num x = some ((s.numN : Int) + 1)
  le : at0 s'.low x ≤ at0 s'.num x
  src : at0 s'.low x = at0 s'.num x ∨ ∃ y ∈ s.stack, at0 s'.num y = at0 s'.low x ∧ Reach G x y
/-- What holds at the head of the loop of x's visit, from state s on, the numbers of dn being done. -/
structure LI (s t : St) (x : Int) (p dn : List Int) : Prop where
  inv : TI G N t (p ++ [x])
  ext : ∃ ex, t.stack = s.stack ++ (x :: ex) ∧ ∀ y ∈ s.stack, ∀ z ∈ ex, y ∈ G z → at0 t.low x ≤ at0 t.num y
  xb : ∀ y ∈ s.stack, y ∈ dn → at0 t.low x ≤ at0 t.num y
  seen : ∀ y ∈ dn, (t.num y).isSome = true
  num : ∀ y v, s.num y = some v → t.num y = some v
  numN : s.numN ≤ t.numN
  numx : t.num x = some ((s.numN : Int) + 1)
  low : ∀ y, (s.num y).isSome = true → t.low y = s.low y
  le : at0 t.low x ≤ at0 t.num x
  src : at0 t.low x = at0 t.num x ∨ ∃ y ∈ s.stack, at0 t.num y = at0 t.low x ∧ Reach G x y
theorem num_same {s t : St} (h : ∀ y v, s.num y = some v → t.num y = some v) {y : Int} (hy : (s.num y).isSome = true) : at0 t.num y = at0 s.num y ∧ (t.num y).isSome = true := by
  obtain ⟨v, hv⟩ := Option.isSome_iff_exists.1 hy
  rw [at0_some hv, at0_some (h y v hv), h y v hv]
  exact ⟨rfl, rfl⟩
theorem TI.setLow {t : St} {p : List Int} (h : TI G N t p) {x v : Int} (hx : (t.num x).isSome = true) : TI G N (t.setLow x v) p := by
  have hl := h.low x hx
  refine ⟨h.vis, h.num, fun y hy => ?_, ?_, h.partN, h.stk, h.ord, h.gray, h.back, h.forth, h.black, h.done⟩
  · show (upd t.low x (some v) y).isSome = true
    unfold upd
    split
    · rfl
    · exact h.low y hy
  · show cnt t.low t.lowN x ≤ t.numN
    unfold cnt
    rw [if_pos hl]
    exact h.lowN
theorem setLow_at {t : St} {x v : Int} : at0 (t.setLow x v).low x = v := by
  show at0 (upd t.low x (some v)) x = v
  unfold at0
  rw [upd_same]
  rfl
theorem setLow_ne {t : St} {x v y : Int} (h : y ≠ x) : (t.setLow x v).low y = t.low y := upd_other _ _ h
theorem mn_le (a b : Int) : mn a b ≤ a ∧ mn a b ≤ b := by
  unfold mn
  split <;> omega
theorem mn_cases (a b : Int) : (b < a ∧ mn a b = b) ∨ mn a b = a := by
  unfold mn
  split
  · exact .inl ⟨by assumption, rfl⟩
  · exact .inr rfl
/-- A low value's source lies below x. -/
theorem LI.below {s t : St} {x : Int} {p dn : List Int} (h : LI (G := G) (N := N) s t x p dn) {u : Int} (hu : u ∈ t.stack) (hlt : at0 t.num u < at0 t.num x) : u ∈ s.stack := by
  obtain ⟨ex, he, _⟩ := h.ext
  have ho := h.inv.ord
  rw [he] at hu ho
  rcases List.mem_append.1 hu with hu | hu
  · exact hu
  · rcases List.mem_cons.1 hu with rfl | hu
    · omega
    · have := (List.pairwise_cons.1 (List.pairwise_append.1 ho).2.1).1 u hu
      omega
theorem LI.step {s t t2 : St} {x y : Int} {p dn : List Int} {v : Int} (h : LI (G := G) (N := N) s t x p dn) (hy : y ∈ G x) (hsx : s.num x = none)
    (hi : TI G N t2 (p ++ [x])) (ex2 : List Int) (hex : t2.stack = t.stack ++ ex2) (hb : ∀ u ∈ t.stack, ∀ z ∈ ex2, u ∈ G z → v ≤ at0 t2.num u) (hn : ∀ u w, t.num u = some w → t2.num u = some w) (hlo : ∀ u, (t.num u).isSome = true → t2.low u = t.low u)
    (hnN : t.numN ≤ t2.numN) (hvis : (t2.num y).isSome = true) (hys : y ∈ s.stack → v ≤ at0 t2.num y) (hsrc : v < at0 t.num x → ∃ u ∈ t.stack, at0 t2.num u = v ∧ Reach G x u) : LI (G := G) (N := N) s (t2.setLow x (mn (at0 t2.low x) v)) x p (dn ++ [y]) := by
  have hxt : (t.num x).isSome = true := by rw [h.numx]; rfl
  have hx2 := num_same hn hxt
  have hlx : at0 t2.low x = at0 t.low x := by unfold at0; rw [hlo x hxt]
  obtain ⟨m1, m2⟩ := mn_le (at0 t2.low x) v
  obtain ⟨ex, he, hb1⟩ := h.ext
  have hns : ∀ u ∈ s.stack, at0 t2.num u = at0 t.num u := fun u hu => (num_same hn (h.inv.stk u (by rw [he]; simp [hu]))).1
  refine ⟨hi.setLow hx2.2, ⟨ex ++ ex2, ?_, fun u hu z hz hg => ?_⟩, fun u hu hd => ?_, fun u hu => ?_, fun u w hw => hn u w (h.num u w hw), Nat.le_trans h.numN hnN, hn _ _ h.numx, fun u hu => ?_, ?_, ?_⟩
  · show t2.stack = _
    rw [hex, he]
    simp
  · rw [setLow_at]
    show _ ≤ at0 t2.num u
    rcases List.mem_append.1 hz with hz | hz
    · have := hb1 u hu z hz hg
      rw [hns u hu]
      omega
    · have := hb u (by rw [he]; simp [hu]) z hz hg
      omega
  · rw [setLow_at]
    show _ ≤ at0 t2.num u
    rcases List.mem_append.1 hd with hd | hd
    · have := h.xb u hu hd
      rw [hns u hu]
      omega
    · rw [List.mem_singleton.1 hd] at hu ⊢
      have := hys hu
      omega
  · show (t2.num u).isSome = true
    rcases List.mem_append.1 hu with hu | hu
    · exact (num_same hn (h.seen u hu)).2
    · rw [List.mem_singleton.1 hu]
      exact hvis
  · rw [setLow_ne (fun e => by rw [e, hsx] at hu; cases hu), hlo u (num_same h.num hu).2]
    exact h.low u hu
  · rw [setLow_at]
    show _ ≤ at0 t2.num x
    have := h.le
    rw [hx2.1]
    omega
  · rw [setLow_at]
    show _ = at0 t2.num x ∨ ∃ u ∈ s.stack, at0 t2.num u = _ ∧ _
    rcases mn_cases (at0 t2.low x) v with ⟨c1, c2⟩ | c
    · rw [c2]
      have hlt : v < at0 t.num x := by have := h.le; omega
      obtain ⟨u, hu, hu1, hu2⟩ := hsrc hlt
      have hut := (num_same hn (h.inv.stk u hu)).1
      exact .inr ⟨u, h.below hu (by omega), hu1, hu2⟩
    · rw [c, hlx, hx2.1]
      rcases h.src with h0 | ⟨u, hu, hu1, hu2⟩
      · exact .inl h0
      · exact .inr ⟨u, hu, by rw [hns u hu]; exact hu1, hu2⟩
theorem enter_ok {s : St} {p : List Int} (h : TI G N s p) {x : Int} (hw : at0 s.num x = 0) (hx : InR N x) (hp : ∀ g ∈ p, Reach G g x) : LI (G := G) (N := N) s (s.enter x) x p [] := by
  have hn := h.white hw
  have hxs : x ∉ s.stack := fun hm => by have := h.stk x hm; rw [hn] at this; cases this
  have num_x : (s.enter x).num x = some ((s.numN : Int) + 1) := upd_same _ _ _
  have num_ne : ∀ y, y ≠ x → (s.enter x).num y = s.num y := fun y hy => upd_other _ _ hy
  have numN' : (s.enter x).numN = s.numN + 1 := by
    show cnt s.num s.numN x = _
    unfold cnt
    rw [hn]
    rfl
  have low_x : at0 (s.enter x).low x = (s.numN : Int) + 1 := by
    show at0 (upd s.low x _) x = _
    unfold at0
    rw [upd_same]
    rfl
  have stk' : (s.enter x).stack = s.stack ++ [x] := rfl
  have ne : ∀ y ∈ s.stack, y ≠ x := fun y hy e => hxs (e ▸ hy)
  have at_ne : ∀ y, y ≠ x → at0 (s.enter x).num y = at0 s.num y := fun y hy => by unfold at0; rw [num_ne y hy]
  have at_x : at0 (s.enter x).num x = (s.numN : Int) + 1 := at0_some num_x
  have some_of : ∀ y, (s.num y).isSome = true → ((s.enter x).num y).isSome = true := fun y hy => by
    rw [num_ne y (fun e => by rw [e, hn] at hy; cases hy)]
    exact hy
  have dn : ∀ y, Dn (s.enter x) y → Dn s y := fun y hd => by
    have hyx : y ≠ x := fun e => hd.2 (by rw [stk', e]; simp)
    refine ⟨by have := hd.1; rwa [num_ne y hyx] at this, fun hm => hd.2 (by rw [stk']; simp [hm])⟩
  have dn' : ∀ y, Dn s y → Dn (s.enter x) y := fun y hd => by
    have hyx : y ≠ x := fun e => by have := hd.1; rw [e, hn] at this; cases this
    refine ⟨some_of y hd.1, fun hm => ?_⟩
    rw [stk'] at hm
    rcases List.mem_append.1 hm with hm | hm
    · exact hd.2 hm
    · exact hyx (List.mem_singleton.1 hm)
  refine ⟨⟨?_, ?_, ?_, ?_, ?_, ?_, ?_, ?_, ?_, ?_, ?_, ?_⟩, ⟨[], rfl, fun y _ z hz => by cases hz⟩, fun y _ hd => (by cases hd), fun y hd => (by cases hd), fun y v hv => ?_, by rw [numN']; omega, num_x, fun y hy => ?_, by rw [low_x, at_x]; exact Int.le_refl _, .inl (by rw [low_x, at_x])⟩
  · obtain ⟨d, d1, d2, d3, d4⟩ := h.vis
    refine ⟨x :: d, List.nodup_cons.2 ⟨(fun hm => by have := (d2 x).1 hm; rw [hn] at this; cases this), d1⟩, fun y => ?_, by rw [numN', List.length_cons, d3], fun y hy => ?_⟩
    · rw [List.mem_cons]
      by_cases hy : y = x
      · rw [hy, num_x]
        simp
      · rw [num_ne y hy, ← d2 y]
        simp [hy]
    · rcases List.mem_cons.1 hy with rfl | hy
      · exact hx
      · exact d4 y hy
  · intro y v hv
    by_cases hy : y = x
    · rw [hy, num_x] at hv
      rw [numN']
      have := Option.some.inj hv
      omega
    · rw [num_ne y hy] at hv
      have := h.num y v hv
      rw [numN']
      omega
  · intro y hy
    show (upd s.low x _ y).isSome = true
    by_cases hyx : y = x
    · rw [hyx, upd_same]
      rfl
    · rw [upd_other _ _ hyx]
      rw [num_ne y hyx] at hy
      exact h.low y hy
  · rw [numN']
    show cnt s.low s.lowN x ≤ _
    have := h.lowN
    unfold cnt
    split <;> omega
  · rw [numN', stk', List.length_append, List.length_singleton]
    have := h.partN
    show s.partN + _ ≤ _
    omega
  · intro y hy
    rw [stk'] at hy
    rcases List.mem_append.1 hy with hy | hy
    · exact some_of y (h.stk y hy)
    · rw [List.mem_singleton.1 hy, num_x]
      rfl
  · rw [stk', List.pairwise_append]
    refine ⟨?_, List.pairwise_singleton _ _, fun a ha b hb => ?_⟩
    · refine h.ord.imp_of_mem (fun {a b} ha hb hab => ?_)
      rw [at_ne a (ne a ha), at_ne b (ne b hb)]
      exact hab
    · rw [List.mem_singleton.1 hb, at_x, at_ne a (ne a ha)]
      have := (h.at0_pos (h.stk a ha)).2
      omega
  · intro g hg
    rw [stk']
    rcases List.mem_append.1 hg with hg | hg
    · simp [h.gray g hg]
    · simp [List.mem_singleton.1 hg]
  · intro y hy
    rw [stk'] at hy
    rcases List.mem_append.1 hy with hy | hy
    · obtain ⟨g, g1, g2, g3⟩ := h.back y hy
      exact ⟨g, by simp [g1], by rw [at_ne g (ne g (h.gray g g1)), at_ne y (ne y hy)]; exact g2, g3⟩
    · rw [List.mem_singleton.1 hy]
      exact ⟨x, by simp, Int.le_refl _, .refl x⟩
  · intro g hg y hy hle
    rw [stk'] at hy
    rcases List.mem_append.1 hg with hg | hg
    · rcases List.mem_append.1 hy with hy | hy
      · rw [at_ne g (ne g (h.gray g hg)), at_ne y (ne y hy)] at hle
        exact h.forth g hg y hy hle
      · rw [List.mem_singleton.1 hy]
        exact hp g hg
    · rw [List.mem_singleton.1 hg] at hle ⊢
      rcases List.mem_append.1 hy with hy | hy
      · rw [at_x, at_ne y (ne y hy)] at hle
        have := (h.at0_pos (h.stk y hy)).2
        omega
      · rw [List.mem_singleton.1 hy]
        exact .refl x
  · intro y hy hyp z hz
    rw [stk'] at hy
    rcases List.mem_append.1 hy with hy | hy
    · exact some_of z (h.black y hy (fun hm => hyp (by simp [hm])) z hz)
    · exact absurd (by rw [List.mem_singleton.1 hy]; simp) hyp
  · intro y hd
    obtain ⟨h1, h2⟩ := h.done y (dn y hd)
    exact ⟨h1, fun z hz => dn' z (h2 z hz)⟩
  · rw [num_ne y (fun e => by rw [e, hn] at hv; cases hv)]
    exact hv
  · show upd s.low x _ y = s.low y
    exact upd_other _ _ (fun e => by rw [e, hn] at hy; cases hy)
theorem loop_ok {s : St} {p : List Int} (hs : TI G N s p) {x : Int} (hsx : s.num x = none) (hN : N ≤ 1000) (hG : ∀ y ∈ G x, InR N y) (v : St → Int → Option St)
    (hv : ∀ t y, TI G N t (p ++ [x]) → s.numN < t.numN → at0 t.num y = 0 → InR N y → (∀ g ∈ p ++ [x], Reach G g y) → ∃ t2, v t y = some t2 ∧ Post (G := G) (N := N) t t2 y (p ++ [x])) :
    ∀ (ys dn : List Int) (t : St), dn ++ ys = G x → LI (G := G) (N := N) s t x p dn → ∃ t', loop v x ys t = some t' ∧ LI (G := G) (N := N) s t' x p (G x) := by
  intro ys
  induction ys with
  | nil =>
    intro dn t hd h
    rw [List.append_nil] at hd
    exact ⟨t, rfl, by rw [← hd]; exact h⟩
  | cons y ys ih =>
    intro dn t hd h
    have hy : y ∈ G x := by rw [← hd]; simp
    have hd' : (dn ++ [y]) ++ ys = G x := by rw [← hd]; simp
    have hxt := h.inv.num x _ h.numx
    obtain ⟨ex, he, _⟩ := h.ext
    have sub : ∀ u ∈ s.stack, u ∈ t.stack := fun u hu => by rw [he]; simp [hu]
    have axt : at0 t.num x = (s.numN : Int) + 1 := at0_some h.numx
    have hxstk : x ∈ t.stack := by rw [he]; simp
    simp only [loop]
    by_cases hw : at0 t.num y = 0
    · rw [if_pos hw]
      have hyn := h.inv.white hw
      obtain ⟨t2, ht2, hP⟩ := hv t y h.inv (by omega) hw (hG y hy) (fun g hg => by
        refine (h.inv.forth g hg x hxstk ?_).trans (Reach.one hy)
        rcases List.mem_append.1 hg with hg | hg
        · have h1 := hs.gray g hg
          have h2 := num_same h.num (hs.stk g h1)
          have h3 := (hs.at0_pos (hs.stk g h1)).2
          omega
        · rw [List.mem_singleton.1 hg]
          exact Int.le_refl _)
      rw [ht2]
      simp only
      rw [if_pos (hP.inv.small hN)]
      obtain ⟨ex2, e1, e2⟩ := hP.ext
      have ay2 : at0 t2.num y = (t.numN : Int) + 1 := at0_some hP.vis
      exact ih (dn ++ [y]) _ hd' (h.step hy hsx hP.inv ex2 e1 e2 hP.num hP.low hP.numN (by rw [hP.vis]; rfl) (fun hm => by
        have := h.inv.stk y (sub y hm)
        rw [hyn] at this
        cases this) (fun hlt => by
        rcases hP.src with h1 | ⟨u, hu, hu1, hu2⟩
        · omega
        · exact ⟨u, hu, hu1, (Reach.one hy).trans hu2⟩))
    · rw [if_neg hw]
      have hys : (t.num y).isSome = true := by
        cases hn : t.num y with
        | none => exact absurd (by unfold at0; rw [hn]; rfl) hw
        | some v => rfl
      by_cases hc : t.stack.contains y = true
      · rw [if_pos hc, if_pos (h.inv.small hN)]
        have hm : y ∈ t.stack := List.contains_iff_mem.1 hc
        exact ih (dn ++ [y]) _ hd' (h.step hy hsx h.inv [] (by simp) (fun u _ z hz => by cases hz) (fun u w hu => hu) (fun u _ => rfl) (Nat.le_refl _) hys (fun _ => Int.le_refl _) (fun hlt => ⟨y, hm, rfl, Reach.one hy⟩))
      · rw [if_neg hc]
        have hm : y ∉ t.stack := fun hm => hc (List.contains_iff_mem.2 hm)
        refine ih (dn ++ [y]) t hd' ⟨h.inv, h.ext, fun u hu hdu => ?_, fun u hu => ?_, h.num, h.numN, h.numx, h.low, h.le, h.src⟩
        · rcases List.mem_append.1 hdu with hdu | hdu
          · exact h.xb u hu hdu
          · rw [List.mem_singleton.1 hdu] at hu
            exact absurd (sub y hu) hm
        · rcases List.mem_append.1 hu with hu | hu
          · exact h.seen u hu
          · rw [List.mem_singleton.1 hu]
            exact hys
theorem nodup_of_ord {l : List Int} {f : Int → Int} (h : l.Pairwise (fun a b => f a < f b)) : l.Nodup := h.imp (fun hab e => by rw [e] at hab; omega)
theorem return_ok {s t : St} {p : List Int} (hs : TI G N s p) {x : Int} (h : LI (G := G) (N := N) s t x p (G x)) (hlt : at0 t.low x < at0 t.num x) : Post (G := G) (N := N) s t x p := by
  obtain ⟨ex, he, hb⟩ := h.ext
  have hi := h.inv
  refine ⟨⟨hi.vis, hi.num, hi.low, hi.lowN, hi.partN, hi.stk, hi.ord, fun g hg => hi.gray g (by simp [hg]), fun y hy => ?_, fun g hg => hi.forth g (by simp [hg]), fun y hy hyp z hz => ?_, hi.done⟩, ⟨x :: ex, he, fun y hy z hz hg => ?_⟩, h.num, h.low, h.numN, h.numx, h.le, h.src⟩
  · obtain ⟨g, g1, g2, g3⟩ := hi.back y hy
    rcases List.mem_append.1 g1 with g1 | g1
    · exact ⟨g, g1, g2, g3⟩
    · rw [List.mem_singleton.1 g1] at g2 g3
      rcases h.src with h0 | ⟨u, hu, hu1, hu2⟩
      · omega
      · obtain ⟨f, f1, f2, f3⟩ := hi.back u (by rw [he]; simp [hu])
        rcases List.mem_append.1 f1 with f1 | f1
        · exact ⟨f, f1, by omega, (g3.trans hu2).trans f3⟩
        · rw [List.mem_singleton.1 f1] at f2
          omega
  · by_cases hyx : y = x
    · rw [hyx] at hz
      exact h.seen z hz
    · exact hi.black y hy (by simp [hyp, hyx]) z hz
  · rcases List.mem_cons.1 hz with rfl | hz
    · exact h.xb y hy hg
    · exact hb y hy z hz hg
theorem foldl_part (m : Int) : ∀ (l : List Int) (s : St), (l.foldl (St.setPart m) s).num = s.num ∧ (l.foldl (St.setPart m) s).numN = s.numN ∧ (l.foldl (St.setPart m) s).low = s.low ∧ (l.foldl (St.setPart m) s).lowN = s.lowN ∧ ∀ y, (l.foldl (St.setPart m) s).part y = if y ∈ l then some m else s.part y
  | [], s => ⟨rfl, rfl, rfl, rfl, fun y => by simp⟩
  | z :: l, s => by
    rw [List.foldl_cons]
    obtain ⟨h1, h2, h3, h4, h5⟩ := foldl_part m l (s.setPart m z)
    refine ⟨h1, h2, h3, h4, fun y => ?_⟩
    rw [h5 y]
    by_cases hy : y ∈ l
    · rw [if_pos hy, if_pos (by simp [hy])]
    · rw [if_neg hy]
      show upd s.part z (some m) y = _
      unfold upd
      by_cases hz : y = z
      · rw [if_pos hz, if_pos (by simp [hz])]
      · rw [if_neg hz, if_neg (by simp [hy, hz])]
theorem close_ok {s t : St} {p : List Int} (hs : TI G N s p) {x : Int} (hsx : s.num x = none) (h : LI (G := G) (N := N) s t x p (G x)) (heq : at0 t.low x = at0 t.num x) : t.stack.idxOf x < t.stack.length ∧ Post (G := G) (N := N) s (t.close (t.stack.idxOf x)) x p := by
  obtain ⟨ex, he, hb⟩ := h.ext
  have hi := h.inv
  have hord := hi.ord
  rw [he] at hord
  obtain ⟨o1, o2, o3⟩ := List.pairwise_append.1 hord
  have hnd := nodup_of_ord hord
  have hxs : x ∉ s.stack := fun hm => by have := hs.stk x hm; rw [hsx] at this; cases this
  have hq : t.stack.idxOf x = s.stack.length := by
    rw [he, List.idxOf_append, if_neg hxs]
    simp
  rw [hq]
  have hdrop : t.stack.drop s.stack.length = x :: ex := by rw [he]; simp
  have htake : t.stack.take s.stack.length = s.stack := by rw [he]; simp
  refine ⟨by rw [he]; simp, ?_⟩
  have hx2 : (t.num x).isSome = true := by rw [h.numx]; rfl
  have mem : ∀ u ∈ x :: ex, u ∈ t.stack := fun u hu => by rw [he]; exact List.mem_append.2 (.inr hu)
  have sub : ∀ u ∈ s.stack, u ∈ t.stack := fun u hu => by rw [he]; exact List.mem_append.2 (.inl hu)
  have le_x : ∀ u ∈ x :: ex, at0 t.num x ≤ at0 t.num u := fun u hu => by
    rcases List.mem_cons.1 hu with rfl | hu
    · exact Int.le_refl _
    · exact Int.le_of_lt ((List.pairwise_cons.1 o2).1 u hu)
  have lt_x : ∀ u ∈ s.stack, at0 t.num u < at0 t.num x := fun u hu => o3 u hu x (by simp)
  have apart : ∀ u ∈ x :: ex, u ∉ s.stack := fun u hu hm => by
    have := o3 u hm u hu
    omega
  have out : ∀ z, z ∈ x :: ex → ∀ w ∈ G z, w ∈ x :: ex ∨ Dn t w := fun z hz w hw => by
    have hvis : (t.num w).isSome = true := by
      by_cases hzx : z = x
      · rw [hzx] at hw
        exact h.seen w hw
      · refine hi.black z (mem z hz) (fun hm => ?_) w hw
        rcases List.mem_append.1 hm with hm | hm
        · exact apart z hz (hs.gray z hm)
        · exact hzx (List.mem_singleton.1 hm)
    by_cases hwt : w ∈ t.stack
    · rw [he] at hwt
      rcases List.mem_append.1 hwt with hws | hwc
      · have h1 := lt_x w hws
        rcases List.mem_cons.1 hz with hzx | hz
        · rw [hzx] at hw
          have := h.xb w hws hw
          omega
        · have := hb w hws z hz hw
          omega
      · exact .inl hwc
    · exact .inr ⟨hvis, hwt⟩
  have notD : ∀ u ∈ x :: ex, ∀ w, Dn t w → ¬ Reach G w u := fun u hu w hw hr => ((hi.done w hw).2 u hr).2 (mem u hu)
  have scx : ∀ u ∈ x :: ex, SC G x u := fun u hu => by
    refine ⟨hi.forth x (by simp) u (mem u hu) (le_x u hu), ?_⟩
    obtain ⟨g, g1, g2, g3⟩ := hi.back u (mem u hu)
    rcases List.mem_append.1 g1 with g1 | g1
    · rcases g3.stay (C := fun z => z ∈ x :: ex) (D := Dn t) out hu with h1 | ⟨w, hw, hr⟩
      · exact absurd (hs.gray g g1) (apart g h1)
      · exact absurd (sub g (hs.gray g g1)) ((hi.done w hw).2 g hr).2
    · rw [List.mem_singleton.1 g1] at g3
      exact g3
  have inC : ∀ u ∈ x :: ex, ∀ z, SC G u z → z ∈ x :: ex := fun u hu z hz => by
    rcases hz.1.stay (C := fun z => z ∈ x :: ex) (D := Dn t) out hu with h1 | ⟨w, hw, hr⟩
    · exact h1
    · exact absurd (hr.trans hz.2) (notD u hu w hw)
  obtain ⟨m, hm⟩ : ∃ m, m = Lib.minOf (x :: ex) := ⟨_, rfl⟩
  have mC : m ∈ x :: ex := by rw [hm]; exact minOf_mem (by simp)
  have least : ∀ u ∈ x :: ex, Least (G := G) u m := fun u hu => ⟨(scx u hu).symm.trans (scx m mC), fun z hz => by rw [hm]; exact minOf_le (inC u hu z hz)⟩
  obtain ⟨f1, f2, f3, f4, f5⟩ := foldl_part m (x :: ex) t
  have fpN := foldl_partN m (x :: ex) t
  have cl : t.close s.stack.length = { (x :: ex).foldl (St.setPart m) t with stack := s.stack } := by
    unfold St.close
    rw [hdrop, htake, ← hm]
  rw [cl]
  generalize (x :: ex).foldl (St.setPart m) t = t2 at f1 f2 f3 f4 f5 fpN
  have dn2 : ∀ y, Dn { t2 with stack := s.stack } y ↔ ((t.num y).isSome = true ∧ y ∉ s.stack) := fun y => by
    unfold Dn
    simp only [f1]
  have up : ∀ y, Dn t y → Dn { t2 with stack := s.stack } y := fun y hd => (dn2 y).2 ⟨hd.1, fun hm => hd.2 (sub y hm)⟩
  have hv := hi.vis
  refine ⟨⟨?_, ?_, ?_, ?_, ?_, ?_, ?_, ?_, ?_, ?_, ?_, ?_⟩, ⟨[], (by simp), fun y _ z hz => (by cases hz)⟩, fun y v hv => ?_, fun y hy => ?_, ?_, ?_, ?_, .inl ?_⟩
  · simpa only [f1, f2] using hv
  · simpa only [f1, f2] using hi.num
  · simpa only [f1, f3] using hi.low
  · simpa only [f2, f4] using hi.lowN
  · have h1 := hi.partN
    rw [he, List.length_append] at h1
    simp only [f2]
    omega
  · simp only [f1]
    exact fun u hu => hi.stk u (sub u hu)
  · simp only [f1]
    exact o1
  · exact hs.gray
  · intro y hy
    obtain ⟨g, g1, g2, g3⟩ := hi.back y (sub y hy)
    rcases List.mem_append.1 g1 with g1 | g1
    · exact ⟨g, g1, by simpa only [f1] using g2, g3⟩
    · rw [List.mem_singleton.1 g1] at g2
      have := lt_x y hy
      omega
  · intro g hg y hy hle
    simp only [f1] at hle
    exact hi.forth g (by simp [hg]) y (sub y hy) hle
  · intro y hy hyp z hz
    simp only [f1]
    refine hi.black y (sub y hy) (fun hm => ?_) z hz
    rcases List.mem_append.1 hm with hm | hm
    · exact hyp hm
    · exact hxs (by rw [← List.mem_singleton.1 hm]; exact hy)
  · intro y hd
    have hd' := (dn2 y).1 hd
    by_cases hyC : y ∈ x :: ex
    · refine ⟨⟨m, ?_, least y hyC⟩, fun z hz => ?_⟩
      · show t2.part y = some m
        rw [f5 y, if_pos hyC]
      · rcases hz.stay (C := fun z => z ∈ x :: ex) (D := Dn t) out hyC with h1 | ⟨w, hw, hr⟩
        · exact (dn2 z).2 ⟨hi.stk z (mem z h1), apart z h1⟩
        · exact up z ((hi.done w hw).2 z hr)
    · have hdt : Dn t y := ⟨hd'.1, fun hm => by
        rw [he] at hm
        rcases List.mem_append.1 hm with hm | hm
        · exact hd'.2 hm
        · exact hyC hm⟩
      obtain ⟨⟨m', h1, h2⟩, h3⟩ := hi.done y hdt
      refine ⟨⟨m', ?_, h2⟩, fun z hz => up z (h3 z hz)⟩
      show t2.part y = some m'
      rw [f5 y, if_neg hyC]
      exact h1
  · show t2.num y = some v
    rw [f1]
    exact h.num y v hv
  · show t2.low y = s.low y
    rw [f3]
    exact h.low y hy
  · show s.numN ≤ t2.numN
    rw [f2]
    exact h.numN
  · show t2.num x = _
    rw [f1]
    exact h.numx
  · show at0 t2.low x ≤ at0 t2.num x
    rw [f1, f3]
    exact h.le
  · show at0 t2.low x = at0 t2.num x
    rw [f1, f3]
    exact heq
theorem visit_ok (hG : ∀ x y, y ∈ G x → InR N y) (hN : N ≤ 1000) : ∀ (k : Nat) (s : St) (x : Int) (p : List Int), TI G N s p → N < k + s.numN → at0 s.num x = 0 → InR N x → (∀ g ∈ p, Reach G g x) → ∃ s', visit G k s x = some s' ∧ Post (G := G) (N := N) s s' x p := by
  intro k
  induction k with
  | zero =>
    intro s x p hi hk
    have := hi.numN_le
    omega
  | succ k ih =>
    intro s x p hi hk hw hx hp
    have hsx := hi.white hw
    obtain ⟨t, ht, hL⟩ := loop_ok hi hsx hN (fun y hy => hG x y hy) (visit G k) (fun t y ht hlt hwy hy hg => ih t y (p ++ [x]) ht (by omega) hwy hy hg) (G x) [] (s.enter x) rfl (enter_ok hi hw hx hp)
    simp only [visit]
    rw [if_pos (hi.small hN), ht]
    simp only
    by_cases hlt : at0 t.low x < at0 t.num x
    · rw [if_pos hlt]
      exact ⟨t, rfl, return_ok hi hL hlt⟩
    · rw [if_neg hlt]
      obtain ⟨h1, h2⟩ := close_ok hi hsx hL (by have := hL.le; omega)
      rw [if_pos ⟨h1, hL.inv.small hN⟩]
      exact ⟨_, rfl, h2⟩
theorem start_ok : TI G N Tp.start [] := by
  refine ⟨⟨[], List.nodup_nil, fun x => by simp [Tp.start], rfl, fun x hx => (by cases hx)⟩, fun x v h => (by cases h), fun x h => (by cases h), Nat.le_refl _, Nat.le_refl _, fun x hx => (by cases hx), List.Pairwise.nil, fun g hg => (by cases hg), fun y hy => (by cases hy), fun g hg => (by cases hg), fun y hy => (by cases hy), fun y hd => (by cases hd.1)⟩
theorem top_ok (hG : ∀ x y, y ∈ G x → InR N y) (hN : N ≤ 1000) (k : Nat) (hk : N < k) : ∀ (l : List Int) (s : St), (∀ x ∈ l, InR N x) → TI G N s [] → ∃ s', top G k l s = some s' ∧ TI G N s' [] ∧ (∀ y, (s.num y).isSome = true → (s'.num y).isSome = true) ∧ ∀ x ∈ l, (s'.num x).isSome = true
  | [], s, _, hi => ⟨s, rfl, hi, fun y hy => hy, fun x hx => (by cases hx)⟩
  | i :: l, s, hl, hi => by
    simp only [top]
    by_cases hw : at0 s.num i = 0
    · rw [if_pos hw]
      obtain ⟨s2, h1, h2⟩ := visit_ok hG hN k s i [] hi (by omega) hw (hl i (by simp)) (fun g hg => by cases hg)
      rw [h1]
      obtain ⟨s3, g1, g2, g3, g4⟩ := top_ok hG hN k hk l s2 (fun x hx => hl x (by simp [hx])) h2.inv
      refine ⟨s3, g1, g2, fun y hy => g3 y (num_same h2.num hy).2, fun x hx => ?_⟩
      rcases List.mem_cons.1 hx with rfl | hx
      · exact g3 x (by rw [h2.vis]; rfl)
      · exact g4 x hx
    · rw [if_neg hw]
      obtain ⟨s3, g1, g2, g3, g4⟩ := top_ok hG hN k hk l s (fun x hx => hl x (by simp [hx])) hi
      refine ⟨s3, g1, g2, g3, fun x hx => ?_⟩
      rcases List.mem_cons.1 hx with rfl | hx
      · refine g3 x ?_
        cases hn : s.num x with
        | none => exact absurd (by unfold at0; rw [hn]; rfl) hw
        | some v => rfl
      · exact g4 x hx
end
/-- What loops.Parts comes to. -/
theorem parts_ok (G : Int → List Int) (n : Int) (hG : ∀ x y, y ∈ G x → InR n.toNat y) (hn : n ≤ 1000) : ∃ s, top G (n.toNat + 2) (Lp.nums n) Tp.start = some s ∧ ∀ x, InR n.toNat x → ∃ m, s.part x = some m ∧ Least (G := G) x m := by
  obtain ⟨s, h1, h2, _, h4⟩ := top_ok (G := G) (N := n.toNat) hG (by omega) (n.toNat + 2) (by omega) (Lp.nums n) Tp.start (fun x hx => by
    obtain ⟨i, hi, rfl⟩ := List.mem_map.1 hx
    have := List.mem_range.1 hi
    exact ⟨by omega, by omega⟩) start_ok
  refine ⟨s, h1, fun x hx => ?_⟩
  have hv := h4 x (by
    refine List.mem_map.2 ⟨x.toNat, List.mem_range.2 ?_, ?_⟩
    · unfold InR at hx; omega
    · unfold InR at hx; omega)
  refine (h2.done x ⟨hv, fun hm => ?_⟩).1
  obtain ⟨g, hg, _⟩ := h2.back x hm
  cases hg
end Go.Proofs.Ytfkoepdakghpjaa.Qt
