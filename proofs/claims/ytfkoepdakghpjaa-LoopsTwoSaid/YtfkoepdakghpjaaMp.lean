/- Maps from int to int and from int to []int that a call has made, in plain words: what they read as is a Lean function. -/
import Derived.Test.YtfkoepdakghpjaaProg
import Derived.Test.YtfkoepdakghpjaaWMore
import Derived.Maps.OwnSet
import Derived.Maps.OwnRows
import Derived.Maps.GroupsBeside
import Derived.OneCell
namespace Go.Proofs.Ytfkoepdakghpjaa.Mp
open Go Go.Maps Go.RowKit Go.ChangeMaps Go.MapKept Go.ChangeShapes Go.Proofs.YtfkoepdakghpjaaW.PrintWords
set_option linter.unusedVariables false

def Wf (x : Int) : Prop := (Lit.int .i64 x).wf = true
theorem wf_of {x : Int} (h0 : -9223372036854775808 ≤ x) (h1 : x ≤ 9223372036854775807) : Wf x := by
  unfold Wf
  exact WalkArith.wf_i64 ⟨h0, h1⟩
theorem law : Keyed Try.prog 3 := int_keyed Try.underlying3
theorem key {x : Int} (h : Wf x) : keyOf Try.prog 3 (.int .i64 x) = some (.int .i64 x) := keyOf_int_mk Try.underlying3 h
theorem zero_int (w : World) : (zeroValue 3).run Try.prog w = .ok (.int .i64 0) w := by kernel_rfl
theorem zero_row (w : World) : (zeroValue 24).run Try.prog w = .ok (.slice none 0 0) w := by kernel_rfl
theorem isKey (x : Int) : WideAt.IsKeyLit (.int .i64 x) := by trivial

def upd {α : Type} (g : Int → α) (x : Int) (v : α) : Int → α := fun y => if y = x then v else g y
theorem upd_same {α : Type} (g : Int → α) (x : Int) (v : α) : upd g x v x = v := by simp [upd]
theorem upd_other {α : Type} (g : Int → α) {x y : Int} (v : α) (h : y ≠ x) : upd g x v y = g y := by simp [upd, h]

/-- Block b is a map of n entries that reads as g. -/
def MapI (w : World) (b n : Nat) (g : Int → Option Int) : Prop :=
  ∃ D : DataW Unit, w.ownsMap Try.prog 3 (plainElem Try.prog 3) b n D ∧ Maps.size D = n ∧ (∀ x v, g x = some v → Wf v) ∧
    ∀ x, D.atKey (.int .i64 x) (.lit (.int .i64 0)) = .lit (.int .i64 ((g x).getD 0)) ∧ Maps.has D (.int .i64 x) = (g x).isSome

theorem MapI.lt {w : World} {b n : Nat} {g : Int → Option Int} (h : MapI w b n g) : b < w.heap.size := by
  obtain ⟨D, h, _⟩ := h
  exact h.lt
theorem MapI.wf {w : World} {b n : Nat} {g : Int → Option Int} (h : MapI w b n g) {x v : Int} (hv : g x = some v) : Wf v := by
  obtain ⟨D, _, _, hw, _⟩ := h
  exact hw x v hv
theorem MapI.keep {w w' : World} {b n : Nat} {g : Int → Option Int} (h : MapI w b n g) (hb : w'.heap[b]? = w.heap[b]?) : MapI w' b n g := by
  obtain ⟨D, ⟨es, clock, h1, h2⟩, h3⟩ := h
  exact ⟨D, ⟨es, clock, hb.trans h1, h2⟩, h3⟩
theorem MapI.made (w : World) : MapI (w.alloc (.map #[] 0)) w.heap.size 0 (fun _ => none) :=
  ⟨.map [], World.ownsMap_made w _ _ _, rfl, (fun _ _ h => by cases h), fun x => ⟨rfl, rfl⟩⟩
theorem MapI.look {w : World} {b n : Nat} {g : Int → Option Int} (h : MapI w b n g) {x : Int} (hx : Wf x) :
    (Instr.lookup 34 (.map (some b)) (.int .i64 x) false).run Try.prog w = .ok (.int .i64 ((g x).getD 0)) w := by
  obtain ⟨D, h1, _, _, h2⟩ := h
  obtain ⟨c, hr, hat, _⟩ := h1.lookup_int law Try.underlying34 Try.underlying3 (zero_int _) (key hx)
  rw [(h2 x).1] at hat
  injection hat with hat
  injection hat with _ hat
  rw [hr, hat]
theorem MapI.lookOk {w : World} {b n : Nat} {g : Int → Option Int} (h : MapI w b n g) {x : Int} (hx : Wf x) :
    (Instr.lookup 34 (.map (some b)) (.int .i64 x) true).run Try.prog w = .ok (.tuple #[.int .i64 ((g x).getD 0), .bool (g x).isSome]) w := by
  obtain ⟨D, h1, _, _, h2⟩ := h
  obtain ⟨v, ps, hr, hv⟩ := h1.look_ok law Try.underlying34 (zero_int _) (plainElem_int Try.underlying3 (q := .i64) (a := 0) (by decide)) (key hx)
  obtain ⟨c, rfl, hc, _⟩ := plainElem_int_inv Try.underlying3 hv
  simp only [Prod.mk.injEq] at hc
  have hat := hc.1
  rw [(h2 x).1] at hat
  injection hat with hat
  injection hat with _ hat
  rw [hr, (h2 x).2, hat]
theorem MapI.len {w : World} {b n : Nat} {g : Int → Option Int} (h : MapI w b n g) (ty : TypeId) :
    (Builtin.len_ #[34] ty #[.map (some b)]).run Try.prog w = .ok (.int .i64 (n : Int)) w := by
  obtain ⟨D, h1, h2, _⟩ := h
  rw [h1.len Try.underlying34 ty, h2]
theorem MapI.store {w : World} {b n : Nat} {g : Int → Option Int} (h : MapI w b n g) {x v : Int} (hx : Wf x) (hv : Wf v) (hn : n < 4611686018427387904) :
    ∃ w', (Instr.mapUpdate 34 (.map (some b)) (.int .i64 x) (.int .i64 v)).run Try.prog w = .ok () w' ∧ MapI w' b (if (g x).isSome = true then n else n + 1) (upd g x (some v)) ∧ w.mapTurned w' b := by
  obtain ⟨D, h1, h2, hw, h3⟩ := h
  obtain ⟨w', hr, ho, ht⟩ := h1.store law Try.underlying34 (by unfold maxLen; omega) (key hx) (plainElem_int Try.underlying3 hv)
  refine ⟨w', hr, ⟨D.put (.int .i64 x) (.lit (.int .i64 v)), ?_, ?_, fun y u hu => ?_, fun y => ?_⟩, ht⟩
  · have hs := size_put (k := .int .i64 x) (h1.tidy law) (.lit (.int .i64 v))
    rw [(h3 x).2, h2] at hs
    obtain ⟨es, clock, hb, F, hsz, hD⟩ := ho
    refine ⟨es, clock, hb, F, ?_, hD⟩
    rw [← hs, hD]
    simp [Maps.size, length_sorted]
  · rw [size_put (h1.tidy law), (h3 x).2, h2]
  · unfold upd at hu
    split at hu
    · cases hu
      exact hv
    · exact hw _ _ hu
  · by_cases hy : y = x
    · subst hy
      rw [atKey_put_same h1.isMap (isKey _), has_put_same h1.isMap (isKey _), upd_same]
      exact ⟨rfl, rfl⟩
    · rw [atKey_put_other (by simpa using hy), has_put_other (by simpa using hy), upd_other _ _ hy]
      exact h3 y
theorem MapI.drop {w : World} {b n : Nat} {g : Int → Option Int} (h : MapI w b n g) {x : Int} (hx : Wf x) (ty : TypeId) :
    ∃ w', (Builtin.delete_ #[34, 3] ty #[.map (some b), .int .i64 x]).run Try.prog w = .ok (.tuple #[]) w' ∧ MapI w' b (if (g x).isSome = true then n - 1 else n) (upd g x none) ∧ w.mapTurned w' b := by
  obtain ⟨D, h1, h2, hw, h3⟩ := h
  obtain ⟨w', hr, ho, ht⟩ := h1.drop law Try.underlying34 (key hx) ty
  have hs := size_del (k := .int .i64 x) (h1.tidy law)
  rw [(h3 x).2, h2] at hs
  have hs2 : Maps.size (D.del (.int .i64 x)) = if (g x).isSome = true then n - 1 else n := by
    split
    · rename_i hc
      rw [if_pos hc] at hs
      omega
    · rename_i hc
      rw [if_neg hc] at hs
      omega
  refine ⟨w', hr, ⟨D.del (.int .i64 x), ?_, hs2, fun y u hu => ?_, fun y => ?_⟩, ht⟩
  · obtain ⟨es, clock, hb, F, hsz, hD⟩ := ho
    refine ⟨es, clock, hb, F, ?_, hD⟩
    rw [← hs2, hD]
    simp [Maps.size, length_sorted]
  · unfold upd at hu
    split at hu
    · cases hu
    · exact hw _ _ hu
  · by_cases hy : y = x
    · subst hy
      rw [atKey_del_same, has_del_same, upd_same]
      exact ⟨rfl, rfl⟩
    · rw [atKey_del_other (by simpa using hy), has_del_other (by simpa using hy), upd_other _ _ hy]
      exact h3 y
theorem turned_size {w w' : World} {b : Nat} (h : w.mapTurned w' b) : w'.heap.size = w.heap.size := by
  obtain ⟨es, clock, es', clock', hb, rfl⟩ := h
  simp [setBlock]
theorem turned_other {w w' : World} {b : Nat} (h : w.mapTurned w' b) (k : Nat) (hk : k ≠ b) : w'.heap[k]? = w.heap[k]? := by
  obtain ⟨es, clock, es', clock', hb, rfl⟩ := h
  exact heap_setBlock_other hb _ hk
theorem turned_map {w w' : World} {b : Nat} (h : w.mapTurned w' b) : ∃ es clock, w.heap[b]? = some (.map es clock) := by
  obtain ⟨es, clock, es', clock', hb, rfl⟩ := h
  exact ⟨es, clock, hb⟩
theorem turned_below {w0 w w' : World} {b B : Nat} (h : w.mapTurned w' b) (hb : Below B w0 w) (hB : B ≤ b) : Below B w0 w' := by
  obtain ⟨es, clock, es', clock', hh, rfl⟩ := h
  exact hb.trans ⟨rfl, rfl, rfl, by simp [setBlock], fun k hk => heap_setBlock_other hh _ (by omega)⟩

/-! ### rows of ints of the call's own -/
/-- The slice value v is a row of the call's own (from block B on) that holds l. -/
abbrev Row (w : World) (B : Nat) (v : Value) (l : List Int) : Prop := Kd.R (Kd.int .i64) 3 w B (fun _ => True) v l
theorem Row.move {w w' : World} {B : Nat} {v : Value} {l : List Int} (h : Row w B v l) (hm : ∀ k, v.ownBlock = some k → w'.heap[k]? = w.heap[k]?) : Row w' B v l :=
  Kd.R_of_own (own_move (Kd.own_of_R h) hm) (fun _ _ => trivial)
theorem Row.typed {w : World} {B : Nat} {v : Value} {l : List Int} (h : Row w B v l) {k : Nat} (hk : v.ownBlock = some k) : ∃ cells, w.heap[k]? = some (.cells cells 3 (0, 0)) := own_typed (Kd.own_of_R h) k hk
theorem Row.turned {w w' : World} {B b : Nat} {v : Value} {l : List Int} (h : Row w B v l) (ht : w.mapTurned w' b) : Row w' B v l :=
  h.move fun k hk => turned_other ht k fun e => by
    obtain ⟨cells, hc⟩ := h.typed hk
    obtain ⟨es, clock, hb⟩ := turned_map ht
    rw [← e, hc] at hb
    cases hb
theorem Row.setOne {w : World} {B c t : Nat} {v u u' : Value} {l : List Int} (h : Row w B v l) (hc : w.heap[c]? = some (.cells #[u] t (0, 0))) (ht : t ≠ 3) : Row (w.setCell ⟨c, 0, none⟩ u') B v l :=
  h.move fun k hk => Below.heap_setCell w ⟨c, 0, none⟩ u' k fun e => by
    obtain ⟨cells, hcl⟩ := h.typed hk
    subst e
    rw [hcl] at hc
    injection hc with hc
    injection hc with _ hc
    exact ht hc.symm
theorem Row.base {w : World} {B : Nat} {v : Value} {l : List Int} (h : Row w B v l) {k : Nat} (hk : v.ownBlock = some k) : B ≤ k := Kd.R_base h k hk
theorem Row.lower {w : World} {B B' : Nat} {v : Value} {l : List Int} (h : Row w B v l) (hb : B' ≤ B) : Row w B' v l := Kd.R_lower h hb

/-! ### maps of rows -/
def RdI (d : DataW Unit) (l : List Int) : Prop := (d = .nil ∧ l = []) ∨ d = .slice (lits .i64 l) []
theorem lits_inj {H : Type} : ∀ {a b : List Int}, lits (H := H) .i64 a = lits .i64 b → a = b
  | [], [], _ => rfl
  | [], _ :: _, h => by cases h
  | _ :: _, [], h => by cases h
  | x :: a, y :: b, h => by
    simp only [lits] at h
    injection h with h1 h2
    injection h1 with h1
    injection h1 with _ h1
    rw [h1, lits_inj h2]
theorem RdI.uniq {d : DataW Unit} {a b : List Int} (h : RdI d a) (h' : RdI d b) : a = b := by
  rcases h with ⟨h, rfl⟩ | h
  · rcases h' with ⟨_, rfl⟩ | h'
    · rfl
    · rw [h] at h'
      cases h'
  · rcases h' with ⟨h', _⟩ | h'
    · rw [h] at h'
      cases h'
    · rw [h] at h'
      injection h' with h'
      exact lits_inj h'
theorem RdI.of {w : World} {B : Nat} {v : Value} {l : List Int} (h : w.ownsInts B 3 .i64 v l) : RdI (rowDatum .i64 v l) l := by
  rcases h.datum (H := Unit) with h | h
  · exact .inl h
  · exact .inr h
theorem Row.of {w : World} {B : Nat} {v : Value} {l : List Int} (h : w.ownsInts B 3 .i64 v l) : Row w B v l := Kd.R_of_own h.1 (fun _ _ => trivial)
/-- Block b is a map (of at most n entries) of rows (of the call's own, from block B on, of at most n numbers) that reads as G. -/
def GrI (w : World) (B b n : Nat) (G : Int → List Int) : Prop :=
  ∃ D : DataW Unit, w.ownsGroups Try.prog 3 B 3 .i64 b n D ∧ Maps.IsMap D ∧ ∀ x, RdI (D.atKey (.int .i64 x) .nil) (G x)
theorem GrI.made (w : World) : GrI (w.alloc (.map #[] 0)) (w.heap.size + 1) w.heap.size 0 (fun _ => []) :=
  ⟨.map [], World.ownsGroups_made w _ _ _ _, Maps.isMap_empty, fun x => .inl ⟨rfl, rfl⟩⟩
theorem GrI.lt {w : World} {B b n : Nat} {G : Int → List Int} (h : GrI w B b n G) : b < w.heap.size ∧ b < B := by
  obtain ⟨D, ⟨es, clock, hb, _, _, _, hB, _⟩, _⟩ := h
  exact ⟨(Array.getElem?_eq_some_iff.1 hb).1, hB⟩
theorem GrI.below {w w' : World} {B b n : Nat} {G : Int → List Int} (h : GrI w B b n G) (hb : Below w.heap.size w w') : GrI w' B b n G := by
  obtain ⟨D, h1, h2⟩ := h
  refine ⟨D, h1.kept (row := none) ⟨hb.os, hb.tape, hb.output, hb.size, fun k hk _ => hb.block k hk⟩ (by simp) (fun es clock _ x _ => ?_), h2⟩
  cases x.val.ownBlock <;> simp
/-- 'next[x]'. -/
theorem GrI.look {w : World} {B b n : Nat} {G : Int → List Int} (h : GrI w B b n G) (hn : n < 4611686018427387904) {x : Int} (hx : Wf x) :
    ∃ v, (Instr.lookup 38 (.map (some b)) (.int .i64 x) false).run Try.prog w = .ok v w ∧ Row w B v (G x) ∧ (∀ y ∈ G x, Wf y) ∧ (G x).length ≤ n := by
  obtain ⟨D, h1, _, h2⟩ := h
  obtain ⟨v, zs, hr, hat, ho, hl, _⟩ := h1.at law Try.underlying38 (zero_row _) (by unfold maxLen; omega) (key hx)
  have h3 := h2 x
  rw [hat] at h3
  have : zs = G x := (RdI.of ho).uniq h3
  subst this
  exact ⟨v, hr, Row.of ho, ho.2, hl⟩
/-- 'out[x]', to be stored back: whatever is done to the row and to new blocks, a store of the longer row leaves the map of the longer row. -/
theorem GrI.back {w : World} {B b n : Nat} {G : Int → List Int} (h : GrI w B b n G) (hn : n < 4611686018427387904) {x : Int} (hx : Wf x) {y : Int} (hy : Wf y) :
    ∃ v, (∀ w', Below w.heap.size w w' → (Instr.lookup 38 (.map (some b)) (.int .i64 x) false).run Try.prog w' = .ok v w') ∧ Row w B v (G x) ∧ (G x).length ≤ n ∧
      ∀ (w1 : World) (v' : Value), w.grownBy w1 v.ownBlock → Row w1 B v' (G x ++ [y]) → (v'.ownBlock = v.ownBlock ∨ ∃ g, v'.ownBlock = some g ∧ w.heap.size ≤ g) →
        ∃ w2, (Instr.mapUpdate 38 (.map (some b)) (.int .i64 x) v').run Try.prog w1 = .ok () w2 ∧ GrI w2 B b (n + 1) (upd G x (G x ++ [y])) ∧ w1.grownBy w2 (some b) := by
  obtain ⟨D, h1, h1m, h2⟩ := h
  obtain ⟨v, zs, hr, hat, ho, hl, hback⟩ := h1.at law Try.underlying38 (zero_row _) (by unfold maxLen; omega) (key hx)
  have h3 := h2 x
  rw [hat] at h3
  have : zs = G x := (RdI.of ho).uniq h3
  subst this
  refine ⟨v, fun w' hb' => ?_, Row.of ho, hl, fun w1 v' hg hrow hat' => ?_⟩
  · obtain ⟨es, clock, hb, F, _, _⟩ := h1
    have hbl : b < w.heap.size := (Array.getElem?_eq_some_iff.1 hb).1
    have hb2 : w'.heap[b]? = some (.map es clock) := (hb'.block b hbl).trans hb
    have two : ∀ e0 ∈ es.toList, ∀ e1 ∈ es.toList, e0.key = .int .i64 x → e1.key = .int .i64 x → e0 = e1 := by
      intro e0 h0 e1 h1 k0 k1
      obtain ⟨i, hi, rfl⟩ := List.mem_iff_getElem.1 h0
      obtain ⟨j, hj, rfl⟩ := List.mem_iff_getElem.1 h1
      have hap := List.pairwise_iff_getElem.1 (Maps.fit_apart law F)
      obtain ⟨y0, hy0⟩ := F.reads _ h0
      obtain ⟨y1, hy1⟩ := F.reads _ h1
      have e0 := WideElems.rd_key hy0
      have e1 := WideElems.rd_key hy1
      rw [k0, key hx] at e0
      rw [k1, key hx] at e1
      have f0 := WideElems.rg_of hy0
      have f1 := WideElems.rg_of hy1
      rcases Nat.lt_trichotomy i j with hij | rfl | hij
      · have := hap i j (by simpa using hi) (by simpa using hj) hij
        simp only [List.getElem_map] at this
        rw [f0, f1] at this
        exact absurd (Option.some.inj (e0.symm.trans e1)) this
      · rfl
      · have := hap j i (by simpa using hj) (by simpa using hi) hij
        simp only [List.getElem_map] at this
        rw [f0, f1] at this
        exact absurd (Option.some.inj (e1.symm.trans e0)) this
    rcases Maps.fit_look false law Try.underlying38 (zero_row _) hb F (key hx) with ⟨r1, n1, _⟩ | ⟨e0, y0, m0, k0, r1, _⟩ <;> rcases Maps.fit_look false law Try.underlying38 (zero_row w') hb2 F (key hx) with ⟨r2, n2, _⟩ | ⟨e1, y1, m1, k1, r2, _⟩
    · rw [hr] at r1
      rw [r2]
      injection r1 with r1
      rw [r1]
    · exact absurd k1 (n1 _ m1)
    · exact absurd k0 (n2 _ m0)
    · rw [hr] at r1
      rw [r2, two e1 m1 e0 m0 k1 k0]
      injection r1 with r1
      rw [r1]
  · have ho' : w1.ownsInts B 3 .i64 v' (G x ++ [y]) := by
      refine ⟨Kd.own_of_R hrow, fun z hz => ?_⟩
      rcases List.mem_append.1 hz with hz | hz
      · exact ho.2 z hz
      · simp only [List.mem_singleton] at hz
        subst hz
        exact hy
    obtain ⟨w2, hr2, hg2, hgr⟩ := hback w1 v' (G x ++ [y]) hg ho' (by simp; omega) hat'
    refine ⟨w2, hr2, ⟨_, hg2, h1m.put _ _, fun z => ?_⟩, hgr⟩
    by_cases hz : z = x
    · subst hz
      rw [Maps.atKey_put_same h1m (isKey _), upd_same]
      exact RdI.of ho'
    · rw [Maps.atKey_put_other (by simpa using hz), upd_other _ _ hz]
      exact h2 z
/-- 'next[x]', in every later world that has left the map and its rows alone. -/
theorem GrI.look2 {w : World} {B b n : Nat} {G : Int → List Int} (h : GrI w B b n G) (hn : n < 4611686018427387904) {x : Int} (hx : Wf x) :
    ∃ v, (∀ w', Below w.heap.size w w' → (Instr.lookup 38 (.map (some b)) (.int .i64 x) false).run Try.prog w' = .ok v w') ∧ Row w B v (G x) ∧ (∀ y ∈ G x, Wf y) ∧ (G x).length ≤ n := by
  obtain ⟨v, h1, h2, h3, _⟩ := h.back hn hx (y := 0) (wf_of (by omega) (by omega))
  obtain ⟨u, h4, h5, h6, _⟩ := h.look hn hx
  exact ⟨v, h1, h2, h6, h3⟩
end Go.Proofs.Ytfkoepdakghpjaa.Mp
