/- loops.search's closure: its memory, and the walk of its text. -/
import Derived.Test.YtfkoepdakghpjaaLp
import Derived.Test.YtfkoepdakghpjaaShelf
import Derived.WalkLawsBesides
import Derived.Outline
namespace Go.Proofs.Ytfkoepdakghpjaa.Sr
open Go Go.RowKit Go.Proofs.YtfkoepdakghpjaaW.PrintWords Go.Proofs.YtfkoepdakghpjaaW.PrintLast Go.Proofs.YtfkoepdakghpjaaW.PrintMore Go.Proofs.Ytfkoepdakghpjaa.Mp Go.Proofs.Ytfkoepdakghpjaa.Lp
attribute [local go_sem] max2_int min2_int max_two min_two max_three min_three max_four min_four
set_option linter.unusedVariables false
set_option linter.unusedSimpArgs false

/-- Where what the closure captures lies; the world behind graph; what the graph reads as. -/
structure Fx where
  nx : Nat
  mRk : Nat
  rk : Nat
  path : Nat
  cyc : Nat
  mOn : Nat
  on : Nat
  vis : Nat
  mNx : Nat
  bNx : Nat
  nNx : Nat
  w1 : World
  G : Int → List Int
structure Fx.Ok (F : Fx) : Prop where
  rk : F.mRk = F.nx + 1 ∧ F.rk = F.nx + 2
  path : F.path = F.nx + 3 ∧ F.cyc = F.nx + 4
  on : F.mOn = F.nx + 5 ∧ F.on = F.nx + 6 ∧ F.vis = F.nx + 7
  base : F.w1.heap.size = F.nx
  graph : GrI F.w1 F.bNx F.mNx F.nNx F.G
  small : F.nNx ≤ 1000000
def Fx.clo (F : Fx) : Value := .func (.func 28) #[] #[.pointer (some ⟨F.on, 0, none⟩), .pointer (some ⟨F.path, 0, none⟩), .pointer (some ⟨F.cyc, 0, none⟩), .pointer (some ⟨F.rk, 0, none⟩), .pointer (some ⟨F.nx, 0, none⟩), .pointer (some ⟨F.vis, 0, none⟩)]
/-- The memory, the path's cell holding v. -/
structure SRv (F : Fx) (w : World) (s : St) (v : Value) : Prop where
  base : Below F.nx F.w1 w
  con : w.heap[F.on]? = some (.cells #[.map (some F.mOn)] 34 (0, 0))
  crk : w.heap[F.rk]? = some (.cells #[.map (some F.mRk)] 34 (0, 0))
  cnx : w.heap[F.nx]? = some (.cells #[.map (some F.mNx)] 38 (0, 0))
  cvis : w.heap[F.vis]? = some (.cells #[F.clo] 47 (0, 0))
  ccyc : w.heap[F.cyc]? = some (.cells #[.slice none 0 0] 24 (0, 0))
  cpath : w.heap[F.path]? = some (.cells #[v] 24 (0, 0))
  mon : MapI w F.mOn s.onN s.on
  mrk : MapI w F.mRk s.rkN s.rk
def SR (F : Fx) (w : World) (s : St) : Prop := ∃ v, SRv F w s v ∧ Row w F.nx v s.path
/-- What is left when a cycle has been found. -/
structure CycEnd (F : Fx) (w : World) (c : List Int) : Prop where
  base : Below F.nx F.w1 w
  cell : ∃ v, w.heap[F.cyc]? = some (.cells #[v] 24 (0, 0)) ∧ Row w F.nx v c

section
variable {F : Fx} {w w' : World} {s : St} {v : Value}
theorem SRv.move (h : SRv F w s v) (hb : Below F.nx w w') (hm : ∀ k, F.nx ≤ k → k ≤ F.nx + 7 → w'.heap[k]? = w.heap[k]?) (ok : F.Ok) : SRv F w' s v := by
  have e1 := ok.rk
  have e2 := ok.path
  have e3 := ok.on
  exact ⟨h.base.trans hb, (hm _ (by omega) (by omega)).trans h.con, (hm _ (by omega) (by omega)).trans h.crk, (hm _ (by omega) (by omega)).trans h.cnx, (hm _ (by omega) (by omega)).trans h.cvis, (hm _ (by omega) (by omega)).trans h.ccyc, (hm _ (by omega) (by omega)).trans h.cpath, h.mon.keep (hm _ (by omega) (by omega)), h.mrk.keep (hm _ (by omega) (by omega))⟩
theorem SRv.lt (h : SRv F w s v) (ok : F.Ok) : F.nx + 7 < w.heap.size := by
  have e3 := ok.on
  have := lt_of_block h.cvis
  omega
theorem SRv.alloc (h : SRv F w s v) (ok : F.Ok) (o : Obj) : SRv F (w.alloc o) s v :=
  h.move ((Below.refl _ _).alloc (by have := h.lt ok; omega) _) (fun k _ hk => Below.heap_alloc w o k (by have := h.lt ok; omega)) ok
/-- A row that is not one of the closure's own cells has been written (append). -/
theorem SRv.grown (h : SRv F w s v) (ok : F.Ok) {u : Value} {l : List Int} (hr : Row w F.nx u l) (hg : w.grownBy w' u.ownBlock) : SRv F w' s v := by
  have e1 := ok.rk
  have e2 := ok.path
  have e3 := ok.on
  have hlt := h.lt ok
  have typ : ∀ k, u.ownBlock = some k → ∃ cells, w.heap[k]? = some (.cells cells 3 (0, 0)) := fun k hk => hr.typed hk
  refine h.move ((Below.refl _ _).grown hg (by omega) (fun k hk => hr.base hk)) (fun k h0 h1 => hg.block k (by omega) (fun e => ?_)) ok
  obtain ⟨cells, hc⟩ := typ k e.symm
  have hk : k = F.nx ∨ k = F.mRk ∨ k = F.rk ∨ k = F.path ∨ k = F.cyc ∨ k = F.mOn ∨ k = F.on ∨ k = F.vis := by omega
  rcases hk with rfl | rfl | rfl | rfl | rfl | rfl | rfl | rfl
  · rw [h.cnx] at hc; injection hc with hc; injection hc with _ hc; cases hc
  · obtain ⟨D, ⟨es, clock, hb, _⟩, _⟩ := h.mrk
    rw [hb] at hc; cases hc
  · rw [h.crk] at hc; injection hc with hc; injection hc with _ hc; cases hc
  · rw [h.cpath] at hc; injection hc with hc; injection hc with _ hc; cases hc
  · rw [h.ccyc] at hc; injection hc with hc; injection hc with _ hc; cases hc
  · obtain ⟨D, ⟨es, clock, hb, _⟩, _⟩ := h.mon
    rw [hb] at hc; cases hc
  · rw [h.con] at hc; injection hc with hc; injection hc with _ hc; cases hc
  · rw [h.cvis] at hc; injection hc with hc; injection hc with _ hc; cases hc
/-- The path's cell is written. -/
theorem SRv.setPath (h : SRv F w s v) (ok : F.Ok) (u : Value) : SRv F (w.setCell ⟨F.path, 0, none⟩ u) s u := by
  have e1 := ok.rk
  have e2 := ok.path
  have e3 := ok.on
  have hm : ∀ k, k ≠ F.path → (w.setCell ⟨F.path, 0, none⟩ u).heap[k]? = w.heap[k]? := fun k hk => Below.heap_setCell w ⟨F.path, 0, none⟩ u k hk
  exact ⟨h.base.setCell (by show F.nx ≤ F.path; omega) _, (hm _ (by omega)).trans h.con, (hm _ (by omega)).trans h.crk, (hm _ (by omega)).trans h.cnx, (hm _ (by omega)).trans h.cvis, (hm _ (by omega)).trans h.ccyc, one_setCell h.cpath, h.mon.keep (hm _ (by omega)), h.mrk.keep (hm _ (by omega))⟩
theorem SRv.turnOn (h : SRv F w s v) (ok : F.Ok) {n : Nat} {g : Int → Option Int} (ht : w.mapTurned w' F.mOn) (hM : MapI w' F.mOn n g) : SRv F w' { s with on := g, onN := n } v := by
  have e1 := ok.rk
  have e2 := ok.path
  have e3 := ok.on
  have hm := turned_other ht
  exact ⟨turned_below ht h.base (by omega), (hm _ (by omega)).trans h.con, (hm _ (by omega)).trans h.crk, (hm _ (by omega)).trans h.cnx, (hm _ (by omega)).trans h.cvis, (hm _ (by omega)).trans h.ccyc, (hm _ (by omega)).trans h.cpath, hM, h.mrk.keep (hm _ (by omega))⟩
theorem SRv.turnRk (h : SRv F w s v) (ok : F.Ok) {n : Nat} {g : Int → Option Int} (ht : w.mapTurned w' F.mRk) (hM : MapI w' F.mRk n g) : SRv F w' { s with rk := g, rkN := n } v := by
  have e1 := ok.rk
  have e2 := ok.path
  have e3 := ok.on
  have hm := turned_other ht
  exact ⟨turned_below ht h.base (by omega), (hm _ (by omega)).trans h.con, (hm _ (by omega)).trans h.crk, (hm _ (by omega)).trans h.cnx, (hm _ (by omega)).trans h.cvis, (hm _ (by omega)).trans h.ccyc, (hm _ (by omega)).trans h.cpath, h.mon.keep (hm _ (by omega)), hM⟩
theorem SRv.path' (h : SRv F w s v) (l : List Int) : SRv F w { s with path := l } v := ⟨h.base, h.con, h.crk, h.cnx, h.cvis, h.ccyc, h.cpath, h.mon, h.mrk⟩
end
theorem at_alloc (w : World) (o : Obj) (k : Nat) : (w.alloc o).heap[k]? = if k = w.heap.size then some o else w.heap[k]? := by
  show (w.heap.push o)[k]? = _
  rw [Array.getElem?_push]
theorem size_alloc (w : World) (o : Obj) : (w.alloc o).heap.size = w.heap.size + 1 := Array.size_push ..
/-- The memory as loops.search lays it. -/
theorem init (w1 : World) (b B m : Nat) (G : Int → List Int) (hg : GrI w1 B b m G) (hm : m ≤ 1000000) (h : Nat) (hh : h = w1.heap.size) : ∃ F : Fx, F.Ok ∧ F.w1 = w1 ∧ F.G = G ∧ h = F.nx ∧ h + 1 + 1 = F.rk ∧ h + 1 + 1 + 1 = F.path ∧ h + 1 + 1 + 1 + 1 = F.cyc ∧ h + 1 + 1 + 1 + 1 + 1 + 1 = F.on ∧ h + 1 + 1 + 1 + 1 + 1 + 1 + 1 = F.vis ∧ h + 1 = F.mRk ∧ h + 1 + 1 + 1 + 1 + 1 = F.mOn ∧
    SR F ((((((((w1.alloc (.cells #[.map (some b)] 38)).alloc (.map #[] 0)).alloc (.cells #[.map (some (h + 1))] 34)).alloc (.cells #[.slice none 0 0] 24)).alloc (.cells #[.slice none 0 0] 24)).alloc (.map #[] 0)).alloc (.cells #[.map (some (h + 1 + 1 + 1 + 1 + 1))] 34)).alloc
      (.cells #[.func (.func 28) #[] #[.pointer (some ⟨h + 1 + 1 + 1 + 1 + 1 + 1, 0, none⟩), .pointer (some ⟨h + 1 + 1 + 1, 0, none⟩), .pointer (some ⟨h + 1 + 1 + 1 + 1, 0, none⟩), .pointer (some ⟨h + 1 + 1, 0, none⟩), .pointer (some ⟨h, 0, none⟩), .pointer (some ⟨h + 1 + 1 + 1 + 1 + 1 + 1 + 1, 0, none⟩)]] 47)) Lp.start := by
  refine ⟨⟨h, h + 1, h + 1 + 1, h + 1 + 1 + 1, h + 1 + 1 + 1 + 1, h + 1 + 1 + 1 + 1 + 1, h + 1 + 1 + 1 + 1 + 1 + 1, h + 1 + 1 + 1 + 1 + 1 + 1 + 1, b, B, m, w1, G⟩, ⟨⟨rfl, rfl⟩, ⟨rfl, rfl⟩, ⟨rfl, rfl, rfl⟩, hh.symm, hg, hm⟩, rfl, rfl, rfl, rfl, rfl, rfl, rfl, rfl, rfl, rfl, .slice none 0 0, ?_, Kd.R_nil _ _ _ _ _⟩
  have mk : ∀ (w : World) (k : Nat), k = w.heap.size → MapI (w.alloc (.map #[] 0)) k 0 (fun _ => none) := fun w k e => by rw [e]; exact MapI.made w
  refine ⟨?_, ?_, ?_, ?_, ?_, ?_, ?_, ?_, ?_⟩
  · show Below h w1 _
    rw [hh]
    repeat (first | exact Below.refl _ _ | refine Below.alloc ?_ (by (try simp only [size_alloc]); omega) _)
  · simp only [at_alloc, size_alloc, ← hh]; simp
  · simp only [at_alloc, size_alloc, ← hh]; simp
  · simp only [at_alloc, size_alloc, ← hh]; simp; (repeat rw [if_neg (by omega)])
  · simp only [at_alloc, size_alloc, ← hh]; simp [Fx.clo]
  · simp only [at_alloc, size_alloc, ← hh]; simp
  · simp only [at_alloc, size_alloc, ← hh]; simp
  · refine (mk _ _ (by simp only [size_alloc, ← hh])).keep ?_ (w := ((((w1.alloc (.cells #[.map (some b)] 38)).alloc (.map #[] 0)).alloc (.cells #[.map (some (h + 1))] 34)).alloc (.cells #[.slice none 0 0] 24)).alloc (.cells #[.slice none 0 0] 24) |>.alloc (.map #[] 0))
    simp only [at_alloc, size_alloc, ← hh]; simp
  · refine (mk _ _ (by simp only [size_alloc, ← hh])).keep ?_ (w := (w1.alloc (.cells #[.map (some b)] 38)).alloc (.map #[] 0))
    simp only [at_alloc, size_alloc, ← hh]; simp
end Go.Proofs.Ytfkoepdakghpjaa.Sr
