/- loops.Parts' closure: its memory. -/
import Derived.Test.YtfkoepdakghpjaaTp
import Derived.Test.YtfkoepdakghpjaaSr
namespace Go.Proofs.Ytfkoepdakghpjaa.Tr
open Go Go.RowKit Go.Proofs.YtfkoepdakghpjaaW.PrintWords Go.Proofs.YtfkoepdakghpjaaW.PrintLast Go.Proofs.YtfkoepdakghpjaaW.PrintMore Go.Proofs.Ytfkoepdakghpjaa.Mp Go.Proofs.Ytfkoepdakghpjaa.Tp
set_option linter.unusedVariables false
set_option linter.unusedSimpArgs false

structure Fx where
  nx : Nat
  mNum : Nat
  mLow : Nat
  num : Nat
  low : Nat
  stk : Nat
  mPart : Nat
  part : Nat
  vis : Nat
  mNx : Nat
  bNx : Nat
  nNx : Nat
  w1 : World
  G : Int → List Int
structure Fx.Ok (F : Fx) : Prop where
  maps : F.mNum = F.nx + 1 ∧ F.mLow = F.nx + 2 ∧ F.mPart = F.nx + 6
  cells : F.num = F.nx + 3 ∧ F.low = F.nx + 4 ∧ F.stk = F.nx + 5 ∧ F.part = F.nx + 7 ∧ F.vis = F.nx + 8
  base : F.w1.heap.size = F.nx
  graph : GrI F.w1 F.bNx F.mNx F.nNx F.G
  small : F.nNx ≤ 1000000
def Fx.clo (F : Fx) : Value := .func (.func 22) #[] #[.pointer (some ⟨F.num, 0, none⟩), .pointer (some ⟨F.low, 0, none⟩), .pointer (some ⟨F.stk, 0, none⟩), .pointer (some ⟨F.nx, 0, none⟩), .pointer (some ⟨F.vis, 0, none⟩), .pointer (some ⟨F.part, 0, none⟩)]
structure TRv (F : Fx) (w : World) (s : St) (v : Value) : Prop where
  base : Below F.nx F.w1 w
  cnum : w.heap[F.num]? = some (.cells #[.map (some F.mNum)] 34 (0, 0))
  clow : w.heap[F.low]? = some (.cells #[.map (some F.mLow)] 34 (0, 0))
  cpart : w.heap[F.part]? = some (.cells #[.map (some F.mPart)] 34 (0, 0))
  cnx : w.heap[F.nx]? = some (.cells #[.map (some F.mNx)] 38 (0, 0))
  cvis : w.heap[F.vis]? = some (.cells #[F.clo] 40 (0, 0))
  cstk : w.heap[F.stk]? = some (.cells #[v] 24 (0, 0))
  mnum : MapI w F.mNum s.numN s.num
  mlow : MapI w F.mLow s.lowN s.low
  mpart : MapI w F.mPart s.partN s.part
def TR (F : Fx) (w : World) (s : St) : Prop := (∃ v, TRv F w s v ∧ Row w F.nx v s.stack) ∧ ∀ y ∈ s.stack, Wf y

section
variable {F : Fx} {w w' : World} {s : St} {v : Value}
theorem TRv.move (h : TRv F w s v) (hb : Below F.nx w w') (hm : ∀ k, F.nx ≤ k → k ≤ F.nx + 8 → w'.heap[k]? = w.heap[k]?) (ok : F.Ok) : TRv F w' s v := by
  have e1 := ok.maps
  have e2 := ok.cells
  exact ⟨h.base.trans hb, (hm _ (by omega) (by omega)).trans h.cnum, (hm _ (by omega) (by omega)).trans h.clow, (hm _ (by omega) (by omega)).trans h.cpart, (hm _ (by omega) (by omega)).trans h.cnx, (hm _ (by omega) (by omega)).trans h.cvis, (hm _ (by omega) (by omega)).trans h.cstk, h.mnum.keep (hm _ (by omega) (by omega)), h.mlow.keep (hm _ (by omega) (by omega)), h.mpart.keep (hm _ (by omega) (by omega))⟩
theorem TRv.lt (h : TRv F w s v) (ok : F.Ok) : F.nx + 8 < w.heap.size := by
  have e2 := ok.cells
  have := lt_of_block h.cvis
  omega
theorem TRv.alloc (h : TRv F w s v) (ok : F.Ok) (o : Obj) : TRv F (w.alloc o) s v :=
  h.move ((Below.refl _ _).alloc (by have := h.lt ok; omega) _) (fun k _ hk => Below.heap_alloc w o k (by have := h.lt ok; omega)) ok
theorem TRv.grown (h : TRv F w s v) (ok : F.Ok) {u : Value} {l : List Int} (hr : Row w F.nx u l) (hg : w.grownBy w' u.ownBlock) : TRv F w' s v := by
  have e1 := ok.maps
  have e2 := ok.cells
  have hlt := h.lt ok
  have typ : ∀ k, u.ownBlock = some k → ∃ cells, w.heap[k]? = some (.cells cells 3 (0, 0)) := fun k hk => hr.typed hk
  refine h.move ((Below.refl _ _).grown hg (by omega) (fun k hk => hr.base hk)) (fun k h0 h1 => hg.block k (by omega) (fun e => ?_)) ok
  obtain ⟨cells, hc⟩ := typ k e.symm
  have hk : k = F.nx ∨ k = F.mNum ∨ k = F.mLow ∨ k = F.num ∨ k = F.low ∨ k = F.stk ∨ k = F.mPart ∨ k = F.part ∨ k = F.vis := by omega
  rcases hk with rfl | rfl | rfl | rfl | rfl | rfl | rfl | rfl | rfl
  · rw [h.cnx] at hc; injection hc with hc; injection hc with _ hc; cases hc
  · obtain ⟨D, ⟨es, clock, hb, _⟩, _⟩ := h.mnum
    rw [hb] at hc; cases hc
  · obtain ⟨D, ⟨es, clock, hb, _⟩, _⟩ := h.mlow
    rw [hb] at hc; cases hc
  · rw [h.cnum] at hc; injection hc with hc; injection hc with _ hc; cases hc
  · rw [h.clow] at hc; injection hc with hc; injection hc with _ hc; cases hc
  · rw [h.cstk] at hc; injection hc with hc; injection hc with _ hc; cases hc
  · obtain ⟨D, ⟨es, clock, hb, _⟩, _⟩ := h.mpart
    rw [hb] at hc; cases hc
  · rw [h.cpart] at hc; injection hc with hc; injection hc with _ hc; cases hc
  · rw [h.cvis] at hc; injection hc with hc; injection hc with _ hc; cases hc
theorem TRv.setStk (h : TRv F w s v) (ok : F.Ok) (u : Value) : TRv F (w.setCell ⟨F.stk, 0, none⟩ u) s u := by
  have e1 := ok.maps
  have e2 := ok.cells
  have hm : ∀ k, k ≠ F.stk → (w.setCell ⟨F.stk, 0, none⟩ u).heap[k]? = w.heap[k]? := fun k hk => Below.heap_setCell w ⟨F.stk, 0, none⟩ u k hk
  exact ⟨h.base.setCell (by show F.nx ≤ F.stk; omega) _, (hm _ (by omega)).trans h.cnum, (hm _ (by omega)).trans h.clow, (hm _ (by omega)).trans h.cpart, (hm _ (by omega)).trans h.cnx, (hm _ (by omega)).trans h.cvis, one_setCell h.cstk, h.mnum.keep (hm _ (by omega)), h.mlow.keep (hm _ (by omega)), h.mpart.keep (hm _ (by omega))⟩
theorem TRv.turnNum (h : TRv F w s v) (ok : F.Ok) {n : Nat} {g : Int → Option Int} (ht : w.mapTurned w' F.mNum) (hM : MapI w' F.mNum n g) : TRv F w' { s with num := g, numN := n } v := by
  have e1 := ok.maps
  have e2 := ok.cells
  have hm := turned_other ht
  exact ⟨turned_below ht h.base (by omega), (hm _ (by omega)).trans h.cnum, (hm _ (by omega)).trans h.clow, (hm _ (by omega)).trans h.cpart, (hm _ (by omega)).trans h.cnx, (hm _ (by omega)).trans h.cvis, (hm _ (by omega)).trans h.cstk, hM, h.mlow.keep (hm _ (by omega)), h.mpart.keep (hm _ (by omega))⟩
theorem TRv.turnLow (h : TRv F w s v) (ok : F.Ok) {n : Nat} {g : Int → Option Int} (ht : w.mapTurned w' F.mLow) (hM : MapI w' F.mLow n g) : TRv F w' { s with low := g, lowN := n } v := by
  have e1 := ok.maps
  have e2 := ok.cells
  have hm := turned_other ht
  exact ⟨turned_below ht h.base (by omega), (hm _ (by omega)).trans h.cnum, (hm _ (by omega)).trans h.clow, (hm _ (by omega)).trans h.cpart, (hm _ (by omega)).trans h.cnx, (hm _ (by omega)).trans h.cvis, (hm _ (by omega)).trans h.cstk, h.mnum.keep (hm _ (by omega)), hM, h.mpart.keep (hm _ (by omega))⟩
theorem TRv.turnPart (h : TRv F w s v) (ok : F.Ok) {n : Nat} {g : Int → Option Int} (ht : w.mapTurned w' F.mPart) (hM : MapI w' F.mPart n g) : TRv F w' { s with part := g, partN := n } v := by
  have e1 := ok.maps
  have e2 := ok.cells
  have hm := turned_other ht
  exact ⟨turned_below ht h.base (by omega), (hm _ (by omega)).trans h.cnum, (hm _ (by omega)).trans h.clow, (hm _ (by omega)).trans h.cpart, (hm _ (by omega)).trans h.cnx, (hm _ (by omega)).trans h.cvis, (hm _ (by omega)).trans h.cstk, h.mnum.keep (hm _ (by omega)), h.mlow.keep (hm _ (by omega)), hM⟩
theorem TRv.stack' (h : TRv F w s v) (l : List Int) : TRv F w { s with stack := l } v := ⟨h.base, h.cnum, h.clow, h.cpart, h.cnx, h.cvis, h.cstk, h.mnum, h.mlow, h.mpart⟩
theorem at0_wf {b n : Nat} {g : Int → Option Int} (h : MapI w b n g) (x : Int) : Wf (at0 g x) := by
  unfold at0
  cases hx : g x with
  | none => exact (wf_of (by omega) (by omega) : Wf 0)
  | some v => exact h.wf hx
theorem mn_wf {a b : Int} (ha : Wf a) (hb : Wf b) : Wf (mn a b) := by
  unfold mn
  split
  · exact hb
  · exact ha
/-- low[x] is written. -/
theorem TR.setLow (h : TR F w s) (ok : F.Ok) (hs : s.small) {x v : Int} (hx : Wf x) (hv : Wf v) :
    ∃ w', (Instr.mapUpdate 34 (.map (some F.mLow)) (.int .i64 x) (.int .i64 v)).run Try.prog w = .ok () w' ∧ TR F w' (s.setLow x v) := by
  obtain ⟨⟨u, h1, h2⟩, h3⟩ := h
  obtain ⟨w', hr, hM, ht⟩ := h1.mlow.store hx hv (by have := hs.2.1; omega)
  exact ⟨w', hr, ⟨u, h1.turnLow ok ht hM, h2.turned ht⟩, h3⟩
end
open Go.Proofs.Ytfkoepdakghpjaa.Sr (at_alloc size_alloc)
/-- The memory as loops.Parts lays it. -/
theorem init (w1 : World) (b B m : Nat) (G : Int → List Int) (hg : GrI w1 B b m G) (hm : m ≤ 1000000) (h : Nat) (hh : h = w1.heap.size) : ∃ F : Fx, F.Ok ∧ F.w1 = w1 ∧ F.G = G ∧ h = F.nx ∧ h + 1 = F.mNum ∧ h + 1 + 1 = F.mLow ∧ h + 1 + 1 + 1 = F.num ∧ h + 1 + 1 + 1 + 1 = F.low ∧ h + 1 + 1 + 1 + 1 + 1 = F.stk ∧ h + 1 + 1 + 1 + 1 + 1 + 1 = F.mPart ∧ h + 1 + 1 + 1 + 1 + 1 + 1 + 1 = F.part ∧ h + 1 + 1 + 1 + 1 + 1 + 1 + 1 + 1 = F.vis ∧
    TR F (((((((((w1.alloc (.cells #[.map (some b)] 38)).alloc (.map #[] 0)).alloc (.map #[] 0)).alloc (.cells #[.map (some (h + 1))] 34)).alloc (.cells #[.map (some (h + 1 + 1))] 34)).alloc (.cells #[.slice none 0 0] 24)).alloc (.map #[] 0)).alloc (.cells #[.map (some (h + 1 + 1 + 1 + 1 + 1 + 1))] 34)).alloc
      (.cells #[.func (.func 22) #[] #[.pointer (some ⟨h + 1 + 1 + 1, 0, none⟩), .pointer (some ⟨h + 1 + 1 + 1 + 1, 0, none⟩), .pointer (some ⟨h + 1 + 1 + 1 + 1 + 1, 0, none⟩), .pointer (some ⟨h, 0, none⟩), .pointer (some ⟨h + 1 + 1 + 1 + 1 + 1 + 1 + 1 + 1, 0, none⟩), .pointer (some ⟨h + 1 + 1 + 1 + 1 + 1 + 1 + 1, 0, none⟩)]] 40)) Tp.start := by
  refine ⟨⟨h, h + 1, h + 1 + 1, h + 1 + 1 + 1, h + 1 + 1 + 1 + 1, h + 1 + 1 + 1 + 1 + 1, h + 1 + 1 + 1 + 1 + 1 + 1, h + 1 + 1 + 1 + 1 + 1 + 1 + 1, h + 1 + 1 + 1 + 1 + 1 + 1 + 1 + 1, b, B, m, w1, G⟩, ⟨⟨rfl, rfl, rfl⟩, ⟨rfl, rfl, rfl, rfl, rfl⟩, hh.symm, hg, hm⟩, rfl, rfl, rfl, rfl, rfl, rfl, rfl, rfl, rfl, rfl, rfl, ⟨.slice none 0 0, ?_, Kd.R_nil _ _ _ _ _⟩, fun y hy => by cases hy⟩
  have mk : ∀ (w : World) (k : Nat), k = w.heap.size → MapI (w.alloc (.map #[] 0)) k 0 (fun _ => none) := fun w k e => by rw [e]; exact MapI.made w
  refine ⟨?_, ?_, ?_, ?_, ?_, ?_, ?_, ?_, ?_, ?_⟩
  · show Below h w1 _
    rw [hh]
    repeat (first | exact Below.refl _ _ | refine Below.alloc ?_ (by (try simp only [size_alloc]); omega) _)
  · simp only [at_alloc, size_alloc, ← hh]; simp
  · simp only [at_alloc, size_alloc, ← hh]; simp
  · simp only [at_alloc, size_alloc, ← hh]; simp
  · simp only [at_alloc, size_alloc, ← hh]; simp; (repeat rw [if_neg (by omega)])
  · simp only [at_alloc, size_alloc, ← hh]; simp [Fx.clo]
  · simp only [at_alloc, size_alloc, ← hh]; simp
  · refine (mk _ _ (by simp only [size_alloc, ← hh])).keep ?_ (w := (w1.alloc (.cells #[.map (some b)] 38)).alloc (.map #[] 0))
    simp only [at_alloc, size_alloc, ← hh]; simp
  · refine (mk _ _ (by simp only [size_alloc, ← hh])).keep ?_ (w := ((w1.alloc (.cells #[.map (some b)] 38)).alloc (.map #[] 0)).alloc (.map #[] 0))
    simp only [at_alloc, size_alloc, ← hh]; simp
  · refine (mk _ _ (by simp only [size_alloc, ← hh])).keep ?_ (w := ((((((w1.alloc (.cells #[.map (some b)] 38)).alloc (.map #[] 0)).alloc (.map #[] 0)).alloc (.cells #[.map (some (h + 1))] 34)).alloc (.cells #[.map (some (h + 1 + 1))] 34)).alloc (.cells #[.slice none 0 0] 24)).alloc (.map #[] 0))
    simp only [at_alloc, size_alloc, ← hh]; simp
end Go.Proofs.Ytfkoepdakghpjaa.Tr
