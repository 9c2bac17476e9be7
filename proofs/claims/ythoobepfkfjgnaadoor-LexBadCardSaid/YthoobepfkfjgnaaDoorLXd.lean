import Derived.Test.YthoobepfkfjgnaaDoorPLx0
import Derived.Test.YthoobepfkfjgnaaDoorLXc
import Derived.Test.YthoobepfkfjgnaaDoorLexW
import Derived.Lib.SmallJoins
import Derived.WalkLawsBesides
import Derived.Outline
import Derived.StillTailTactics
import Derived.Test.YthoobepfkfjgnaaDoorMore
import Derived.LaidEql
import Derived.Stop.Asserts
import Derived.RowKitTokens
namespace Go.Proofs.YthoobepfkfjgnaaDoor.PL
open Go.RowKit Go.Proofs.YthoobepfkfjgnaaDoorW.PrintWords Go.Proofs.YthoobepfkfjgnaaDoorW.PrintLast Go.Proofs.YthoobepfkfjgnaaDoorW.PrintMore
attribute [local go_sem] max2_int min2_int max_two min_two max_three min_three max_four min_four
set_option linter.unusedVariables false
set_option linter.unusedSimpArgs false
-- GIVEN plain making
section
open Go.Extern.Stop Go.Stop Go.Extern
/-- errors.As(nil, target). -/
theorem LexA.as_nil (t : Value) (w : World) :
    Calls Tryd.prog 18 #[.nilIface, t] w fun e w' => e = .returned (.bool false) ∧ w' = w := by
  go_enter Tryd.func18, Tryd.ntmps18
  go_wp2
  go_ret
  exact ⟨rfl, rfl⟩

/-! ### CLOSED FACTS ON THE MODEL's ENTRIES FOR internal/reflectlite, at this program's types: 25: *p.E · 27: **p.E · 23: error · 45: reflectlite's rtype · 1: how many package-level variables the dump has -/
theorem LexA.valueOf27 (t : Addr) (w : World) : (ReflectliteValue.unpack (.iface 54 (.pointer (some t)))).run Tryd.prog w
    = .ok (.agg #[.pointer (some ⟨2, 54, none⟩), .pointer (some ⟨w.heap.size, 0, none⟩), .int .u64 150]) (w.alloc (.cells #[.pointer (some t)] 54)) := by kernel_rfl
theorem LexA.type27 (a : Addr) (w : World) : (ReflectliteValue.methodAny (ReflectliteValue.valueError "reflectlite.Value.Type" 0) (fun t _ _ _ => ReflectliteType.toType t) #[.agg #[.pointer (some ⟨2, 54, none⟩), .pointer (some a), .int .u64 150]]).run Tryd.prog w
    = .ok (.iface 98 (.agg #[.pointer (some ⟨2, 54, none⟩)])) w := by kernel_rfl
theorem LexA.methodKind (h : Value) (w : World) : (Go.method 254 98 (.agg #[h]) "Kind").run Tryd.prog w = .ok (84, h) w := by kernel_rfl
theorem LexA.kind27 (w : World) : ((ReflectliteType.abiMethod fun t => (fun a : Nat => Value.int IntKind.u8 (a : Int)) <$> Rtype.kind t) #[.pointer (some ⟨2, 54, none⟩)]).run Tryd.prog w = .ok (.int .u8 22) w := by kernel_rfl
theorem LexA.kind25 (w : World) : ((ReflectliteType.abiMethod fun t => (fun a : Nat => Value.int IntKind.u8 (a : Int)) <$> Rtype.kind t) #[.pointer (some ⟨2, 52, none⟩)]).run Tryd.prog w = .ok (.int .u8 22) w := by kernel_rfl

/-! ### THE ENTRIES THAT READ OR WRITE MEMORY: laws with a premise on the cell (after Derived/Lib/ReflectliteSlice.lean's manner: each unfolding a lemma of its own, by rfl) -/
theorem LexA.rlm (z : Sem Value) (f : TypeId → Addr → Nat → Nat → Sem Value) (v : Value) :
    ReflectliteValue.method z f #[v] = (do match ← ReflectliteValue.parts v with | none => z | some (t, a, fl) => f t a fl (fl % 32)) := rfl
theorem LexA.parts27 (a : Addr) (w : World) : (ReflectliteValue.parts (.agg #[.pointer (some ⟨2, 54, none⟩), .pointer (some a), .int .u64 150])).run Tryd.prog w = .ok (some (54, a, 150)) w := by kernel_rfl
/-- (Value).IsNil at the Value of a **p.E that is not nil. -/
theorem LexA.isNil27 (a p : Addr) (W : World) (ha : W.cell? a = some (.pointer (some p))) :
    (ReflectliteValue.method (ReflectliteValue.valueError "reflectlite.Value.IsNil" 0) ReflectliteValue.isNil #[.agg #[.pointer (some ⟨2, 54, none⟩), .pointer (some a), .int .u64 150]]).run Tryd.prog W = .ok (.bool false) W := by
  rw [LexA.rlm]
  simp only [Sem.run_bind, LexA.parts27, Result.andThen]
  simp [ReflectliteValue.isNil, loadVar, isAgg, underlying, Tryd.underlying54, ha, Result.andThen]

theorem LexA.methodElem (h : Value) (w : World) : (Go.method 254 98 (.agg #[h]) "Elem").run Tryd.prog w = .ok (94, .agg #[h]) w := by kernel_rfl
theorem LexA.methodImplements (h : Value) (w : World) : (Go.method 254 98 (.agg #[h]) "Implements").run Tryd.prog w = .ok (95, .agg #[h]) w := by kernel_rfl
theorem LexA.methodAssignableTo (h : Value) (w : World) : (Go.method 254 98 (.agg #[h]) "AssignableTo").run Tryd.prog w = .ok (92, .agg #[h]) w := by kernel_rfl
theorem LexA.elem27 (w : World) : (ReflectliteType.method ReflectliteType.elem #[.agg #[.pointer (some ⟨2, 54, none⟩)]]).run Tryd.prog w = .ok (.iface 98 (.agg #[.pointer (some ⟨2, 52, none⟩)])) w := by kernel_rfl
theorem LexA.implements25 (w : World) : (ReflectliteType.relation "Implements" ReflectliteType.implements_ #[.agg #[.pointer (some ⟨2, 52, none⟩)], .iface 98 (.agg #[.pointer (some ⟨2, 46, none⟩)])]).run Tryd.prog w = .ok (.bool true) w := by kernel_rfl
theorem LexA.typeOf25 (v : Value) (w : World) : (ReflectliteType.typeOf #[.iface 52 v]).run Tryd.prog w = .ok (.iface 98 (.agg #[.pointer (some ⟨2, 52, none⟩)])) w := by kernel_rfl
theorem LexA.assignable25 (w : World) : (ReflectliteType.relation "AssignableTo" ReflectliteType.assignableTo #[.agg #[.pointer (some ⟨2, 52, none⟩)], .iface 98 (.agg #[.pointer (some ⟨2, 52, none⟩)])]).run Tryd.prog w = .ok (.bool true) w := by kernel_rfl
theorem LexA.valueOf25 (e : Addr) (w : World) : (ReflectliteValue.unpack (.iface 52 (.pointer (some e)))).run Tryd.prog w
    = .ok (.agg #[.pointer (some ⟨2, 52, none⟩), .pointer (some ⟨w.heap.size, 0, none⟩), .int .u64 150]) (w.alloc (.cells #[.pointer (some e)] 52)) := by kernel_rfl

theorem LexA.elemOf27 (w : World) : (Rtype.elem? 54).run Tryd.prog w = .ok (some 52) w := by kernel_rfl
theorem LexA.mk25 (p : Addr) (w : World) : (ReflectliteValue.mk 52 p ReflectliteValue.flagAddr).run Tryd.prog w = .ok (.agg #[.pointer (some ⟨2, 52, none⟩), .pointer (some p), .int .u64 406]) w := by kernel_rfl
/-- (Value).Elem at the Value of a **p.E that is not nil: the Value of the *p.E variable that it points to, addressable. -/
theorem LexA.elemV27 (a p : Addr) (W : World) (ha : W.cell? a = some (.pointer (some p))) :
    (ReflectliteValue.method (ReflectliteValue.valueError "reflectlite.Value.Elem" 0) ReflectliteValue.elem #[.agg #[.pointer (some ⟨2, 54, none⟩), .pointer (some a), .int .u64 150]]).run Tryd.prog W
      = .ok (.agg #[.pointer (some ⟨2, 52, none⟩), .pointer (some p), .int .u64 406]) W := by
  rw [LexA.rlm]
  simp only [Sem.run_bind, LexA.parts27, Result.andThen]
  simp [ReflectliteValue.elem, loadVar, isAgg, underlying, Tryd.underlying54, ha, Result.andThen, LexA.elemOf27, LexA.mk25]
theorem LexA.rls (v x : Value) : ReflectliteValue.set #[v, x] = (do
    let (some (dst, a, fl), some (src, b, _)) := (← ReflectliteValue.parts v, ← ReflectliteValue.parts x)
      | unsupported (.noEntry "extern/(internal/reflectlite.Value).Set.zeroValue")
    if fl / ReflectliteValue.flagAddr % 2 == 0 then unsupported (.noEntry "extern/(internal/reflectlite.Value).Set.unaddressable")
    let val ← loadVar src b
    if ← Rtype.directlyAssignable dst src then storeVar dst a val
    else if ← Rtype.implements dst src then
      if (← Rtype.kind src) == 20 then
        match val with
        | .nilIface => unsupported (.noEntry "extern/reflectlite: a nil value of one interface type handed on as a value of another")
        | _ => storeVar dst a val
      else storeVar dst a (.iface src val)
    else panicString ("reflectlite.Set: value of type " ++ (← Rtype.spelt src) ++ " is not assignable to type " ++ (← Rtype.spelt dst))
    pure (.tuple #[])) := rfl
theorem LexA.parts25a (a : Addr) (w : World) : (ReflectliteValue.parts (.agg #[.pointer (some ⟨2, 52, none⟩), .pointer (some a), .int .u64 406])).run Tryd.prog w = .ok (some (52, a, 406)) w := by kernel_rfl
theorem LexA.parts25 (a : Addr) (w : World) : (ReflectliteValue.parts (.agg #[.pointer (some ⟨2, 52, none⟩), .pointer (some a), .int .u64 150])).run Tryd.prog w = .ok (some (52, a, 150)) w := by kernel_rfl
theorem LexA.direct25 (w : World) : (Rtype.directlyAssignable 52 52).run Tryd.prog w = .ok true w := by kernel_rfl
theorem LexA.size25 (w : World) : (sizeOf 52).run Tryd.prog w = .ok 1 w := by kernel_rfl
/-- (Value).Set: the *p.E variable at 'ta' gets what the Value's own variable 'b' holds. -/
theorem LexA.set25 (ta b e : Addr) (old : Value) (W : World) (hb : W.cell? b = some (.pointer (some e))) (ht : W.cell? ta = some old) (hf : W.frozen? ta = false) :
    (ReflectliteValue.set #[.agg #[.pointer (some ⟨2, 52, none⟩), .pointer (some ta), .int .u64 406], .agg #[.pointer (some ⟨2, 52, none⟩), .pointer (some b), .int .u64 150]]).run Tryd.prog W
      = .ok (.tuple #[]) (W.setCell ta (.pointer (some e))) := by
  rw [LexA.rls]
  simp only [Sem.run_bind, LexA.parts25a, LexA.parts25, Result.andThen]
  simp [ReflectliteValue.flagAddr, loadVar, isAgg, underlying, Tryd.underlying52, hb, Result.andThen, LexA.direct25, storeVar, Value.cells, storeCells, Addr.add]
  rw [run_store Tryd.prog W ta _ _ (by rfl)]
  simp [ht, hf]

set_option maxHeartbeats 4000000 in
theorem LexA.as_hit (e t : Addr) (old : Value) (w : World) (hg : w.cell? ⟨0, 0, none⟩ = some (.iface 98 (.agg #[.pointer (some ⟨2, 46, none⟩)]))) (ht0 : w.cell? t = some old) (hf0 : w.frozen? t = false) :
    Calls Tryd.prog 18 #[.iface 52 (.pointer (some e)), .iface 54 (.pointer (some t))] w fun ev w' => ev = .returned (.bool true) ∧ w' = ((((w.alloc (.cells #[.pointer (some t)] 54)).alloc (.cells #[.pointer (some ⟨2, 54, none⟩), .pointer (some ⟨w.heap.size, 0, none⟩), .int .u64 150] 77)).alloc (.cells #[.pointer (some ⟨2, 54, none⟩), .pointer (some ⟨w.heap.size, 0, none⟩), .int .u64 150] 77)).alloc (.cells #[.pointer (some e)] 52)).setCell t (.pointer (some e)) := by
  have h6 := @run_callFunc_extern Tryd.prog 34 _ (fun args => ReflectliteValue.unpack (args.getD 0 (.tuple #[]))) Tryd.func34 (by kernel_rfl) (by kernel_rfl) (by kernel_rfl) (by kernel_rfl)
  have h7 := @run_callFunc_extern Tryd.prog 35 _ (ReflectliteValue.methodAny (ReflectliteValue.valueError "reflectlite.Value.Type" 0) (fun t _ _ _ => ReflectliteType.toType t)) Tryd.func35 (by kernel_rfl) (by kernel_rfl) (by kernel_rfl) (by kernel_rfl)
  have h8 := @run_callFunc_extern Tryd.prog 36 _ (ReflectliteValue.method (ReflectliteValue.valueError "reflectlite.Value.IsNil" 0) ReflectliteValue.isNil) Tryd.func36 (by kernel_rfl) (by kernel_rfl) (by kernel_rfl) (by kernel_rfl)
  have h27 := @run_callFunc_extern Tryd.prog 84 _ (ReflectliteType.abiMethod fun t => do pure (.int .u8 (← Rtype.kind t))) Tryd.func84 (by kernel_rfl) (by kernel_rfl) (by kernel_rfl) (by kernel_rfl)
  have h37 := @run_callFunc_extern Tryd.prog 94 _ (ReflectliteType.method ReflectliteType.elem) Tryd.func94 (by kernel_rfl) (by kernel_rfl) (by kernel_rfl) (by kernel_rfl)
  have h38 := @run_callFunc_extern Tryd.prog 95 _ (ReflectliteType.relation "Implements" ReflectliteType.implements_) Tryd.func95 (by kernel_rfl) (by kernel_rfl) (by kernel_rfl) (by kernel_rfl)
  have h10 := @run_callFunc_extern Tryd.prog 50 _ ReflectliteType.typeOf Tryd.func50 (by kernel_rfl) (by kernel_rfl) (by kernel_rfl) (by kernel_rfl)
  have h35 := @run_callFunc_extern Tryd.prog 92 _ (ReflectliteType.relation "AssignableTo" ReflectliteType.assignableTo) Tryd.func92 (by kernel_rfl) (by kernel_rfl) (by kernel_rfl) (by kernel_rfl)
  have h11 := @run_callFunc_extern Tryd.prog 51 _ (ReflectliteValue.method (ReflectliteValue.valueError "reflectlite.Value.Elem" 0) ReflectliteValue.elem) Tryd.func51 (by kernel_rfl) (by kernel_rfl) (by kernel_rfl) (by kernel_rfl)
  have h12 := @run_callFunc_extern Tryd.prog 52 _ ReflectliteValue.set Tryd.func52 (by kernel_rfl) (by kernel_rfl) (by kernel_rfl) (by kernel_rfl)
  have tO := LexA.typeOf25
  have mA := LexA.methodAssignableTo
  have a25 := LexA.assignable25
  have v25 := LexA.valueOf25
  have f6 := LexA.valueOf27
  have f7 := LexA.type27
  have mK := LexA.methodKind
  have mE := LexA.methodElem
  have mI := LexA.methodImplements
  have k27 := LexA.kind27
  have k25 := LexA.kind25
  have e27 := LexA.elem27
  have i25 := LexA.implements25
  have n8 := LexA.isNil27 ⟨w.heap.size, 0, none⟩ t ((w.alloc (.cells #[.pointer (some t)] 54)).alloc (.cells #[.pointer (some ⟨2, 54, none⟩), .pointer (some ⟨w.heap.size, 0, none⟩), .int .u64 150] 77)) (by simp)
  have hlt : 0 < w.heap.size := by
    rcases Nat.eq_zero_or_pos w.heap.size with h0 | h
    · simp [World.cell?, h0] at hg
    · exact h
  have hg2 : ((w.alloc (.cells #[.pointer (some t)] 54)).alloc (.cells #[.pointer (some ⟨2, 54, none⟩), .pointer (some ⟨w.heap.size, 0, none⟩), .int .u64 150] 77)).cell? ⟨0, 0, none⟩ = some (.iface 98 (.agg #[.pointer (some ⟨2, 46, none⟩)])) := by
    rw [World.cell?_alloc_lt _ _ ⟨0, 0, none⟩ (by simp), World.cell?_alloc_lt _ _ ⟨0, 0, none⟩ hlt]; exact hg
  have htl : t.block < w.heap.size := by
    rcases Nat.lt_or_ge t.block w.heap.size with h | h
    · exact h
    · simp [World.cell?, Array.getElem?_eq_none h] at ht0
  have el := LexA.elemV27 ⟨w.heap.size, 0, none⟩ t (((w.alloc (.cells #[.pointer (some t)] 54)).alloc (.cells #[.pointer (some ⟨2, 54, none⟩), .pointer (some ⟨w.heap.size, 0, none⟩), .int .u64 150] 77)).alloc (.cells #[.pointer (some ⟨2, 54, none⟩), .pointer (some ⟨w.heap.size, 0, none⟩), .int .u64 150] 77)) (by rw [World.cell?_alloc_lt _ _ ⟨w.heap.size, 0, none⟩ (by simp; omega)]; simp)
  have st := LexA.set25 t ⟨w.heap.size + 1 + 1 + 1, 0, none⟩ e old ((((w.alloc (.cells #[.pointer (some t)] 54)).alloc (.cells #[.pointer (some ⟨2, 54, none⟩), .pointer (some ⟨w.heap.size, 0, none⟩), .int .u64 150] 77)).alloc (.cells #[.pointer (some ⟨2, 54, none⟩), .pointer (some ⟨w.heap.size, 0, none⟩), .int .u64 150] 77)).alloc (.cells #[.pointer (some e)] 52))
    (by rw [World.cell?_alloc_at _ _ _ _ (by simp)]; rfl)
    (by rw [World.cell?_alloc_lt _ _ t (by simp; omega), World.cell?_alloc_lt _ _ t (by simp; omega), World.cell?_alloc_lt _ _ t (by simp; omega), World.cell?_alloc_lt _ _ t htl]; exact ht0)
    (by rw [World.frozen?_alloc_old _ _ t (by simp; omega), World.frozen?_alloc_old _ _ t (by simp; omega), World.frozen?_alloc_old _ _ t (by simp; omega), World.frozen?_alloc_old _ _ t (Nat.ne_of_lt htl)]; exact hf0)
  go_enter Tryd.func18, Tryd.ntmps18
  go_wp2
  refine wp_loop_rounds 1 ?_
  rw [rounds_succ]
  go_wp2
  go_ret
  exact ⟨rfl, rfl⟩
end

-- GIVEN plain making
/-- Next: kind, text, from, to, the bad length, the error's number. -/
def LexW.next (b : List Int) (k : Nat) (a : Int) : Option (Int × List Int × Nat × Nat × Nat × Int) :=
  if a < 0 then some (0, [], 0, 0, 0, 2) else if (b.length : Int) < a then some (0, [], 0, 0, 0, 2) else
  (LexW.token b k a.toNat).bind fun t => match t.1 with
    | some e => some (0, [], 0, 0, e, 50)
    | none => some (t.2.1, t.2.2.1, t.2.2.2.1, t.2.2.2.2, 0, 0)
theorem LexW.inj6 {a a' : Int} {b b' : List Int} {c c' d d' e e' : Nat} {f f' : Int} (h : some (a, b, c, d, e, f) = some (a', b', c', d', e', f')) : a = a' ∧ b = b' ∧ c = c' ∧ d = d' ∧ e = e' ∧ f = f' := by cases h; exact ⟨rfl, rfl, rfl, rfl, rfl, rfl⟩
theorem LexA.hit (pe gx : Nat) (w0 w : World) (hB : Below w0.heap.size w0 w) (hg : w.cell? ⟨0, 0, none⟩ = some (.iface 98 (.agg #[.pointer (some ⟨2, 46, none⟩)]))) (ht : w.heap[gx]? = some (.cells #[.pointer none] 52 (0, 0))) (hge : w0.heap.size ≤ gx) :
    Calls Tryd.prog 18 #[.iface 52 (.pointer (some ⟨pe, 0, none⟩)), .iface 54 (.pointer (some ⟨gx, 0, none⟩))] w fun e w' => e = .returned (.bool true) ∧ w'.heap[gx]? = some (.cells #[.pointer (some ⟨pe, 0, none⟩)] 52 (0, 0)) ∧ Below w0.heap.size w0 w' ∧ KeepBut w w' gx none := by
  refine (LexA.as_hit ⟨pe, 0, none⟩ ⟨gx, 0, none⟩ (.pointer none) w hg ((blk_cell ht 0).trans rfl) (blk_frozen ht 0)).mono ?_
  rintro e w' ⟨rfl, rfl⟩
  exact ⟨rfl, blk_put (blk_alloc (blk_alloc (blk_alloc (blk_alloc ht _) _) _) _) 0 _ rfl, below_set (below_alloc (below_alloc (below_alloc (below_alloc hB _) _) _) _) hge, (keep_alloc (keep_alloc (keep_alloc (keep_alloc (KeepBut.refl _ _ _) _) _) _) _).set_ 0 _⟩
set_option maxHeartbeats 4000000 in
set_option maxRecDepth 100000 in
theorem lexn_Next.calls (k : Nat) (A0 : Option Addr) (c0 : Nat) (l0 : List Int) (a : Int) (rk : Int) (rx : List Int) (rf rt2 rn : Nat) (re : Int) (w : World) (hr0 : Kd.C (Kd.int .u8) w A0 l0.length l0) (hcp : l0.length ≤ c0) (hm : l0.length < 4611686018427387904) (hby : ∀ p, 0 ≤ LexW.at_ l0 p ∧ LexW.at_ l0 p ≤ 255) (hgl : w.cell? ⟨0, 0, none⟩ = some (.iface 98 (.agg #[.pointer (some ⟨2, 46, none⟩)]))) (h : LexW.next l0 k a = some (rk, rx, rf, rt2, rn, re)) :
    Calls Tryd.prog 9 #[.slice A0 l0.length c0, .int .i64 a] w fun e w' => e = .returned (.tuple #[.agg #[.int .i64 rk, .string (strOfNums rx), .int .i64 rf, .int .i64 rt2], .int .i64 rn, .int .i64 re]) ∧ Below w.heap.size w w' := by
  have hu25 := Tryd.underlying25
  have HR0 := Aside0.mk hr0
  have HBY := Aside0.mk hby
  have HGL := Aside0.mk hgl
  clear hr0 hby hgl
  unfold LexW.next at h
  by_cases h0 : a < 0
  · rw [if_pos h0] at h
    obtain ⟨e1, e2, e3, e4, e5, e6⟩ := LexW.inj6 h
    subst e1; subst e2; subst e3; subst e4; subst e5; subst e6
    have b0 : decide (a < 0) = true := decide_eq_true h0
    clear h h0
    go_enter Tryd.func9, Tryd.ntmps9
    go_wp2_with (first | ((with_reducible refine gate_dst (N := 4) rfl ?_); (try (refine gate_guard (by rfl) ?_; dsimp only)); refine box_event ?hg (N := 4) ?hd (cs := #[.int .i64 0, .string (⟨#[]⟩ : ByteArray), .int .i64 0, .int .i64 0]) (t := 25) ?hr ?_; (case hd => rfl); (case hg => rfl); (case hr => first | (go_simp; done) | (go_simp; rfl)); intro gr hg w2 hbox hb; have HB := Aside0.mk (below_step (Below.refl _ _) hb); have HR := Aside0.mk hbox; have HGR := Aside0.mk (show w.heap.size ≤ gr by rw [hg]; exact Nat.le_refl _); clear hb hbox hg; have hr0 := (blk_cell HR.out 0).trans rfl; have hx0 := blk_frozen HR.out 0; have hr1 := (blk_cell HR.out 1).trans rfl; have hx1 := blk_frozen HR.out 1; have hr2 := (blk_cell HR.out 2).trans rfl; have hx2 := blk_frozen HR.out 2; have hr3 := (blk_cell HR.out 3).trans rfl; have hx3 := blk_frozen HR.out 3))
    refine bodyPost_ret (results_ctt rfl _ _ gr 25 #[.int .i64 0, .string (⟨#[]⟩ : ByteArray), .int .i64 0, .int .i64 0] (0, 0) _ rfl (by exact blk_put (blk_put (blk_put (blk_put HR.out 0 _ rfl) 1 _ rfl) 2 _ rfl) 3 _ rfl) hu25 rfl (by kernel_rfl)) rfl ?_
    exact ⟨rfl, below_set (below_set (below_set (below_set HB.out HGR.out) HGR.out) HGR.out) HGR.out⟩
  · rw [if_neg h0] at h
    by_cases h1 : (l0.length : Int) < a
    · rw [if_pos h1] at h
      obtain ⟨e1, e2, e3, e4, e5, e6⟩ := LexW.inj6 h
      subst e1; subst e2; subst e3; subst e4; subst e5; subst e6
      have b0 : decide (a < 0) = false := decide_eq_false h0
      have b1 : decide ((l0.length : Int) < a) = true := decide_eq_true h1
      clear h h0 h1
      go_enter Tryd.func9, Tryd.ntmps9
      go_wp2_with (first | ((with_reducible refine gate_dst (N := 4) rfl ?_); (try (refine gate_guard (by rfl) ?_; dsimp only)); refine box_event ?hg (N := 4) ?hd (cs := #[.int .i64 0, .string (⟨#[]⟩ : ByteArray), .int .i64 0, .int .i64 0]) (t := 25) ?hr ?_; (case hd => rfl); (case hg => rfl); (case hr => first | (go_simp; done) | (go_simp; rfl)); intro gr hg w2 hbox hb; have HB := Aside0.mk (below_step (Below.refl _ _) hb); have HR := Aside0.mk hbox; have HGR := Aside0.mk (show w.heap.size ≤ gr by rw [hg]; exact Nat.le_refl _); clear hb hbox hg; have hr0 := (blk_cell HR.out 0).trans rfl; have hx0 := blk_frozen HR.out 0; have hr1 := (blk_cell HR.out 1).trans rfl; have hx1 := blk_frozen HR.out 1; have hr2 := (blk_cell HR.out 2).trans rfl; have hx2 := blk_frozen HR.out 2; have hr3 := (blk_cell HR.out 3).trans rfl; have hx3 := blk_frozen HR.out 3))
      refine bodyPost_ret (results_ctt rfl _ _ gr 25 #[.int .i64 0, .string (⟨#[]⟩ : ByteArray), .int .i64 0, .int .i64 0] (0, 0) _ rfl (by exact blk_put (blk_put (blk_put (blk_put HR.out 0 _ rfl) 1 _ rfl) 2 _ rfl) 3 _ rfl) hu25 rfl (by kernel_rfl)) rfl ?_
      exact ⟨rfl, below_set (below_set (below_set (below_set HB.out HGR.out) HGR.out) HGR.out) HGR.out⟩
    · rw [if_neg h1] at h
      obtain ⟨⟨rt, kt, txt, ft, et⟩, htk, h⟩ := Option.bind_eq_some_iff.mp h
      obtain ⟨p, rfl⟩ : ∃ p : Nat, a = p := ⟨a.toNat, by omega⟩
      rw [Int.toNat_natCast] at htk
      have HTK := Aside0.mk htk
      have b0 : decide ((p : Int) < 0) = false := decide_eq_false h0
      have b1 : decide ((l0.length : Int) < (p : Int)) = false := decide_eq_false h1
      have hpl : p ≤ l0.length := by omega
      have HH := Aside0.mk h
      clear h h0 h1 htk
      go_enter Tryd.func9, Tryd.ntmps9
      go_upto_region 3 with (first | ((with_reducible refine gate_dst (N := 4) rfl ?_); (try (refine gate_guard (by rfl) ?_; dsimp only)); refine box_event ?hg (N := 4) ?hd (cs := #[.int .i64 0, .string (⟨#[]⟩ : ByteArray), .int .i64 0, .int .i64 0]) (t := 25) ?hr ?_; (case hd => rfl); (case hg => rfl); (case hr => first | (go_simp; done) | (go_simp; rfl)); intro gr hg w2 hbox hb; have HB := Aside0.mk (below_step (Below.refl _ _) hb); have HR := Aside0.mk hbox; have HGR := Aside0.mk (show w.heap.size ≤ gr by rw [hg]; exact Nat.le_refl _); clear hb hbox hg))
      clear b0 b1
      go_cut [7, 8] (fun v7 v8 wc => ∃ t7, v7 = .pointer (some ⟨t7, 0, none⟩) ∧ Aside0 (BadE wc v8 (rt.map fun (n : Nat) => (n : Int))) ∧ Aside0 (Below w.heap.size w wc) ∧ Aside0 (wc.heap[t7]? = some (.cells #[.int .i64 kt, .string (strOfNums txt), .int .i64 ft, .int .i64 et] 25 (0, 0))) ∧ Aside0 (wc.heap[gr]? = some (.cells #[.int .i64 0, .string (⟨#[]⟩ : ByteArray), .int .i64 0, .int .i64 0] 25 (0, 0))) ∧ Aside0 (gr ≠ t7) ∧ Aside0 (w.heap.size ≤ t7))
      case first =>
        go_wp2_with (first | ((with_reducible refine gate_dst (N := 23) rfl ?_); (try (refine gate_guard (by rfl) ?_; dsimp only)); refine box_event ?hg (N := 23) ?hd (cs := #[.slice A0 l0.length c0, .int .i64 (p : Int)]) (t := 50) ?hr ?_; (case hd => rfl); (case hg => rfl); (case hr => first | (go_simp; done) | (go_simp; rfl)); intro g hg w2 hbox hb; have n1_ := Aside0.mk (below_step HB.out hb); have n5_ := Aside0.mk (blk_grown HR.out (grown_of_below hb none) (by simp)); have HNG := Aside0.mk (show gr ≠ g by rw [hg]; exact Nat.ne_of_lt (blk_lt HR.out)); have HI := Aside0.mk (show LexS w w2 g l0 p from ⟨A0, c0, hbox, by rw [hg]; exact HB.out.size, HR0.out, hcp⟩); clear HB HR; have HB := n1_; have HR := n5_; clear n1_ n5_ hb hbox hg) | (go_at_call 17; (with_reducible refine (lex_scanner_token.calls g l0 p k rt kt txt ft et w _ HI.out HB.out hpl hm HBY.out HTK.out).mono ?_); rintro e w1 ⟨v1, rfl, he, hb, hk⟩; have HE := Aside0.mk he; have n5_ := Aside0.mk (hk.blk HR.out HNG.out (by simp)); clear HR HB HI he; have HR := n5_; have HB := Aside0.mk hb; clear n5_ hb hk) | ((with_reducible refine gate_dst (N := 7) rfl ?_); (try (refine gate_guard (by rfl) ?_; dsimp only)); refine box_event ?hg (N := 7) ?hd (cs := #[.int .i64 0, .string (⟨#[]⟩ : ByteArray), .int .i64 0, .int .i64 0]) (t := 25) ?hr ?_; (case hd => rfl); (case hg => rfl); (case hr => first | (go_simp; done) | (go_simp; rfl)); intro t7 hg w2 hbox hb; have n1_ := Aside0.mk (below_step HB.out hb); have n5_ := Aside0.mk (blk_grown HR.out (grown_of_below hb none) (by simp)); have n6_ := Aside0.mk (HE.out.below hb); have HNT := Aside0.mk (show gr ≠ t7 by rw [hg]; exact Nat.ne_of_lt (blk_lt HR.out)); have HGT := Aside0.mk (show w.heap.size ≤ t7 by rw [hg]; exact HB.out.size); clear HB HR HE; have HB := n1_; have HR := n5_; have HE := n6_; have HT := Aside0.mk hbox; clear n1_ n5_ n6_ hb hbox hg; have ht0 := (blk_cell HT.out 0).trans rfl; have hf0 := blk_frozen HT.out 0; have ht1 := (blk_cell HT.out 1).trans rfl; have hf1 := blk_frozen HT.out 1; have ht2 := (blk_cell HT.out 2).trans rfl; have hf2 := blk_frozen HT.out 2; have ht3 := (blk_cell HT.out 3).trans rfl; have hf3 := blk_frozen HT.out 3))
        go_meet
        case rel => exact ⟨t7, rfl, ⟨(((HE.out.far HT.out).far (blk_put HT.out 0 _ rfl)).far (blk_put (blk_put HT.out 0 _ rfl) 1 _ rfl)).far (blk_put (blk_put (blk_put HT.out 0 _ rfl) 1 _ rfl) 2 _ rfl)⟩, ⟨below_set (below_set (below_set (below_set HB.out HGT.out) HGT.out) HGT.out) HGT.out⟩, ⟨blk_put (blk_put (blk_put (blk_put HT.out 0 _ rfl) 1 _ rfl) 2 _ rfl) 3 _ rfl⟩, ⟨blk_far (blk_far (blk_far (blk_far HR.out HNT.out _) HNT.out _) HNT.out _) HNT.out _⟩, HNT, HGT⟩
      case rest =>
        clear HB HR HTK
        obtain ⟨t7, rfl, HE, HB, HT, HR, HNT, HGT⟩ := hcut
        have h := HH.out
        clear HH
        cases rt with
        | none =>
          obtain rfl := HE.out
          obtain ⟨e1, e2, e3, e4, e5, e6⟩ := LexW.inj6 h
          subst e1; subst e2; subst e3; subst e4; subst e5; subst e6
          clear h
          go_wp2_with (first | ((with_reducible refine gate_dst (N := 9) rfl ?_); (try (refine gate_guard (by rfl) ?_; dsimp only)); refine box_event ?hg (N := 9) ?hd (cs := #[.pointer none]) (t := 52) ?hr ?_; (case hd => rfl); (case hg => rfl); (case hr => first | (go_simp; done) | (go_simp; rfl)); intro gx hg w2 hbox hb; have n1_ := Aside0.mk (below_step HB.out hb); have n5_ := Aside0.mk (blk_grown HR.out (grown_of_below hb none) (by simp)); have n6_ := Aside0.mk (HE.out.below hb); have n7_ := Aside0.mk (blk_grown HT.out (grown_of_below hb none) (by simp)); have HNX := Aside0.mk (show gr ≠ gx by rw [hg]; exact Nat.ne_of_lt (blk_lt HR.out)); have HGX := Aside0.mk (show w.heap.size ≤ gx by rw [hg]; exact HB.out.size); clear HB HR HE HT; have HB := n1_; have HR := n5_; have HE := n6_; have HT := n7_; have HX := Aside0.mk hbox; clear n1_ n5_ n6_ n7_ hb hbox hg) | (go_at_call 18; (with_reducible refine (LexA.as_nil _ _).mono ?_); rintro e w3 ⟨rfl, rfl⟩; have hr0 := (blk_cell HR.out 0).trans rfl; have hx0 := blk_frozen HR.out 0; have hr1 := (blk_cell HR.out 1).trans rfl; have hx1 := blk_frozen HR.out 1; have hr2 := (blk_cell HR.out 2).trans rfl; have hx2 := blk_frozen HR.out 2; have hr3 := (blk_cell HR.out 3).trans rfl; have hx3 := blk_frozen HR.out 3; have ht0 := (blk_cell HT.out 0).trans rfl; have hf0 := blk_frozen HT.out 0; have ht1 := (blk_cell HT.out 1).trans rfl; have hf1 := blk_frozen HT.out 1; have ht2 := (blk_cell HT.out 2).trans rfl; have hf2 := blk_frozen HT.out 2; have ht3 := (blk_cell HT.out 3).trans rfl; have hf3 := blk_frozen HT.out 3))
          refine bodyPost_ret (results_ctt rfl _ _ gr 25 #[.int .i64 kt, .string (strOfNums txt), .int .i64 ft, .int .i64 et] (0, 0) _ rfl (by exact blk_put (blk_put (blk_put (blk_put HR.out 0 _ rfl) 1 _ rfl) 2 _ rfl) 3 _ rfl) hu25 rfl (by kernel_rfl)) rfl ?_
          exact ⟨rfl, below_set (below_set (below_set (below_set HB.out HGR.out) HGR.out) HGR.out) HGR.out⟩
        | some L =>
          obtain ⟨pe, rfl, hpe⟩ := HE.out
          obtain ⟨e1, e2, e3, e4, e5, e6⟩ := LexW.inj6 h
          subst e1; subst e2; subst e3; subst e4; subst e5; subst e6
          have HE := Aside0.mk (show BadE wc _ (some _) from ⟨pe, rfl, hpe⟩)
          clear h hpe
          go_upto_region 5 with (first | ((with_reducible refine gate_dst (N := 9) rfl ?_); (try (refine gate_guard (by rfl) ?_; dsimp only)); refine box_event ?hg (N := 9) ?hd (cs := #[.pointer none]) (t := 52) ?hr ?_; (case hd => rfl); (case hg => rfl); (case hr => first | (go_simp; done) | (go_simp; rfl)); intro gx hg w2 hbox hb; have n1_ := Aside0.mk (below_step HB.out hb); have n5_ := Aside0.mk (blk_grown HR.out (grown_of_below hb none) (by simp)); have n6_ := Aside0.mk (HE.out.below hb); have n7_ := Aside0.mk (blk_grown HT.out (grown_of_below hb none) (by simp)); have HNX := Aside0.mk (show gr ≠ gx by rw [hg]; exact Nat.ne_of_lt (blk_lt HR.out)); have HGX := Aside0.mk (show w.heap.size ≤ gx by rw [hg]; exact HB.out.size); clear HB HR HE HT; have HB := n1_; have HR := n5_; have HE := n6_; have HT := n7_; have HX := Aside0.mk hbox; clear n1_ n5_ n6_ n7_ hb hbox hg))
          obtain ⟨pe2, e9, hpe⟩ := HE.out
          injection e9 with _ e9
          injection e9 with e9
          injection e9 with e9
          injection e9 with e9
          subst e9
          have HPX := Aside0.mk (show pe ≠ gx by rintro rfl; rw [HX.out] at hpe; injection hpe with hpe; injection hpe with _ hpe; exact absurd hpe (by decide))
          have HPE := Aside0.mk hpe
          clear hpe HE HT
          go_upto_region 6 with (first | (go_at_call 18; (with_reducible refine (LexA.hit pe gx w _ HB.out (pw_cell_below HB.out HGL.out) HX.out HGX.out).mono ?_); rintro e w3 ⟨rfl, hxx, hb, hk⟩; have n5_ := Aside0.mk (hk.blk HR.out HNX.out (by simp)); have n6_ := Aside0.mk (hk.blk HPE.out HPX.out (by simp)); clear HB HR HPE HX; have HR := n5_; have HPE := n6_; have HB := Aside0.mk hb; have hxc := (blk_cell hxx 0).trans rfl; have hpc := (blk_cell HPE.out 0).trans rfl; clear n5_ n6_ hb hk hxx; have hr0 := (blk_cell HR.out 0).trans rfl; have hx0 := blk_frozen HR.out 0; have hr1 := (blk_cell HR.out 1).trans rfl; have hx1 := blk_frozen HR.out 1; have hr2 := (blk_cell HR.out 2).trans rfl; have hx2 := blk_frozen HR.out 2; have hr3 := (blk_cell HR.out 3).trans rfl; have hx3 := blk_frozen HR.out 3))
          have hnx := HNX.out
          have hnx2 := Ne.symm HNX.out
          have hnp : gr ≠ pe := by rintro rfl; have hq := HPE.out; rw [HR.out] at hq; injection hq with hq; injection hq with _ hq; exact absurd hq (by decide)
          have hnp2 := Ne.symm hnp
          go_region
          all_goals go_wp2
          all_goals (first | (refine bodyPost_ret (results_ctt rfl _ _ gr 25 #[.int .i64 0, .string (⟨#[]⟩ : ByteArray), .int .i64 0, .int .i64 0] (0, 0) _ rfl (by exact blk_put (blk_put (blk_put (blk_put HR.out 0 _ rfl) 1 _ rfl) 2 _ rfl) 3 _ rfl) hu25 rfl (by kernel_rfl)) rfl ?_; exact ⟨rfl, below_set (below_set (below_set (below_set HB.out HGR.out) HGR.out) HGR.out) HGR.out⟩) | (refine bodyPost_ret (results_ctt rfl _ _ gr 25 #[.int .i64 0, .string (⟨#[]⟩ : ByteArray), .int .i64 0, .int .i64 0] (0, 0) _ rfl (by exact blk_drew (blk_put (blk_put (blk_put (blk_put HR.out 0 _ rfl) 1 _ rfl) 2 _ rfl) 3 _ rfl)) hu25 rfl (by kernel_rfl)) rfl ?_; exact ⟨rfl, below_drew1 (below_set (below_set (below_set (below_set HB.out HGR.out) HGR.out) HGR.out) HGR.out)⟩))

end Go.Proofs.YthoobepfkfjgnaaDoor.PL
