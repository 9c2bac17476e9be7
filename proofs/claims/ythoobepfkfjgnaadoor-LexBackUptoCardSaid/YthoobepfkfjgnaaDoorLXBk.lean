import Derived.Test.YthoobepfkfjgnaaDoorPLx0
import Derived.Test.YthoobepfkfjgnaaDoorLXQa
import Derived.Test.YthoobepfkfjgnaaDoorLXe
import Derived.Test.YthoobepfkfjgnaaDoorLXh
import Derived.Test.YthoobepfkfjgnaaDoorRPa
import Derived.Test.YthoobepfkfjgnaaDoorLexW
import Derived.Lib.SmallJoins
import Derived.WalkLawsBesides
import Derived.Outline
import Derived.StillTailTactics
import Derived.Test.YthoobepfkfjgnaaDoorMore
namespace Go.Proofs.YthoobepfkfjgnaaDoor.PL
open Go.RowKit Go.Proofs.YthoobepfkfjgnaaDoorW.PrintWords Go.Proofs.YthoobepfkfjgnaaDoorW.PrintLast Go.Proofs.YthoobepfkfjgnaaDoorW.PrintMore
attribute [local go_sem] max2_int min2_int max_two min_two max_three min_three max_four min_four
set_option linter.unusedVariables false
set_option linter.unusedSimpArgs false
-- GIVEN plain making
/-- Stores into a row whose frozen stretch begins at its end. -/
theorem LexT.storeCells_ahead (P : Program) (g o : Nat) (t : TypeId) (fz : Nat × Nat) : ∀ (vs : List Value) (i : Nat) (cur : Array Value) (w : World), w.heap[g]? = some (.cells cur t fz) → cur.size ≤ fz.1 → o + i + vs.length ≤ cur.size → (∀ v ∈ vs, v.oneCell' = true) →
    (storeCells ⟨g, o, none⟩ vs i).run P w = .ok () (w.setRow g (cur.toList.take (o + i) ++ vs ++ cur.toList.drop (o + i + vs.length)).toArray)
  | [], i, cur, w, hg, _, _, _ => by
    simp only [storeCells, List.append_nil, List.length_nil, Nat.add_zero, List.take_append_drop, Array.toArray_toList]
    rw [setRow_self w g cur t fz hg]
    rfl
  | v :: rest, i, cur, w, hg, hfz, hl, h1 => by
    have hi : o + i < cur.size := by simp at hl; omega
    have hadd : (⟨g, o, none⟩ : Addr).add i = ⟨g, o + i, none⟩ := by unfold Addr.add; split <;> simp_all
    have hcell : w.cell? ⟨g, o + i, none⟩ = some cur[o + i] := by simp [World.cell?, hg, hi]
    have hfro : w.frozen? ⟨g, o + i, none⟩ = false := by
      obtain ⟨lo, hi'⟩ := fz
      simp only [World.frozen?, hg, Bool.and_eq_false_iff, decide_eq_false_iff_not]
      left
      simp only at hfz
      omega
    have hst : (store ((⟨g, o, none⟩ : Addr).add i) v).run P w = .ok () (w.setRow g (cur.setIfInBounds (o + i) v)) := by
      rw [hadd, run_store P w _ v _ (h1 v (by simp)), hcell]
      simp [hfro, setCell_eq_setRow w g (o + i) cur t fz v hg]
    have ih := LexT.storeCells_ahead P g o t fz rest (i + 1) (cur.setIfInBounds (o + i) v) (w.setRow g (cur.setIfInBounds (o + i) v)) (setRow_heap w g cur _ t _ hg) (by simpa using hfz) (by simp at hl ⊢; omega) (fun x hx => h1 x (by simp [hx]))
    simp only [storeCells, Sem.run_bind, hst, Result.andThen_ok, ih, setRow_setRow]
    congr 3
    have e := list_seg_step cur.toList (o + i) v rest (by simp at hl ⊢; omega)
    simpa [Array.toList_setIfInBounds, Nat.add_assoc] using e
theorem LexT.row_reads (w : World) (g : Nat) (cur : Array Value) (e : TypeId) (fz : Nat × Nat) (zs : List Int) (hg : w.heap[g]? = some (.cells cur e fz)) (hp : cur.toList.take zs.length = zs.map (Value.int .u8)) (hz : zs.length ≤ 9223372036854775807) : Kd.C (Kd.int .u8) w (some ⟨g, 0, none⟩) zs.length zs := by
  refine Kd.C_of_reads (d := (0 : Int)) (h1 := fun _ => rfl) ⟨rfl, hz, fun _ => ⟨_, rfl, fun j hj => ?_⟩⟩
  rw [add_plain]
  have h1 : (cur.toList.take zs.length)[j]? = (zs.map (Value.int .u8))[j]? := by rw [hp]
  rw [List.getElem?_take, if_pos hj, List.getElem?_map, List.getElem?_eq_getElem hj] at h1
  unfold World.cell?
  rw [hg]
  rw [List.getD_eq_getElem?_getD, List.getElem?_eq_getElem hj]
  simpa using h1
/-- append(cv, more...): cv a row out of a string. -/
theorem LexT.append_conv {P : Program} {ops : Array Oper} {rest : List Oper} {o : Oper} {a : Act} {Q : Exit → Act → World → Prop} {w0 W : World} (base : Nat) (hgd : o.guard = none) (sl x : Operand) (t e : TypeId) (ho : o.op = .call { callee := .builtin .append, args := #[sl, x], argTypes := #[t, t] })
    (ht : P.underlying t = some (.slice e)) (hinfo : (P.info? e).map (fun i => (i.zero, i.size, i.bytes)) = some (some (.int .u8 0), 1, 1))
    (g c : Nat) (cur : Array Value) (fz : Nat × Nat) (xs : List Int) (hs : a.eval sl = .slice (some ⟨g, 0, none⟩) xs.length c)
    (hg : W.heap[g]? = some (.cells cur e fz)) (hfz : cur.size ≤ fz.1) (hcs : cur.size = c) (hnc : xs.length ≤ c) (htake : cur.toList.take xs.length = xs.map (Value.int .u8))
    (A : Option Addr) (m cc : Nat) (ys : List Int) (hx : a.eval x = .slice A m cc) (HR : Kd.C (Kd.int .u8) W A m ys) (HB : Below base w0 W) (hbg : base ≤ g) (hbase : base ≤ W.heap.size) (hl : xs.length + m ≤ 140737488355328)
    (h : ∀ A1 c1 w1, Kd.C (Kd.int .u8) w1 A1 (xs ++ ys).length (xs ++ ys) → (xs ++ ys).length ≤ c1 → Below base w0 w1 → wpList P ops Q rest (a.put o.dst (.slice A1 (xs ++ ys).length c1)) w1) : wpList P ops Q (o :: rest) a W := by
  obtain ⟨i0, hi, hzz⟩ := Option.map_eq_some_iff.1 hinfo
  simp only [Prod.mk.injEq] at hzz
  obtain ⟨hz0, hz1, hz2⟩ := hzz
  have hrd := Kd.reads_of_C (d := (0 : Int)) HR
  obtain ⟨hym, hm63, hrow⟩ := hrd
  subst hym
  have hlen : (xs ++ ys).length = xs.length + ys.length := List.length_append
  have key : ∃ A1 c1 w1, (Builtin.append_ #[t, t] o.type #[.slice (some ⟨g, 0, none⟩) xs.length c, .slice A ys.length cc]).run P W = .ok (.slice A1 (xs ++ ys).length c1) w1 ∧ Kd.C (Kd.int .u8) w1 A1 (xs ++ ys).length (xs ++ ys) ∧ (xs ++ ys).length ≤ c1 ∧ Below base w0 w1 := by
    rcases A with _ | ad
    · have h0 : ys.length = 0 := by
        rcases Nat.eq_zero_or_pos ys.length with h0 | h0
        · exact h0
        · obtain ⟨ad, h, _⟩ := hrow h0
          cases h
      obtain rfl : ys = [] := List.eq_nil_of_length_eq_zero h0
      refine ⟨some ⟨g, 0, none⟩, c, W, ?_, ?_, by simpa using hnc, HB⟩
      · rw [List.append_nil]
        simp [Builtin.append_, run_underlying ht, sizeOf, typeInfo, hi, Builtin.lenOf, Builtin.firstCells, hnc, storeCells]
      · rw [List.append_nil]
        exact LexT.row_reads W g cur e fz xs hg htake (by omega)
    · have hcell : ∀ j, j < ys.length → W.cell? (ad.add j) = some (.int .u8 (ys.getD j 0)) := by
        intro j hj
        obtain ⟨ad', he, hc⟩ := hrow (by omega)
        injection he with he
        subst he
        exact hc j hj
      obtain ⟨news, hnw⟩ : ∃ x, x = ys.map (Value.int .u8) := ⟨_, rfl⟩
      have hnl : news.length = ys.length := by rw [hnw, List.length_map]
      have hnews : ∀ j u, news[j]? = some u → W.cell? (ad.add j) = some u := by
        intro j u hu
        rw [hnw, List.getElem?_map] at hu
        obtain ⟨y, hy, rfl⟩ := Option.map_eq_some_iff.1 hu
        obtain ⟨hj, hyj⟩ := List.getElem?_eq_some_iff.1 hy
        rw [hcell j hj, List.getD_eq_getElem?_getD, hy]
        rfl
      have hone : ∀ u ∈ news, u.oneCell' = true := by
        intro u hu
        rw [hnw] at hu
        obtain ⟨y, _, rfl⟩ := List.mem_map.1 hu
        rfl
      by_cases hroom : xs.length + ys.length ≤ c
      · have hf := run_firstCells_some (P := P) W 1 ys.length ad ys.length cc news (by omega) hnews
        have hst := LexT.storeCells_ahead P g xs.length e fz news 0 cur W hg hfz (by omega) hone
        simp only [Nat.add_zero] at hst
        have hb1 : Below base W (W.setRow g (cur.toList.take xs.length ++ news ++ cur.toList.drop (xs.length + news.length)).toArray) := ⟨rfl, rfl, rfl, by simp [World.setRow], fun k hk => setRow_other W g k _ (by omega)⟩
        refine ⟨some ⟨g, 0, none⟩, c, _, ?_, ?_, by omega, HB.trans hb1⟩
        · simp [Builtin.append_, run_underlying ht, sizeOf, typeInfo, hi, hz1, Builtin.lenOf, hroom, hf, Addr.add_lit, hst]
        · refine LexT.row_reads _ g _ e fz (xs ++ ys) (setRow_heap W g cur _ e _ hg) ?_ (by omega)
          rw [htake, ← hnw.symm, ← List.map_append]
          rw [List.take_append_of_le_length (by simp)]
          rw [List.take_of_length_le (by simp)]
      · have holds : ∀ j u, (xs.map (Value.int .u8))[j]? = some u → W.cell? ((⟨g, 0, none⟩ : Addr).add j) = some u := by
          intro j u hu
          rw [← htake, List.getElem?_take] at hu
          split at hu
          · rw [add_plain]
            unfold World.cell?
            rw [hg]
            simpa using hu
          · cases hu
        have hr := run_append_grow (P := P) W t o.type e i0 (.int .u8 0) ht hi hz0 ⟨g, 0, none⟩ xs.length c (xs.map (Value.int .u8)) (by rw [hz1]; simp) holds ad ys.length cc news (by rw [hz1]; omega) hnews (by omega) (by omega) (by rw [hz2]; exact growslice_fits (by omega) (by omega))
        have hge := grownCap_ge W (xs.length + ys.length) c e
        have hb1 : Below base W (W.drew.alloc (.cells ((xs.map (Value.int .u8)).toArray ++ news.toArray ++ Builtin.zeroCells (Value.int .u8 0).cells (grownCap W (xs.length + ys.length) c e - (xs.length + ys.length))) e)) := ⟨rfl, rfl, rfl, by simp, fun k hk => heap_alloc_old W.drew _ (show k < W.drew.heap.size from Nat.lt_of_lt_of_le hk hbase)⟩
        rw [← hlen] at hr hge hb1
        refine ⟨_, _, _, by rw [hr], ?_, hge, HB.trans hb1⟩
        refine LexT.row_reads _ _ _ e (0, 0) (xs ++ ys) (heap_alloc_new W.drew _) ?_ (by omega)
        simp only [Array.toList_append, List.append_assoc]
        rw [hnw, ← List.append_assoc, ← List.map_append]
        rw [List.take_append_of_le_length (by simp)]
        rw [List.take_of_length_le (by simp)]
  obtain ⟨A1, c1, w1, hrun, k1, k2, k3⟩ := key
  refine Kd.event_run hgd (v := .slice A1 (xs ++ ys).length c1) (w1 := w1) ?_ (h A1 c1 w1 k1 k2 k3)
  simp [execOp, ho, resolve, invoke, builtin, hs, hx, hrun, Result.andThen]
/-- []byte(s), its row's form told. -/
theorem LexT.conv_row {P : Program} {ops : Array Oper} {rest : List Oper} {o : Oper} {a : Act} {Q : Exit → Act → World → Prop} {W : World} (hgd : o.guard = none)
    (src dst e : TypeId) (x : Operand) (ho : o.op = .convert src dst x) (s : ByteArray) (hx : a.eval x = .string s) (hs : P.underlying src = some .string) (hd : P.underlying dst = some (.slice e)) (he : P.underlying e = some (.int .u8))
    (h : ∀ (g c : Nat) (cur : Array Value) (fz : Nat × Nat) (w1 : World), g = W.heap.size → w1.heap[g]? = some (.cells cur e fz) → cur.size ≤ fz.1 → cur.size = c → (bytesOf s).length ≤ c → cur.toList.take (bytesOf s).length = (bytesOf s).map (Value.int .u8) → Below W.heap.size W w1 → wpList P ops Q rest (a.put o.dst (.slice (some ⟨g, 0, none⟩) (bytesOf s).length c)) w1) :
    wpList P ops Q (o :: rest) a W := by
  have hrun := Lib.run_convert_string_bytes (P := P) W src dst e s hs hd he
  have hl := bytesOf_length s
  have hge := grownCap_ge W s.size 0 e
  have hsz : s.data.size = s.size := rfl
  refine Kd.event_run hgd (v := .slice (some ⟨W.heap.size, 0, none⟩) (bytesOf s).length (grownCap W s.size 0 e)) (w1 := Lib.bytesWorld W e s) ?_ (h _ _ _ _ _ rfl (Lib.bytesWorld_at_new W e s) (Nat.le_refl _) ?_ ?_ ?_ (More.below_bytes (Below.refl _ _) e s))
  · rw [hl]
    simp [execOp, ho, hx, hrun, Result.andThen]
  · simp [Lib.bytesCells]
    omega
  · omega
  · unfold Lib.bytesCells
    rw [Array.toList_append, List.take_append_of_le_length (by simp [hl]), List.take_of_length_le (by simp [hl])]
    unfold bytesOf
    simp

-- GIVEN plain making
theorem LexP.at_drop {L xs : List Int} {q j : Nat} (h : L.drop q = xs) (hj : j < xs.length) : LexW.at_ L (q + j) = xs.getD j 0 ∧ q + j < L.length := by
  refine ⟨by rw [← h, RefP.drop_at], ?_⟩
  have : (L.drop q).length = xs.length := by rw [h]
  rw [List.length_drop] at this
  omega
theorem LexP.qc_plain {c : Int} (h : LexW.plain c = true) : LexW.qc c = [c] := by
  obtain ⟨h1, h2, h3⟩ := RefP.plain_iff.mp h
  unfold LexW.qc
  have e : LexW.idx c LexW.qFrom = -1 := by
    unfold LexW.qFrom
    have a1 : (34 : Int) ≠ c := Ne.symm h2
    have a2 : (92 : Int) ≠ c := Ne.symm h3
    have a3 : (8 : Int) ≠ c := by omega
    have a4 : (12 : Int) ≠ c := by omega
    have a5 : (10 : Int) ≠ c := by omega
    have a6 : (13 : Int) ≠ c := by omega
    have a7 : (9 : Int) ≠ c := by omega
    simp [LexW.idx, a1, a2, a3, a4, a5, a6, a7]
  rw [e, if_neg (by decide), if_neg (by omega)]
theorem LexP.qc_plains : ∀ {A : List Int}, (∀ b ∈ A, LexW.plain b = true) → A.flatMap LexW.qc = A := by
  intro A
  induction A with
  | nil => intro _; rfl
  | cons c A ih =>
    intro h
    rw [List.flatMap_cons, LexP.qc_plain (h c (List.mem_cons_self ..)), ih (fun b hb => h b (List.mem_cons_of_mem _ hb))]
    rfl
theorem LexP.pass_run {L : List Int} : ∀ {A : List Int} {p : Nat} {y : Int} {zs : List Int}, L.drop p = A ++ y :: zs → (∀ b ∈ A, LexW.plain b = true) → LexW.plain y = false → LexW.tq L p = p + A.length := by
  intro A
  induction A with
  | nil =>
    intro p y zs h _ hy
    have := LexP.at_drop (j := 0) h (by simp)
    rw [List.length_nil, Nat.add_zero]
    exact RefP.tq_stop L p (by rintro ⟨_, h2⟩; have e := this.1; rw [Nat.add_zero] at e; rw [e] at h2; simp at h2; rw [hy] at h2; cases h2)
  | cons c A ih =>
    intro p y zs h hA hy
    have h0 := LexP.at_drop (j := 0) h (by simp)
    rw [Nat.add_zero] at h0
    have hc : LexW.plain (LexW.at_ L p) = true := by rw [h0.1]; simpa using hA c (List.mem_cons_self ..)
    rw [RefP.tq_go L p h0.2 hc]
    have hd : L.drop (p + 1) = A ++ y :: zs := by
      rw [← List.drop_drop, h]
      rfl
    rw [ih hd (fun b hb => hA b (List.mem_cons_of_mem _ hb)) hy, List.length_cons]
    omega
theorem LexP.hexd {m : Int} (h0 : 0 ≤ m) (h1 : m < 16) : LexW.hex (LexW.hexd m) = m := by
  obtain h | h | h | h | h | h | h | h | h | h | h | h | h | h | h | h : m = 0 ∨ m = 1 ∨ m = 2 ∨ m = 3 ∨ m = 4 ∨ m = 5 ∨ m = 6 ∨ m = 7 ∨ m = 8 ∨ m = 9 ∨ m = 10 ∨ m = 11 ∨ m = 12 ∨ m = 13 ∨ m = 14 ∨ m = 15 := by omega
  all_goals (subst h; decide)
/-- What is written for a byte that is not plain is read az it. -/
theorem LexP.esc {L zs : List Int} {c : Int} {q : Nat} (h0 : 0 ≤ c) (h1 : c ≤ 255) (hc : LexW.plain c = false) (h : L.drop q = (LexW.qc c).drop 1 ++ zs) : (LexW.qc c).length = ((LexW.qc c).drop 1).length + 1 ∧ c < 128 ∧ (LexW.qc c).head? = some 92 ∧ LexW.escape L q = (none, c, q + ((LexW.qc c).drop 1).length) := by
  have key : ∀ x j : Int, LexW.qc c = [92, x] → LexW.idx x LexW.escFrom = j → 0 ≤ j → LexW.escTo.getD j.toNat 0 = c → LexW.escape L q = (none, c, q + ((LexW.qc c).drop 1).length) := by
    intro x j h2 h3 h4 h5
    rw [h2] at h ⊢
    have ha := LexP.at_drop (j := 0) h (by simp)
    rw [Nat.add_zero] at ha
    unfold LexW.escape
    rw [if_pos ha.2, ha.1, show (([92, x] : List Int).drop 1 ++ zs).getD 0 0 = x from rfl, h3, if_pos h4, h5]
    rfl
  by_cases hs : c = 34 ∨ c = 92 ∨ c = 8 ∨ c = 12 ∨ c = 10 ∨ c = 13 ∨ c = 9
  · rcases hs with rfl | rfl | rfl | rfl | rfl | rfl | rfl
    · exact ⟨by decide, by decide, by decide, key 34 0 (by decide) (by decide) (by decide) (by decide)⟩
    · exact ⟨by decide, by decide, by decide, key 92 1 (by decide) (by decide) (by decide) (by decide)⟩
    · exact ⟨by decide, by decide, by decide, key 98 3 (by decide) (by decide) (by decide) (by decide)⟩
    · exact ⟨by decide, by decide, by decide, key 102 4 (by decide) (by decide) (by decide) (by decide)⟩
    · exact ⟨by decide, by decide, by decide, key 110 5 (by decide) (by decide) (by decide) (by decide)⟩
    · exact ⟨by decide, by decide, by decide, key 114 6 (by decide) (by decide) (by decide) (by decide)⟩
    · exact ⟨by decide, by decide, by decide, key 116 7 (by decide) (by decide) (by decide) (by decide)⟩
  · have h32 : c < 32 := by
      by_cases h32 : c < 32
      · exact h32
      · exfalso
        have : LexW.plain c = true := RefP.plain_iff.mpr ⟨by omega, by omega, by omega⟩
        rw [this] at hc
        cases hc
    have e : LexW.idx c LexW.qFrom = -1 := by
      unfold LexW.qFrom
      have a1 : (34 : Int) ≠ c := by omega
      have a2 : (92 : Int) ≠ c := by omega
      have a3 : (8 : Int) ≠ c := by omega
      have a4 : (12 : Int) ≠ c := by omega
      have a5 : (10 : Int) ≠ c := by omega
      have a6 : (13 : Int) ≠ c := by omega
      have a7 : (9 : Int) ≠ c := by omega
      simp [LexW.idx, a1, a2, a3, a4, a5, a6, a7]
    have hq : LexW.qc c = [92, 117, 48, 48, 48 + c / 16, LexW.hexd (c % 16)] := by unfold LexW.qc; rw [e, if_neg (by decide), if_pos h32]
    rw [hq] at h ⊢
    have hdr : ([92, 117, 48, 48, 48 + c / 16, LexW.hexd (c % 16)] : List Int).drop 1 = [117, 48, 48, 48 + c / 16, LexW.hexd (c % 16)] := rfl
    rw [hdr] at h ⊢
    refine ⟨rfl, by omega, rfl, ?_⟩
    have b0 := LexP.at_drop (j := 0) h (by simp)
    have b1 := LexP.at_drop (j := 1) h (by simp)
    have b2 := LexP.at_drop (j := 2) h (by simp)
    have b3 := LexP.at_drop (j := 3) h (by simp)
    have b4 := LexP.at_drop (j := 4) h (by simp)
    simp at b0 b1 b2 b3 b4
    have g3 : LexW.hex (48 + c / 16) = c / 16 := by
      obtain hh | hh : c / 16 = 0 ∨ c / 16 = 1 := by omega
      all_goals (rw [hh]; decide)
    have g4 : LexW.hex (LexW.hexd (c % 16)) = c % 16 := LexP.hexd (by omega) (by omega)
    have hf : LexW.four LexW.T1 L 4 0 0 (q + 1) = (none, c, q + 5) := by
      rw [LexW.four, if_pos b1.2, b1.1, show LexW.hex 48 = 0 from rfl, if_pos (by decide), if_pos (by decide)]
      rw [LexW.four, if_pos (by omega), show q + 1 + 1 = q + 2 by omega, b2.1, show LexW.hex 48 = 0 from rfl, if_pos (by decide), if_pos (by decide)]
      rw [LexW.four, if_pos (by omega), show q + 2 + 1 = q + 3 by omega, b3.1, g3, if_pos (by omega), if_pos (by unfold LexW.T1; rfl)]
      rw [LexW.four, if_pos (by omega), show q + 3 + 1 = q + 4 by omega, b4.1, g4, if_pos (by omega), if_pos (by unfold LexW.T1; rfl)]
      rw [LexW.four]
      simp only [Prod.mk.injEq, true_and]
      exact ⟨by omega, trivial⟩
    unfold LexW.escape
    rw [if_pos b0.2, b0.1, show LexW.idx 117 LexW.escFrom = -1 by decide, if_neg (by decide)]
    unfold LexW.uesc
    rw [RefP.ev_exactly1, if_pos b0.2, if_pos b0.1]
    simp only [Option.isSome_none, Bool.false_eq_true, if_false]
    rw [hf]
    simp only [Option.isSome_none, Bool.false_eq_true, if_false]
    rw [if_pos (by omega)]
    rfl
theorem LexP.split : ∀ ps : List Int, (∀ p ∈ ps, Utf.Scalar p) → ∃ az rest, ps = az ++ rest ∧ (∀ b ∈ Utf.encs az, LexW.plain b = true) ∧ (rest = [] ∨ ∃ c r, rest = c :: r ∧ 0 ≤ c ∧ c < 128 ∧ LexW.plain c = false) := by
  intro ps
  induction ps with
  | nil => intro _; exact ⟨[], [], rfl, (by intro b hb; cases hb), .inl rfl⟩
  | cons p ps ih =>
    intro hs
    have hp := hs p (List.mem_cons_self ..)
    by_cases hsp : p < 128 ∧ LexW.plain p = false
    · refine ⟨[], p :: ps, rfl, (by intro b hb; cases hb), .inr ⟨p, ps, rfl, ?_, hsp.1, hsp.2⟩⟩
      rcases hp with h | h <;> omega
    · obtain ⟨az, rest, e, h1, h2⟩ := ih (fun x hx => hs x (List.mem_cons_of_mem _ hx))
      refine ⟨p :: az, rest, by rw [e]; rfl, ?_, h2⟩
      intro b hb
      rw [Utf.encs_cons] at hb
      rcases List.mem_append.1 hb with hb | hb
      · rcases Utf.enc_cases hp with ⟨a, b2, c⟩ | ⟨a, b2, c⟩ | ⟨a, b2, c⟩ | ⟨a, b2, c⟩
        · rw [c] at hb
          obtain rfl := List.mem_singleton.1 hb
          cases hpl : LexW.plain b with
          | true => rfl
          | false => exact absurd ⟨b2, hpl⟩ hsp
        · rw [c] at hb; simp only [List.mem_cons, List.not_mem_nil, or_false] at hb; exact RefP.plain_of (by omega)
        · rw [c] at hb; simp only [List.mem_cons, List.not_mem_nil, or_false] at hb; exact RefP.plain_of (by omega)
        · rw [c] at hb; simp only [List.mem_cons, List.not_mem_nil, or_false] at hb; exact RefP.plain_of (by omega)
      · exact h1 b hb
theorem LexP.text {L : List Int} (hL : L.length < 1099511627776) : ∀ (n : Nat) (ps : List Int), ps.length = n → (∀ p ∈ ps, Utf.Scalar p) → ∀ (o : List Int) (p k : Nat) (zs : List Int), L.drop p = (Utf.encs ps).flatMap LexW.qc ++ 34 :: zs → n < k → o.length ≤ 4 * p → LexW.text L k o p = some (none, o ++ Utf.encs ps, p + ((Utf.encs ps).flatMap LexW.qc).length + 1) := by
  intro n
  induction n using Nat.strongRecOn with
  | _ n ih =>
    intro ps hn hs o p k zs hd hk ho
    obtain ⟨k, rfl⟩ : ∃ k', k = k' + 1 := ⟨k - 1, by omega⟩
    obtain ⟨az, rest, e, hA, hr⟩ := LexP.split ps hs
    subst e
    have hsa : ∀ p ∈ az, Utf.Scalar p := fun x hx => hs x (List.mem_append_left _ hx)
    have hsr : ∀ p ∈ rest, Utf.Scalar p := fun x hx => hs x (List.mem_append_right _ hx)
    rw [Utf.encs_append, List.flatMap_append, LexP.qc_plains hA] at hd ⊢
    have hgood := Utf.good_encs hsa
    -- what stands behind the plain run
    have hy : ∃ y ys, (Utf.encs rest).flatMap LexW.qc ++ 34 :: zs = y :: ys ∧ LexW.plain y = false := by
      rcases hr with rfl | ⟨c, r, rfl, c0, c1, c2⟩
      · exact ⟨34, zs, rfl, rfl⟩
      · have hec : Utf.encs (c :: r) = c :: Utf.encs r := by rw [Utf.encs_cons]; unfold Utf.enc; rw [if_pos c1]; rfl
        have hh := (LexP.esc (L := (LexW.qc c).drop 1 ++ []) (zs := []) (q := 0) c0 (by omega) c2 rfl).2.2.1
        rw [hec, List.flatMap_cons]
        cases hqc : LexW.qc c with
        | nil => rw [hqc] at hh; cases hh
        | cons a t => rw [hqc] at hh; simp at hh; subst hh; exact ⟨92, _, rfl, rfl⟩
    obtain ⟨y, ys, hys, hyp⟩ := hy
    rw [List.append_assoc, hys] at hd
    have htq := LexP.pass_run hd hA hyp
    have htpl : LexW.tpl L p = Utf.encs az := by
      unfold LexW.tpl
      rw [List.drop_take, htq, show p + (Utf.encs az).length - p = (Utf.encs az).length by omega, hd, List.take_left]
    have hat := LexP.at_drop (j := (Utf.encs az).length) hd (by simp)
    have hlen : (L.drop p).length = L.length - p := List.length_drop ..
    rw [LexW.text, htpl, Pure.utf_Points.good_k _ (by omega) _ (by omega), hgood, htq]
    simp only [Option.bind_some]
    have hy2 : LexW.at_ L (p + (Utf.encs az).length) = y := by rw [hat.1]; simp
    rw [if_pos ⟨by omega, Int.le_refl _⟩, if_neg (by rintro ⟨h, _⟩; cases h)]
    rcases hr with rfl | ⟨c, r, rfl, c0, c1, c2⟩
    · have e34 : y = 34 := by have : (34 : Int) :: zs = y :: ys := hys; injection this with h _; exact h.symm
      rw [hy2, e34, if_pos ⟨hat.2, by decide⟩, if_pos (by omega), if_pos rfl]
      rw [show Utf.encs [] = [] from rfl, List.flatMap_nil, List.append_nil]
    · have hec : Utf.encs (c :: r) = c :: Utf.encs r := by rw [Utf.encs_cons]; unfold Utf.enc; rw [if_pos c1]; rfl
      rw [hec, List.flatMap_cons] at hys ⊢
      have hd2 : L.drop (p + (Utf.encs az).length) = LexW.qc c ++ ((Utf.encs r).flatMap LexW.qc ++ 34 :: zs) := by
        rw [← List.drop_drop, hd, List.drop_left, ← hys, List.append_assoc]
      have hh := (LexP.esc (L := (LexW.qc c).drop 1 ++ []) (zs := []) (q := 0) c0 (by omega) c2 rfl)
      have hqc : LexW.qc c = 92 :: (LexW.qc c).drop 1 := by
        cases h : LexW.qc c with
        | nil => rw [h] at hh; cases hh.2.2.1
        | cons a t => rw [h] at hh; have := hh.2.2.1; simp at this; subst this; rfl
      have e92 : y = 92 := by rw [hqc] at hys; injection hys with h _; exact h.symm
      have hd3 : L.drop (p + (Utf.encs az).length + 1) = (LexW.qc c).drop 1 ++ ((Utf.encs r).flatMap LexW.qc ++ 34 :: zs) := by
        rw [← List.drop_drop, hd2, hqc]
        rfl
      have hes := (LexP.esc c0 (by omega) c2 hd3).2.2.2
      have hsc : Utf.Scalar c := .inl ⟨c0, by omega⟩
      have hpl := hat.2
      have hput := Pure.put_yes (l := o ++ Utf.encs az) (by rw [List.length_append]; omega) hsc
      rw [hy2, e92, if_pos ⟨hat.2, by decide⟩, if_pos (by omega), if_neg (by decide), hes]
      simp only [Option.isSome_none, Bool.false_eq_true, if_false, hput, Option.bind_some]
      have hd4 : L.drop (p + (Utf.encs az).length + 1 + ((LexW.qc c).drop 1).length) = (Utf.encs r).flatMap LexW.qc ++ 34 :: zs := by
        rw [← List.drop_drop, hd3, List.drop_left]
      have hql : (LexW.qc c).length = ((LexW.qc c).drop 1).length + 1 := hh.1
      have henc : Utf.enc c = [c] := by unfold Utf.enc; rw [if_pos c1]
      have hrl : r.length < n := by rw [← hn, List.length_append, List.length_cons]; omega
      rw [ih r.length hrl r rfl (fun x hx => hsr x (List.mem_cons_of_mem _ hx)) _ _ k zs hd4 (by omega) (by rw [henc, List.length_append, List.length_append]; simp; have := hh.1; omega)]
      rw [henc]
      simp only [Option.some.injEq, Prod.mk.injEq, true_and]
      refine ⟨by simp, ?_⟩
      rw [List.length_append, List.length_append, hql]
      omega
theorem LexP.back {l more : List Int} (hb : Utf.Bytes l) (hg : (Utf.good l).2 = true) (hL : (LexW.quote l ++ more).length < 1099511627776) (k : Nat) (hk : l.length < k) : LexW.next (LexW.quote l ++ more) k 0 = some (1, l, 0, (LexW.quote l).length, 0, 0) := by
  obtain ⟨hps, hle⟩ := Utf.valid_of_good hb hg
  obtain ⟨ps, hpe⟩ : ∃ ps, ps = Utf.pts l := ⟨_, rfl⟩
  rw [← hpe] at hps hle
  have hpl : ps.length ≤ l.length := by rw [hpe]; exact Utf.pts_length_le _ l (Nat.le_refl _)
  obtain ⟨L, hLe⟩ : ∃ L, L = LexW.quote l ++ more := ⟨_, rfl⟩
  rw [← hLe] at hL ⊢
  have hq : LexW.quote l = 34 :: (l.flatMap LexW.qc ++ [34]) := rfl
  have hd1 : L.drop 1 = (Utf.encs ps).flatMap LexW.qc ++ 34 :: more := by
    rw [hLe, hq, ← hle]
    simp
  have h0 : LexW.at_ L 0 = 34 := by rw [hLe, hq]; rfl
  have hl0 : 0 < L.length := by rw [hLe, hq]; simp
  have ht := LexP.text hL ps.length ps rfl hps [] 1 k more hd1 (by omega) (by simp)
  rw [← hle, List.nil_append] at ht
  have hql : 1 + (l.flatMap LexW.qc).length + 1 = (LexW.quote l).length := by rw [hq]; simp; omega
  rw [hql] at ht
  have hp0 : LexW.pass LexW.blank L 0 = 0 := by rw [LexW.pass, if_pos hl0, h0, if_neg (by decide)]
  have hsw : LexW.sw L k 0 = some (none, 1, l, (LexW.quote l).length) := by
    unfold LexW.sw
    rw [if_pos hl0, h0, if_neg (by decide), if_neg (by decide), if_neg (by decide), if_neg (by decide), if_neg (by decide), if_pos rfl, ht]
    rfl
  unfold LexW.next
  rw [if_neg (by decide), if_neg (by omega), show (0 : Int).toNat = 0 from rfl]
  unfold LexW.token
  rw [hp0, hsw]
  rfl
theorem LexP.qc_bytes {c : Int} (h0 : 0 ≤ c) (h1 : c ≤ 255) : Utf.Bytes (LexW.qc c) := by
  intro x hx
  have key : LexW.qTo.getD (LexW.idx c LexW.qFrom).toNat 0 ∈ LexW.qTo ∨ LexW.qTo.getD (LexW.idx c LexW.qFrom).toNat 0 = 0 := by
    rw [List.getD_eq_getElem?_getD]
    cases h : LexW.qTo[(LexW.idx c LexW.qFrom).toNat]? with
    | none => exact .inr rfl
    | some y => exact .inl (List.mem_of_getElem? h)
  have k2 : ∀ y ∈ LexW.qTo, 0 ≤ y ∧ y ≤ 255 := by decide
  unfold LexW.qc at hx
  split at hx
  · simp only [List.mem_cons, List.not_mem_nil, or_false] at hx
    rcases hx with rfl | rfl
    · omega
    · rcases key with h | h
      · exact k2 _ h
      · rw [h]; omega
  · split at hx
    · simp only [List.mem_cons, List.not_mem_nil, or_false] at hx
      have : 0 ≤ LexW.hexd (c % 16) ∧ LexW.hexd (c % 16) ≤ 255 := by unfold LexW.hexd; split <;> omega
      rcases hx with rfl | rfl | rfl | rfl | rfl | rfl <;> omega
    · simp only [List.mem_cons, List.not_mem_nil, or_false] at hx
      omega
theorem LexP.quote_bytes {l : List Int} (h : Utf.Bytes l) : Utf.Bytes (LexW.quote l) := by
  intro x hx
  have hx' : x ∈ 34 :: (l.flatMap LexW.qc ++ [34]) := hx
  simp only [List.mem_cons, List.mem_append, List.mem_flatMap, List.not_mem_nil, or_false] at hx'
  rcases hx' with rfl | ⟨c, hc, hx⟩ | rfl
  · omega
  · exact LexP.qc_bytes (h c hc).1 (h c hc).2 x hx
  · omega
theorem LexP.str {l : List Int} (h : Utf.Bytes l) : bytesOf (strOfNums l) = l := by
  unfold bytesOf strOfNums
  simp only
  rw [List.map_map]
  conv => rhs; rw [← List.map_id l]
  refine List.map_congr_left fun x hx => ?_
  have := h x hx
  simp
  omega

-- GIVEN plain making
attribute [local go_sem high] LexT.eq25 LexT.conv_const
set_option maxHeartbeats 4000000 in
set_option maxRecDepth 100000 in
theorem lexlaw_Back.calls (s : ByteArray) (A1 : Option Addr) (c1 : Nat) (l1 : List Int) (w : World) (hs : s.size ≤ 1048576) (hr1 : Kd.C (Kd.int .u8) w A1 l1.length l1) (hcp1 : l1.length ≤ c1) (y1 : l1.length ≤ 1048576) (hb1 : Utf.Bytes l1) (hgl : w.cell? ⟨0, 0, none⟩ = some (.iface 98 (.agg #[.pointer (some ⟨2, 46, none⟩)]))) :
    Calls Tryd.prog 8 #[.string s, .slice A1 l1.length c1] w fun e w' => e = .returned (.bool true) ∧ Below w.heap.size w w' := by
  have hl := bytesOf_length s
  have hby : Utf.Bytes (bytesOf s) := by
    intro x hx
    unfold bytesOf at hx
    obtain ⟨b, _, rfl⟩ := List.mem_map.1 hx
    have := b.toNat_lt
    omega
  have hq0 := fun W => lexn_Quote.calls s hs W
  obtain ⟨l, hle⟩ : ∃ l, l = bytesOf s := ⟨_, rfl⟩
  rw [← hle] at hl hby hq0
  have hgk := Pure.utf_Points.good_k l (by omega) (l.length + 2) (by omega)
  have hsl : strOfNums l = s := by rw [hle]; exact RefW.str s
  have hu25 := Tryd.underlying25
  have HE := Aside0.mk hle
  have HLL := Aside0.mk hl
  have HR1 := Aside0.mk hr1
  have HGL := Aside0.mk hgl
  have HB := Aside0.mk (Below.refl w.heap.size w)
  clear hr1 hgl
  by_cases hok : (Utf.good l).2 = true
  · obtain ⟨Q, hQ⟩ : ∃ x, x = LexW.quote l := ⟨_, rfl⟩
    obtain ⟨qs, hqs⟩ : ∃ x, x = strOfNums Q := ⟨_, rfl⟩
    have hQb : Utf.Bytes Q := by rw [hQ]; exact LexP.quote_bytes hby
    have hqb : bytesOf qs = Q := by rw [hqs]; exact LexP.str hQb
    have hqn : Q.length = qs.size := by rw [← hqb]; exact bytesOf_length qs
    have hql : Q.length ≤ 7000000 := by
      have := LexW.body_len l
      have e : Q.length = (l.flatMap LexW.qc).length + 2 := by rw [hQ]; simp [LexW.quote]
      omega
    obtain ⟨L2, hL2⟩ : ∃ x, x = Q ++ l1 := ⟨_, rfl⟩
    have hL2n : L2.length = Q.length + l1.length := by rw [hL2, List.length_append]
    have hnx : LexW.next L2 (l.length + 1) 0 = some (1, l, ((0 : Nat) : Nat), qs.size, ((0 : Nat) : Nat), 0) := by
      have := LexP.back (more := l1) hby hok (by rw [← hQ, ← hL2]; omega) (l.length + 1) (by omega)
      rw [← hQ, ← hL2, hqn] at this
      exact this
    have hby2 := LexW.at_bytes (l := L2) (by intro x hx; rw [hL2] at hx; rcases List.mem_append.1 hx with h | h; exact hQb x h; exact hb1 x h)
    have HL := Aside0.mk (show ∀ W : World, Calls Tryd.prog 12 #[.string s] W fun e w' => e = .returned (.tuple #[.string qs, .int .i64 0]) ∧ Below W.heap.size W w' by intro W; have := hq0 W; rw [if_pos hok, if_pos hok, ← hQ, ← hqs] at this; exact this)
    have HNXC := Aside0.mk (show ∀ (W : World) (A2 : Option Addr) (c2 : Nat), Kd.C (Kd.int .u8) W A2 L2.length L2 → L2.length ≤ c2 → W.cell? ⟨0, 0, none⟩ = some (.iface 98 (.agg #[.pointer (some ⟨2, 46, none⟩)])) → Calls Tryd.prog 9 #[.slice A2 L2.length c2, .int .i64 0] W fun e w' => e = .returned (.tuple #[.agg #[.int .i64 1, .string s, .int .i64 0, .int .i64 (qs.size : Int)], .int .i64 0, .int .i64 0]) ∧ Below W.heap.size W w' by
      intro W A2 c2 hc hcc hg
      have := lexn_Next.calls (l.length + 1) A2 c2 L2 0 1 l 0 qs.size 0 0 W hc hcc (by omega) hby2 hg hnx
      rw [hsl] at this
      exact this)
    have HL2 := Aside0.mk hL2
    have HQB := Aside0.mk hqb
    have HLB := Aside0.mk (show Q.length + l1.length ≤ 9000000 by omega)
    obtain ⟨gn, hgn⟩ : ∃ g, g = (Utf.good l).1 := ⟨_, rfl⟩
    have HGD := Aside0.mk (show utf_Good.f (l.length + 2) l = some (gn, true) by rw [hgk, hgn, ← hok])
    clear hgk hgn hok hqb hqn hql hQb hQ hqs hL2 hL2n hnx hby2 hq0 hsl hby hb1 hle hl
    go_enter Tryd.func8, Tryd.ntmps8
    go_upto_region 5 with (first | (go_at_call 12; (with_reducible refine (HL.out _).mono ?_); rintro e w1 ⟨rfl, hb⟩; have n1_ := Aside0.mk (below_step HB.out hb); clear HB hb; have HB := n1_; clear n1_) | ((with_reducible refine gate_dst (N := 19) rfl ?_); refine LexT.conv_bytes rfl 9 22 5 (.tmp 18) rfl s rfl Tryd.underlying9 Tryd.underlying22 Tryd.underlying5 (by omega) ?_; intro n1 cv w1 hn hc hR hb; rw [← HE.out] at hR ⊢; rw [← HLL.out] at hc; have HC1 := Aside0.mk hR; have n1_ := Aside0.mk (below_step HB.out hb); clear HB hb hR hn; have HB := n1_; clear n1_) | (go_at_call 16; (with_reducible refine (utf_Good.calls _ _ _ l gn _ _ HC1.out hc HGD.out).mono ?_); rintro e w1 ⟨rfl, hd⟩; have hb := hd.below; clear hd HC1; have n1_ := Aside0.mk (below_step HB.out hb); clear HB hb; have HB := n1_; clear n1_))
    go_cut [9, 10, 11] (fun v9 v10 v11 wc => ∃ t9, v9 = .pointer (some ⟨t9, 0, none⟩) ∧ v10 = .int .i64 0 ∧ v11 = .int .i64 0 ∧ Aside0 (Below w.heap.size w wc) ∧ Aside0 (w.heap.size ≤ t9) ∧ Aside0 (wc.heap[t9]? = some (.cells #[.int .i64 1, .string s, .int .i64 0, .int .i64 (qs.size : Int)] 25 (0, 0))))
    case first =>
      go_wp2_with (first | ((with_reducible refine gate_dst (N := 36) rfl ?_); refine LexT.conv_row rfl 9 22 5 (.tmp 35) rfl qs rfl Tryd.underlying9 Tryd.underlying22 Tryd.underlying5 ?_; intro g36 c36 cur fz w36 hgw hg hfz hcs hnc htk hb; rw [HQB.out] at hnc htk ⊢; have HGE := Aside0.mk (show w.heap.size ≤ g36 by rw [hgw]; exact HB.out.size); have HG36 := Aside0.mk hg; have HFZ := Aside0.mk hfz; have HCS := Aside0.mk hcs; have HNC := Aside0.mk hnc; have HTK := Aside0.mk htk; have n1_ := Aside0.mk (below_step HB.out hb); clear HB hb hgw hg hfz hcs hnc htk; have HB := n1_; clear n1_) | ((with_reducible refine gate_builtin (b := .append) (xs := #[.tmp 36, .tmp 37]) rfl ?_); at_builtin; refine LexT.append_conv (w0 := w) w.heap.size rfl (.tmp 36) (.tmp 37) 22 5 rfl Tryd.underlying22 info5 g36 c36 cur fz Q rfl HG36.out HFZ.out HCS.out HNC.out HTK.out A1 l1.length c1 l1 rfl (Kd.C_below HR1.out HB.out) HB.out HGE.out HB.out.size (by have := HLB.out; omega) ?_; intro A38 c38 w38 hc hcc hb; rw [← HL2.out] at hc hcc ⊢; clear HB HG36 HFZ HCS HNC HTK HGE; have HB := Aside0.mk hb; have HC38 := Aside0.mk hc; have HCC := Aside0.mk hcc; clear hb hc hcc) | (go_at_call 9; (with_reducible refine (HNXC.out _ A38 c38 HC38.out HCC.out (pw_cell_below HB.out HGL.out)).mono ?_); rintro e w1 ⟨rfl, hb⟩; have n1_ := Aside0.mk (below_step HB.out hb); clear HB hb HC38 HCC; have HB := n1_; clear n1_) | ((with_reducible refine gate_dst (N := 9) rfl ?_); (try (refine gate_guard (by rfl) ?_; dsimp only)); refine box_event ?hg (N := 9) ?hd (cs := #[.int .i64 0, .string (⟨#[]⟩ : ByteArray), .int .i64 0, .int .i64 0]) (t := 25) ?hr ?_; (case hd => rfl); (case hg => rfl); (case hr => first | (go_simp; done) | (go_simp; rfl)); intro t9 hg w2 hbox hb; have n1_ := Aside0.mk (below_step HB.out hb); have HG_ := Aside0.mk (show w.heap.size ≤ t9 by rw [hg]; exact HB.out.size); clear HB; have HB := n1_; have HT := Aside0.mk hbox; clear n1_ hb hbox hg; have ht0 := (blk_cell HT.out 0).trans rfl; have hf0 := blk_frozen HT.out 0; have ht1 := (blk_cell HT.out 1).trans rfl; have hf1 := blk_frozen HT.out 1; have ht2 := (blk_cell HT.out 2).trans rfl; have hf2 := blk_frozen HT.out 2; have ht3 := (blk_cell HT.out 3).trans rfl; have hf3 := blk_frozen HT.out 3))
      go_meet
      case rel => exact ⟨t9, rfl, rfl, rfl, ⟨below_set (below_set (below_set (below_set HB.out HG_.out) HG_.out) HG_.out) HG_.out⟩, HG_, ⟨blk_put (blk_put (blk_put (blk_put HT.out 0 _ rfl) 1 _ rfl) 2 _ rfl) 3 _ rfl⟩⟩
    case rest =>
      clear HB
      obtain ⟨t9, rfl, rfl, rfl, HB, HG_t9, HT_t9⟩ := hcut
      have h_t9_0 := (blk_cell HT_t9.out 0).trans rfl
      have h_t9_1 := (blk_cell HT_t9.out 1).trans rfl
      have h_t9_2 := (blk_cell HT_t9.out 2).trans rfl
      have h_t9_3 := (blk_cell HT_t9.out 3).trans rfl
      go_wp2_with (first | (go_at_call 11; (with_reducible refine (lexlaw_heads.calls _ (pw_cell_below HB.out HGL.out)).mono ?_); rintro e w1 ⟨rfl, hb⟩; have n1_ := Aside0.mk (below_step HB.out hb); clear HB hb; have HB := n1_; clear n1_))
      go_ret
      exact ⟨rfl, HB.out⟩
  · have hno : (Utf.good l).2 = false := by simpa using hok
    have HL := Aside0.mk (show ∀ W : World, Calls Tryd.prog 12 #[.string s] W fun e w' => e = .returned (.tuple #[.string (⟨#[]⟩ : ByteArray), .int .i64 10]) ∧ Below W.heap.size W w' by intro W; have := hq0 W; rw [if_neg hok, if_neg hok] at this; exact this)
    obtain ⟨gn, hgn⟩ : ∃ g, g = (Utf.good l).1 := ⟨_, rfl⟩
    have HGD := Aside0.mk (show utf_Good.f (l.length + 2) l = some (gn, false) by rw [hgk, hgn, ← hno])
    clear hgk hgn hok hno hq0 hsl hby hb1 hle hl
    go_enter Tryd.func8, Tryd.ntmps8
    go_wp2_with (first | (go_at_call 12; (with_reducible refine (HL.out _).mono ?_); rintro e w1 ⟨rfl, hb⟩; have n1_ := Aside0.mk (below_step HB.out hb); clear HB hb; have HB := n1_; clear n1_) | ((with_reducible refine gate_dst (N := 19) rfl ?_); refine LexT.conv_bytes rfl 9 22 5 (.tmp 18) rfl s rfl Tryd.underlying9 Tryd.underlying22 Tryd.underlying5 (by omega) ?_; intro n1 cv w1 hn hc hR hb; rw [← HE.out] at hR ⊢; rw [← HLL.out] at hc; have HC1 := Aside0.mk hR; have n1_ := Aside0.mk (below_step HB.out hb); clear HB hb hR hn; have HB := n1_; clear n1_) | (go_at_call 16; (with_reducible refine (utf_Good.calls _ _ _ l gn _ _ HC1.out hc HGD.out).mono ?_); rintro e w1 ⟨rfl, hd⟩; have hb := hd.below; clear hd HC1; have n1_ := Aside0.mk (below_step HB.out hb); clear HB hb; have HB := n1_; clear n1_) | (go_at_call 11; (with_reducible refine (lexlaw_heads.calls _ (pw_cell_below HB.out HGL.out)).mono ?_); rintro e w1 ⟨rfl, hb⟩; have n1_ := Aside0.mk (below_step HB.out hb); clear HB hb; have HB := n1_; clear n1_))
    go_ret
    exact ⟨rfl, HB.out⟩

end Go.Proofs.YthoobepfkfjgnaaDoor.PL
