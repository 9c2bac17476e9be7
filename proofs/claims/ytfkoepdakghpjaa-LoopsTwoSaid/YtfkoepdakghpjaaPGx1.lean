-- Written by printx.py (this claim's own program, over the kit's print): the functions that this claim reaches. Not trusted: Lean checks it.
import Derived.Test.YtfkoepdakghpjaaPGx0
namespace Go.Proofs.Ytfkoepdakghpjaa.PG
open Go.RowKit Go.Proofs.YtfkoepdakghpjaaW.PrintWords Go.Proofs.YtfkoepdakghpjaaW.PrintLast Go.Proofs.YtfkoepdakghpjaaW.PrintMore
attribute [local go_sem] max2_int min2_int max_two min_two max_three min_three max_four min_four   -- for this text's walks alone
set_option linter.unusedVariables false
set_option linter.unusedSimpArgs false

/-! ### loops_graph: function 21: given -/
-- GIVEN plain making
open Go.Proofs.Ytfkoepdakghpjaa.Mp
/-! ### loops.graph: what it makes -/
namespace Gr
def cnt (n : Int) (e : S31) : Bool := e.f3 && (decide (e.f0 ≥ 0) && (decide (e.f0 < n) && (decide (e.f1 ≥ 0) && decide (e.f1 < n))))
def of (n : Int) (l : List S31) : Int → List Int := fun x => (l.filter fun e => cnt n e && decide (e.f0 = x)).map (·.f1)
theorem of_nil (n : Int) : of n [] = fun _ => [] := rfl
theorem of_snoc (n : Int) (l : List S31) (e : S31) : of n (l ++ [e]) = if cnt n e = true then upd (of n l) e.f0 (of n l e.f0 ++ [e.f1]) else of n l := by
  funext x
  unfold of
  rw [List.filter_append, List.map_append]
  by_cases h : cnt n e = true
  · rw [if_pos h]
    unfold upd
    by_cases hx : x = e.f0
    · subst hx
      simp [h]
    · have h1 : ¬ e.f0 = x := fun h => hx h.symm
      simp [h, hx, h1]
  · rw [if_neg h]
    simp [h]
theorem take_succ (l : List S31) (i : Nat) (h : i < l.length) : l.take (i + 1) = l.take i ++ [rd_T31 l (i : Int)] := by
  rw [List.take_succ_eq_append_getElem h]
  unfold rd_T31
  simp [List.getD_eq_getElem?_getD, List.getElem?_eq_getElem h]
theorem of_len (n : Int) (l : List S31) (x : Int) : (of n l x).length ≤ l.length := by
  unfold of
  rw [List.length_map]
  exact List.length_filter_le _ _
theorem rd_mem (l : List S31) (i : Nat) (h : i < l.length) : rd_T31 l (i : Int) ∈ l := by
  unfold rd_T31
  rw [List.getD_eq_getElem?_getD]
  simp [List.getElem?_eq_getElem h]
theorem cnt_true {n : Int} {e : S31} (h : cnt n e = true) : e.f3 = true ∧ 0 ≤ e.f0 ∧ e.f0 < n ∧ 0 ≤ e.f1 ∧ e.f1 < n := by
  unfold cnt at h
  simp only [Bool.and_eq_true, decide_eq_true_eq] at h
  omega
end Gr
set_option maxHeartbeats 8000000 in
set_option maxRecDepth 100000 in
theorem graph_any (n : Int) (A1 : Option Addr) (c1 : Nat) (l : List S31) (w : World) (hr1 : Kd.C k31 w A1 l.length l) (hc1 : l.length ≤ c1) (hn : n ≤ 1000000) (hl : l.length ≤ 1000000) :
    Calls Try.prog 21 #[.int .i64 n, .slice A1 l.length c1] w fun e w' => ∃ b m, e = .returned (.map (some b)) ∧ w.heap.size ≤ b ∧ m ≤ l.length ∧ GrI w' (b + 1) b m (Gr.of n l) ∧ Below w.heap.size w w' := by
  have HR1 := Aside0.mk hr1
  have HC1 := Aside0.mk hc1
  clear hr1 hc1
  have hmm := @run_makeMap Try.prog
  obtain ⟨b, hb⟩ : ∃ b, b = w.heap.size := ⟨_, rfl⟩
  have HBB := Aside0.mk hb
  have hM := GrI.made w
  rw [← hb] at hM
  have HM := Aside0.mk hM
  have HB := Aside0.mk (below_alloc (Below.refl w.heap.size w) (.map #[] 0))
  clear hM
  go_enter Try.func21, Try.ntmps21
  go_wp2
  rw [← hb]
  clear hb
  generalize w.alloc (.map #[] 0) = w1 at HM HB ⊢
  go_loopw [11] (fun v wr => ∃ i : Nat, i ≤ l.length ∧ v = .int .i64 i ∧ Aside0 (∃ m, m ≤ i ∧ GrI wr (b + 1) b m (Gr.of n (l.take i))) ∧ Aside0 (Below w.heap.size w wr)) (fun v _ => l.length - (intOf v).toNat)
  case atStart => exact ⟨0, Nat.zero_le _, rfl, ⟨0, Nat.le_refl _, HM.out⟩, HB⟩
  case round =>
    clear HM HB
    obtain ⟨i, hi, rfl, HM, HB⟩ := hrel
    by_cases hlt : i < l.length
    · obtain ⟨ad, e, hx0, hx1, hx2, hx3, hx4⟩ := at_T31 HR1.out (i : Int) (by omega) (by omega)
      cases e
      replace hx0 := (HB.out.cell (World.block_lt_of_cell? w _ hx0)).trans hx0
      replace hx1 := (HB.out.cell (World.block_lt_of_cell? w _ hx1)).trans hx1
      replace hx2 := (HB.out.cell (World.block_lt_of_cell? w _ hx2)).trans hx2
      replace hx3 := (HB.out.cell (World.block_lt_of_cell? w _ hx3)).trans hx3
      replace hx4 := (HB.out.cell (World.block_lt_of_cell? w _ hx4)).trans hx4
      simp only [Int.toNat_natCast] at hx0 hx1 hx2 hx3 hx4
      have HTS := Aside0.mk (Gr.take_succ l i hlt)
      generalize rd_T31 l (i : Int) = ed at hx0 hx1 hx2 hx3 hx4 HTS
      go_wp2_with fail
      · have hf0 : 0 ≤ ed.f0 := by assumption
        have hf1 : ed.f0 < n := by assumption
        have hf2 : 0 ≤ ed.f1 := by assumption
        have hf3 : ed.f1 < n := by assumption
        have hs3 : ed.f3 = true := by assumption
        have HCN := Aside0.mk (show Gr.cnt n ed = true by unfold Gr.cnt; rw [hs3]; simp; omega)
        obtain ⟨m, hm, hG⟩ := HM.out
        have hg := blk_new wr (.cells #[.int .i64 ed.f0, .int .i64 ed.f1, .string ed.f2, .bool true, .string ed.f4] 31 (0, 0))
        have hGB := below_alloc HB.out (.cells #[.int .i64 ed.f0, .int .i64 ed.f1, .string ed.f2, .bool true, .string ed.f4] 31 (0, 0))
        have hG2 := hG.below (below_alloc (Below.refl wr.heap.size wr) (.cells #[.int .i64 ed.f0, .int .i64 ed.f1, .string ed.f2, .bool true, .string ed.f4] 31 (0, 0)))
        obtain ⟨g, hgs⟩ : ∃ g, g = wr.heap.size := ⟨_, rfl⟩
        rw [← hgs] at hg
        rw [← hgs]
        clear hgs HM HB hG
        generalize wr.alloc (.cells #[.int .i64 ed.f0, .int .i64 ed.f1, .string ed.f2, .bool true, .string ed.f4] 31) = w2 at hg hGB hG2 ⊢
        have HG := Aside0.mk hg
        have HB := Aside0.mk hGB
        obtain ⟨v, hlk, hrow, hvl, hback⟩ := hG2.back (by omega) (x := ed.f0) (wf_of (by omega) (by omega)) (y := ed.f1) (wf_of (by omega) (by omega))
        have hbl := hG2.lt.1
        have HLT := Aside0.mk hbl
        have hl1 := hlk w2.drew (below_drew1 (Below.refl _ _))
        have hl2 := hlk (w2.alloc (.cells #[.int .i64 ed.f1] 3)).drew (below_drew1 (below_alloc (Below.refl _ _) _))
        have hc0 := (blk_cell HG.out 0).trans rfl
        have hc1 := (blk_cell HG.out 1).trans rfl
        have hd0 := blk_cell (blk_drew (blk_alloc HG.out (.cells #[.int .i64 ed.f1] 3))) 0 |>.trans rfl
        have hd1 := blk_cell (blk_drew (blk_alloc HG.out (.cells #[.int .i64 ed.f1] 3))) 1 |>.trans rfl
        have HROW := Aside0.mk hrow
        have HVL := Aside0.mk hvl
        have HBACK := Aside0.mk hback
        clear hlk hrow hvl hback hg hGB hG2 hbl hx0 hx1 hx2 hx3 hx4
        have HBG := Aside0.mk (show w.heap.size ≤ b by rw [HBB.out]; exact Nat.le_refl _)
        go_region_law (refine Kd.R_append_step (Kd.int .i64) (w0 := w2) (W := w2.drew) (b + 1) (by rfl) (.tmp 45) (.tmp 48) 24 3 (.int .i64 0) 8 rfl Try.underlying24 info3 rfl (by decide) (by omega) v (Gr.of n (l.take i) ed.f0) ed.f1 [.int .i64 ed.f1] (fun _ => True) (fun _ => False) rfl rfl rfl (fun _ h => h.elim) (fun _ _ => trivial) (Kd.R_drew HROW.out) (below_drew1 (Below.refl _ _)) (by have := HLT.out; simp; omega) (by have := HVL.out; omega) ?_; intro v1 w3 ho hb hgr hat; have HGR := Aside0.mk (show w2.grownBy w3 v.ownBlock from ⟨hgr.os, hgr.tape, hgr.output, hgr.size, hgr.block⟩); have HG3 := Aside0.mk ((hgr.block g (blk_lt HG.out) (Kd.R_ne HROW.out HG.out (by decide))).trans HG.out); have he0 := (blk_cell HG3.out 0).trans rfl; obtain ⟨w4, hup, hG4, hgr4⟩ := HBACK.out w3 v1 HGR.out ho hat; have HG4 := Aside0.mk hG4; have HGR4 := Aside0.mk hgr4; clear ho hb hgr hat hG4 hgr4)
        all_goals
          go_wp2
          have HBn := ((HB.out.grown HGR.out HB.out.size (fun k hk => Nat.le_trans HBG.out (Nat.le_trans (Nat.le_succ b) (HROW.out.base hk)))).grown HGR4.out (Nat.le_trans HB.out.size HGR.out.size) (fun k hk => by cases hk; exact HBG.out))
          go_roundw
          case rel => exact ⟨i + 1, by omega, by go_num, ⟨m + 1, by omega, by rw [HTS.out, Gr.of_snoc, if_pos HCN.out]; exact HG4.out⟩, ⟨HBn⟩⟩
          case measure => simp [intOf]; omega
      all_goals
        have HCN := Aside0.mk (show ¬ Gr.cnt n ed = true by unfold Gr.cnt; simp; intros; first | omega | simp_all)
        obtain ⟨m, hm, hG⟩ := HM.out
        have HG2 := Aside0.mk (fun o => hG.below (below_alloc (Below.refl wr.heap.size wr) o))
        clear hG HM
        go_roundw
        case rel => exact ⟨i + 1, by omega, by go_num, ⟨m, by omega, by rw [HTS.out, Gr.of_snoc, if_neg HCN.out]; exact HG2.out _⟩, ⟨below_alloc HB.out _⟩⟩
        case measure => simp [intOf]; omega
    · obtain rfl : i = l.length := by omega
      obtain ⟨m, hm, hG⟩ := HM.out
      rw [List.take_length] at hG
      have HG := Aside0.mk hG
      have HBG := Aside0.mk (show w.heap.size ≤ b by rw [HBB.out]; exact Nat.le_refl _)
      clear hG HM HBB
      go_wp2
      go_ret
      exact ⟨b, m, rfl, HBG.out, hm, HG.out, HB.out⟩


/-! ### loops_search: function 19: given -/
-- GIVEN plain making
open Go.Proofs.Ytfkoepdakghpjaa.Mp
/-! ### loops.search -/
namespace Sc
def PostS (w : World) : (List Int ⊕ Lp.St) → Ending → World → Prop
  | .inl c, e, w' => ∃ A cap, e = .returned (.tuple #[.slice A c.length cap, .map none]) ∧ Row w' w.heap.size (.slice A c.length cap) c ∧ Below w.heap.size w w'
  | .inr s, e, w' => ∃ b, e = .returned (.tuple #[.slice none 0 0, .map (some b)]) ∧ MapI w' b s.rkN s.rk ∧ w.heap.size ≤ b ∧ Below w.heap.size w w'
theorem nums_drop {n : Int} {N i : Nat} (hN : N = n.toNat) (h : i < N) : (Lp.nums n).drop i = (i : Int) :: (Lp.nums n).drop (i + 1) := by
  have hl : i < (Lp.nums n).length := by simp [Lp.nums]; omega
  rw [List.drop_eq_getElem_cons hl]
  simp [Lp.nums]
theorem nums_len (n : Int) : (Lp.nums n).length = n.toNat := by simp [Lp.nums]
end Sc
set_option maxHeartbeats 8000000 in
set_option maxRecDepth 100000 in
theorem search_any (n : Int) (A1 : Option Addr) (c1 : Nat) (l : List S31) (w : World) (hr1 : Kd.C k31 w A1 l.length l) (hc1 : l.length ≤ c1) (hn : n ≤ 1000000) (hl : l.length ≤ 1000000) (o : List Int ⊕ Lp.St) (ho : Lp.search (Gr.of n l) n = some o) :
    Calls Try.prog 19 #[.int .i64 n, .slice A1 l.length c1] w (Sc.PostS w o) := by
  have HG := Aside0.mk (graph_any n A1 c1 l w hr1 hc1 hn hl)
  have HO := Aside0.mk ho
  clear hr1 hc1 ho
  have hmm := @run_makeMap Try.prog
  obtain ⟨N, hN⟩ : ∃ N, N = n.toNat := ⟨_, rfl⟩
  have HN := Aside0.mk hN
  have hN_ : (if n < 0 then 0 else n) = (N : Int) := by rw [hN]; split <;> omega
  have hNb : N ≤ 1000000 := by omega
  clear hN
  go_enter Try.func19, Try.ntmps19
  go_upto_block 0 with (first | (go_at_call 21; (with_reducible refine HG.out.mono ?_); rintro e w1 ⟨b, m, rfl, hb, hm, hg, hB⟩; have HB := Aside0.mk hB; have HGR := Aside0.mk hg; have HBB := Aside0.mk hb; clear hB hg hb))
  obtain ⟨h, hh⟩ : ∃ h, h = w1.heap.size := ⟨_, rfl⟩
  obtain ⟨F, ok, e1, e2, e3, e4, e5, e6, e7, e8, e9, e10, hS⟩ := Sr.init w1 b (b + 1) m (Gr.of n l) HGR.out (by omega) h hh
  rw [← hh]
  rw [e8, e7, e10, e6, e5, e4, e9, e3] at hS ⊢
  clear e3 e4 e5 e6 e7 e8 e9 e10 hh
  have HS := Aside0.mk hS
  clear hS
  generalize World.alloc _ (.cells #[.func _ _ _] 47) = w2 at HS ⊢
  have ho := HO.out
  unfold Lp.search at ho
  rw [← e2] at ho
  have HE1 := Aside0.mk e1
  have HE2 := Aside0.mk e2
  have HW1 := Aside0.mk (show w.heap.size ≤ F.nx by rw [← ok.base, e1]; exact HB.out.size)
  obtain ⟨k, hk⟩ : ∃ k, k = n.toNat + 2 := ⟨_, rfl⟩
  rw [← hk] at ho
  have HT := Aside0.mk ho
  clear hk ho e1 e2 HGR HBB HG HO hm
  go_wp2_with fail
  go_loopw [21] (fun v21 wr => ∃ (i : Nat) (si : Lp.St), v21 = .int .i64 i ∧ i ≤ N ∧ Aside0 (Sr.SR F wr si) ∧ Aside0 (Lp.top F.G k ((Lp.nums n).drop i) si = some o)) (fun v21 _ => N - (intOf v21).toNat)
  case atStart => exact ⟨0, _, rfl, Nat.zero_le _, HS, ⟨by rw [List.drop_zero]; exact HT.out⟩⟩
  case round =>
    clear HS HT
    obtain ⟨i, si, rfl, hi, HS, HT⟩ := hrel
    have HBw := Aside0.mk (fun (w' : World) (hb : Below F.nx F.w1 w') => (HB.out.trans (by rw [← HE1.out]; exact hb.mono HW1.out) : Below w.heap.size w w'))
    by_cases hlt : i < N
    · have hT := HT.out
      rw [Sc.nums_drop HN.out hlt] at hT
      simp only [Lp.top] at hT
      clear HT
      have c0 : wr.cell? ⟨F.vis, 0, none⟩ = some (.func (.func 28) #[] #[.pointer (some ⟨F.on, 0, none⟩), .pointer (some ⟨F.path, 0, none⟩), .pointer (some ⟨F.cyc, 0, none⟩), .pointer (some ⟨F.rk, 0, none⟩), .pointer (some ⟨F.nx, 0, none⟩), .pointer (some ⟨F.vis, 0, none⟩)]) := cell_of_one HS.out.choose_spec.1.cvis
      have hwi : Wf (i : Int) := wf_of (by omega) (by omega)
      cases hv : Lp.visit F.G k si (i : Int) with
      | none => rw [hv] at hT; cases hT
      | some ov =>
        rw [hv] at hT
        cases ov with
        | inl c =>
          simp only at hT
          have HC := Aside0.mk ((Sr.visit_any F ok k si (i : Int) wr hwi HS.out).1 c hv)
          have HR := Aside0.mk (Option.some.inj hT).symm
          clear hT hv hwi
          go_upto_region 11 with (first | (go_at_call 28; (with_reducible refine HC.out.mono ?_); rintro e w5 ⟨rfl, hce⟩; have HCE := Aside0.mk hce; clear hce))
          obtain ⟨v, hcv, hrv⟩ := HCE.out.cell
          obtain ⟨Ac, capc, rfl⟩ := Kd.R_slice hrv
          have c1 := cell_of_one hcv
          have HRV := Aside0.mk hrv
          clear hcv hrv
          go_wp2_with fail
          go_ret2
          rw [HR.out]
          exact ⟨Ac, capc, rfl, HRV.out.lower HW1.out, HBw.out _ HCE.out.base⟩
        | inr s2 =>
          simp only at hT
          have HC := Aside0.mk ((Sr.visit_any F ok k si (i : Int) wr hwi HS.out).2 s2 hv)
          have HR := Aside0.mk hT
          clear hT hv hwi
          go_wp2_with (first | (go_at_call 28; (with_reducible refine HC.out.mono ?_); rintro e w5 ⟨rfl, hce⟩; have HS5 := Aside0.mk hce; clear hce))
          go_roundw
          case rel => exact ⟨i + 1, s2, by go_num, by omega, HS5, HR⟩
          case measure => simp [intOf]; omega
    · obtain rfl : i = N := by omega
      have hT := HT.out
      rw [List.drop_eq_nil_of_le (by rw [Sc.nums_len, HN.out]; exact Nat.le_refl _)] at hT
      simp only [Lp.top] at hT
      have HR := Aside0.mk (Option.some.inj hT).symm
      obtain ⟨v, hsv, hsr⟩ := HS.out
      have c0 := cell_of_one hsv.crk
      have HSV := Aside0.mk hsv
      clear hT HT hsv hsr
      go_wp2_with fail
      go_region
      all_goals
        go_wp2_with fail
        go_ret2
        rw [HR.out]
        refine ⟨_, rfl, HSV.out.mrk.keep rfl, ?_, ?_⟩
        · have := ok.rk
          have := HW1.out
          omega
        · exact below_drew1 (HBw.out _ HSV.out.base)


/-! ### loops_Ranks: function 10: given -/
-- GIVEN plain making
open Go.Proofs.Ytfkoepdakghpjaa.Mp
def loops_Ranks.f (a0 : Int) (l1 : List (S31)) : Option (List Int × Bool) := if a0 ≤ 1000000 ∧ l1.length ≤ 1000000 then (Lp.search (Gr.of a0 l1) a0).bind fun o => some (match o with | .inl _ => ([], false) | .inr s => ((Lp.nums a0).map fun i => (s.rk i).getD 0, true)) else none
theorem loops_Ranks.take (n : Int) (g : Int → Int) (i : Nat) (h : i < n.toNat) : ((Lp.nums n).take (i + 1)).map g = ((Lp.nums n).take i).map g ++ [g (i : Int)] := by
  have hl : i < (Lp.nums n).length := by rw [Sc.nums_len]; exact h
  rw [List.take_succ_eq_append_getElem hl, List.map_append]
  simp [Lp.nums]
set_option maxHeartbeats 4000000 in
set_option maxRecDepth 100000 in
theorem loops_Ranks.calls (a0 : Int) (A1 : Option Addr) (c1 : Nat) (l1 : List (S31)) (r1 : List Int) (r2 : Bool) (w : World) (hr1 : Kd.C k31 w A1 l1.length l1) (hc1 : l1.length ≤ c1) (h : loops_Ranks.f a0 l1 = some (r1, r2)) :
    Calls Try.prog 10 #[.int .i64 a0, .slice A1 l1.length c1] w fun e w' => ∃ v0_ : Value, e = .returned (.tuple #[v0_, .bool r2]) ∧ Kd.R (Kd.int .i64) 3 w' w.heap.size (fun _ => True) v0_ r1 ∧ Below w.heap.size w w' := by
  unfold loops_Ranks.f at h
  by_cases hb : a0 ≤ 1000000 ∧ l1.length ≤ 1000000
  · rw [if_pos hb] at h
    cases ho : Lp.search (Gr.of a0 l1) a0 with
    | none => rw [ho] at h; cases h
    | some o =>
      rw [ho] at h
      have HS := Aside0.mk (search_any a0 A1 c1 l1 w hr1 hc1 hb.1 hb.2 o ho)
      cases o with
      | inl c =>
        obtain ⟨h1, h2⟩ := Prod.mk.inj (Option.some.inj h)
        subst h1 h2
        clear h ho hr1 hc1 hb
        have qT : ∀ (w : World) (r : Option Nat), (binOp .eql 34 (.map r) (.map none)).run Try.prog w = .ok (.bool r.isNone) w := fun w r => run_eql_map_nil w _ _ _ r Try.underlying34
        go_enter Try.func10, Try.ntmps10
        go_wp2_with (first | (go_at_call 19; (with_reducible refine HS.out.mono ?_); rintro e w1 ⟨A, cap, rfl, hr, hB⟩; have HB := Aside0.mk hB; clear hr hB))
        go_ret2
        exact ⟨_, rfl, Kd.R_nil _ _ _ _ _, HB.out⟩
      | inr s =>
        obtain ⟨h1, h2⟩ := Prod.mk.inj (Option.some.inj h)
        subst h1 h2
        obtain ⟨N, hN⟩ : ∃ N, N = a0.toNat := ⟨_, rfl⟩
        have HN := Aside0.mk hN
        have hN_ : (if a0 < 0 then 0 else a0) = (N : Int) := by rw [hN]; split <;> omega
        have hNb : N ≤ 1000000 := by omega
        clear hN
        clear h ho hr1 hc1 hb
        have qT : ∀ (w : World) (r : Option Nat), (binOp .eql 34 (.map r) (.map none)).run Try.prog w = .ok (.bool r.isNone) w := fun w r => run_eql_map_nil w _ _ _ r Try.underlying34
        go_enter Try.func10, Try.ntmps10
        go_wp2_with (first | (go_at_call 19; (with_reducible refine HS.out.mono ?_); rintro e w1 ⟨b, rfl, hm, hb, hB⟩; have HM := Aside0.mk hm; have HBB := Aside0.mk hb; have HB := Aside0.mk hB; clear hm hB hb))
        clear qT HS
        go_loopw [8, 20] (fun v8 v20 wr => ∃ i : Nat, v20 = .int .i64 i ∧ i ≤ N ∧ Aside0 (Row wr w.heap.size v8 (((Lp.nums a0).take i).map fun i => (s.rk i).getD 0)) ∧ Aside0 (MapI wr b s.rkN s.rk) ∧ Aside0 (Below w.heap.size w wr)) (fun _ v20 _ => N - (intOf v20).toNat)
        case atStart => exact ⟨0, rfl, Nat.zero_le _, ⟨Kd.R_nil _ _ _ _ _⟩, HM, HB⟩
        case round =>
          clear HM HB
          obtain ⟨i, rfl, hi, HR, HM, HB⟩ := hrel
          by_cases hlt : i < N
          · have hl := HM.out.look (x := (i : Int)) (wf_of (by omega) (by omega))
            have HTK := Aside0.mk (loops_Ranks.take a0 (fun i => (s.rk i).getD 0) i (by rw [← HN.out]; exact hlt))
            obtain ⟨out, ho⟩ : ∃ out, out = ((Lp.nums a0).take i).map fun i => (s.rk i).getD 0 := ⟨_, rfl⟩
            have hol : out.length ≤ 1000000 := by rw [ho, List.length_map, List.length_take]; omega
            rw [← ho] at HR HTK
            clear ho
            obtain ⟨z, hz⟩ : ∃ z, (s.rk (i : Int)).getD 0 = z := ⟨_, rfl⟩
            rw [hz] at hl HTK
            clear hz
            go_wp2_with (first | ((with_reducible refine gate_builtin (b := .append) (xs := #[.tmp 23, .tmp 27]) rfl ?_); at_builtin; refine Kd.R_append (Kd.int .i64) (w0 := w) w.heap.size rfl (.tmp 23) (.tmp 27) 24 3 (.int .i64 0) 8 rfl Try.underlying24 info3 rfl (by decide) (by omega) u8 out z [.int .i64 z] (fun _ => True) (fun _ => False) rfl rfl rfl (fun _ h => h.elim) (fun _ _ => trivial) HR.out HB.out HB.out.size (by omega) ?_; intro v1 w3 ho hb hgr hat; have HB3 := Aside0.mk hb; have HR3 := Aside0.mk ho; have HM3 := Aside0.mk (HM.out.keep (hgr.block b HM.out.lt (fun e => by obtain ⟨cells, hc⟩ := Row.typed HR.out e.symm; obtain ⟨D, ⟨es, clock, hb, _⟩, _⟩ := HM.out; rw [hb] at hc; cases hc))); clear ho hb hgr hat))
            go_roundw
            case rel => exact ⟨i + 1, by go_num, by omega, ⟨by rw [HTK.out]; exact HR3.out⟩, HM3, HB3⟩
            case measure => simp [intOf]; omega
          · obtain rfl : i = N := by omega
            have hr := HR.out
            rw [List.take_of_length_le (by rw [Sc.nums_len, HN.out]; exact Nat.le_refl _)] at hr
            have HR2 := Aside0.mk hr
            clear hr
            go_wp2_with fail
            go_ret2
            exact ⟨_, rfl, HR2.out, HB.out⟩
  · rw [if_neg hb] at h
    cases h


end Go.Proofs.Ytfkoepdakghpjaa.PG
