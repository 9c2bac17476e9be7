/- loops.search's closure: the walk. -/
import Derived.Test.YtfkoepdakghpjaaSr
import Derived.Test.YtfkoepdakghpjaaRw
namespace Go.Proofs.Ytfkoepdakghpjaa.Sr
open Go Go.RowKit Go.Proofs.YtfkoepdakghpjaaW.PrintWords Go.Proofs.YtfkoepdakghpjaaW.PrintLast Go.Proofs.YtfkoepdakghpjaaW.PrintMore Go.Proofs.Ytfkoepdakghpjaa.Mp Go.Proofs.Ytfkoepdakghpjaa.Lp
attribute [local go_sem] max2_int min2_int max_two min_two max_three min_three max_four min_four
set_option linter.unusedVariables false
set_option linter.unusedSimpArgs false

def PostF (F : Fx) (c : List Int) (e : Ending) (w' : World) : Prop := e = .returned (.bool false) ∧ CycEnd F w' c
def PostT (F : Fx) (s : St) (e : Ending) (w' : World) : Prop := e = .returned (.bool true) ∧ SR F w' s

set_option maxHeartbeats 4000000 in
set_option maxRecDepth 100000 in
/-- The number lies on the path. -/
theorem visit_on (F : Fx) (ok : F.Ok) (s : St) (x : Int) (w : World) (hx : Wf x) (h : SR F w s) (q : Nat) (hq : (s.on x).getD 0 = (q : Int) + 1) (hql : q < s.path.length) (hs : s.path.length < 1000000) :
    Calls Try.prog 28 #[.int .i64 x, .pointer (some ⟨F.on, 0, none⟩), .pointer (some ⟨F.path, 0, none⟩), .pointer (some ⟨F.cyc, 0, none⟩), .pointer (some ⟨F.rk, 0, none⟩), .pointer (some ⟨F.nx, 0, none⟩), .pointer (some ⟨F.vis, 0, none⟩)] w (PostF F (s.path.drop q)) := by
  obtain ⟨v, h1, h2⟩ := h
  have hl := h1.mon.look hx
  rw [hq] at hl
  obtain ⟨g, cap, rfl, hg0, hg1, cells, hgc⟩ := Kd.R_form h2 (by omega)
  have hcl := (Kd.R_reads' h2).2.2
  have hcap := (Kd.R_reads' h2).2.1
  have c0 := cell_of_one h1.con
  have c1 := cell_of_one h1.cpath
  have H1 := Aside0.mk h1
  have H2 := Aside0.mk h2
  have hcb : ∀ j, j < (s.path.drop q).length → w.cell? ⟨g, q + j, none⟩ = some (.int .i64 ((s.path.drop q).getD j 0)) := by
    intro j hj
    rw [List.length_drop] at hj
    obtain ⟨ad, hd, hc⟩ := Kd.at_int hcl ((q + j : Nat) : Int) (by omega) (by omega)
    cases hd
    rw [add_plain] at hc
    simp only [Int.toNat_natCast] at hc
    rw [hc]
    congr 2
    unfold rd
    rw [Int.toNat_natCast, List.getD_eq_getElem?_getD, List.getD_eq_getElem?_getD, List.getElem?_drop]
  have HC := Aside0.mk (clone_row g q (cap - q) (s.path.drop q) w (by rw [List.length_drop]; omega) hcb)
  have hne : ¬ cap = q := by omega
  have hle : q ≤ s.path.length := by omega
  have hlen : (s.path.drop q).length = s.path.length - q := List.length_drop
  rw [hlen] at HC
  have HLEN := Aside0.mk hlen
  clear h1 h2 hcl hgc hcb hlen hq
  go_enter Try.func28, Try.ntmps28
  go_wp2_with (first | (go_at_call 29; (with_reducible refine HC.out.mono ?_); rintro e w2 ⟨A2, c2, rfl, ho, hb⟩; have HB := Aside0.mk hb; have HO := Aside0.mk ho; have cc := cell_of_one (blk_below H1.out.ccyc hb); have cf := free_of_one (blk_below H1.out.ccyc hb); clear ho hb))
  go_ret
  have hb := HB.out
  have h1 := H1.out
  have e2 := ok.path
  have hlt := h1.lt ok
  refine ⟨rfl, (h1.base.trans (hb.mono (by omega))).setCell (by show F.nx ≤ F.cyc; omega) _, _, one_setCell (blk_below h1.ccyc hb), ?_⟩
  exact (Row.lower HO.out (by omega)).setOne (blk_below h1.ccyc hb) (by decide)
set_option maxHeartbeats 4000000 in
set_option maxRecDepth 100000 in
/-- The number has a rank. -/
theorem visit_done (F : Fx) (ok : F.Ok) (s : St) (x : Int) (w : World) (hx : Wf x) (h : SR F w s) (z : Int) (hz : (s.on x).getD 0 = z) (hz0 : ¬ 0 < z) (hd : (s.rk x).isSome = true) :
    Calls Try.prog 28 #[.int .i64 x, .pointer (some ⟨F.on, 0, none⟩), .pointer (some ⟨F.path, 0, none⟩), .pointer (some ⟨F.cyc, 0, none⟩), .pointer (some ⟨F.rk, 0, none⟩), .pointer (some ⟨F.nx, 0, none⟩), .pointer (some ⟨F.vis, 0, none⟩)] w (PostT F s) := by
  obtain ⟨v, h1, h2⟩ := h
  have hl := h1.mon.look hx
  rw [hz] at hl
  have hk := h1.mrk.lookOk hx
  rw [hd] at hk
  have c0 := cell_of_one h1.con
  have c1 := cell_of_one h1.crk
  have HS := Aside0.mk (show SR F w s from ⟨v, h1, h2⟩)
  clear h1 h2 hz hd
  go_enter Try.func28, Try.ntmps28
  go_wp2_with fail
  go_ret
  exact ⟨rfl, HS.out⟩

set_option maxHeartbeats 16000000 in
set_option maxRecDepth 100000 in
/-- The number is new. -/
theorem visit_new (F : Fx) (ok : F.Ok) (k : Nat)
    (ih : ∀ (s : St) (x : Int) (w : World), Wf x → SR F w s → (∀ c, visit F.G k s x = some (.inl c) → Calls Try.prog 28 #[.int .i64 x, .pointer (some ⟨F.on, 0, none⟩), .pointer (some ⟨F.path, 0, none⟩), .pointer (some ⟨F.cyc, 0, none⟩), .pointer (some ⟨F.rk, 0, none⟩), .pointer (some ⟨F.nx, 0, none⟩), .pointer (some ⟨F.vis, 0, none⟩)] w (PostF F c)) ∧
      (∀ s', visit F.G k s x = some (.inr s') → Calls Try.prog 28 #[.int .i64 x, .pointer (some ⟨F.on, 0, none⟩), .pointer (some ⟨F.path, 0, none⟩), .pointer (some ⟨F.cyc, 0, none⟩), .pointer (some ⟨F.rk, 0, none⟩), .pointer (some ⟨F.nx, 0, none⟩), .pointer (some ⟨F.vis, 0, none⟩)] w (PostT F s')))
    (s : St) (x : Int) (w : World) (hx : Wf x) (h : SR F w s) (z : Int) (hz : (s.on x).getD 0 = z) (hz0 : ¬ 0 < z) (hd : (s.rk x).isSome = false) (hsm : s.small) (res : List Int ⊕ (St × Int)) (hrun : loop (visit F.G k) (F.G x) (s.push x) 0 = some res)
    (Q : Ending → World → Prop) (hQF : ∀ c, res = .inl c → ∀ e w', PostF F c e w' → Q e w') (hQT : ∀ s2 r, res = .inr (s2, r) → s2.small ∧ 0 < s2.path.length ∧ 0 ≤ r ∧ r < 1000000000 ∧ ∀ e w', PostT F (s2.pop x r) e w' → Q e w') :
    Calls Try.prog 28 #[.int .i64 x, .pointer (some ⟨F.on, 0, none⟩), .pointer (some ⟨F.path, 0, none⟩), .pointer (some ⟨F.cyc, 0, none⟩), .pointer (some ⟨F.rk, 0, none⟩), .pointer (some ⟨F.nx, 0, none⟩), .pointer (some ⟨F.vis, 0, none⟩)] w Q := by
  obtain ⟨v, h1, h2⟩ := h
  have IH := Aside0.mk ih
  clear ih
  have hl := h1.mon.look hx
  rw [hz] at hl
  have hk := h1.mrk.lookOk hx
  rw [hd] at hk
  have HON := Aside0.mk hz
  clear hz hd
  have c0 := cell_of_one h1.con
  have c1 := cell_of_one h1.crk
  have c2 := cell_of_one h1.cpath
  have H1 := Aside0.mk h1
  have H2 := Aside0.mk h2
  have HQF := Aside0.mk hQF
  have HQT := Aside0.mk hQT
  have HRUN := Aside0.mk hrun
  have HSM := Aside0.mk hsm
  have hsm1 := hsm.1
  clear h1 h2 hQF hQT hrun hsm
  have HLT := Aside0.mk (H1.out.lt ok)
  go_enter Try.func28, Try.ntmps28
  go_upto_region 9 with (first | ((with_reducible refine gate_builtin (b := .append) (xs := #[.tmp 32, .tmp 34]) rfl ?_); at_builtin; refine Kd.R_append (Kd.int .i64) (w0 := w) F.nx rfl (.tmp 32) (.tmp 34) 24 3 (.int .i64 0) 8 rfl Try.underlying24 (show (Try.prog.info? 3).map (fun i => (i.zero, i.size, i.bytes)) = some (some (.int .i64 0), 1, 8) by kernel_rfl) rfl (by decide) (by omega) v s.path x [.int .i64 x] (fun _ => True) (fun _ => False) rfl rfl rfl (fun _ h => h.elim) (fun _ _ => trivial) H2.out (Below.refl _ _) (by have := HLT.out; omega) (by omega) ?_; intro v1 w2 ho hb hgr hat; have HG2 := Aside0.mk (H1.out.grown ok H2.out hgr); have HO2 := Aside0.mk ho; have c3 := cell_of_one HG2.out.cpath; have c4 := free_of_one HG2.out.cpath; obtain ⟨A1, cap1, hv1⟩ := Kd.R_slice ho; rw [List.length_append, List.length_singleton] at hv1; subst hv1; clear ho hb hgr hat))
  have hv3 := (HG2.out.setPath ok (.slice A1 (s.path.length + 1) cap1)).path' (s.path ++ [x])
  have hr3 := Row.setOne HO2.out (u' := .slice A1 (s.path.length + 1) cap1) HG2.out.cpath (by decide)
  clear c0 c1 c2 c3 c4 hl hk HG2 HO2 H1 H2
  generalize w2.setCell ⟨F.path, 0, none⟩ (.slice A1 (s.path.length + 1) cap1) = w3 at hv3 hr3 ⊢
  obtain ⟨w4, hup, hM4, ht4⟩ := hv3.mon.store hx (v := (s.path.length : Int) + 1) (wf_of (by omega) (by omega)) (by have := HSM.out.2.1; show s.onN < _; omega)
  have hv4 := hv3.turnOn ok ht4 hM4
  have hr4 := hr3.turned ht4
  have c0 := cell_of_one hv3.con
  have c1 := cell_of_one hv3.cpath
  have c2 := cell_of_one hv4.cnx
  obtain ⟨lv, hlk, hlrow, hlwf, hlen⟩ := ok.graph.look2 (by have := ok.small; omega) hx
  have hl4 := hlk w4 (by rw [ok.base]; exact hv4.base)
  obtain ⟨Al, capl, rfl⟩ := Kd.R_slice hlrow
  have HS4 := Aside0.mk (show SR F w4 (s.push x) from ⟨_, hv4, hr4⟩)
  have HLROW := Aside0.mk hlrow
  have HLWF := Aside0.mk hlwf
  have hln : (F.G x).length ≤ 1000000 := Nat.le_trans hlen ok.small
  clear hv3 hr3 hM4 ht4 hv4 hr4 hlk hlrow hlwf hlen
  obtain ⟨l, hl⟩ : ∃ l, l = F.G x := ⟨_, rfl⟩
  rw [← hl] at HRUN HLROW HLWF hl4 hln
  clear hl
  go_upto_block 0 with (fail)
  clear hup hl4 c0 c1 c2
  go_wp2_with fail
  go_loopw [12, 44] (fun v12 v44 wr => ∃ (i : Nat) (si : St) (r : Int), v12 = .int .i64 r ∧ v44 = .int .i64 i ∧ i ≤ l.length ∧ Aside0 (SR F wr si) ∧ Aside0 (loop (visit F.G k) (l.drop i) si r = some res)) (fun _ v44 _ => l.length - (intOf v44).toNat)
  case atStart => exact ⟨0, s.push x, 0, rfl, rfl, Nat.zero_le _, HS4, ⟨by rw [List.drop_zero]; exact HRUN.out⟩⟩
  case round =>
    clear HS4 HRUN
    obtain ⟨i, si, r, rfl, rfl, hi, HS, HRUN⟩ := hrel
    by_cases hlt : i < l.length
    · have hrow := Row.move (w' := wr) HLROW.out (fun k hk => (by rw [ok.base]; exact HS.out.choose_spec.1.base : Below F.w1.heap.size F.w1 wr).block k (Kd.R_lt HLROW.out k hk))
      obtain ⟨ad, hd, hcy⟩ := Kd.at_int (Kd.R_reads' hrow).2.2 (i : Int) (by omega) (by omega)
      cases hd
      simp only [Int.toNat_natCast] at hcy
      clear hrow
      have hrun := HRUN.out
      rw [List.drop_eq_getElem_cons hlt] at hrun
      have hy : rd l (i : Int) = l[i] := by
        unfold rd
        rw [Int.toNat_natCast, List.getD_eq_getElem?_getD, List.getElem?_eq_getElem hlt]
        rfl
      have hyw : Wf (rd l (i : Int)) := by rw [hy]; exact HLWF.out _ (List.getElem_mem hlt)
      rw [← hy] at hrun
      clear hy HRUN
      generalize rd l (i : Int) = y at hcy hrun hyw
      obtain ⟨vp, hsv, hsr⟩ := HS.out
      have c0 : wr.cell? ⟨F.vis, 0, none⟩ = some (.func (.func 28) #[] #[.pointer (some ⟨F.on, 0, none⟩), .pointer (some ⟨F.path, 0, none⟩), .pointer (some ⟨F.cyc, 0, none⟩), .pointer (some ⟨F.rk, 0, none⟩), .pointer (some ⟨F.nx, 0, none⟩), .pointer (some ⟨F.vis, 0, none⟩)]) := cell_of_one hsv.cvis
      clear hsv hsr
      simp only [loop] at hrun
      cases hv : visit F.G k si y with
      | none => rw [hv] at hrun; cases hrun
      | some o =>
        rw [hv] at hrun
        cases o with
        | inl c =>
          simp only at hrun
          have HC := Aside0.mk ((IH.out si y wr hyw HS.out).1 c hv)
          have HR := Aside0.mk (Option.some.inj hrun).symm
          clear hrun hv
          go_wp2_with (first | (go_at_call 28; (with_reducible refine HC.out.mono ?_); rintro e w5 ⟨rfl, hce⟩; have HCE := Aside0.mk hce; clear hce))
          exact HQF.out c HR.out _ _ ⟨rfl, HCE.out⟩
        | inr s2 =>
          simp only at hrun
          by_cases hz2 : 0 ≤ (s2.rk y).getD 0 ∧ (s2.rk y).getD 0 < 1000000
          · rw [if_pos hz2] at hrun
            have HC := Aside0.mk ((IH.out si y wr hyw HS.out).2 s2 hv)
            have HR := Aside0.mk hrun
            obtain ⟨z2, hzz⟩ : ∃ z2, (s2.rk y).getD 0 = z2 := ⟨_, rfl⟩
            rw [hzz] at hz2 HR
            have HZZ := Aside0.mk hzz
            obtain ⟨hz20, hz21⟩ := hz2
            clear hrun hv hzz
            obtain ⟨r2, hr2⟩ : ∃ r2, r2 = mx r (z2 + 1) := ⟨_, rfl⟩
            rw [← hr2] at HR
            have hr2_ : (if r < z2 + 1 then z2 + 1 else r) = r2 := hr2.symm
            clear hr2
            go_upto_region 16 with (first | (go_at_call 28; (with_reducible refine HC.out.mono ?_); rintro e w5 ⟨rfl, hce⟩; have HS5 := Aside0.mk hce; clear hce))
            obtain ⟨vp5, hsv5, hsr5⟩ := HS5.out
            have c1 := cell_of_one hsv5.crk
            have hl5 := hsv5.mrk.look hyw
            rw [HZZ.out] at hl5
            clear hsv5 hsr5
            go_wp2_with fail
            go_roundw
            case rel => exact ⟨i + 1, s2, r2, rfl, by go_num, by omega, HS5, HR⟩
            case measure => simp [intOf]; omega
          · rw [if_neg hz2] at hrun
            cases hrun
    · obtain rfl : i = l.length := by omega
      have hrun := HRUN.out
      rw [List.drop_length] at hrun
      simp only [loop] at hrun
      obtain ⟨hs2, hp2, hr0, hr1, hfin⟩ := HQT.out si r (Option.some.inj hrun).symm
      have HFIN := Aside0.mk hfin
      have HS2 := Aside0.mk hs2
      clear hrun hfin HRUN
      have hs21 := hs2.1
      clear hs2
      obtain ⟨vp, hsv, hsr⟩ := HS.out
      obtain ⟨g, cap, rfl, hg0, hg1, cells, hgc⟩ := Kd.R_form hsr hp2
      have hcap := (Kd.R_reads' hsr).2.1
      obtain ⟨m, hm⟩ : ∃ m, si.path.length = m + 1 := ⟨si.path.length - 1, by omega⟩
      have hrt := Kd.R_take hsr (m := m) (by omega)
      have hv1 := (hsv.setPath ok (.slice (some ⟨g, 0, none⟩) m cap)).path' (si.path.take m)
      have hr1' := Row.setOne hrt (u' := .slice (some ⟨g, 0, none⟩) m cap) hsv.cpath (by decide)
      have c0 := cell_of_one hsv.cpath
      have f0 := free_of_one hsv.cpath
      rw [hm] at c0 hcap
      have hm2 : m ≤ 1000000 := by omega
      have HM := Aside0.mk hm
      clear hsv hsr hrt hgc hm hs21
      go_upto_region 19 with (fail)
      clear c0 f0
      generalize wr.setCell ⟨F.path, 0, none⟩ (.slice (some ⟨g, 0, none⟩) m cap) = w5 at hv1 hr1' ⊢
      obtain ⟨w6, hdel, hM6, ht6⟩ := hv1.mon.drop hx 0
      have hv6 := hv1.turnOn ok ht6 hM6
      have hr6 := hr1'.turned ht6
      have c0 := cell_of_one hv1.con
      obtain ⟨w7, hput, hM7, ht7⟩ := hv6.mrk.store hx (v := r) (wf_of (by omega) (by omega)) (by have := HS2.out.2.2; show si.rkN < _; omega)
      have hv7 := hv6.turnRk ok ht7 hM7
      have hr7 := hr6.turned ht7
      have c1 := cell_of_one hv6.crk
      have HE := Aside0.mk (show SR F w7 (si.pop x r) from ⟨_, by unfold St.pop; rw [show si.path.length - 1 = m by have := HM.out; omega]; exact hv7, by show Row _ _ _ (si.path.take (si.path.length - 1)); rw [show si.path.length - 1 = m by have := HM.out; omega]; exact hr7⟩)
      clear hv1 hr1' hM6 ht6 hv6 hr6 hM7 ht7 hv7 hr7
      go_wp2_with fail
      exact HFIN.out _ _ ⟨rfl, HE.out⟩
/-- The closure does what 'visit' says. -/
theorem visit_any (F : Fx) (ok : F.Ok) : ∀ (k : Nat) (s : St) (x : Int) (w : World), Wf x → SR F w s → (∀ c, visit F.G k s x = some (.inl c) → Calls Try.prog 28 #[.int .i64 x, .pointer (some ⟨F.on, 0, none⟩), .pointer (some ⟨F.path, 0, none⟩), .pointer (some ⟨F.cyc, 0, none⟩), .pointer (some ⟨F.rk, 0, none⟩), .pointer (some ⟨F.nx, 0, none⟩), .pointer (some ⟨F.vis, 0, none⟩)] w (PostF F c)) ∧
      (∀ s', visit F.G k s x = some (.inr s') → Calls Try.prog 28 #[.int .i64 x, .pointer (some ⟨F.on, 0, none⟩), .pointer (some ⟨F.path, 0, none⟩), .pointer (some ⟨F.cyc, 0, none⟩), .pointer (some ⟨F.rk, 0, none⟩), .pointer (some ⟨F.nx, 0, none⟩), .pointer (some ⟨F.vis, 0, none⟩)] w (PostT F s')) := by
  intro k
  induction k with
  | zero => exact fun s x w hx h => ⟨(fun c hc => by cases hc), (fun s' hs => by cases hs)⟩
  | succ k ih =>
    intro s x w hx h
    simp only [visit]
    by_cases h0 : 0 < (s.on x).getD 0
    · rw [if_pos h0]
      by_cases h1 : (s.on x).getD 0 ≤ (s.path.length : Int) ∧ s.path.length < 1000000
      · rw [if_pos h1]
        refine ⟨fun c hc => ?_, (fun s' hs => by cases hs)⟩
        have := visit_on F ok s x w hx h (((s.on x).getD 0).toNat - 1) (by omega) (by omega) h1.2
        cases hc
        exact this
      · rw [if_neg h1]
        exact ⟨(fun c hc => by cases hc), (fun s' hs => by cases hs)⟩
    · rw [if_neg h0]
      by_cases h1 : (s.rk x).isSome = true
      · rw [if_pos h1]
        refine ⟨(fun c hc => by cases hc), fun s' hs => ?_⟩
        cases hs
        exact visit_done F ok s x w hx h _ rfl h0 h1
      · rw [if_neg h1]
        by_cases h2 : s.small
        · rw [if_pos h2]
          cases hl : loop (visit F.G k) (F.G x) (s.push x) 0 with
          | none => exact ⟨(fun c hc => by cases hc), (fun s' hs => by cases hs)⟩
          | some o =>
            cases o with
            | inl c0 =>
              refine ⟨fun c hc => ?_, (fun s' hs => by cases hs)⟩
              cases hc
              exact visit_new F ok k ih s x w hx h _ rfl h0 (by simpa using h1) h2 _ hl _ (fun c hc e w' h => by cases hc; exact h) (fun s2 r hs => by cases hs)
            | inr sr =>
              obtain ⟨s2, r⟩ := sr
              simp only
              by_cases h3 : s2.small ∧ 0 < s2.path.length ∧ 0 ≤ r ∧ r < 1000000000
              · rw [if_pos h3]
                refine ⟨(fun c hc => by cases hc), fun s' hs => ?_⟩
                cases hs
                exact visit_new F ok k ih s x w hx h _ rfl h0 (by simpa using h1) h2 _ hl _ (fun c hc => by cases hc) (fun s3 r3 hs => by cases hs; exact ⟨h3.1, h3.2.1, h3.2.2.1, h3.2.2.2, fun e w' h => h⟩)
              · rw [if_neg h3]
                exact ⟨(fun c hc => by cases hc), (fun s' hs => by cases hs)⟩
        · rw [if_neg h2]
          exact ⟨(fun c hc => by cases hc), (fun s' hs => by cases hs)⟩
end Go.Proofs.Ytfkoepdakghpjaa.Sr
