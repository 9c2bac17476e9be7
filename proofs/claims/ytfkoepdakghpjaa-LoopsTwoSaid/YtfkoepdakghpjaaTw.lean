/- loops.Parts' closure: the walk. -/
import Derived.Test.YtfkoepdakghpjaaTr
import Derived.WalkLawsBesides
import Derived.Outline
namespace Go.Proofs.Ytfkoepdakghpjaa.Tr
open Go Go.RowKit Go.Proofs.YtfkoepdakghpjaaW.PrintWords Go.Proofs.YtfkoepdakghpjaaW.PrintLast Go.Proofs.YtfkoepdakghpjaaW.PrintMore Go.Proofs.Ytfkoepdakghpjaa.Mp Go.Proofs.Ytfkoepdakghpjaa.Tp
attribute [local go_sem] max2_int min2_int max_two min_two max_three min_three max_four min_four
set_option linter.unusedVariables false
set_option linter.unusedSimpArgs false

def PostV (F : Fx) (s : St) (e : Ending) (w' : World) : Prop := e = .returned (.tuple #[]) ∧ TR F w' s

set_option maxHeartbeats 16000000 in
set_option maxRecDepth 100000 in
theorem visit_step (F : Fx) (ok : F.Ok) (k : Nat)
    (ih : ∀ (s : St) (x : Int) (w : World), Wf x → TR F w s → ∀ s', visit F.G k s x = some s' → Calls Try.prog 22 #[.int .i64 x, .pointer (some ⟨F.num, 0, none⟩), .pointer (some ⟨F.low, 0, none⟩), .pointer (some ⟨F.stk, 0, none⟩), .pointer (some ⟨F.nx, 0, none⟩), .pointer (some ⟨F.vis, 0, none⟩), .pointer (some ⟨F.part, 0, none⟩)] w (PostV F s'))
    (s : St) (x : Int) (w : World) (hx : Wf x) (h : TR F w s) (hsm : s.small) (res : St) (hrun : loop (visit F.G k) x (F.G x) (s.enter x) = some res)
    (Q : Ending → World → Prop) (hQ1 : at0 res.low x < at0 res.num x → ∀ e w', PostV F res e w' → Q e w') (hQ2 : ¬ at0 res.low x < at0 res.num x → res.stack.idxOf x < res.stack.length ∧ res.small ∧ ∀ e w', PostV F (res.close (res.stack.idxOf x)) e w' → Q e w') :
    Calls Try.prog 22 #[.int .i64 x, .pointer (some ⟨F.num, 0, none⟩), .pointer (some ⟨F.low, 0, none⟩), .pointer (some ⟨F.stk, 0, none⟩), .pointer (some ⟨F.nx, 0, none⟩), .pointer (some ⟨F.vis, 0, none⟩), .pointer (some ⟨F.part, 0, none⟩)] w Q := by
  obtain ⟨⟨v, h1, h2⟩, hwf⟩ := h
  have IH := Aside0.mk ih
  have HQ1 := Aside0.mk hQ1
  have HQ2 := Aside0.mk hQ2
  have HRUN := Aside0.mk hrun
  have HSM := Aside0.mk hsm
  have HWF := Aside0.mk hwf
  obtain ⟨hs1, hs2, hs3, hs4⟩ := hsm
  clear ih hQ1 hQ2 hrun hwf
  have hlen := fun ty => h1.mnum.len ty
  obtain ⟨w1, hup1, hM1, ht1⟩ := h1.mnum.store hx (v := (s.numN : Int) + 1) (wf_of (by omega) (by omega)) (by omega)
  have hv1 := h1.turnNum ok ht1 hM1
  have hr1 := h2.turned ht1
  have hl1 := hM1.look hx
  rw [upd_same] at hl1
  simp only [Option.getD_some] at hl1
  obtain ⟨w2, hup2, hM2, ht2⟩ := hv1.mlow.store hx (v := (s.numN : Int) + 1) (wf_of (by omega) (by omega)) (by show s.lowN < _; omega)
  have hv2 := hv1.turnLow ok ht2 hM2
  have hr2 := hr1.turned ht2
  have c0 := cell_of_one h1.cnum
  have c1 := cell_of_one hv1.cnum
  have c2 := cell_of_one hv1.clow
  have c3 := cell_of_one hv2.cstk
  have HV2 := Aside0.mk hv2
  have HR2 := Aside0.mk hr2
  have HLT := Aside0.mk (hv2.lt ok)
  clear h1 h2 hM1 ht1 hv1 hr1 hM2 ht2 hv2 hr2
  go_enter Try.func22, Try.ntmps22
  go_upto_region 3 with (first | ((with_reducible refine gate_builtin (b := .append) (xs := #[.tmp 24, .tmp 26]) rfl ?_); at_builtin; refine Kd.R_append (Kd.int .i64) (w0 := w2) F.nx rfl (.tmp 24) (.tmp 26) 24 3 (.int .i64 0) 8 rfl Try.underlying24 (show (Try.prog.info? 3).map (fun i => (i.zero, i.size, i.bytes)) = some (some (.int .i64 0), 1, 8) by kernel_rfl) rfl (by decide) (by omega) v s.stack x [.int .i64 x] (fun _ => True) (fun _ => False) rfl rfl rfl (fun _ h => h.elim) (fun _ _ => trivial) HR2.out (Below.refl _ _) (by have := HLT.out; omega) (by omega) ?_; intro v1 w3 ho hb hgr hat; have HV3 := Aside0.mk (HV2.out.grown ok HR2.out hgr); have HR3 := Aside0.mk ho; have c4 := cell_of_one HV3.out.cstk; have c5 := free_of_one HV3.out.cstk; obtain ⟨A1, cap1, hv1⟩ := Kd.R_slice ho; rw [List.length_append, List.length_singleton] at hv1; subst hv1; clear ho hb hgr hat))
  have hv3 := (HV3.out.setStk ok (.slice A1 (s.stack.length + 1) cap1)).stack' (s.stack ++ [x])
  have hr3 := Row.setOne HR3.out (u' := .slice A1 (s.stack.length + 1) cap1) HV3.out.cstk (by decide)
  have HS4 := Aside0.mk (show TR F (w3.setCell ⟨F.stk, 0, none⟩ (.slice A1 (s.stack.length + 1) cap1)) (s.enter x) from ⟨⟨_, hv3, hr3⟩, fun y hy => by
    rcases List.mem_append.1 hy with hy | hy
    · exact HWF.out y hy
    · rw [List.mem_singleton.1 hy]; exact hx⟩)
  clear c0 c1 c2 c3 c4 c5 hl1 hup1 hup2 hlen HV2 HR2 HV3 HR3 hr3
  generalize w3.setCell ⟨F.stk, 0, none⟩ (.slice A1 (s.stack.length + 1) cap1) = w4 at hv3 HS4 ⊢
  have c0 := cell_of_one hv3.cnx
  obtain ⟨lv, hlk, hlrow, hlwf, hln⟩ := ok.graph.look2 (by have := ok.small; omega) hx
  have hl4 := hlk w4 (by rw [ok.base]; exact hv3.base)
  obtain ⟨Al, capl, rfl⟩ := Kd.R_slice hlrow
  have HLROW := Aside0.mk hlrow
  have HLWF := Aside0.mk hlwf
  have hlb : (F.G x).length ≤ 1000000 := Nat.le_trans hln ok.small
  clear hv3 hlk hlrow hlwf hln
  obtain ⟨l, hl⟩ : ∃ l, l = F.G x := ⟨_, rfl⟩
  rw [← hl] at HRUN HLROW HLWF hl4 hlb
  clear hl
  go_upto_block 0 with (fail)
  clear hl4 c0
  go_wp2_with fail
  go_loopw [32] (fun v32 wr => ∃ (i : Nat) (si : St), v32 = .int .i64 i ∧ i ≤ l.length ∧ Aside0 (TR F wr si) ∧ Aside0 (loop (visit F.G k) x (l.drop i) si = some res)) (fun v32 _ => l.length - (intOf v32).toNat)
  case atStart => exact ⟨0, _, rfl, Nat.zero_le _, HS4, ⟨by rw [List.drop_zero]; exact HRUN.out⟩⟩
  case round =>
    clear HS4 HRUN
    obtain ⟨i, si, rfl, hi, HS, HRUN⟩ := hrel
    by_cases hlt : i < l.length
    · have hrow := Row.move (w' := wr) HLROW.out (fun k hk => (by rw [ok.base]; exact HS.out.1.choose_spec.1.base : Below F.w1.heap.size F.w1 wr).block k (Kd.R_lt HLROW.out k hk))
      obtain ⟨ad, hd, hcy⟩ := Kd.at_int (Kd.R_reads' hrow).2.2 (i : Int) (by omega) (by omega)
      cases hd
      simp only [Int.toNat_natCast] at hcy
      clear hrow
      have hrun := HRUN.out
      rw [List.drop_eq_getElem_cons hlt] at hrun
      have hy : rd l (i : Int) = l[i] := by
        unfold rd
        rw [Int.toNat_natCast, List.getD_eq_getElem?_getD, List.getElem?_eq_getElem hlt]
        rfl
      have hyw : Wf (rd l (i : Int)) := by rw [hy]; exact HLWF.out _ (List.getElem_mem hlt)
      rw [← hy] at hrun
      clear hy HRUN
      generalize rd l (i : Int) = y at hcy hrun hyw
      obtain ⟨⟨vs, hsv, hsr⟩, hsw⟩ := HS.out
      have c0 := cell_of_one hsv.cnum
      have hlz : (Instr.lookup 34 (.map (some F.mNum)) (.int .i64 y) false).run Try.prog wr = .ok (.int .i64 (at0 si.num y)) wr := hsv.mnum.look hyw
      simp only [loop] at hrun
      by_cases hz : at0 si.num y = 0
      · rw [if_pos hz] at hrun
        rw [hz] at hlz
        cases hv : visit F.G k si y with
        | none => rw [hv] at hrun; cases hrun
        | some s2 =>
          rw [hv] at hrun
          simp only at hrun
          by_cases hsm2 : s2.small
          · rw [if_pos hsm2] at hrun
            have HC := Aside0.mk (IH.out si y wr hyw HS.out s2 hv)
            have HR := Aside0.mk hrun
            have HSM2 := Aside0.mk hsm2
            have c1 : wr.cell? ⟨F.vis, 0, none⟩ = some (.func (.func 22) #[] #[.pointer (some ⟨F.num, 0, none⟩), .pointer (some ⟨F.low, 0, none⟩), .pointer (some ⟨F.stk, 0, none⟩), .pointer (some ⟨F.nx, 0, none⟩), .pointer (some ⟨F.vis, 0, none⟩), .pointer (some ⟨F.part, 0, none⟩)]) := cell_of_one hsv.cvis
            clear hsv hsr hsw hz hv hrun hsm2
            go_upto_region 8 with (first | (go_at_call 22; (with_reducible refine HC.out.mono ?_); rintro e w5 ⟨rfl, hs5⟩; have HS5 := Aside0.mk hs5; clear hs5))
            clear c0 c1 hcy hlz
            obtain ⟨⟨vs5, hsv5, hsr5⟩, hsw5⟩ := HS5.out
            obtain ⟨w6, hup6, hs6⟩ := TR.setLow HS5.out ok HSM2.out hx (mn_wf (at0_wf hsv5.mlow x) (at0_wf hsv5.mlow y))
            have HS6 := Aside0.mk hs6
            have hla : (Instr.lookup 34 (.map (some F.mLow)) (.int .i64 x) false).run Try.prog w5 = .ok (.int .i64 (at0 s2.low x)) w5 := hsv5.mlow.look hx
            have hlb' : (Instr.lookup 34 (.map (some F.mLow)) (.int .i64 y) false).run Try.prog w5 = .ok (.int .i64 (at0 s2.low y)) w5 := hsv5.mlow.look hyw
            have c2 := cell_of_one hsv5.clow
            obtain ⟨m, hm⟩ : ∃ m, m = mn (at0 s2.low x) (at0 s2.low y) := ⟨_, rfl⟩
            rw [← hm] at hup6 HR HS6
            have hm_ : (if at0 s2.low y < at0 s2.low x then at0 s2.low y else at0 s2.low x) = m := hm.symm
            clear hm hs6 hsv5 hsr5 hsw5
            generalize at0 s2.low x = la at hla hm_
            generalize at0 s2.low y = lb at hlb' hm_
            go_wp2_with fail
            go_roundw
            case rel => exact ⟨i + 1, _, by go_num, by omega, HS6, HR⟩
            case measure => simp [intOf]; omega
          · rw [if_neg hsm2] at hrun
            cases hrun
      · rw [if_neg hz] at hrun
        obtain ⟨Av, capv, rfl⟩ := Kd.R_slice hsr
        have HC := Aside0.mk (contains_row hsr y)
        have c1 := cell_of_one hsv.cstk
        obtain ⟨z, hzz⟩ : ∃ z, z = at0 si.num y := ⟨_, rfl⟩
        rw [← hzz] at hlz hz
        have HZ := Aside0.mk hzz
        have hzf : (z == 0) = false := by rw [beq_eq_false_iff_ne]; exact hz
        obtain ⟨cb, hcb⟩ : ∃ cb, si.stack.contains y = cb := ⟨_, rfl⟩
        rw [hcb] at hrun HC
        have HSV := Aside0.mk hsv
        clear hzz hz hcb hsv hsr hsw
        cases cb with
        | true =>
          rw [if_pos rfl] at hrun
          by_cases hsm2 : si.small
          · rw [if_pos hsm2, ← HZ.out] at hrun
            have HR := Aside0.mk hrun
            have HSM2 := Aside0.mk hsm2
            clear hrun hsm2
            go_upto_region 10 with (first | (go_at_call 23; (with_reducible refine HC.out.mono ?_); rintro e w5 ⟨rfl, rfl⟩))
            clear c1 hcy hzf
            obtain ⟨w6, hup6, hs6⟩ := TR.setLow HS.out ok HSM2.out hx (v := mn (at0 si.low x) z) (mn_wf (at0_wf HSV.out.mlow x) (by rw [HZ.out]; exact at0_wf HSV.out.mnum y))
            have HS6 := Aside0.mk hs6
            have hla : (Instr.lookup 34 (.map (some F.mLow)) (.int .i64 x) false).run Try.prog w5 = .ok (.int .i64 (at0 si.low x)) w5 := HSV.out.mlow.look hx
            have c2 := cell_of_one HSV.out.clow
            obtain ⟨m, hm⟩ : ∃ m, m = mn (at0 si.low x) z := ⟨_, rfl⟩
            rw [← hm] at hup6 HR HS6
            have hm_ : (if z < at0 si.low x then z else at0 si.low x) = m := hm.symm
            clear hm hs6
            generalize at0 si.low x = la at hla hm_
            go_wp2_with fail
            go_roundw
            case rel => exact ⟨i + 1, _, by go_num, by omega, HS6, HR⟩
            case measure => simp [intOf]; omega
          · rw [if_neg hsm2] at hrun
            cases hrun
        | false =>
          rw [if_neg (by decide)] at hrun
          have HR := Aside0.mk hrun
          clear hrun
          go_wp2_with (first | (go_at_call 23; (with_reducible refine HC.out.mono ?_); rintro e w5 ⟨rfl, rfl⟩))
          go_roundw
          case rel => exact ⟨i + 1, _, by go_num, by omega, HS, HR⟩
          case measure => simp [intOf]; omega
    · obtain rfl : i = l.length := by omega
      have hrun := HRUN.out
      rw [List.drop_length] at hrun
      simp only [loop] at hrun
      obtain rfl := Option.some.inj hrun
      clear hrun HRUN IH
      obtain ⟨⟨vs, hsv, hsr⟩, hsw⟩ := HS.out
      have c0 := cell_of_one hsv.clow
      have c1 := cell_of_one hsv.cnum
      have hla : (Instr.lookup 34 (.map (some F.mLow)) (.int .i64 x) false).run Try.prog wr = .ok (.int .i64 (at0 si.low x)) wr := hsv.mlow.look hx
      have hlb2 : (Instr.lookup 34 (.map (some F.mNum)) (.int .i64 x) false).run Try.prog wr = .ok (.int .i64 (at0 si.num x)) wr := hsv.mnum.look hx
      by_cases hcmp : at0 si.low x < at0 si.num x
      · have HF := Aside0.mk (HQ1.out hcmp)
        have hcf : decide (at0 si.low x < at0 si.num x) = true := decide_eq_true hcmp
        clear hcmp hsv hsr hsw
        go_wp2_with fail
        exact bodyPost_ret (v := .tuple #[]) (by simp [results, Try.results22, go_sem]) rfl (HF.out _ _ ⟨rfl, HS.out⟩)
      · have HF := Aside0.mk (HQ2.out (by omega))
        have hcf : decide (at0 si.low x < at0 si.num x) = false := decide_eq_false hcmp
        obtain ⟨hq, hsmr, hfin⟩ := HF.out
        have HFIN := Aside0.mk hfin
        have HSMR := Aside0.mk hsmr
        obtain ⟨q, hqe⟩ : ∃ q, q = si.stack.idxOf x := ⟨_, rfl⟩
        obtain ⟨g, cap, rfl, hg0, hg1, cells, hgc⟩ := Kd.R_form hsr (by omega)
        have hcap := (Kd.R_reads' hsr).2.1
        have HI := Aside0.mk (index_row hsr x hq)
        rw [← hqe] at hq HI HFIN
        have HMN := Aside0.mk (min_row hsr q hq (cap - q))
        have c2 := cell_of_one hsv.cstk
        have hne : ¬ cap = q := by omega
        have hle : q ≤ si.stack.length := by omega
        have hsl := hsmr.2.2.2
        have HROW := Aside0.mk hsr
        have HSW := Aside0.mk hsw
        have HSV := Aside0.mk hsv
        clear hcmp hsv hsr hsw hfin hqe hgc HF HQ1 HQ2 hsmr
        go_upto_block 2 with (first | (go_at_call 24; (with_reducible refine HI.out.mono ?_); rintro e w5 ⟨rfl, rfl⟩) | (go_at_call 25; (with_reducible refine HMN.out.mono ?_); rintro e w5 ⟨rfl, rfl⟩))
        obtain ⟨m, hm⟩ : ∃ m, m = Lib.minOf (si.stack.drop q) := ⟨_, rfl⟩
        obtain ⟨p, hp⟩ : ∃ p, p = si.stack.drop q := ⟨_, rfl⟩
        obtain ⟨n2, hn2⟩ : ∃ n2, n2 = si.stack.length - q := ⟨_, rfl⟩
        have hpl : p.length = n2 := by rw [hp, hn2, List.length_drop]
        have hmw : Wf m := by rw [hm]; exact HSW.out _ (List.mem_of_mem_drop (minOf_mem (by rw [← hp]; intro h0; rw [h0] at hpl; simp at hpl; omega)))
        rw [← hm, ← hn2]
        have HFIN2 := Aside0.mk (show ∀ e w', PostV F { p.foldl (St.setPart m) si with stack := si.stack.take q } e w' → Q e w' by rw [hm, hp]; exact HFIN.out)
        have HP := Aside0.mk hp
        have HPL := Aside0.mk hpl
        have hnb : n2 ≤ 1000000 := by omega
        clear hm hp hpl hn2 HFIN HI HMN c0 c1 c2 hla hlb2 hcf
        go_wp2_with fail
        go_loopw [83] (fun v83 wr => ∃ j : Nat, v83 = .int .i64 j ∧ j ≤ n2 ∧ Aside0 (TRv F wr ((p.take j).foldl (St.setPart m) si) (.slice (some ⟨g, 0, none⟩) si.stack.length cap)) ∧ Aside0 (Row wr F.nx (.slice (some ⟨g, 0, none⟩) si.stack.length cap) si.stack)) (fun v83 _ => n2 - (intOf v83).toNat)
        case atStart => exact ⟨0, rfl, Nat.zero_le _, ⟨by rw [List.take_zero]; exact HSV.out⟩, HROW⟩
        case round =>
          clear HSV HROW
          obtain ⟨j, rfl, hj, HV, HR⟩ := hrel
          by_cases hlt2 : j < n2
          · have hcy := row_cells HR.out q j (by rw [← HP.out, HPL.out]; exact hlt2)
            rw [← HP.out] at hcy
            have hyw : Wf (p.getD j 0) := HSW.out _ (List.mem_of_mem_drop (i := q) (by
              rw [← HP.out, List.getD_eq_getElem?_getD, List.getElem?_eq_getElem (by rw [HPL.out]; exact hlt2)]
              exact List.getElem_mem _))
            have htk : p.take (j + 1) = p.take j ++ [p.getD j 0] := by
              rw [List.take_succ_eq_append_getElem (by rw [HPL.out]; exact hlt2), List.getD_eq_getElem?_getD, List.getElem?_eq_getElem (by rw [HPL.out]; exact hlt2)]
              rfl
            generalize p.getD j 0 = y at hcy hyw htk
            obtain ⟨sj, hsj⟩ : ∃ sj, sj = (p.take j).foldl (St.setPart m) si := ⟨_, rfl⟩
            have hpn : sj.partN ≤ 2000000 := by
              rw [hsj]
              have := foldl_partN m (p.take j) si
              rw [List.length_take, HPL.out] at this
              have := HSMR.out.2.2.1
              omega
            have hnext : (p.take (j + 1)).foldl (St.setPart m) si = sj.setPart m y := by rw [htk, List.foldl_append, hsj]; rfl
            rw [← hsj] at HV
            have HNX := Aside0.mk hnext
            clear hsj htk hnext
            obtain ⟨w7, hup7, hM7, ht7⟩ := HV.out.mpart.store hyw hmw (by omega)
            have HV7 := Aside0.mk (HV.out.turnPart ok ht7 hM7)
            have HR7 := Aside0.mk (Row.turned HR.out ht7)
            have c0 := cell_of_one HV.out.cpart
            clear hM7 ht7
            go_wp2_with fail
            go_roundw
            case rel => exact ⟨j + 1, by go_num, by omega, ⟨by rw [HNX.out]; exact HV7.out⟩, HR7⟩
            case measure => simp [intOf]; omega
          · obtain rfl : j = n2 := by omega
            have hv := HV.out
            rw [List.take_of_length_le (by rw [HPL.out]; exact Nat.le_refl _)] at hv
            have hrt := Kd.R_take HR.out (m := q) hle
            have hv2 := (hv.setStk ok (.slice (some ⟨g, 0, none⟩) q cap)).stack' (si.stack.take q)
            have hr2 := Row.setOne hrt (u' := .slice (some ⟨g, 0, none⟩) q cap) hv.cstk (by decide)
            have HE := Aside0.mk (show TR F _ { p.foldl (St.setPart m) si with stack := si.stack.take q } from ⟨⟨_, hv2, hr2⟩, fun y hy => HSW.out y (List.mem_of_mem_take hy)⟩)
            have c0 := cell_of_one hv.cstk
            have f0 := free_of_one hv.cstk
            clear hv hrt hv2 hr2
            go_wp2_with fail
            go_end0
            exact HFIN2.out _ _ ⟨rfl, HE.out⟩
/-- The closure does what 'visit' says. -/
theorem visit_any (F : Fx) (ok : F.Ok) : ∀ (k : Nat) (s : St) (x : Int) (w : World), Wf x → TR F w s → ∀ s', visit F.G k s x = some s' → Calls Try.prog 22 #[.int .i64 x, .pointer (some ⟨F.num, 0, none⟩), .pointer (some ⟨F.low, 0, none⟩), .pointer (some ⟨F.stk, 0, none⟩), .pointer (some ⟨F.nx, 0, none⟩), .pointer (some ⟨F.vis, 0, none⟩), .pointer (some ⟨F.part, 0, none⟩)] w (PostV F s') := by
  intro k
  induction k with
  | zero => exact fun s x w hx h s' hs => (by cases hs)
  | succ k ih =>
    intro s x w hx h s' hs
    simp only [visit] at hs
    by_cases h0 : s.small
    · rw [if_pos h0] at hs
      cases hl : loop (visit F.G k) x (F.G x) (s.enter x) with
      | none => rw [hl] at hs; cases hs
      | some s2 =>
        rw [hl] at hs
        simp only at hs
        by_cases h1 : at0 s2.low x < at0 s2.num x
        · rw [if_pos h1] at hs
          cases hs
          exact visit_step F ok k ih s x w hx h h0 _ hl _ (fun _ e w' h => h) (fun h2 => absurd h1 h2)
        · rw [if_neg h1] at hs
          by_cases h2 : s2.stack.idxOf x < s2.stack.length ∧ s2.small
          · rw [if_pos h2] at hs
            cases hs
            exact visit_step F ok k ih s x w hx h h0 _ hl _ (fun h3 => absurd h3 h1) (fun _ => ⟨h2.1, h2.2, fun e w' h => h⟩)
          · rw [if_neg h2] at hs
            cases hs
    · rw [if_neg h0] at hs
      cases hs
end Go.Proofs.Ytfkoepdakghpjaa.Tr
