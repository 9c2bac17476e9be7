import Derived.Test.YthoobepfkfjgnaaDoorPLx0
import Derived.Test.YthoobepfkfjgnaaDoorLXQa
import Derived.Test.YthoobepfkfjgnaaDoorLXe
import Derived.Test.YthoobepfkfjgnaaDoorLXh
import Derived.Test.YthoobepfkfjgnaaDoorRPa
import Derived.Test.YthoobepfkfjgnaaDoorLexW
import Derived.Lib.SmallJoins
import Derived.WalkLawsBesides
import Derived.Outline
import Derived.StillTailTactics
import Derived.Test.YthoobepfkfjgnaaDoorMore
import Derived.Lib.Bytealg
import Derived.Lib.AppendStr
import Derived.Deep.RegionLaw
namespace Go.Proofs.YthoobepfkfjgnaaDoor.PL
open Go.RowKit Go.Proofs.YthoobepfkfjgnaaDoorW.PrintWords Go.Proofs.YthoobepfkfjgnaaDoorW.PrintLast Go.Proofs.YthoobepfkfjgnaaDoorW.PrintMore
attribute [local go_sem] max2_int min2_int max_two min_two max_three min_three max_four min_four
set_option linter.unusedVariables false
set_option linter.unusedSimpArgs false
-- GIVEN plain making
/-- What the reference has written behind kk of its seven comparisons. -/
def RefW.sh (cc : Int) (kk : Nat) : List Int := if 0 ≤ LexW.idx cc (LexW.qFrom.take kk) then [92, LexW.qTo.getD (LexW.idx cc (LexW.qFrom.take kk)).toNat 0] else []
theorem RefW.sh_hit (cc : Int) (kk : Nat) (hk : kk < 7) (h : cc = LexW.qFrom.getD kk 0) : RefW.sh cc kk = [] ∧ RefW.sh cc (kk + 1) = [92, LexW.qTo.getD kk 0] ∧ 0 ≤ LexW.idx cc (LexW.qFrom.take (kk + 1)) := by
  subst h
  obtain rfl | rfl | rfl | rfl | rfl | rfl | rfl : kk = 0 ∨ kk = 1 ∨ kk = 2 ∨ kk = 3 ∨ kk = 4 ∨ kk = 5 ∨ kk = 6 := by omega
  all_goals decide
theorem LexW.idx_append (c x : Int) (l : List Int) (h : c ≠ x) : LexW.idx c (l ++ [x]) = LexW.idx c l := by
  induction l with
  | nil =>
    show (if x = c then (0 : Int) else (if LexW.idx c [] < 0 then -1 else LexW.idx c [] + 1)) = LexW.idx c []
    rw [if_neg (Ne.symm h)]
    rfl
  | cons y l ih => rw [List.cons_append, LexW.idx, LexW.idx, ih]
theorem RefW.sh_miss (cc : Int) (kk : Nat) (hk : kk < 7) (h : cc ≠ LexW.qFrom.getD kk 0) : LexW.idx cc (LexW.qFrom.take (kk + 1)) = LexW.idx cc (LexW.qFrom.take kk) := by
  have e : LexW.qFrom.take (kk + 1) = LexW.qFrom.take kk ++ [LexW.qFrom.getD kk 0] := by
    obtain rfl | rfl | rfl | rfl | rfl | rfl | rfl : kk = 0 ∨ kk = 1 ∨ kk = 2 ∨ kk = 3 ∨ kk = 4 ∨ kk = 5 ∨ kk = 6 := by omega
    all_goals decide
  rw [e]
  exact LexW.idx_append _ _ _ h
set_option maxHeartbeats 4000000 in
set_option maxRecDepth 100000 in
theorem refn_Quote.calls (s : ByteArray) (hs : s.size ≤ 1048576) (w : World) :
    Calls Tryd.prog 13 #[.string s] w fun e w' => e = .returned (.tuple #[.string (if (Utf.good (bytesOf s)).2 = true then strOfNums (LexW.quote (bytesOf s)) else (⟨#[]⟩ : ByteArray)), .int .i64 (if (Utf.good (bytesOf s)).2 = true then 0 else 10)]) ∧ Below w.heap.size w w' := by
  have hl := bytesOf_length s
  have hby : ∀ x ∈ bytesOf s, 0 ≤ x ∧ x ≤ 255 := by
    intro x hx
    unfold bytesOf at hx
    obtain ⟨b, _, rfl⟩ := List.mem_map.1 hx
    have := b.toNat_lt
    omega
  have hbt : ∀ i, (h : i < (bytesOf s).length) → bt s (i : Int) = (bytesOf s)[i] := fun i h => RefP.bt_get s i h
  obtain ⟨l, hle⟩ : ∃ l, l = bytesOf s := ⟨_, rfl⟩
  have HBT := Aside0.mk (show ∀ i, (h : i < l.length) → bt s (i : Int) = l[i] by subst hle; exact hbt)
  rw [← hle] at hl hby ⊢
  obtain ⟨kg, hgk⟩ := (Pure.rgood_ev l (by omega)).rounds
  obtain ⟨gd, hgd⟩ : ∃ g, g = Utf.good l := ⟨_, rfl⟩
  rw [← hgd] at hgk ⊢
  obtain ⟨gn, gok⟩ := gd
  have HGD := Aside0.mk hgk
  have HE := Aside0.mk hle
  have HBY := Aside0.mk hby
  have HB := Aside0.mk (Below.refl w.heap.size w)
  clear hgk hgd hle hby hbt
  have hlen : l.length ≤ 1048576 := by omega
  have HLL := Aside0.mk hl
  clear hl
  cases gok with
  | false =>
    simp only [Bool.false_eq_true, if_false]
    go_enter Tryd.func13, Tryd.ntmps13
    go_wp2_with (first | ((with_reducible refine gate_dst (N := 15) rfl ?_); refine LexT.conv_bytes rfl 9 22 5 (.tmp 14) rfl s rfl Tryd.underlying9 Tryd.underlying22 Tryd.underlying5 (by omega) ?_; intro n1 cv w1 hn hc hR hb; rw [← HE.out] at hR ⊢; rw [← HLL.out] at hc; have HC1 := Aside0.mk hR; have n1_ := Aside0.mk (below_step HB.out hb); clear HB hb hR hn; have HB := n1_; clear n1_) | (go_at_call 24; (with_reducible refine (caliperref01_Good.calls kg _ _ l gn _ _ HC1.out hc HGD.out).mono ?_); rintro e w1 ⟨rfl, hd⟩; have hb := hd.below; clear hd HC1; have n1_ := Aside0.mk (below_step HB.out hb); clear HB hb; have HB := n1_; clear n1_))
    go_ret2
    exact ⟨rfl, HB.out⟩
  | true =>
    simp only [if_true]
    go_enter Tryd.func13, Tryd.ntmps13
    go_wp2_with (first | ((with_reducible refine gate_dst (N := 15) rfl ?_); refine LexT.conv_bytes rfl 9 22 5 (.tmp 14) rfl s rfl Tryd.underlying9 Tryd.underlying22 Tryd.underlying5 (by omega) ?_; intro n1 cv w1 hn hc hR hb; rw [← HE.out] at hR ⊢; rw [← HLL.out] at hc; have HC1 := Aside0.mk hR; have n1_ := Aside0.mk (below_step HB.out hb); clear HB hb hR hn; have HB := n1_; clear n1_) | (go_at_call 24; (with_reducible refine (caliperref01_Good.calls kg _ _ l gn _ _ HC1.out hc HGD.out).mono ?_); rintro e w1 ⟨rfl, hd⟩; have hb := hd.below; clear hd HC1; have n1_ := Aside0.mk (below_step HB.out hb); clear HB hb; have HB := n1_; clear n1_) | ((with_reducible refine gate_dst (N := 21) rfl ?_); refine Kd.R_lit (Kd.int .u8) w.heap.size 5 ?hg (N := 21) ?hd (xs := ([34] : List Int)) (inner := [.int .u8 34]) (ok := fun _ => True) (okp := fun _ => True) ?hr ?hp (fun _ hk => hk) trivial HB.out HB.out.size (by simp) ?_; (case hd => rfl); (case hg => rfl); (case hr => first | (go_simp; done) | (go_simp; rfl)); (case hp => exact (Reps.one (show Kd.M (Kd.int .u8) _ _ _ 34 [.int .u8 34] from rfl) (Reps.none _ _))); intro v21 w21 ho hb hg_ hnew_; clear HB; have HO := Aside0.mk ho; have HB := Aside0.mk hb; clear ho hb hg_ hnew_))
    clear hc
    go_loopg [9, 10] l.length (fun kq v9 v10 wr => ∃ (i : Nat) (ii : Int), v10 = .int .i64 ii ∧ ii = (i : Int) ∧ i ≤ l.length ∧ kq = l.length - i ∧ Aside0 (Below w.heap.size w wr) ∧ Aside0 (Kd.R (Kd.int .u8) 5 wr w.heap.size (fun _ => True) v9 (34 :: (l.take i).flatMap LexW.qc)))
    case atStart => exact ⟨0, 0, rfl, rfl, Nat.zero_le _, rfl, HB, by rw [List.take_zero, List.flatMap_nil]; exact HO⟩
    case round =>
      clear HB HO
      obtain ⟨i, ii, rfl, hii, hi, hk, HB, HO⟩ := hrel
      have hls := HLL.out
      by_cases hlt : i < l.length
      · obtain ⟨cc, hcc⟩ : ∃ x, x = l[i] := ⟨_, rfl⟩
        have hcb := HBY.out cc (by rw [hcc]; exact List.getElem_mem hlt)
        have hbc : bt s ii = cc := by rw [hii, HBT.out i hlt, hcc]
        have HCC := Aside0.mk (show (l.take (i + 1)).flatMap LexW.qc = (l.take i).flatMap LexW.qc ++ LexW.qc cc by rw [hcc, List.take_add_one, List.flatMap_append, List.getElem?_eq_getElem hlt]; simp)
        obtain ⟨o, ho⟩ : ∃ x, x = 34 :: (l.take i).flatMap LexW.qc := ⟨_, rfl⟩
        rw [← ho] at HO
        have HLB := Aside0.mk (show o.length ≤ 7000000 by rw [ho, List.length_cons]; have := LexW.body_len (l.take i); rw [List.length_take] at this; omega)
        have HOE := Aside0.mk (show o ++ LexW.qc cc = 34 :: (l.take (i + 1)).flatMap LexW.qc by rw [ho, HCC.out]; rfl)
        have HII := Aside0.mk hii
        have hx8 := bt_at s ii
        rw [hbc] at hx8
        have hi0 : 0 ≤ ii := by omega
        have his : ii < (s.size : Int) := by omega
        have p8 : (0 ≤ ii) = True := eq_true hi0
        have q8 : (ii < (s.size : Int)) = True := eq_true his
        have p8b : decide (0 ≤ ii) = true := decide_eq_true hi0
        have q8b : decide (ii < (s.size : Int)) = true := decide_eq_true his
        have himx : ii ≤ 1048576 := by omega
        have HK := Aside0.mk (show i < l.length ∧ gk = l.length - i from ⟨hlt, hk⟩)
        clear hcc ho HCC hii hbc hlt hi hk hls
        go_upto_block 2 with (fail)
        go_cut [9, 11] (fun v9 v11 wc => ∃ bb : Bool, v11 = .bool bb ∧ Aside0 (bb = decide (0 ≤ LexW.idx cc LexW.qFrom)) ∧ Aside0 (Below w.heap.size w wc) ∧ Aside0 (Kd.R (Kd.int .u8) 5 wc w.heap.size (fun _ => True) v9 (o ++ RefW.sh cc 7)))
        case first =>
          clear HK HOE
          go_wp2
          go_loopg [9, 11, 12] 7 (fun kq v9 v11 v12 wr => ∃ (kk : Nat) (ki : Int) (bb : Bool), v12 = .int .i64 ki ∧ ki = (kk : Int) ∧ kk ≤ 7 ∧ kq = 7 - kk ∧ v11 = .bool bb ∧ Aside0 (bb = decide (0 ≤ LexW.idx cc (LexW.qFrom.take kk))) ∧ Aside0 (Below w.heap.size w wr) ∧ Aside0 (Kd.R (Kd.int .u8) 5 wr w.heap.size (fun _ => True) v9 (o ++ RefW.sh cc kk)))
          case atStart => exact ⟨0, 0, false, rfl, rfl, by omega, rfl, rfl, ⟨by rw [List.take_zero, LexW.idx]; rfl⟩, HB, by rw [show RefW.sh cc 0 = [] by unfold RefW.sh; rw [List.take_zero, LexW.idx, if_neg (by decide)], List.append_nil]; exact HO⟩
          case round =>
            clear HB HO
            obtain ⟨kk, ki, bb, rfl, hki, hk7, hkq, rfl, HBB, HB, HO⟩ := hrel
            by_cases h7 : kk < 7
            · obtain ⟨x, hxx⟩ : ∃ x, x = LexW.qFrom.getD kk 0 := ⟨_, rfl⟩
              obtain ⟨y, hyy⟩ : ∃ y, y = LexW.qTo.getD kk 0 := ⟨_, rfl⟩
              have hbx : bt (⟨#[34, 92, 8, 12, 10, 13, 9]⟩ : ByteArray) ki = x := by
                rw [hxx, hki]
                obtain h | h | h | h | h | h | h : kk = 0 ∨ kk = 1 ∨ kk = 2 ∨ kk = 3 ∨ kk = 4 ∨ kk = 5 ∨ kk = 6 := by omega
                all_goals (rw [h]; kernel_rfl)
              have hby2 : bt (⟨#[34, 92, 98, 102, 110, 114, 116]⟩ : ByteArray) ki = y := by
                rw [hyy, hki]
                obtain h | h | h | h | h | h | h : kk = 0 ∨ kk = 1 ∨ kk = 2 ∨ kk = 3 ∨ kk = 4 ∨ kk = 5 ∨ kk = 6 := by omega
                all_goals (rw [h]; kernel_rfl)
              have hx9 := bt_at (⟨#[34, 92, 8, 12, 10, 13, 9]⟩ : ByteArray) ki
              rw [hbx] at hx9
              have hx10 := bt_at (⟨#[34, 92, 98, 102, 110, 114, 116]⟩ : ByteArray) ki
              rw [hby2] at hx10
              have hk0 : 0 ≤ ki := by omega
              have hk77 : ki < 7 := by omega
              have p9 : (0 ≤ ki) = True := eq_true hk0
              have q9 : (ki < (7 : Int)) = True := eq_true hk77
              have p9b : decide (0 ≤ ki) = true := decide_eq_true hk0
              have q9b : decide (ki < (7 : Int)) = true := decide_eq_true hk77
              have HKI := Aside0.mk (show ki = (kk : Int) ∧ gk = 7 - kk ∧ kk < 7 from ⟨hki, hkq, h7⟩)
              have hkn : ki ≤ 7 := by omega
              have HXX := Aside0.mk hxx
              have HYY := Aside0.mk hyy
              clear hbx hby2 hki hkq hk7 h7 hxx hyy
              by_cases hcx : cc = x
              · have hit := RefW.sh_hit cc kk HKI.out.2.2 (by rw [hcx, HXX.out])
                have HIT := Aside0.mk hit
                have n2_ := Aside0.mk (show Kd.R (Kd.int .u8) 5 wr w.heap.size (fun _ => True) u9 o by have h := HO.out; rw [hit.1, List.append_nil] at h; exact h)
                clear HO hit
                have HO := n2_
                clear n2_
                have bcx : (cc == x) = true := beq_iff_eq.mpr hcx
                clear hcx
                go_upto_region 14 with (fail)
                go_quiet (fail)
                have n1_ := Aside0.mk (pw_below_drewN HB.out nq)
                have n2_ := Aside0.mk (Kd.R_drewN HO.out nq)
                clear HB HO
                have HB := n1_
                have HO := n2_
                clear n1_ n2_
                generalize wr.drewN nq = w5 at HB HO ⊢
                go_wp2_with (first | ((with_reducible refine gate_dst (N := 45) rfl ?_); refine Kd.R_lit (Kd.int .u8) w.heap.size 5 ?hg (N := 45) ?hd (xs := ([92, y] : List Int)) (inner := [.int .u8 92, .int .u8 y]) (ok := fun _ => True) (okp := fun _ => True) ?hr ?hp (fun _ hk => hk) trivial HB.out HB.out.size (by simp) ?_; (case hd => rfl); (case hg => rfl); (case hr => first | (go_simp; done) | (go_simp; rfl)); (case hp => exact (Reps.one (show Kd.M (Kd.int .u8) _ _ _ 92 [.int .u8 92] from rfl) (Reps.one (show Kd.M (Kd.int .u8) _ _ _ y [.int .u8 y] from rfl) (Reps.none _ _)))); intro v45 w45 ho hb hg_ hnew_; have m2_ := Aside0.mk (Kd.R_grown HO.out hg_ (by simp)); clear HO; have HOO := m2_; clear m2_; clear HB; have HLt := Aside0.mk ho; have HO := HOO; clear HOO; have HB := Aside0.mk hb; clear ho hb hg_ hnew_) | ((with_reducible refine gate_builtin (b := .append) (xs := #[.tmp 41, .tmp 45]) rfl ?_); at_builtin; obtain ⟨Al, cl, el⟩ := Kd.R_slice HLt.out; subst el; refine Kd.R_append_rows (Kd.int .u8) (w0 := w) w.heap.size rfl (.tmp 41) (.tmp 45) 22 5 (.int .u8 0) 1 rfl Tryd.underlying22 info5 rfl (by decide) (by omega) _ (o) ([92, y]) _ _ _ (fun _ => True) (fun _ => False) rfl rfl HO.out (Kd.R_reads' HLt.out).2.2 (fun _ _ h => h) (fun _ h => h.elim) (fun _ _ => trivial) HB.out HB.out.size (by have := HLB.out; first | omega | (simp only [List.length_append, List.length_cons, List.length_nil]; omega)) ?_; intro v46 w46 ho hb hg hat; clear HLt; clear HB HO; have HO := Aside0.mk ho; have HB := Aside0.mk hb; clear ho hb hg hat))
                go_roundg (7 - (kk + 1))
                case measure => have := HKI.out; omega
                case rel => exact ⟨kk + 1, ki + 1, true, rfl, by have := HKI.out; omega, by have := HKI.out; omega, rfl, rfl, ⟨(decide_eq_true HIT.out.2.2).symm⟩, HB, ⟨by rw [HIT.out.2.1, ← HYY.out]; exact HO.out⟩⟩
              · have HMI := Aside0.mk (RefW.sh_miss cc kk HKI.out.2.2 (by rw [← HXX.out]; exact hcx))
                have bcx : (cc == x) = false := beq_eq_false_iff_ne.mpr hcx
                clear hcx
                go_upto_region 14 with (fail)
                go_quiet (fail)
                have n1_ := Aside0.mk (pw_below_drewN HB.out nq)
                have n2_ := Aside0.mk (Kd.R_drewN HO.out nq)
                clear HB HO
                have HB := n1_
                have HO := n2_
                clear n1_ n2_
                generalize wr.drewN nq = w5 at HB HO ⊢
                go_wp2
                go_roundg (7 - (kk + 1))
                case measure => have := HKI.out; omega
                case rel => exact ⟨kk + 1, ki + 1, bb, rfl, by have := HKI.out; omega, by have := HKI.out; omega, rfl, rfl, ⟨by rw [HMI.out]; exact HBB.out⟩, HB, ⟨by rw [show RefW.sh cc (kk + 1) = RefW.sh cc kk by unfold RefW.sh; rw [HMI.out]]; exact HO.out⟩⟩
            · obtain rfl : kk = 7 := by omega
              have b7 : decide (ki < (7 : Int)) = false := decide_eq_false (by omega)
              have p7 : (ki < (7 : Int)) = False := eq_false (by omega)
              have HBQ := Aside0.mk (show bb = decide (0 ≤ LexW.idx cc LexW.qFrom) from HBB.out)
              clear hki hk7 hkq h7 HBB
              go_wp2
              go_meet
              case rel => exact ⟨bb, rfl, HBQ, HB, HO⟩
        case rest =>
          clear HB HO
          obtain ⟨bb, rfl, HBQ, HB, HO⟩ := hcut
          cases bb with
          | true =>
            have h0 := of_decide_eq_true HBQ.out.symm
            have HQ := Aside0.mk (show RefW.sh cc 7 = LexW.qc cc by unfold RefW.sh LexW.qc; rw [show LexW.qFrom.take 7 = LexW.qFrom from rfl, if_pos h0, if_pos h0])
            clear h0
            go_wp2
            go_roundg (l.length - (i + 1))
            case measure => have := HK.out; omega
            case rel => exact ⟨i + 1, ii + 1, rfl, by have := HII.out; omega, by have := HK.out; omega, rfl, HB, ⟨by rw [← HOE.out, ← HQ.out]; exact HO.out⟩⟩
          | false =>
            have h0 := of_decide_eq_false HBQ.out.symm
            have hqc : LexW.qc cc = if cc < 32 then [92, 117, 48, 48, 48 + cc / 16, LexW.hexd (cc % 16)] else [cc] := by unfold LexW.qc; rw [if_neg h0]
            have n2_ := Aside0.mk (show Kd.R (Kd.int .u8) 5 wc w.heap.size (fun _ => True) u9 o by have h := HO.out; rw [show RefW.sh cc 7 = [] by unfold RefW.sh; rw [show LexW.qFrom.take 7 = LexW.qFrom from rfl, if_neg h0], List.append_nil] at h; exact h)
            clear HO h0
            have HO := n2_
            clear n2_
            by_cases h32 : cc < 32
            · have b32 : decide (cc < 32) = true := decide_eq_true h32
              rw [if_pos h32] at hqc
              obtain ⟨x1, hx1⟩ : ∃ x, x = 48 + cc / 16 := ⟨_, rfl⟩
              obtain ⟨x2, hx2⟩ : ∃ x, x = LexW.hexd (cc % 16) := ⟨_, rfl⟩
              rw [← hx1, ← hx2] at hqc
              have HQ := Aside0.mk hqc
              have hy1r : 0 ≤ (cc / 16) ∧ (cc / 16) < 16 := by omega
              have hy2r : 0 ≤ (cc % 16) ∧ (cc % 16) < 16 := by omega
              have hand : Go.bits .and .u8 cc 15 = cc % 16 := LexT.and15 cc hcb.1 hcb.2
              have hb1 : bt (⟨#[48, 49, 50, 51, 52, 53, 54, 55, 56, 57, 97, 98, 99, 100, 101, 102]⟩ : ByteArray) (cc / 16) = x1 := by
                rw [hx1]
                obtain h | h : (cc / 16) = 0 ∨ (cc / 16) = 1 := by omega
                all_goals (rw [h]; kernel_rfl)
              have hb2 : bt (⟨#[48, 49, 50, 51, 52, 53, 54, 55, 56, 57, 97, 98, 99, 100, 101, 102]⟩ : ByteArray) (cc % 16) = x2 := by
                rw [hx2]
                obtain h | h | h | h | h | h | h | h | h | h | h | h | h | h | h | h : (cc % 16) = 0 ∨ (cc % 16) = 1 ∨ (cc % 16) = 2 ∨ (cc % 16) = 3 ∨ (cc % 16) = 4 ∨ (cc % 16) = 5 ∨ (cc % 16) = 6 ∨ (cc % 16) = 7 ∨ (cc % 16) = 8 ∨ (cc % 16) = 9 ∨ (cc % 16) = 10 ∨ (cc % 16) = 11 ∨ (cc % 16) = 12 ∨ (cc % 16) = 13 ∨ (cc % 16) = 14 ∨ (cc % 16) = 15 := by omega
                all_goals (rw [h]; kernel_rfl)
              have bx1 := bt_at (⟨#[48, 49, 50, 51, 52, 53, 54, 55, 56, 57, 97, 98, 99, 100, 101, 102]⟩ : ByteArray) (cc / 16)
              rw [hb1] at bx1
              have bx2 := bt_at (⟨#[48, 49, 50, 51, 52, 53, 54, 55, 56, 57, 97, 98, 99, 100, 101, 102]⟩ : ByteArray) (cc % 16)
              rw [hb2] at bx2
              have p1 : (0 ≤ (cc / 16)) = True := eq_true hy1r.1
              have p2 : (0 ≤ (cc % 16)) = True := eq_true hy2r.1
              have p1b : decide (0 ≤ (cc / 16)) = true := decide_eq_true hy1r.1
              have p2b : decide (0 ≤ (cc % 16)) = true := decide_eq_true hy2r.1
              have q1 : ((cc / 16) < (16 : Int)) = True := eq_true hy1r.2
              have q2 : ((cc % 16) < (16 : Int)) = True := eq_true hy2r.2
              clear hb1 hb2 h32 hx1 hx2 hqc hy1r hy2r
              go_upto_region 20 with (fail)
              go_region_law (refine Kd.R_append_rows_step (Kd.int .u8) (w0 := w) w.heap.size (by rfl) (.tmp 60) (.tmp 73) 22 5 (.int .u8 0) 1 rfl Tryd.underlying22 info5 rfl (by decide) (by omega) u9 o [92, 117, 48, 48, x1, x2] _ _ _ (fun _ => True) (fun _ => False) rfl rfl (Kd.R_drew (Kd.R_alloc HO.out _)) (Kd.C_drew (show Kd.C (Kd.int .u8) (wc.alloc (.cells #[.int .u8 92, .int .u8 117, .int .u8 48, .int .u8 48, .int .u8 x1, .int .u8 x2] 5)) (some ⟨wc.heap.size, 0, none⟩) 6 [92, 117, 48, 48, x1, x2] from LexT.lit wc .u8 [92, 117, 48, 48, x1, x2] 5 _ rfl (by simp))) (fun _ _ h => h) (fun _ h => h.elim) (fun _ _ => trivial) (below_drew1 (below_alloc HB.out _)) (below_drew1 (below_alloc HB.out _)).size (by have := HLB.out; omega) ?_; intro v74 w74 ho hb hg hat; clear HB HO; have HO := Aside0.mk ho; have HB := Aside0.mk hb; clear ho hb hg hat)
              all_goals go_wp2
              all_goals (go_roundg (l.length - (i + 1)); (case measure => (have := HK.out; omega)); (case rel => exact ⟨i + 1, ii + 1, rfl, by have := HII.out; omega, by have := HK.out; omega, rfl, HB, ⟨by rw [← HOE.out, HQ.out]; exact HO.out⟩⟩))
            · have b32 : decide (cc < 32) = false := decide_eq_false h32
              rw [if_neg h32] at hqc
              have HQ := Aside0.mk hqc
              clear h32 hqc
              go_wp2_with (first | ((with_reducible refine gate_dst (N := 51) rfl ?_); refine Kd.R_lit (Kd.int .u8) w.heap.size 5 ?hg (N := 51) ?hd (xs := ([cc] : List Int)) (inner := [.int .u8 cc]) (ok := fun _ => True) (okp := fun _ => True) ?hr ?hp (fun _ hk => hk) trivial HB.out HB.out.size (by simp) ?_; (case hd => rfl); (case hg => rfl); (case hr => first | (go_simp; done) | (go_simp; rfl)); (case hp => exact (Reps.one (show Kd.M (Kd.int .u8) _ _ _ cc [.int .u8 cc] from rfl) (Reps.none _ _))); intro v51 w51 ho hb hg_ hnew_; have m2_ := Aside0.mk (Kd.R_grown HO.out hg_ (by simp)); clear HO; have HOO := m2_; clear m2_; clear HB; have HLt := Aside0.mk ho; have HO := HOO; clear HOO; have HB := Aside0.mk hb; clear ho hb hg_ hnew_) | ((with_reducible refine gate_builtin (b := .append) (xs := #[.tmp 47, .tmp 51]) rfl ?_); at_builtin; obtain ⟨Al, cl, el⟩ := Kd.R_slice HLt.out; subst el; refine Kd.R_append_rows (Kd.int .u8) (w0 := w) w.heap.size rfl (.tmp 47) (.tmp 51) 22 5 (.int .u8 0) 1 rfl Tryd.underlying22 info5 rfl (by decide) (by omega) _ (o) ([cc]) _ _ _ (fun _ => True) (fun _ => False) rfl rfl HO.out (Kd.R_reads' HLt.out).2.2 (fun _ _ h => h) (fun _ h => h.elim) (fun _ _ => trivial) HB.out HB.out.size (by have := HLB.out; first | omega | (simp only [List.length_append, List.length_cons, List.length_nil]; omega)) ?_; intro v52 w52 ho hb hg hat; clear HLt; clear HB HO; have HO := Aside0.mk ho; have HB := Aside0.mk hb; clear ho hb hg hat))
              go_roundg (l.length - (i + 1))
              case measure => have := HK.out; omega
              case rel => exact ⟨i + 1, ii + 1, rfl, by have := HII.out; omega, by have := HK.out; omega, rfl, HB, ⟨by rw [← HOE.out, HQ.out]; exact HO.out⟩⟩
      · obtain rfl : i = l.length := by omega
        have bz : decide (ii < (s.size : Int)) = false := decide_eq_false (by omega)
        have pz : (ii < (s.size : Int)) = False := eq_false (by omega)
        obtain ⟨o, ho⟩ : ∃ x, x = 34 :: (l.take l.length).flatMap LexW.qc := ⟨_, rfl⟩
        rw [← ho] at HO
        have HLB := Aside0.mk (show o.length ≤ 7000000 by rw [ho, List.length_cons]; have := LexW.body_len (l.take l.length); rw [List.length_take] at this; omega)
        have HOE := Aside0.mk (show o ++ [34] = LexW.quote l by rw [ho, List.take_length]; rfl)
        clear ho hii hls hlt hi hk
        go_upto_region 21 with (fail)
        go_wp2_with (first | ((with_reducible refine gate_dst (N := 76) rfl ?_); refine Kd.R_lit (Kd.int .u8) w.heap.size 5 ?hg (N := 76) ?hd (xs := ([34] : List Int)) (inner := [.int .u8 34]) (ok := fun _ => True) (okp := fun _ => True) ?hr ?hp (fun _ hk => hk) trivial HB.out HB.out.size (by simp) ?_; (case hd => rfl); (case hg => rfl); (case hr => first | (go_simp; done) | (go_simp; rfl)); (case hp => exact (Reps.one (show Kd.M (Kd.int .u8) _ _ _ 34 [.int .u8 34] from rfl) (Reps.none _ _))); intro v76 w76 ho hb hg_ hnew_; have m2_ := Aside0.mk (Kd.R_grown HO.out hg_ (by simp)); clear HO; have HOO := m2_; clear m2_; clear HB; have HLt := Aside0.mk ho; have HO := HOO; clear HOO; have HB := Aside0.mk hb; clear ho hb hg_ hnew_) | ((with_reducible refine gate_builtin (b := .append) (xs := #[.tmp 75, .tmp 76]) rfl ?_); at_builtin; obtain ⟨Al, cl, el⟩ := Kd.R_slice HLt.out; subst el; refine Kd.R_append_rows (Kd.int .u8) (w0 := w) w.heap.size rfl (.tmp 75) (.tmp 76) 22 5 (.int .u8 0) 1 rfl Tryd.underlying22 info5 rfl (by decide) (by omega) _ (o) ([34]) _ _ _ (fun _ => True) (fun _ => False) rfl rfl HO.out (Kd.R_reads' HLt.out).2.2 (fun _ _ h => h) (fun _ h => h.elim) (fun _ _ => trivial) HB.out HB.out.size (by have := HLB.out; first | omega | (simp only [List.length_append, List.length_cons, List.length_nil]; omega)) ?_; intro v77 w77 ho hb hg hat; rw [HOE.out] at ho; obtain ⟨Ao, co, eo⟩ := Kd.R_slice ho; subst eo; have hcv := Kd.C_string (P := Tryd.prog) (A := Ao) (c := co) Tryd.underlying22 Tryd.underlying5 Tryd.underlying9 (Kd.R_reads' ho).2.2; clear HLt; clear HB HO; have HO := Aside0.mk ho; have HB := Aside0.mk hb; clear ho hb hg hat))
        go_ret2
        exact ⟨rfl, HB.out⟩

-- GIVEN plain making
set_option maxHeartbeats 4000000 in
set_option maxRecDepth 100000 in
theorem lexlaw_Quotes.calls (s : ByteArray) (c : Int) (w : World) (hs : s.size ≤ 1048576) (hc : (Lit.int .u8 c).wf = true) (hgl : w.cell? ⟨0, 0, none⟩ = some (.iface 98 (.agg #[.pointer (some ⟨2, 46, none⟩)]))) :
    Calls Tryd.prog 7 #[.string s, .int .u8 c] w fun e w' => e = .returned (.bool true) ∧ Below w.heap.size w w' := by
  obtain ⟨qs, hqs⟩ : ∃ x, x = (if (Utf.good (bytesOf s)).2 = true then strOfNums (LexW.quote (bytesOf s)) else (⟨#[]⟩ : ByteArray)) := ⟨_, rfl⟩
  obtain ⟨qe, hqe⟩ : ∃ x : Int, x = (if (Utf.good (bytesOf s)).2 = true then 0 else 10) := ⟨_, rfl⟩
  have HL := Aside0.mk (show ∀ W : World, Calls Tryd.prog 12 #[.string s] W fun e w' => e = .returned (.tuple #[.string qs, .int .i64 qe]) ∧ Below W.heap.size W w' by intro W; rw [hqs, hqe]; exact lexn_Quote.calls s hs W)
  have HR := Aside0.mk (show ∀ W : World, Calls Tryd.prog 13 #[.string s] W fun e w' => e = .returned (.tuple #[.string qs, .int .i64 qe]) ∧ Below W.heap.size W w' by intro W; rw [hqs, hqe]; exact refn_Quote.calls s hs W)
  obtain ⟨bl, hbl⟩ : ∃ x, x = LexW.blank c := ⟨_, rfl⟩
  have HB1 := Aside0.mk (show ∀ W : World, Calls Tryd.prog 14 #[.int .u8 c] W fun e w' => e = .returned (.bool bl) ∧ Below W.heap.size W w' by intro W; rw [hbl]; exact LexT.blank c W)
  have HB2 := Aside0.mk (show ∀ W : World, Calls Tryd.prog 15 #[.int .u8 c] W fun e w' => e = .returned (.bool bl) ∧ Below W.heap.size W w' by intro W; rw [hbl]; exact RefT.blank c W)
  have HGL := Aside0.mk hgl
  have HB := Aside0.mk (Below.refl w.heap.size w)
  clear hgl hqs hqe hbl hs hc
  go_enter Tryd.func7, Tryd.ntmps7
  go_wp2_with (first | (go_at_call 12; (with_reducible refine (HL.out _).mono ?_); rintro e w1 ⟨rfl, hb⟩; have n1_ := Aside0.mk (below_step HB.out hb); clear HB hb; have HB := n1_; clear n1_) | (go_at_call 13; (with_reducible refine (HR.out _).mono ?_); rintro e w1 ⟨rfl, hb⟩; have n1_ := Aside0.mk (below_step HB.out hb); clear HB hb; have HB := n1_; clear n1_) | (go_at_call 14; (with_reducible refine (HB1.out _).mono ?_); rintro e w1 ⟨rfl, hb⟩; have n1_ := Aside0.mk (below_step HB.out hb); clear HB hb; have HB := n1_; clear n1_) | (go_at_call 15; (with_reducible refine (HB2.out _).mono ?_); rintro e w1 ⟨rfl, hb⟩; have n1_ := Aside0.mk (below_step HB.out hb); clear HB hb; have HB := n1_; clear n1_) | (go_at_call 11; (with_reducible refine (lexlaw_heads.calls _ (pw_cell_below HB.out HGL.out)).mono ?_); rintro e w1 ⟨rfl, hb⟩; have n1_ := Aside0.mk (below_step HB.out hb); clear HB hb; have HB := n1_; clear n1_))
  go_ret
  exact ⟨rfl, HB.out⟩

end Go.Proofs.YthoobepfkfjgnaaDoor.PL
