/- UtfBack, the pure statement (at most 1048576 bytes): code points put one behind the other are the text. -/
import Derived.Test.YthoobepfkfjgnaaPUx14
import Derived.Test.YthoobepfkfjgnaaBase
import Derived.Test.YthoobepfkfjgnaaPutLaws
namespace Go.Proofs.Ythoobepfkfjgnaa.Pure
open Go.RowKit Go.Proofs.Ythoobepfkfjgnaa.PU Go.Proofs.YthoobepfkfjgnaaW.PrintWords Go.Proofs.YthoobepfkfjgnaaW.PrintLast

theorem back_loop (l ps : List Int) (hps : ∀ p ∈ ps, Utf.Scalar p) (hl : l = Utf.encs ps) (hlen : l.length ≤ 1048576) (hb : Utf.Bytes l) :
    ∀ (d j : Nat), j + d = ps.length → Ev (fun k => caliperlaw01_UtfBack.l0 k l ps (Utf.encs (ps.take j)) (j : Int)) true := by
  have hpl : ps.length ≤ 1048576 := by
    have h1 := Utf.pts_length_le l.length l (Nat.le_refl _)
    rw [show Utf.pts l = ps by rw [hl]; exact Utf.pts_encs ps hps] at h1
    omega
  intro d
  induction d with
  | zero =>
    intro j hj
    obtain rfl : j = ps.length := by omega
    rw [List.take_length, ← hl]
    refine Ev.step (f := fun k => (caliperlaw01_heads.f k).bind fun t => some t) (fun k => ?_) (Ev.bind heads_ev (Ev.now _))
    simp only [caliperlaw01_UtfBack.l0]
    rw [if_neg (by omega), same_refl]
    simp only [Option.bind_some, if_true]
    have hc : utf_Count.f (strOfNums l) = some (ps.length : Int) := by
      have hs := utf_Points.str hb
      have hsz := bytesOf_length (strOfNums l)
      unfold utf_Count.f
      rw [hs] at hsz ⊢
      rw [if_pos (by omega)]
      congr 1
      conv => lhs; rw [hl]
      exact Utf.cnt_encs ps hps
    rw [hc]
    simp only [Option.bind_some, if_true]
  | succ d ih =>
    intro j hj
    have hlt : j < ps.length := by omega
    refine Ev.step (f := fun k => caliperlaw01_UtfBack.l0 k l ps (Utf.encs (ps.take (j + 1))) ((j + 1 : Nat) : Int)) (fun k => ?_) (ih (j + 1) (by omega))
    simp only [caliperlaw01_UtfBack.l0]
    have hrd : rd ps (j : Int) = ps[j] := by unfold rd; rw [Int.toNat_natCast, List.getD_eq_getElem?_getD, List.getElem?_eq_getElem hlt]; rfl
    have hle : (Utf.encs (ps.take j)).length ≤ l.length := by
      rw [hl]
      conv => rhs; rw [← List.take_append_drop j ps, Utf.encs_append, List.length_append]
      omega
    rw [if_pos (by omega), if_pos (by omega), hrd, put_yes (by omega) (hps _ (List.getElem_mem hlt))]
    simp only [Option.bind_some, if_true]
    rw [wrap64_id (n := (j : Int) + 1) (by omega) (by omega), List.take_succ_eq_append_getElem hlt, Utf.encs_append, Utf.encs_cons, Utf.encs_nil, List.append_nil]
    rfl

theorem UtfBackUpto : ∀ l : List Int, l.length ≤ 1048576 → (∀ x ∈ l, (Lit.int .u8 x).wf = true) → ∃ k, caliperlaw01_UtfBack.f k l = some true := by
  intro l hl hw
  have hb := bytes_of hw
  have hok := points_ok hb
  refine Ev.rounds (g := fun k => caliperlaw01_UtfBack.f k l) ?_
  have hg := Utf.good_range l
  by_cases h : (Utf.good l).2 = true
  · obtain ⟨hps, he⟩ := Utf.valid_of_good hb h
    have hpl := Utf.pts_length_le l.length l (Nat.le_refl _)
    have hgv := Utf.good_of_valid hb h
    have hp : utf_Points.f l = some (Utf.pts l, 0) := by
      unfold utf_Points.f
      rw [if_pos hok, if_pos h, if_pos ⟨by omega, by omega⟩]
    refine Ev.congr (f := fun k => (utf_Good.f k l).bind fun g => _) (fun k => by unfold caliperlaw01_UtfBack.f; rw [hp]; simp only [Option.bind_some]; rfl) (Ev.bind (good_ev l (by omega)) ?_)
    rw [hgv]
    refine Ev.congr (f := fun k => caliperlaw01_UtfBack.j0 k l (Utf.pts l) 0 false) (fun k => ?_) ?_
    · rw [if_neg (show ¬ (((0 : Int) == 0) != true) = true by decide), if_pos rfl, if_pos rfl, if_neg (by omega), decide_eq_false (by omega)]
    · refine Ev.step (f := fun k => caliperlaw01_UtfBack.l0 k l (Utf.pts l) [] 0) (fun k => ?_) ?_
      · simp only [caliperlaw01_UtfBack.j0]
        rw [if_neg (by decide), if_pos (by decide)]
      · exact back_loop l (Utf.pts l) hps he hl hb (Utf.pts l).length 0 (by omega)
  · have hp : utf_Points.f l = some ([], 10) := by
      unfold utf_Points.f
      rw [if_pos hok, if_neg h, if_pos (by omega)]
    refine Ev.congr (f := fun k => (utf_Good.f k l).bind fun g => _) (fun k => by unfold caliperlaw01_UtfBack.f; rw [hp]; simp only [Option.bind_some]; rfl) (Ev.bind (good_ev l (by omega)) ?_)
    refine Ev.congr (f := fun k => caliperlaw01_UtfBack.j0 k l [] 10 false) (fun k => ?_) ?_
    · rw [Bool.eq_false_iff.2 h, if_neg (by decide), if_neg (by decide), if_neg (by omega), decide_eq_false (by omega)]
    · refine Ev.step (f := fun k => (caliperlaw01_heads.f k).bind fun t => some t) (fun k => ?_) (Ev.bind heads_ev (Ev.now _))
      simp only [caliperlaw01_UtfBack.j0]
      rw [if_neg (by decide), if_neg (by decide), if_pos (by decide)]
end Go.Proofs.Ythoobepfkfjgnaa.Pure
