/- The reference's Points, as the printed function tells it. -/
import Derived.Test.YthoobepfkfjgnaaPUx9
import Derived.Test.YthoobepfkfjgnaaPUx2
import Derived.Test.YthoobepfkfjgnaaRefLaws
namespace Go.Proofs.Ythoobepfkfjgnaa.Pure
open Go.RowKit Go.Proofs.Ythoobepfkfjgnaa.PU Go.Proofs.YthoobepfkfjgnaaW.PrintWords Go.Proofs.YthoobepfkfjgnaaW.PrintLast

theorem w64_1 (i : Nat) (hi : i ≤ 1048576) : wrap64 ((i : Int) + 1) = ((i + 1 : Nat) : Int) := by rw [wrap64_id (by omega) (by omega)]; omega
theorem w64_2 (i : Nat) (hi : i ≤ 1048576) : wrap64 ((i : Int) + 2) = ((i + 2 : Nat) : Int) := by rw [wrap64_id (by omega) (by omega)]; omega
theorem w64_3 (i : Nat) (hi : i ≤ 1048576) : wrap64 ((i : Int) + 3) = ((i + 3 : Nat) : Int) := by rw [wrap64_id (by omega) (by omega)]; omega
theorem w64_4 (i : Nat) (hi : i ≤ 1048576) : wrap64 ((i : Int) + 4) = ((i + 4 : Nat) : Int) := by rw [wrap64_id (by omega) (by omega)]; omega
theorem cp1 {p : Int} (a : 0 ≤ p) (b : p < 128) : wrap64 p = p := wrap64_id (by omega) (by omega)
theorem cp2 {p : Int} (a : 128 ≤ p) (b : p < 2048) : Go.bits .or .i64 (wrap64 ((Go.bits .and .i64 (wrap64 (192 + p / 64)) 31) * 64)) (Go.bits .and .i64 (wrap64 (128 + p % 64)) 63) = p := by
  rw [wrap64_id (n := 192 + p / 64) (by omega) (by omega), wrap64_id (n := 128 + p % 64) (by omega) (by omega), and31 (by omega) (by omega), and63 (by omega) (by omega)]
  rw [wrap64_id (n := (192 + p / 64) % 32 * 64) (by omega) (by omega), or_add 6 (by omega) (by omega) (by omega) (by omega) (by omega) (by omega)]
  omega
theorem cp3 {p : Int} (a : 2048 ≤ p) (b : p < 65536) : Go.bits .or .i64 (Go.bits .or .i64 (wrap64 ((Go.bits .and .i64 (wrap64 (224 + p / 4096)) 15) * 4096)) (wrap64 ((Go.bits .and .i64 (wrap64 (128 + p / 64 % 64)) 63) * 64))) (Go.bits .and .i64 (wrap64 (128 + p % 64)) 63) = p := by
  rw [wrap64_id (n := 224 + p / 4096) (by omega) (by omega), wrap64_id (n := 128 + p / 64 % 64) (by omega) (by omega), wrap64_id (n := 128 + p % 64) (by omega) (by omega), and15 (by omega) (by omega), and63 (by omega) (by omega), and63 (by omega) (by omega)]
  rw [wrap64_id (n := (224 + p / 4096) % 16 * 4096) (by omega) (by omega), wrap64_id (n := (128 + p / 64 % 64) % 64 * 64) (by omega) (by omega), show Go.bits .or .i64 ((224 + p / 4096) % 16 * 4096) ((128 + p / 64 % 64) % 64 * 64) = p / 64 * 64 by rw [or_add 12 (by omega) (by omega) (by omega) (by omega) (by omega) (by omega)]; omega]
  rw [or_add 6 (by omega) (by omega) (by omega) (by omega) (by omega) (by omega)]
  omega
theorem cp4 {p : Int} (a : 65536 ≤ p) (b : p ≤ 1114111) : Go.bits .or .i64 (Go.bits .or .i64 (Go.bits .or .i64 (wrap64 ((Go.bits .and .i64 (wrap64 (240 + p / 262144)) 7) * 262144)) (wrap64 ((Go.bits .and .i64 (wrap64 (128 + p / 4096 % 64)) 63) * 4096))) (wrap64 ((Go.bits .and .i64 (wrap64 (128 + p / 64 % 64)) 63) * 64))) (Go.bits .and .i64 (wrap64 (128 + p % 64)) 63) = p := by
  rw [wrap64_id (n := 240 + p / 262144) (by omega) (by omega), wrap64_id (n := 128 + p / 4096 % 64) (by omega) (by omega), wrap64_id (n := 128 + p / 64 % 64) (by omega) (by omega), wrap64_id (n := 128 + p % 64) (by omega) (by omega), and7 (by omega) (by omega), and63 (by omega) (by omega), and63 (by omega) (by omega), and63 (by omega) (by omega)]
  rw [wrap64_id (n := (240 + p / 262144) % 8 * 262144) (by omega) (by omega), wrap64_id (n := (128 + p / 4096 % 64) % 64 * 4096) (by omega) (by omega), wrap64_id (n := (128 + p / 64 % 64) % 64 * 64) (by omega) (by omega), show Go.bits .or .i64 ((240 + p / 262144) % 8 * 262144) ((128 + p / 4096 % 64) % 64 * 4096) = p / 4096 * 4096 by rw [or_add 18 (by omega) (by omega) (by omega) (by omega) (by omega) (by omega)]; omega]
  rw [show Go.bits .or .i64 (p / 4096 * 4096) ((128 + p / 64 % 64) % 64 * 64) = p / 64 * 64 by rw [or_add 12 (by omega) (by omega) (by omega) (by omega) (by omega) (by omega)]; omega]
  rw [or_add 6 (by omega) (by omega) (by omega) (by omega) (by omega) (by omega)]
  omega
section
variable (k : Nat) (l acc : List Int) (i : Nat) (p : Int) (hi : i ≤ 1048576) (hacc : acc.length < 17592186044416)
include hi hacc
theorem rp1 (hl : i + 1 ≤ l.length) (a : 0 ≤ p) (b : p < 128) (hs : caliperref01_step.f k l (i : Int) = some (1, true)) (r0 : rd l (i : Int) = p) :
    caliperref01_Points.l0 (k + 1) l acc (i : Int) = caliperref01_Points.l0 k l (acc ++ [p]) ((i + 1 : Nat) : Int) := by
  have c0 : (i : Int) < (l.length : Int) := by omega
  have c1 : (0 : Int) ≤ (i : Int) := by omega
  have w1 : wrap64 ((i : Int) + ((1 : Int), true).fst) = ((i + 1 : Nat) : Int) := w64_1 i hi
  simp only [caliperref01_Points.l0]
  rw [if_pos c0, hs, Option.bind_some]
  rw [if_pos c1, if_neg (show ¬ ((1 : Int), true).fst = 2 by decide), if_neg (show ¬ ((1 : Int), true).fst = 3 by decide), if_neg (show ¬ ((1 : Int), true).fst = 4 by decide), if_pos hacc, r0, cp1 a b, w1]
theorem rp2 (hl : i + 2 ≤ l.length) (a : 128 ≤ p) (b : p < 2048) (hs : caliperref01_step.f k l (i : Int) = some (2, true)) (r0 : rd l (i : Int) = 192 + p / 64) (r1 : rd l ((i + 1 : Nat) : Int) = 128 + p % 64) :
    caliperref01_Points.l0 (k + 1) l acc (i : Int) = caliperref01_Points.l0 k l (acc ++ [p]) ((i + 2 : Nat) : Int) := by
  have c0 : (i : Int) < (l.length : Int) := by omega
  have c1 : (0 : Int) ≤ (i : Int) := by omega
  have d0 : (0 : Int) ≤ ((i + 1 : Nat) : Int) := by omega
  have d1 : ((i + 1 : Nat) : Int) < (l.length : Int) := by omega
  have w1 := w64_1 i hi
  have w2 : wrap64 ((i : Int) + ((2 : Int), true).fst) = ((i + 2 : Nat) : Int) := w64_2 i hi
  simp only [caliperref01_Points.l0]
  rw [if_pos c0, hs, Option.bind_some]
  rw [if_pos c1, if_pos (show ((2 : Int), true).fst = 2 from rfl), w1, w2, if_pos d0, if_pos d1, if_pos hacc, r0, r1, cp2 a b]
theorem rp3 (hl : i + 3 ≤ l.length) (a : 2048 ≤ p) (b : p < 65536) (hs : caliperref01_step.f k l (i : Int) = some (3, true)) (r0 : rd l (i : Int) = 224 + p / 4096) (r1 : rd l ((i + 1 : Nat) : Int) = 128 + p / 64 % 64) (r2 : rd l ((i + 2 : Nat) : Int) = 128 + p % 64) :
    caliperref01_Points.l0 (k + 1) l acc (i : Int) = caliperref01_Points.l0 k l (acc ++ [p]) ((i + 3 : Nat) : Int) := by
  have c0 : (i : Int) < (l.length : Int) := by omega
  have c1 : (0 : Int) ≤ (i : Int) := by omega
  have d0 : (0 : Int) ≤ ((i + 1 : Nat) : Int) := by omega
  have d1 : ((i + 1 : Nat) : Int) < (l.length : Int) := by omega
  have d2 : (0 : Int) ≤ ((i + 2 : Nat) : Int) := by omega
  have d3 : ((i + 2 : Nat) : Int) < (l.length : Int) := by omega
  have w1 := w64_1 i hi
  have w2 := w64_2 i hi
  have w3 : wrap64 ((i : Int) + ((3 : Int), true).fst) = ((i + 3 : Nat) : Int) := w64_3 i hi
  simp only [caliperref01_Points.l0]
  rw [if_pos c0, hs, Option.bind_some]
  rw [if_pos c1, if_neg (show ¬ ((3 : Int), true).fst = 2 by decide), if_pos (show ((3 : Int), true).fst = 3 from rfl), w1, w2, w3, if_pos d0, if_pos d1, if_pos d2, if_pos d3, if_pos hacc, r0, r1, r2, cp3 a b]
theorem rp4 (hl : i + 4 ≤ l.length) (a : 65536 ≤ p) (b : p ≤ 1114111) (hs : caliperref01_step.f k l (i : Int) = some (4, true)) (r0 : rd l (i : Int) = 240 + p / 262144) (r1 : rd l ((i + 1 : Nat) : Int) = 128 + p / 4096 % 64) (r2 : rd l ((i + 2 : Nat) : Int) = 128 + p / 64 % 64) (r3 : rd l ((i + 3 : Nat) : Int) = 128 + p % 64) :
    caliperref01_Points.l0 (k + 1) l acc (i : Int) = caliperref01_Points.l0 k l (acc ++ [p]) ((i + 4 : Nat) : Int) := by
  have c0 : (i : Int) < (l.length : Int) := by omega
  have c1 : (0 : Int) ≤ (i : Int) := by omega
  have d0 : (0 : Int) ≤ ((i + 1 : Nat) : Int) := by omega
  have d1 : ((i + 1 : Nat) : Int) < (l.length : Int) := by omega
  have d2 : (0 : Int) ≤ ((i + 2 : Nat) : Int) := by omega
  have d3 : ((i + 2 : Nat) : Int) < (l.length : Int) := by omega
  have d4 : (0 : Int) ≤ ((i + 3 : Nat) : Int) := by omega
  have d5 : ((i + 3 : Nat) : Int) < (l.length : Int) := by omega
  have w1 := w64_1 i hi
  have w2 := w64_2 i hi
  have w3 := w64_3 i hi
  have w4 : wrap64 ((i : Int) + ((4 : Int), true).fst) = ((i + 4 : Nat) : Int) := w64_4 i hi
  simp only [caliperref01_Points.l0]
  rw [if_pos c0, hs, Option.bind_some]
  rw [if_pos c1, if_neg (show ¬ ((4 : Int), true).fst = 2 by decide), if_neg (show ¬ ((4 : Int), true).fst = 3 by decide), if_pos (show ((4 : Int), true).fst = 4 from rfl), w1, w2, w3, w4, if_pos d0, if_pos d1, if_pos d2, if_pos d3, if_pos d4, if_pos d5, if_pos hacc, r0, r1, r2, r3, cp4 a b]
end
section
variable (l ps : List Int) (hl : l.length ≤ 1048576) (hps : ∀ p ∈ ps, Utf.Scalar p) (he : l = Utf.encs ps)
include hl hps he
theorem rpoints_l : ∀ (d j : Nat), j + d = ps.length → Ev (fun k => caliperref01_Points.l0 k l (ps.take j) (((Utf.encs (ps.take j)).length : Nat) : Int)) (ps, 0) := by
  have hpl : ps.length ≤ 1048576 := by
    have h1 := Utf.pts_length_le l.length l (Nat.le_refl _)
    rw [show Utf.pts l = ps by rw [he]; exact Utf.pts_encs ps hps] at h1
    omega
  intro d
  induction d with
  | zero =>
    intro j hj
    obtain rfl : j = ps.length := by omega
    rw [List.take_length, ← he]
    refine Ev.step (f := fun _ => some (ps, 0)) (fun k => ?_) (Ev.now _)
    simp only [caliperref01_Points.l0]
    rw [if_neg (by omega)]
  | succ d ih =>
    intro j hj
    have hlt : j < ps.length := by omega
    have hsc := hps _ (List.getElem_mem hlt)
    generalize hp : ps[j] = p at hsc
    generalize hi : (Utf.encs (ps.take j)).length = i
    have htk : ps.take (j + 1) = ps.take j ++ [p] := by rw [List.take_succ_eq_append_getElem hlt, hp]
    have hnext := ih (j + 1) (by omega)
    rw [htk, Utf.encs_append, List.length_append, hi, Utf.encs_cons, Utf.encs_nil, List.append_nil] at hnext
    have hdrop : l.drop i = Utf.enc p ++ Utf.encs (ps.drop (j + 1)) := by
      rw [← hi, he]
      conv => lhs; rw [← List.take_append_drop j ps, Utf.encs_append]
      rw [List.take_append_of_le_length (by rw [List.length_take]; omega), List.take_take, Nat.min_self, List.drop_left, List.drop_eq_getElem_cons hlt, Utf.encs_cons, hp]
    have hlen : i + (Utf.enc p).length + (Utf.encs (ps.drop (j + 1))).length = l.length := by
      have h1 := congrArg List.length hdrop
      rw [List.length_drop, List.length_append] at h1
      have := Utf.enc_length_pos p
      omega
    have hat : ∀ (q : Nat) (c : Int), (Utf.enc p)[q]? = some c → rd l ((i : Int) + q) = c := by
      intro q c hq
      have h1 : (l.drop i)[q]? = some c := by rw [hdrop, List.getElem?_append_left (List.getElem?_eq_some_iff.1 hq).1]; exact hq
      rw [List.getElem?_drop] at h1
      unfold rd
      rw [show ((i : Int) + q).toNat = i + q by omega, List.getD_eq_getElem?_getD, h1]
      rfl
    have hpos := Utf.enc_length_pos p
    have hil : i < l.length := by omega
    have hrun : Utf.run (l.drop i) 0 128 191 (i : Int) = Utf.run (l.drop (i + (Utf.enc p).length)) 0 128 191 ((i : Int) + (Utf.enc p).length) := by
      have h2 := congrArg (List.drop (Utf.enc p).length) hdrop
      rw [List.drop_drop, List.drop_left] at h2
      rw [h2, hdrop, Utf.run_enc hsc]
    have hrun2 : (Utf.run (l.drop i) 0 128 191 (i : Int)).2 = true := by
      have h1 := Utf.run_encs (ps.drop j) (fun q hq => hps q (List.mem_of_mem_drop hq)) [] 128 191 (i : Int)
      rw [List.append_nil] at h1
      rw [hdrop, ← Utf.encs_cons, ← hp, ← List.drop_eq_getElem_cons hlt, h1]
      simp [Utf.run]
    have hsc0 := hsc
    unfold Utf.Scalar at hsc0
    have h0 := hat 0
    simp only [Int.natCast_zero, Int.add_zero] at h0
    have hstep : ∀ k, 5 < k → caliperref01_step.f k l i = some (((Utf.enc p).length : Int), true) := by
      intro k hk
      obtain ⟨m, ok, e1, e2, e3⟩ := step_f l (by omega) i hil k hk
      unfold StepOf at e3
      cases ok with
      | false =>
        rw [if_neg (by decide)] at e3
        obtain ⟨n, rfl, e3⟩ := e3
        rw [e3] at hrun2
        simp at hrun2
      | true =>
        rw [e1, e2 rfl]
        congr 2
        rcases Utf.enc_cases hsc with ⟨a, b, e⟩ | ⟨a, b, e⟩ | ⟨a, b, e⟩ | ⟨a, b, e⟩ <;> rw [e] at h0 ⊢ <;> rw [h0 _ rfl]
        · rw [Utf.goes_1 b]; rfl
        · rw [Utf.goes_2 (by omega) (by omega)]; rfl
        · rw [(Utf.goes_3 (c := 224 + p / 4096) (by omega) (by omega)).1]; rfl
        · rw [(Utf.goes_4 (c := 240 + p / 262144) (by omega) (by omega)).1]; rfl
    obtain ⟨K, hK⟩ := hnext
    refine ⟨K + 7, fun k hk => ?_⟩
    obtain ⟨k, rfl⟩ : ∃ m, k = m + 1 := ⟨k - 1, by omega⟩
    have hK : caliperref01_Points.l0 k l (ps.take j ++ [p]) ((i + (Utf.enc p).length : Nat) : Int) = some (ps, 0) := hK k (by omega)
    have hlim : (ps.take j).length < 17592186044416 := by rw [List.length_take]; omega
    have hil2 : i ≤ 1048576 := by omega
    have hs := hstep k (by omega)
    have hle : i + (Utf.enc p).length ≤ l.length := by omega
    clear hdrop hrun hrun2 hstep htk ih hps he hpl hlen
    rcases Utf.enc_cases hsc with ⟨a, b, e⟩ | ⟨a, b, e⟩ | ⟨a, b, e⟩ | ⟨a, b, e⟩ <;> rw [e] at hat h0 hK hs hle
    · exact (rp1 k l _ i p hil2 hlim hle a b hs (h0 _ rfl)).trans hK
    · exact (rp2 k l _ i p hil2 hlim hle a b hs (h0 _ rfl) (hat 1 _ rfl)).trans hK
    · exact (rp3 k l _ i p hil2 hlim hle a b hs (h0 _ rfl) (hat 1 _ rfl) (hat 2 _ rfl)).trans hK
    · exact (rp4 k l _ i p hil2 hlim hle a b hs (h0 _ rfl) (hat 1 _ rfl) (hat 2 _ rfl) (hat 3 _ rfl)).trans hK
end
theorem rpoints_ev (l : List Int) (hl : l.length ≤ 1048576) (hb : Utf.Bytes l) : Ev (fun k => caliperref01_Points.f k l) (if (Utf.good l).2 = true then (Utf.pts l, 0) else ([], 10)) := by
  refine Ev.bind (rgood_ev l (by omega)) ?_
  by_cases h : (Utf.good l).2 = true
  · rw [h]
    obtain ⟨hps, he⟩ := Utf.valid_of_good hb h
    exact rpoints_l l (Utf.pts l) hl hps he (Utf.pts l).length 0 (by omega)
  · rw [Bool.eq_false_iff.2 h]
    exact Ev.now _
end Go.Proofs.Ythoobepfkfjgnaa.Pure
