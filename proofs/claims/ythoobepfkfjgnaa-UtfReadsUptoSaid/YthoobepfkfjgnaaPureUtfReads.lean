/- UtfReads, the pure statement (at most 1048576 bytes): Good, Points, Count, Compare answer as the document's. -/
import Derived.Test.YthoobepfkfjgnaaPUx11
import Derived.Test.YthoobepfkfjgnaaRefPoints
namespace Go.Proofs.Ythoobepfkfjgnaa.Pure
open Go.RowKit Go.Proofs.Ythoobepfkfjgnaa.PU Go.Proofs.YthoobepfkfjgnaaW.PrintWords Go.Proofs.YthoobepfkfjgnaaW.PrintLast

theorem rc_round (k : Nat) (s : ByteArray) (n : Int) (i : Nat) (c : Int) (hc : bt s (i : Int) = c) (hi : i < s.size) (hs : s.size ≤ 1048576) (hn : 0 ≤ n ∧ n ≤ 1048576) :
    caliperref01_Count.l0 (k + 1) s n (i : Int) = caliperref01_Count.l0 k s (n + (if c < 128 ∨ 191 < c then 1 else 0)) ((i + 1 : Nat) : Int) := by
  have c0 : (i : Int) < (s.size : Int) := by omega
  have c1 : (0 : Int) ≤ (i : Int) := by omega
  have e1 : wrap64 ((i : Int) + 1) = ((i + 1 : Nat) : Int) := by rw [wrap64_id (by omega) (by omega)]; omega
  have e2 : wrap64 (n + 1) = n + 1 := wrap64_id (by omega) (by omega)
  simp only [caliperref01_Count.l0]
  rw [if_pos c0, if_pos c1, hc, e1, e2]
  clear e1 e2
  by_cases h1 : c < 128
  · rw [if_pos h1, if_pos (.inl h1)]
  · rw [if_neg h1]
    by_cases h2 : c > 191
    · rw [if_pos h2, if_pos (.inr h2)]
    · rw [if_neg h2, if_neg (by omega), Int.add_zero]
theorem rcount_ev (s : ByteArray) (hs : s.size ≤ 1048576) : Ev (fun k => caliperref01_Count.f k s) (Utf.cnt (bytesOf s)) := by
  have hl := bytesOf_length s
  have loop : ∀ (d i : Nat), s.size = i + d → Ev (fun k => caliperref01_Count.l0 k s (Utf.cnt ((bytesOf s).take i)) (i : Int)) (Utf.cnt (bytesOf s)) := by
    intro d
    induction d with
    | zero =>
      intro i h
      refine Ev.step (f := fun _ => some (Utf.cnt (bytesOf s))) (fun k => ?_) (Ev.now _)
      simp only [caliperref01_Count.l0]
      rw [if_neg (by omega), List.take_of_length_le (by omega)]
    | succ d ih =>
      intro i h
      have hcb := Utf.cnt_le ((bytesOf s).take i)
      have htl : ((bytesOf s).take i).length ≤ i := List.length_take_le _ _
      have hbt := rd_bytesOf s (i : Int)
      have hr := bt_range s (i : Int)
      have hlt : i < (bytesOf s).length := by omega
      have htk : Utf.cnt ((bytesOf s).take (i + 1)) = Utf.cnt ((bytesOf s).take i) + (if bt s (i : Int) < 128 ∨ 191 < bt s (i : Int) then 1 else 0) := by
        rw [List.take_succ_eq_append_getElem hlt, Utf.cnt_append, Utf.cnt_cons, ← hbt]
        have e : rd (bytesOf s) (i : Int) = (bytesOf s)[i] := by unfold rd; rw [Int.toNat_natCast, List.getD_eq_getElem?_getD, List.getElem?_eq_getElem hlt]; rfl
        rw [e, show Utf.cnt [] = 0 from rfl, Int.add_zero]
      clear hbt
      have hi := ih (i + 1) (by omega)
      rw [htk] at hi
      exact Ev.step (fun k => rc_round k s _ i _ rfl (by omega) (by omega) (by omega)) hi
  refine Ev.congr (fun k => ?_) (loop s.size 0 (by omega))
  rfl
theorem UtfReadsUpto : ∀ (l : List Int) (s : ByteArray), l.length ≤ 1048576 → (∀ x ∈ l, (Lit.int .u8 x).wf = true) → s.size ≤ 1048576 → ∃ k, caliperlaw01_UtfReads.f k l s = some true := by
  intro l s hl hw hs
  have hb := bytes_of hw
  have hpl := Utf.pts_length_le l.length l (Nat.le_refl _)
  have hp : utf_Points.f l = some (if (Utf.good l).2 = true then (Utf.pts l, 0) else ([], 10)) := by
    unfold utf_Points.f
    rw [if_pos (points_ok hb)]
    by_cases h : (Utf.good l).2 = true
    · rw [if_pos h, if_pos h, if_pos ⟨by omega, by omega⟩]
    · rw [if_neg h, if_neg h, if_pos (by omega)]
  refine Ev.rounds (g := fun k => caliperlaw01_UtfReads.f k l s) ?_
  refine Ev.bind (good_ev l (by omega)) (Ev.bind (rgood_ev l (by omega)) ?_)
  rw [hp]
  have hr := rpoints_ev l hl hb
  generalize hq : (if (Utf.good l).2 = true then (Utf.pts l, (0 : Int)) else ([], 10)) = q at hr
  have hql : q.1.length ≤ 140737488351232 := by
    rw [← hq]
    split
    · show (Utf.pts l).length ≤ _
      omega
    · show ([] : List Int).length ≤ _
      simp
  refine Ev.congr (f := fun k => (caliperref01_Points.f k l).bind fun bt254 => _) (fun k => by rw [Option.bind_some]) (Ev.bind hr ?_)
  have hc : ∃ c, utf_Compare.f (strOfNums l) s = some c ∧ caliperref01_Compare.f (strOfNums l) s = some c := by
    unfold utf_Compare.f caliperref01_Compare.f
    repeat' split
    all_goals exact ⟨_, rfl, rfl⟩
  obtain ⟨c, hc1, hc2⟩ := hc
  have hcnt : utf_Count.f s = some (Utf.cnt (bytesOf s)) := by
    unfold utf_Count.f
    rw [if_pos (by omega)]
  refine Ev.congr (f := fun k => (caliperref01_Ints.f k q.1 q.1).bind fun t258 => if t258 = true then ((caliperref01_Count.f k s).bind fun t260 => if Utf.cnt (bytesOf s) = t260 then ((caliperlaw01_heads.f k).bind fun t263 => some t263) else some false) else some false) (fun k => ?_) ?_
  · rw [if_pos rfl, if_pos (beq_self_eq_true _)]
    congr 1
    funext t
    congr 1
    rw [if_pos rfl, hcnt, Option.bind_some]
    congr 1
    funext u
    congr 1
    rw [hc1, hc2, Option.bind_some, Option.bind_some, if_pos rfl]
  · refine Ev.bind (ints_refl q.1 hql) ?_
    refine Ev.congr (fun k => if_pos rfl) (Ev.bind (rcount_ev s hs) ?_)
    exact Ev.congr (fun k => if_pos rfl) (Ev.bind heads_ev (Ev.now _))
end Go.Proofs.Ythoobepfkfjgnaa.Pure
