import Derived.Test.YthoobepfkfjgnaaDoorPLx0
import Derived.Test.YthoobepfkfjgnaaDoorLXc
import Derived.Test.YthoobepfkfjgnaaDoorLXd
import Derived.Test.YthoobepfkfjgnaaDoorPLx13
import Derived.Test.YthoobepfkfjgnaaDoorPLx5
import Derived.Test.YthoobepfkfjgnaaDoorLexW
import Derived.Lib.SmallJoins
import Derived.WalkLawsBesides
import Derived.Outline
import Derived.StillTailTactics
import Derived.Test.YthoobepfkfjgnaaDoorMore
namespace Go.Proofs.YthoobepfkfjgnaaDoor.PL
open Go.RowKit Go.Proofs.YthoobepfkfjgnaaDoorW.PrintWords Go.Proofs.YthoobepfkfjgnaaDoorW.PrintLast Go.Proofs.YthoobepfkfjgnaaDoorW.PrintMore
attribute [local go_sem] max2_int min2_int max_two min_two max_three min_three max_four min_four
set_option linter.unusedVariables false
set_option linter.unusedSimpArgs false
-- GIVEN plain making
def RefW.toR : Option Nat × Nat → Int × Int
  | (none, q) => ((q : Int), 0)
  | (some e, _) => (0, (e : Int))
def RefW.toT : Option Nat × List Int × Nat → ByteArray × Int × Int
  | (none, out, q) => (strOfNums out, (q : Int), 0)
  | (some e, _, _) => ((⟨#[]⟩ : ByteArray), 0, (e : Int))
/-- What the reference's variables hold behind the switch. -/
def RefW.fin (r : Option Nat) (K : Int) (X : List Int) (Q : Nat) (bad kd : Int) (tx : ByteArray) (to_ : Int) : Prop :=
  match r with
  | none => bad = 0 ∧ kd = K ∧ tx = strOfNums X ∧ to_ = (Q : Int)
  | some e => bad = (e : Int) ∧ 0 < e
theorem RefT.blank (c : Int) (W : World) : Calls Tryd.prog 15 #[.int .u8 c] W fun e W' => e = .returned (.bool (LexW.blank c)) ∧ Below W.heap.size W W' := by
  refine (caliperref04_Blank.calls c _ W (show caliperref04_Blank.f c = some (LexW.blank c) from ?_)).mono ?_
  · unfold caliperref04_Blank.f LexW.blank
    by_cases h1 : c = 9
    · subst h1; rfl
    · by_cases h2 : c = 10
      · subst h2; rfl
      · by_cases h3 : c = 13
        · subst h3; rfl
        · rw [if_neg h1, if_neg h2, if_neg h3]
          have e1 : (c == 9) = false := by simp [h1]
          have e2 : (c == 10) = false := by simp [h2]
          have e3 : (c == 13) = false := by simp [h3]
          rw [e1, e2, e3]
          simp
  · rintro e w1 ⟨rfl, hd⟩
    exact ⟨rfl, hd.below⟩
theorem RefT.digit (c : Int) (W : World) : Calls Tryd.prog 20 #[.int .u8 c] W fun e W' => e = .returned (.bool (LexW.digit c)) ∧ Below W.heap.size W W' := by
  refine (caliperref04_digit.calls c _ W (show caliperref04_digit.f c = some (LexW.digit c) from ?_)).mono ?_
  · unfold caliperref04_digit.f LexW.digit
    by_cases h : 48 ≤ c
    · rw [if_pos h, decide_eq_true h]; rfl
    · rw [if_neg h, decide_eq_false h]; rfl
  · rintro e w1 ⟨rfl, hd⟩
    exact ⟨rfl, hd.below⟩
theorem LexW.must_pos {T : Int → Bool} {b : List Int} {p q e : Nat} (h : LexW.must T b p = (some e, q)) : 0 < e := by
  unfold LexW.must at h
  split at h
  · split at h <;> cases h <;> omega
  · cases h; omega
theorem LexW.exactly_pos : ∀ (l : List Int) {b : List Int} {p q e : Nat}, LexW.exactly l b p = (some e, q) → 0 < e := by
  intro l
  induction l with
  | nil => intro b p q e h; rw [LexW.exactly] at h; cases h
  | cons c l ih =>
    intro b p q e h
    rw [LexW.exactly] at h
    split at h
    · exact LexW.must_pos h
    · exact ih h
theorem LexW.digits_pos {b : List Int} {p q e : Nat} (h : LexW.digits b p = (some e, q)) : 0 < e := by
  unfold LexW.digits at h
  rcases hm : LexW.must LexW.digit b p with ⟨r1, q1⟩
  rw [hm] at h
  cases h
  exact LexW.must_pos hm
theorem LexW.number_pos {b : List Int} {p q e : Nat} (h : LexW.number b p = (some e, q)) : 0 < e := by
  have h1 : ∀ {p q e}, LexW.int_ b p = (some e, q) → 0 < e := by intro p q e h; unfold LexW.int_ at h; split at h; cases h; exact LexW.digits_pos h
  have h2 : ∀ {p q e}, LexW.frac b p = (some e, q) → 0 < e := by intro p q e h; unfold LexW.frac at h; split at h; exact LexW.digits_pos h; cases h
  have h3 : ∀ {p q e}, LexW.expo b p = (some e, q) → 0 < e := by intro p q e h; unfold LexW.expo at h; split at h; exact LexW.digits_pos h; cases h
  unfold LexW.number at h
  split at h
  · exact h1 h
  · split at h
    · exact h2 h
    · exact h3 h
theorem LexW.four_pos {T : Nat → Int → Bool} {b : List Int} : ∀ (k i : Nat) (n : Int) {p q e : Nat} {nr : Int}, LexW.four T b k i n p = (some e, nr, q) → 0 < e := by
  intro k
  induction k with
  | zero => intro i n p q e nr h; rw [LexW.four] at h; cases h
  | succ k ih =>
    intro i n p q e nr h
    rw [LexW.four] at h
    split at h
    · split at h
      · split at h
        · exact ih _ _ h
        · cases h; omega
      · cases h; omega
    · cases h; omega
theorem LexW.escape_pos {b : List Int} {p q e : Nat} {n : Int} (h : LexW.escape b p = (some e, n, q)) : 0 < e := by
  unfold LexW.escape at h
  split at h
  · split at h
    · cases h
    · unfold LexW.uesc at h
      rcases h2 : LexW.exactly [117] b p with ⟨r2, q2⟩
      rcases h3 : LexW.four LexW.T1 b 4 0 0 q2 with ⟨r3, hi, q3⟩
      unfold LexW.tail2 at h
      rcases h6 : LexW.exactly [92, 117] b q3 with ⟨r6, q6⟩
      rcases h7 : LexW.four LexW.T2 b 4 0 0 q6 with ⟨r7, lo, q7⟩
      simp only [h2, h3, h6, h7] at h
      repeat' split at h
      all_goals first | (cases h; done) | (cases h; first | exact LexW.exactly_pos _ h2 | exact LexW.four_pos _ _ _ h3 | exact LexW.exactly_pos _ h6 | exact LexW.four_pos _ _ _ h7)
  · cases h; omega
theorem LexW.text_pos {b : List Int} : ∀ (k : Nat) {o : List Int} {p e : Nat} {out : List Int} {q : Nat}, LexW.text b k o p = some (some e, out, q) → 0 < e := by
  intro k
  induction k with
  | zero => intro o p e out q h; cases h
  | succ k ih =>
    intro o p e out q h
    rw [LexW.text] at h
    obtain ⟨gd, _, h⟩ := Option.bind_eq_some_iff.mp h
    split at h
    · split at h
      · cases h; omega
      · split at h
        · split at h
          · split at h
            · cases h
            · rcases hes : LexW.escape b (LexW.tq b p + 1) with ⟨r8, n8, q8⟩
              simp only [hes] at h
              split at h
              · cases h; exact LexW.escape_pos hes
              · obtain ⟨o3, _, h⟩ := Option.bind_eq_some_iff.mp h
                exact ih h
          · cases h
        · cases h; omega
    · cases h
theorem LexW.exactly_cut : ∀ (l : List Int) {b : List Int} {p q : Nat}, LexW.exactly l b p = (none, q) → q = p + l.length ∧ LexW.cut b p q = l := by
  intro l
  induction l with
  | nil => intro b p q h; rw [LexW.exactly] at h; cases h; exact ⟨rfl, by unfold LexW.cut; simp⟩
  | cons c l ih =>
    intro b p q h
    rw [LexW.exactly] at h
    unfold LexW.must at h
    by_cases h1 : p < b.length
    · rw [if_pos h1] at h
      by_cases h2 : (LexW.at_ b p == c) = true
      · simp only [h2, if_true, Option.isSome_none, Bool.false_eq_true, if_false] at h
        obtain ⟨i1, i2⟩ := ih h
        refine ⟨by rw [i1, List.length_cons]; omega, ?_⟩
        have h3 : LexW.at_ b p = c := by simpa using h2
        unfold LexW.cut at i2 ⊢
        have h4 : p < (b.take q).length := by rw [List.length_take]; omega
        rw [List.drop_eq_getElem_cons h4, i2]
        congr 1
        rw [List.getElem_take]
        unfold LexW.at_ at h3
        rw [List.getD_eq_getElem?_getD, List.getElem?_eq_getElem h1] at h3
        exact h3
      · simp only [h2, Bool.false_eq_true, if_false, Option.isSome_some, if_true] at h
        cases h
    · simp only [if_neg h1, Option.isSome_some, if_true] at h
      cases h
theorem LexW.cut_self (b : List Int) (p : Nat) : LexW.cut b p p = [] := by unfold LexW.cut; exact List.drop_eq_nil_of_le (by rw [List.length_take]; omega)
theorem RefW.str (s : ByteArray) : strOfNums (bytesOf s) = s := by
  obtain ⟨⟨l⟩⟩ := s
  unfold strOfNums bytesOf
  congr 1
  congr 1
  rw [List.map_map]
  conv => rhs; rw [← List.map_id l]
  refine List.map_congr_left fun x _ => ?_
  simp
theorem RefW.fin_word {b : List Int} {p q : Nat} {r : Option Nat} {s : ByteArray} {r1 r2 : Int} (h : LexW.exactly (bytesOf s) b p = (r, q)) (ht : RefW.toR (r, q) = (r1, r2)) : RefW.fin r 3 (LexW.cut b p q) q r2 3 s r1 := by
  cases r with
  | none => cases ht; exact ⟨rfl, rfl, by rw [(LexW.exactly_cut _ h).2]; exact (RefW.str s).symm, rfl⟩
  | some e => cases ht; exact ⟨rfl, LexW.exactly_pos _ h⟩

-- GIVEN plain making
set_option maxHeartbeats 4000000 in
set_option maxRecDepth 100000 in
theorem refn_Next.calls (k : Nat) (A0 : Option Addr) (c0 : Nat) (l0 : List Int) (a : Int) (rk : Int) (rx : List Int) (rf rt2 rn : Nat) (re : Int) (w : World) (hr0 : Kd.C (Kd.int .u8) w A0 l0.length l0) (hcp : l0.length ≤ c0) (hm : l0.length < 4611686018427387904)
    (hwd : ∀ (s : ByteArray) (p : Nat), p ≤ l0.length → s.size < 100 → ∃ k', caliperref04_word.f k' l0 (p : Int) s = some (RefW.toR (LexW.exactly (bytesOf s) l0 p)))
    (hnm : ∀ p : Nat, p < l0.length → ∃ k', caliperref04_number.f k' l0 (p : Int) = some (RefW.toR (LexW.number l0 p)))
    (htx : ∀ (p : Nat) r out q, p ≤ l0.length → LexW.text l0 k [] p = some (r, out, q) → ∃ k', caliperref04_text.f k' l0 (p : Int) = some (RefW.toT (r, out, q)))
    (h : LexW.next l0 k a = some (rk, rx, rf, rt2, rn, re)) :
    Calls Tryd.prog 10 #[.slice A0 l0.length c0, .int .i64 a] w fun e w' => e = .returned (.tuple #[.agg #[.int .i64 rk, .string (strOfNums rx), .int .i64 rf, .int .i64 rt2], .int .i64 rn, .int .i64 re]) ∧ Below w.heap.size w w' := by
  have hu25 := Tryd.underlying25
  have HR0 := Aside0.mk hr0
  have HWD := Aside0.mk hwd
  have HNM := Aside0.mk hnm
  have HTX := Aside0.mk htx
  clear hr0 hwd hnm htx
  unfold LexW.next at h
  by_cases h0 : a < 0
  · rw [if_pos h0] at h
    obtain ⟨e1, e2, e3, e4, e5, e6⟩ := LexW.inj6 h
    subst e1; subst e2; subst e3; subst e4; subst e5; subst e6
    have b0 : decide (a < 0) = true := decide_eq_true h0
    clear h h0
    go_enter Tryd.func10, Tryd.ntmps10
    go_wp2_with (first | ((with_reducible refine gate_dst (N := 4) rfl ?_); (try (refine gate_guard (by rfl) ?_; dsimp only)); refine box_event ?hg (N := 4) ?hd (cs := #[.int .i64 0, .string (⟨#[]⟩ : ByteArray), .int .i64 0, .int .i64 0]) (t := 25) ?hr ?_; (case hd => rfl); (case hg => rfl); (case hr => first | (go_simp; done) | (go_simp; rfl)); intro gr hg w2 hbox hb; have HB := Aside0.mk (below_step (Below.refl _ _) hb); have HR := Aside0.mk hbox; have HGR := Aside0.mk (show w.heap.size ≤ gr by rw [hg]; exact Nat.le_refl _); clear hb hbox hg; have hr0 := (blk_cell HR.out 0).trans rfl; have hx0 := blk_frozen HR.out 0; have hr1 := (blk_cell HR.out 1).trans rfl; have hx1 := blk_frozen HR.out 1; have hr2 := (blk_cell HR.out 2).trans rfl; have hx2 := blk_frozen HR.out 2; have hr3 := (blk_cell HR.out 3).trans rfl; have hx3 := blk_frozen HR.out 3))
    refine bodyPost_ret (results_ctt rfl _ _ gr 25 #[.int .i64 0, .string (⟨#[]⟩ : ByteArray), .int .i64 0, .int .i64 0] (0, 0) _ rfl (by exact blk_put (blk_put (blk_put (blk_put HR.out 0 _ rfl) 1 _ rfl) 2 _ rfl) 3 _ rfl) hu25 rfl (by kernel_rfl)) rfl ?_
    exact ⟨rfl, below_set (below_set (below_set (below_set HB.out HGR.out) HGR.out) HGR.out) HGR.out⟩
  · rw [if_neg h0] at h
    by_cases h1 : (l0.length : Int) < a
    · rw [if_pos h1] at h
      obtain ⟨e1, e2, e3, e4, e5, e6⟩ := LexW.inj6 h
      subst e1; subst e2; subst e3; subst e4; subst e5; subst e6
      have b0 : decide (a < 0) = false := decide_eq_false h0
      have b1 : decide ((l0.length : Int) < a) = true := decide_eq_true h1
      clear h h0 h1
      go_enter Tryd.func10, Tryd.ntmps10
      go_wp2_with (first | ((with_reducible refine gate_dst (N := 4) rfl ?_); (try (refine gate_guard (by rfl) ?_; dsimp only)); refine box_event ?hg (N := 4) ?hd (cs := #[.int .i64 0, .string (⟨#[]⟩ : ByteArray), .int .i64 0, .int .i64 0]) (t := 25) ?hr ?_; (case hd => rfl); (case hg => rfl); (case hr => first | (go_simp; done) | (go_simp; rfl)); intro gr hg w2 hbox hb; have HB := Aside0.mk (below_step (Below.refl _ _) hb); have HR := Aside0.mk hbox; have HGR := Aside0.mk (show w.heap.size ≤ gr by rw [hg]; exact Nat.le_refl _); clear hb hbox hg; have hr0 := (blk_cell HR.out 0).trans rfl; have hx0 := blk_frozen HR.out 0; have hr1 := (blk_cell HR.out 1).trans rfl; have hx1 := blk_frozen HR.out 1; have hr2 := (blk_cell HR.out 2).trans rfl; have hx2 := blk_frozen HR.out 2; have hr3 := (blk_cell HR.out 3).trans rfl; have hx3 := blk_frozen HR.out 3))
      refine bodyPost_ret (results_ctt rfl _ _ gr 25 #[.int .i64 0, .string (⟨#[]⟩ : ByteArray), .int .i64 0, .int .i64 0] (0, 0) _ rfl (by exact blk_put (blk_put (blk_put (blk_put HR.out 0 _ rfl) 1 _ rfl) 2 _ rfl) 3 _ rfl) hu25 rfl (by kernel_rfl)) rfl ?_
      exact ⟨rfl, below_set (below_set (below_set (below_set HB.out HGR.out) HGR.out) HGR.out) HGR.out⟩
    · rw [if_neg h1] at h
      obtain ⟨⟨rt, kt, txt, ft, et⟩, htk, hh⟩ := Option.bind_eq_some_iff.mp h
      clear h
      obtain ⟨p0, rfl⟩ : ∃ p : Nat, a = p := ⟨a.toNat, by omega⟩
      rw [Int.toNat_natCast] at htk
      have b0 : decide ((p0 : Int) < 0) = false := decide_eq_false h0
      have b1 : decide ((l0.length : Int) < (p0 : Int)) = false := decide_eq_false h1
      have b1n : decide (l0.length < p0) = false := decide_eq_false (by omega)
      have hpl : p0 ≤ l0.length := by omega
      unfold LexW.token at htk
      obtain ⟨⟨r, kd, out, q⟩, hsw, hk2⟩ := Option.bind_eq_some_iff.mp htk
      clear htk
      have htk := hk2
      clear hk2
      dsimp only at htk
      have hp1 : LexW.pass LexW.blank l0 p0 ≤ l0.length := LexW.pass_le _ _ _ _ rfl hpl
      obtain ⟨P, hp⟩ : ∃ p, p = LexW.pass LexW.blank l0 p0 := ⟨_, rfl⟩
      rw [← hp] at hsw htk hp1
      have HP := Aside0.mk hp
      have HPL := Aside0.mk hp1
      have HH := Aside0.mk hh
      have HTK := Aside0.mk htk
      have HSW := Aside0.mk hsw
      clear hh h0 h1 htk hp hsw hp1
      go_enter Tryd.func10, Tryd.ntmps10
      go_upto_block 0 with (first | ((with_reducible refine gate_dst (N := 4) rfl ?_); (try (refine gate_guard (by rfl) ?_; dsimp only)); refine box_event ?hg (N := 4) ?hd (cs := #[.int .i64 0, .string (⟨#[]⟩ : ByteArray), .int .i64 0, .int .i64 0]) (t := 25) ?hr ?_; (case hd => rfl); (case hg => rfl); (case hr => first | (go_simp; done) | (go_simp; rfl)); intro gr hg w2 hbox hb; have HB := Aside0.mk (below_step (Below.refl _ _) hb); have HR := Aside0.mk hbox; have HGR := Aside0.mk (show w.heap.size ≤ gr by rw [hg]; exact Nat.le_refl _); clear hb hbox hg))
      clear b0 b1 b1n
      go_cut [1] (fun v1 wc => v1 = .int .i64 (P : Int) ∧ Aside0 (Below w.heap.size w wc) ∧ Aside0 (wc.heap[gr]? = some (.cells #[.int .i64 0, .string (⟨#[]⟩ : ByteArray), .int .i64 0, .int .i64 0] 25 (0, 0))))
      case first =>
        clear HH HTK HSW
        go_wp2
        go_loopg [1] (l0.length - p0) (fun kq v1 wr => ∃ p : Nat, v1 = .int .i64 (p : Int) ∧ Aside0 (LexW.pass LexW.blank l0 p = P) ∧ p ≤ l0.length ∧ kq = l0.length - p ∧ Aside0 (Below w.heap.size w wr) ∧ Aside0 (wr.heap[gr]? = some (.cells #[.int .i64 0, .string (⟨#[]⟩ : ByteArray), .int .i64 0, .int .i64 0] 25 (0, 0))))
        case atStart => exact ⟨p0, rfl, ⟨HP.out.symm⟩, hpl, rfl, HB, HR⟩
        case round =>
          clear HB HR HP hpl
          obtain ⟨p, rfl, HP, hp1, hk1, HB, HR⟩ := hrel
          by_cases hp : p < l0.length
          · obtain ⟨ad, e1, hx⟩ := Kd.at_int HR0.out (p : Int) (by omega) (by omega)
            cases e1
            replace hx := pw_cell_below HB.out hx
            rw [show rd l0 (p : Int) = LexW.at_ l0 p by unfold rd LexW.at_; rw [Int.toNat_natCast]] at hx
            rw [Int.toNat_natCast] at hx
            have bp : decide ((p : Int) < (l0.length : Int)) = true := decide_eq_true (by omega)
            by_cases ht : LexW.blank (LexW.at_ l0 p) = true
            · have HP2 := Aside0.mk (show LexW.pass LexW.blank l0 (p + 1) = P by rw [← HP.out]; conv => rhs; rw [LexW.pass, if_pos hp, if_pos ht])
              clear HP
              go_wp2_with (first | (go_at_call 15; (with_reducible refine (RefT.blank (LexW.at_ l0 p) _).mono ?_); rintro e w1 ⟨rfl, hb⟩; rw [ht]; have n1_ := Aside0.mk (below_step HB.out hb); have n5_ := Aside0.mk (blk_grown HR.out (grown_of_below hb none) (by simp)); clear HB HR; have HB := n1_; have HR := n5_; clear n1_ n5_; clear hb))
              go_roundg (l0.length - (p + 1))
              case measure => omega
              case rel => exact ⟨p + 1, by go_num, HP2, by omega, rfl, HB, HR⟩
            · have HP2 := Aside0.mk (show p = P by rw [← HP.out, LexW.pass, if_pos hp, if_neg ht])
              clear HP
              replace ht := Bool.eq_false_iff.mpr ht
              go_wp2_with (first | (go_at_call 15; (with_reducible refine (RefT.blank (LexW.at_ l0 p) _).mono ?_); rintro e w1 ⟨rfl, hb⟩; rw [ht]; have n1_ := Aside0.mk (below_step HB.out hb); have n5_ := Aside0.mk (blk_grown HR.out (grown_of_below hb none) (by simp)); clear HB HR; have HB := n1_; have HR := n5_; clear n1_ n5_; clear hb))
              go_meet
              case rel => exact ⟨by rw [HP2.out], HB, HR⟩
          · have HP2 := Aside0.mk (show p = P by rw [← HP.out, LexW.pass, if_neg hp])
            clear HP
            have bp : decide ((p : Int) < (l0.length : Int)) = false := decide_eq_false (by omega)
            go_wp2
            go_meet
            case rel => exact ⟨by rw [HP2.out], HB, HR⟩
      case rest =>
        clear HB HR HP hpl
        obtain ⟨rfl, HB, HR⟩ := hcut
        go_upto_region 5 with (fail)
        go_cut [7] (fun v7 wc => ∃ t7, v7 = .pointer (some ⟨t7, 0, none⟩) ∧ Aside0 (Below w.heap.size w wc) ∧ Aside0 (wc.heap[t7]? = some (.cells #[.int .i64 0, .string (⟨#[]⟩ : ByteArray), .int .i64 P, .int .i64 P] 25 (0, 0))) ∧ Aside0 (wc.heap[gr]? = some (.cells #[.int .i64 0, .string (⟨#[]⟩ : ByteArray), .int .i64 0, .int .i64 0] 25 (0, 0))) ∧ Aside0 (gr ≠ t7) ∧ Aside0 (w.heap.size ≤ t7))
        case first =>
          clear HH HTK HSW
          go_wp2_with (first | ((with_reducible refine gate_dst (N := 7) rfl ?_); (try (refine gate_guard (by rfl) ?_; dsimp only)); refine box_event ?hg (N := 7) ?hd (cs := #[.int .i64 0, .string (⟨#[]⟩ : ByteArray), .int .i64 0, .int .i64 0]) (t := 25) ?hr ?_; (case hd => rfl); (case hg => rfl); (case hr => first | (go_simp; done) | (go_simp; rfl)); intro t7 hg w2 hbox hb; have n1_ := Aside0.mk (below_step HB.out hb); have n5_ := Aside0.mk (blk_grown HR.out (grown_of_below hb none) (by simp)); have HNT := Aside0.mk (show gr ≠ t7 by rw [hg]; exact Nat.ne_of_lt (blk_lt HR.out)); have HGT := Aside0.mk (show w.heap.size ≤ t7 by rw [hg]; exact HB.out.size); clear HB HR; have HB := n1_; have HR := n5_; have HT := Aside0.mk hbox; clear n1_ n5_ hb hbox hg; have ht0 := (blk_cell HT.out 0).trans rfl; have hf0 := blk_frozen HT.out 0; have ht1 := (blk_cell HT.out 1).trans rfl; have hf1 := blk_frozen HT.out 1; have ht2 := (blk_cell HT.out 2).trans rfl; have hf2 := blk_frozen HT.out 2; have ht3 := (blk_cell HT.out 3).trans rfl; have hf3 := blk_frozen HT.out 3))
          go_meet
          case rel => exact ⟨t7, rfl, ⟨below_set (below_set (below_set (below_set HB.out HGT.out) HGT.out) HGT.out) HGT.out⟩, ⟨blk_put (blk_put (blk_put (blk_put HT.out 0 _ rfl) 1 _ rfl) 2 _ rfl) 3 _ rfl⟩, ⟨blk_far (blk_far (blk_far (blk_far HR.out HNT.out _) HNT.out _) HNT.out _) HNT.out _⟩, HNT, HGT⟩
        case rest =>
          clear HB HR
          obtain ⟨t7, rfl, HB, HT, HR, HNT, HGT⟩ := hcut
          by_cases hlt : P < l0.length
          · have hsw := HSW.out
            clear HSW
            unfold LexW.sw at hsw
            rw [if_pos hlt] at hsw
            obtain ⟨ad, e1, hx⟩ := Kd.at_int HR0.out (P : Int) (by omega) (by omega)
            cases e1
            replace hx := pw_cell_below HB.out hx
            rw [show rd l0 (P : Int) = LexW.at_ l0 P by unfold rd LexW.at_; rw [Int.toNat_natCast]] at hx
            rw [Int.toNat_natCast] at hx
            obtain ⟨cc, hcc⟩ : ∃ x, x = LexW.at_ l0 P := ⟨_, rfl⟩
            rw [← hcc] at hx hsw
            have HCC := Aside0.mk hcc
            clear hcc
            have beq : ((P : Int) == (l0.length : Int)) = false := beq_eq_false_iff_ne.mpr (by omega)
            have hpne : ¬ P = l0.length := by omega
            go_upto_block 2 with (fail)
            clear hx beq hpne
            obtain ⟨xx, hxx⟩ : ∃ x, x = if kd = 1 then out else LexW.cut l0 P q := ⟨_, rfl⟩
            have htk := HTK.out
            rw [← hxx] at htk
            clear HTK
            have HTK := Aside0.mk htk
            have HXX := Aside0.mk hxx
            clear htk hxx
            go_cut [9] (fun v9 wc => ∃ (bad kd' : Int) (tx : ByteArray) (to_ : Int), v9 = .int .i64 bad ∧ Aside0 (Below w.heap.size w wc) ∧ Aside0 (wc.heap[t7]? = some (.cells #[.int .i64 kd', .string tx, .int .i64 P, .int .i64 to_] 25 (0, 0))) ∧ Aside0 (wc.heap[gr]? = some (.cells #[.int .i64 0, .string (⟨#[]⟩ : ByteArray), .int .i64 0, .int .i64 0] 25 (0, 0))) ∧ Aside0 (RefW.fin r kd xx q bad kd' tx to_))
            case first =>
              clear HH HTK
              obtain ⟨sg, hsg⟩ : ∃ x, x = [91, 93, 123, 125, 44, 58].contains cc := ⟨_, rfl⟩
              rw [← hsg] at hsw
              have HSG := Aside0.mk hsg
              have HSW := Aside0.mk hsw
              clear hsg hsw
              go_upto_region 11 with (fail)
              go_cut [46] (fun v46 w9 => v46 = .bool sg ∧ w9 = wc)
              case first =>
                clear HB HT HR
                by_cases s0 : cc = 91
                · have b0 : (cc == 91) = true := beq_iff_eq.mpr s0
                  have HV := Aside0.mk (show true = sg by rw [HSG.out, s0]; rfl)
                  clear s0
                  go_wp2
                  go_meet
                  case rel => exact ⟨by rw [HV.out], rfl⟩
                · have b0 : (cc == 91) = false := beq_eq_false_iff_ne.mpr s0
                  by_cases s1 : cc = 93
                  · have b1 : (cc == 93) = true := beq_iff_eq.mpr s1
                    have HV := Aside0.mk (show true = sg by rw [HSG.out, s1]; rfl)
                    clear s1 s0
                    go_wp2
                    go_meet
                    case rel => exact ⟨by rw [HV.out], rfl⟩
                  · have b1 : (cc == 93) = false := beq_eq_false_iff_ne.mpr s1
                    by_cases s2 : cc = 123
                    · have b2 : (cc == 123) = true := beq_iff_eq.mpr s2
                      have HV := Aside0.mk (show true = sg by rw [HSG.out, s2]; rfl)
                      clear s2 s0 s1
                      go_wp2
                      go_meet
                      case rel => exact ⟨by rw [HV.out], rfl⟩
                    · have b2 : (cc == 123) = false := beq_eq_false_iff_ne.mpr s2
                      by_cases s3 : cc = 125
                      · have b3 : (cc == 125) = true := beq_iff_eq.mpr s3
                        have HV := Aside0.mk (show true = sg by rw [HSG.out, s3]; rfl)
                        clear s3 s0 s1 s2
                        go_wp2
                        go_meet
                        case rel => exact ⟨by rw [HV.out], rfl⟩
                      · have b3 : (cc == 125) = false := beq_eq_false_iff_ne.mpr s3
                        by_cases s4 : cc = 44
                        · have b4 : (cc == 44) = true := beq_iff_eq.mpr s4
                          have HV := Aside0.mk (show true = sg by rw [HSG.out, s4]; rfl)
                          clear s4 s0 s1 s2 s3
                          go_wp2
                          go_meet
                          case rel => exact ⟨by rw [HV.out], rfl⟩
                        · have b4 : (cc == 44) = false := beq_eq_false_iff_ne.mpr s4
                          by_cases s5 : cc = 58
                          · have b5 : (cc == 58) = true := beq_iff_eq.mpr s5
                            have HV := Aside0.mk (show true = sg by rw [HSG.out, s5]; rfl)
                            clear s5 s0 s1 s2 s3 s4
                            go_wp2
                            go_meet
                            case rel => exact ⟨by rw [HV.out], rfl⟩
                          · have b5 : (cc == 58) = false := beq_eq_false_iff_ne.mpr s5
                            have HV := Aside0.mk (show false = sg by rw [HSG.out]; simp [s0, s1, s2, s3, s4, s5])
                            clear s0 s1 s2 s3 s4 s5
                            go_wp2
                            go_meet
                            case rel => exact ⟨by rw [HV.out], rfl⟩
              case rest =>
                obtain ⟨rfl, rfl⟩ := hcut
                have hsw := HSW.out
                clear HSW HSG
                have ht0 := (blk_cell HT.out 0).trans rfl
                have hf0 := blk_frozen HT.out 0
                have ht1 := (blk_cell HT.out 1).trans rfl
                have hf1 := blk_frozen HT.out 1
                have ht2 := (blk_cell HT.out 2).trans rfl
                have hf2 := blk_frozen HT.out 2
                have ht3 := (blk_cell HT.out 3).trans rfl
                have hf3 := blk_frozen HT.out 3
                cases sg with
                | true =>
                  rw [if_pos rfl] at hsw
                  obtain ⟨e1, e2, e3, e4⟩ := LexW.inj4 hsw
                  subst e1; subst e2; subst e3; subst e4
                  clear hsw
                  obtain ⟨i0, hi0, _, hsz0, _⟩ := info_parts info5
                  obtain ⟨A9, hct, hA9, hC9⟩ := print_mid_of (P := Tryd.prog) (Value.int .u8) 0 22 5 .i64 .i64 Tryd.underlying22 hi0 hsz0 (some ad) c0 l0 (P : Int) ((P : Int) + 1) (by omega) (by omega) (by omega) hcp
                  rw [show ((P : Int) + 1).toNat = P + 1 by omega, Int.toNat_natCast] at hA9 hC9
                  simp only [show ((P : Int) + 1).toNat = P + 1 by omega, Int.toNat_natCast] at hct
                  rw [show (l0.take (P + 1)).drop P = LexW.cut l0 P (P + 1) from rfl] at hct hA9 hC9
                  have b1 : decide ((P : Int) ≤ (P : Int) + 1) = true := decide_eq_true (by omega)
                  have hcv : (convert 22 9 (.slice A9 (LexW.cut l0 P (P + 1)).length (c0 - P))).run Tryd.prog wc.drew = .ok (.string (strOfNums (LexW.cut l0 P (P + 1)))) wc.drew := Kd.C_string (P := Tryd.prog) Tryd.underlying22 Tryd.underlying5 Tryd.underlying9 (Kd.C_below (Kd.C_of_reads (h1 := fun _ => rfl) (hA9 _ (Kd.reads_of_C HR0.out))) (show Below w.heap.size w wc.drew from below_drew1 HB.out))
                  have HCV2 := Aside0.mk (Kd.C_string (P := Tryd.prog) (c := c0 - P) Tryd.underlying22 Tryd.underlying5 Tryd.underlying9 (Kd.C_below (Kd.C_of_reads (h1 := fun _ => rfl) (hA9 _ (Kd.reads_of_C HR0.out))) (show Below w.heap.size w (wc.setCell ⟨t7, 0, none⟩ (.int .i64 4)).drew from below_drew1 (below_set HB.out HGT.out))))
                  clear hA9 hC9 hi0 hsz0
                  have hcv2 : (convert 22 9 (.slice A9 (LexW.cut l0 P (P + 1)).length (c0 - P))).run Tryd.prog (wc.setCell ⟨t7, 0, none⟩ (.int .i64 4)).drew = .ok (.string (strOfNums (LexW.cut l0 P (P + 1)))) (wc.setCell ⟨t7, 0, none⟩ (.int .i64 4)).drew := HCV2.out
                  go_upto_region 12 with (fail)
                  go_region
                  go_wp2
                  go_meet
                  case rel => exact ⟨0, 4, strOfNums (LexW.cut l0 P (P + 1)), (P : Int) + 1, rfl, ⟨below_drew1 (below_set (below_set (below_set HB.out HGT.out) HGT.out) HGT.out)⟩, ⟨blk_drew (blk_put (blk_put (blk_put HT.out 0 _ rfl) 1 _ rfl) 3 _ rfl)⟩, ⟨blk_drew (blk_far (blk_far (blk_far HR.out HNT.out _) HNT.out _) HNT.out _)⟩, ⟨⟨rfl, rfl, by rw [HXX.out, if_neg (by decide)], by omega⟩⟩⟩
                | false =>
                  rw [if_neg (by decide)] at hsw
                  by_cases c1 : cc = 110
                  · have b1 : (cc == 110) = true := beq_iff_eq.mpr c1
                    rw [if_pos c1] at hsw
                    obtain ⟨kw, HW⟩ := HWD.out (⟨#[110, 117, 108, 108]⟩ : ByteArray) P HPL.out (by decide)
                    have HX := Aside0.mk (show LexW.exactly (bytesOf (⟨#[110, 117, 108, 108]⟩ : ByteArray)) l0 P = (r, q) by obtain ⟨e1, _, _, e2⟩ := LexW.inj4 hsw; exact Prod.ext e1 e2)
                    obtain ⟨_, e2, e3, _⟩ := LexW.inj4 hsw
                    subst e2; subst e3
                    clear hsw c1
                    rw [HX.out] at HW
                    rcases htr : RefW.toR (r, q) with ⟨r1, r2⟩
                    rw [htr] at HW
                    have HTR := Aside0.mk htr
                    replace HW := Aside0.mk HW
                    clear htr
                    go_wp2_with (first | (go_at_call 19; (with_reducible refine (caliperref04_word.calls kw _ c0 l0 (P : Int) (⟨#[110, 117, 108, 108]⟩ : ByteArray) r1 r2 _ (Kd.C_below HR0.out (by first | exact HB.out | exact below_set (below_set HB.out HGT.out) HGT.out)) hcp HW.out).mono ?_); rintro e w1 ⟨rfl, hd⟩; have hb := hd.below; clear hd; have n1_ := Aside0.mk (below_step (by first | exact HB.out | exact below_set (below_set HB.out HGT.out) HGT.out) hb); have n5_ := Aside0.mk (blk_grown (blk_far (blk_far HR.out HNT.out _) HNT.out _) (grown_of_below hb none) (by simp)); have n7_ := Aside0.mk (show w1.heap[t7]? = some (.cells #[.int .i64 3, .string (⟨#[110, 117, 108, 108]⟩ : ByteArray), .int .i64 P, .int .i64 P] 25 (0, 0)) from blk_grown (blk_put (blk_put HT.out 0 _ rfl) 1 _ rfl) (grown_of_below hb none) (by simp)); clear HB HR HT ht0 ht1 ht2 ht3 hf0 hf1 hf2 hf3; have HB := n1_; have HR := n5_; have HT := n7_; clear n1_ n5_ n7_ hb; have ht0 := (blk_cell HT.out 0).trans rfl; have hf0 := blk_frozen HT.out 0; have ht1 := (blk_cell HT.out 1).trans rfl; have hf1 := blk_frozen HT.out 1; have ht2 := (blk_cell HT.out 2).trans rfl; have hf2 := blk_frozen HT.out 2; have ht3 := (blk_cell HT.out 3).trans rfl; have hf3 := blk_frozen HT.out 3))
                    go_meet
                    case rel => exact ⟨r2, 3, (⟨#[110, 117, 108, 108]⟩ : ByteArray), r1, rfl, ⟨below_set HB.out HGT.out⟩, ⟨blk_put HT.out 3 _ rfl⟩, ⟨blk_far HR.out HNT.out _⟩, ⟨by rw [HXX.out, if_neg (by decide)]; exact RefW.fin_word HX.out HTR.out⟩⟩
                  · rw [if_neg c1] at hsw
                    have b1 : (cc == 110) = false := beq_eq_false_iff_ne.mpr c1
                    by_cases c2 : cc = 116
                    · have b2 : (cc == 116) = true := beq_iff_eq.mpr c2
                      rw [if_pos c2] at hsw
                      obtain ⟨kw, HW⟩ := HWD.out (⟨#[116, 114, 117, 101]⟩ : ByteArray) P HPL.out (by decide)
                      have HX := Aside0.mk (show LexW.exactly (bytesOf (⟨#[116, 114, 117, 101]⟩ : ByteArray)) l0 P = (r, q) by obtain ⟨e1, _, _, e2⟩ := LexW.inj4 hsw; exact Prod.ext e1 e2)
                      obtain ⟨_, e2, e3, _⟩ := LexW.inj4 hsw
                      subst e2; subst e3
                      clear hsw c1 c2
                      rw [HX.out] at HW
                      rcases htr : RefW.toR (r, q) with ⟨r1, r2⟩
                      rw [htr] at HW
                      have HTR := Aside0.mk htr
                      replace HW := Aside0.mk HW
                      clear htr
                      go_wp2_with (first | (go_at_call 19; (with_reducible refine (caliperref04_word.calls kw _ c0 l0 (P : Int) (⟨#[116, 114, 117, 101]⟩ : ByteArray) r1 r2 _ (Kd.C_below HR0.out (by first | exact HB.out | exact below_set (below_set HB.out HGT.out) HGT.out)) hcp HW.out).mono ?_); rintro e w1 ⟨rfl, hd⟩; have hb := hd.below; clear hd; have n1_ := Aside0.mk (below_step (by first | exact HB.out | exact below_set (below_set HB.out HGT.out) HGT.out) hb); have n5_ := Aside0.mk (blk_grown (blk_far (blk_far HR.out HNT.out _) HNT.out _) (grown_of_below hb none) (by simp)); have n7_ := Aside0.mk (show w1.heap[t7]? = some (.cells #[.int .i64 3, .string (⟨#[116, 114, 117, 101]⟩ : ByteArray), .int .i64 P, .int .i64 P] 25 (0, 0)) from blk_grown (blk_put (blk_put HT.out 0 _ rfl) 1 _ rfl) (grown_of_below hb none) (by simp)); clear HB HR HT ht0 ht1 ht2 ht3 hf0 hf1 hf2 hf3; have HB := n1_; have HR := n5_; have HT := n7_; clear n1_ n5_ n7_ hb; have ht0 := (blk_cell HT.out 0).trans rfl; have hf0 := blk_frozen HT.out 0; have ht1 := (blk_cell HT.out 1).trans rfl; have hf1 := blk_frozen HT.out 1; have ht2 := (blk_cell HT.out 2).trans rfl; have hf2 := blk_frozen HT.out 2; have ht3 := (blk_cell HT.out 3).trans rfl; have hf3 := blk_frozen HT.out 3))
                      go_meet
                      case rel => exact ⟨r2, 3, (⟨#[116, 114, 117, 101]⟩ : ByteArray), r1, rfl, ⟨below_set HB.out HGT.out⟩, ⟨blk_put HT.out 3 _ rfl⟩, ⟨blk_far HR.out HNT.out _⟩, ⟨by rw [HXX.out, if_neg (by decide)]; exact RefW.fin_word HX.out HTR.out⟩⟩
                    · rw [if_neg c2] at hsw
                      have b2 : (cc == 116) = false := beq_eq_false_iff_ne.mpr c2
                      by_cases c3 : cc = 102
                      · have b3 : (cc == 102) = true := beq_iff_eq.mpr c3
                        rw [if_pos c3] at hsw
                        obtain ⟨kw, HW⟩ := HWD.out (⟨#[102, 97, 108, 115, 101]⟩ : ByteArray) P HPL.out (by decide)
                        have HX := Aside0.mk (show LexW.exactly (bytesOf (⟨#[102, 97, 108, 115, 101]⟩ : ByteArray)) l0 P = (r, q) by obtain ⟨e1, _, _, e2⟩ := LexW.inj4 hsw; exact Prod.ext e1 e2)
                        obtain ⟨_, e2, e3, _⟩ := LexW.inj4 hsw
                        subst e2; subst e3
                        clear hsw c1 c2 c3
                        rw [HX.out] at HW
                        rcases htr : RefW.toR (r, q) with ⟨r1, r2⟩
                        rw [htr] at HW
                        have HTR := Aside0.mk htr
                        replace HW := Aside0.mk HW
                        clear htr
                        go_wp2_with (first | (go_at_call 19; (with_reducible refine (caliperref04_word.calls kw _ c0 l0 (P : Int) (⟨#[102, 97, 108, 115, 101]⟩ : ByteArray) r1 r2 _ (Kd.C_below HR0.out (by first | exact HB.out | exact below_set (below_set HB.out HGT.out) HGT.out)) hcp HW.out).mono ?_); rintro e w1 ⟨rfl, hd⟩; have hb := hd.below; clear hd; have n1_ := Aside0.mk (below_step (by first | exact HB.out | exact below_set (below_set HB.out HGT.out) HGT.out) hb); have n5_ := Aside0.mk (blk_grown (blk_far (blk_far HR.out HNT.out _) HNT.out _) (grown_of_below hb none) (by simp)); have n7_ := Aside0.mk (show w1.heap[t7]? = some (.cells #[.int .i64 3, .string (⟨#[102, 97, 108, 115, 101]⟩ : ByteArray), .int .i64 P, .int .i64 P] 25 (0, 0)) from blk_grown (blk_put (blk_put HT.out 0 _ rfl) 1 _ rfl) (grown_of_below hb none) (by simp)); clear HB HR HT ht0 ht1 ht2 ht3 hf0 hf1 hf2 hf3; have HB := n1_; have HR := n5_; have HT := n7_; clear n1_ n5_ n7_ hb; have ht0 := (blk_cell HT.out 0).trans rfl; have hf0 := blk_frozen HT.out 0; have ht1 := (blk_cell HT.out 1).trans rfl; have hf1 := blk_frozen HT.out 1; have ht2 := (blk_cell HT.out 2).trans rfl; have hf2 := blk_frozen HT.out 2; have ht3 := (blk_cell HT.out 3).trans rfl; have hf3 := blk_frozen HT.out 3))
                        go_meet
                        case rel => exact ⟨r2, 3, (⟨#[102, 97, 108, 115, 101]⟩ : ByteArray), r1, rfl, ⟨below_set HB.out HGT.out⟩, ⟨blk_put HT.out 3 _ rfl⟩, ⟨blk_far HR.out HNT.out _⟩, ⟨by rw [HXX.out, if_neg (by decide)]; exact RefW.fin_word HX.out HTR.out⟩⟩
                      · rw [if_neg c3] at hsw
                        have b3 : (cc == 102) = false := beq_eq_false_iff_ne.mpr c3
                        by_cases c4 : cc = 45
                        · have b4 : (cc == 45) = true := beq_iff_eq.mpr c4
                          rw [if_pos (.inl c4)] at hsw
                          obtain ⟨kw, HW⟩ := HNM.out P hlt
                          have HX := Aside0.mk (show LexW.number l0 P = (r, q) by obtain ⟨e1, _, _, e2⟩ := LexW.inj4 hsw; exact Prod.ext e1 e2)
                          obtain ⟨_, e2, e3, _⟩ := LexW.inj4 hsw
                          subst e2; subst e3
                          clear hsw c1 c2 c3 c4
                          rw [HX.out] at HW
                          cases r with
                          | some e =>
                            obtain ⟨r1, hr1⟩ : ∃ x : Int, x = 0 := ⟨_, rfl⟩
                            obtain ⟨r2, hr2⟩ : ∃ x : Int, x = (e : Int) := ⟨_, rfl⟩
                            replace HW := Aside0.mk (show caliperref04_number.f kw l0 (P : Int) = some (r1, r2) by rw [hr1, hr2]; exact HW)
                            have hep := LexW.number_pos HX.out
                            have bz : (r2 == 0) = false := beq_eq_false_iff_ne.mpr (by omega)
                            have HR2 := Aside0.mk hr2
                            have HEP := Aside0.mk hep
                            clear hr1 hr2 hep
                            go_wp2_with (first | (go_at_call 21; (with_reducible refine (caliperref04_number.calls kw _ c0 l0 (P : Int) _ _ _ (Kd.C_below HR0.out (below_set HB.out HGT.out)) hcp HW.out).mono ?_); rintro e w1 ⟨rfl, hd⟩; have hb := hd.below; clear hd; have n1_ := Aside0.mk (below_step (below_set HB.out HGT.out) hb); have n5_ := Aside0.mk (blk_grown (blk_far HR.out HNT.out _) (grown_of_below hb none) (by simp)); have n7_ := Aside0.mk (show w1.heap[t7]? = some (.cells #[.int .i64 2, .string (⟨#[]⟩ : ByteArray), .int .i64 P, .int .i64 P] 25 (0, 0)) from blk_grown (blk_put HT.out 0 _ rfl) (grown_of_below hb none) (by simp)); clear HB HR HT ht0 ht1 ht2 ht3 hf0 hf1 hf2 hf3; have HB := n1_; have HR := n5_; have HT := n7_; clear n1_ n5_ n7_ hb; have ht0 := (blk_cell HT.out 0).trans rfl; have hf0 := blk_frozen HT.out 0; have ht1 := (blk_cell HT.out 1).trans rfl; have hf1 := blk_frozen HT.out 1; have ht2 := (blk_cell HT.out 2).trans rfl; have hf2 := blk_frozen HT.out 2; have ht3 := (blk_cell HT.out 3).trans rfl; have hf3 := blk_frozen HT.out 3))
                            go_meet
                            case rel => exact ⟨r2, 2, (⟨#[]⟩ : ByteArray), r1, rfl, ⟨below_set HB.out HGT.out⟩, ⟨blk_put HT.out 3 _ rfl⟩, ⟨blk_far HR.out HNT.out _⟩, ⟨⟨HR2.out, HEP.out⟩⟩⟩
                          | none =>
                            obtain ⟨r1, hr1⟩ : ∃ x : Int, x = (q : Int) := ⟨_, rfl⟩
                            obtain ⟨r2, hr2⟩ : ∃ x : Int, x = 0 := ⟨_, rfl⟩
                            replace HW := Aside0.mk (show caliperref04_number.f kw l0 (P : Int) = some (r1, r2) by rw [hr1, hr2]; exact HW)
                            have bz : (r2 == 0) = true := beq_iff_eq.mpr hr2
                            have hq1 := LexW.number_ge HX.out
                            have hq2 := LexW.number_le HX.out HPL.out
                            subst hr1
                            have HR2 := Aside0.mk hr2
                            clear hr2
                            go_upto_region 26 with (first | (go_at_call 21; (with_reducible refine (caliperref04_number.calls kw _ c0 l0 (P : Int) _ _ _ (Kd.C_below HR0.out (below_set HB.out HGT.out)) hcp HW.out).mono ?_); rintro e w1 ⟨rfl, hd⟩; have hb := hd.below; clear hd; have n1_ := Aside0.mk (below_step (below_set HB.out HGT.out) hb); have n5_ := Aside0.mk (blk_grown (blk_far HR.out HNT.out _) (grown_of_below hb none) (by simp)); have n7_ := Aside0.mk (show w1.heap[t7]? = some (.cells #[.int .i64 2, .string (⟨#[]⟩ : ByteArray), .int .i64 P, .int .i64 P] 25 (0, 0)) from blk_grown (blk_put HT.out 0 _ rfl) (grown_of_below hb none) (by simp)); clear HB HR HT ht0 ht1 ht2 ht3 hf0 hf1 hf2 hf3; have HB := n1_; have HR := n5_; have HT := n7_; clear n1_ n5_ n7_ hb; have ht0 := (blk_cell HT.out 0).trans rfl; have hf0 := blk_frozen HT.out 0; have ht1 := (blk_cell HT.out 1).trans rfl; have hf1 := blk_frozen HT.out 1; have ht2 := (blk_cell HT.out 2).trans rfl; have hf2 := blk_frozen HT.out 2; have ht3 := (blk_cell HT.out 3).trans rfl; have hf3 := blk_frozen HT.out 3))
                            have n1_ := Aside0.mk (show Below w.heap.size w (w1.setCell ⟨t7, 3, none⟩ (.int .i64 q)) from below_set HB.out HGT.out)
                            have n3_ := Aside0.mk (show (w1.setCell ⟨t7, 3, none⟩ (.int .i64 q)).heap[t7]? = some (.cells #[.int .i64 2, .string (⟨#[]⟩ : ByteArray), .int .i64 P, .int .i64 q] 25 (0, 0)) from blk_put HT.out 3 _ rfl)
                            have n4_ := Aside0.mk (show (w1.setCell ⟨t7, 3, none⟩ (.int .i64 q)).heap[gr]? = some (.cells #[.int .i64 0, .string (⟨#[]⟩ : ByteArray), .int .i64 0, .int .i64 0] 25 (0, 0)) from blk_far HR.out HNT.out _)
                            clear HB HT HR bz ht0 ht1 ht2 ht3 hf0 hf1 hf2 hf3
                            have HB := n1_
                            have HT := n3_
                            have HR := n4_
                            clear n1_ n3_ n4_
                            generalize (w1.setCell ⟨t7, 3, none⟩ (.int .i64 q)) = w7 at HB HT HR ⊢
                            obtain ⟨i0, hi0, _, hsz0, _⟩ := info_parts info5
                            obtain ⟨A9, hct, hA9, hC9⟩ := print_mid_of (P := Tryd.prog) (Value.int .u8) 0 22 5 .i64 .i64 Tryd.underlying22 hi0 hsz0 (some ad) c0 l0 (P : Int) (q : Int) (by omega) (by omega) (by omega) hcp
                            simp only [Int.toNat_natCast] at hct hA9 hC9
                            rw [show (l0.take q).drop P = LexW.cut l0 P q from rfl] at hct hA9 hC9
                            have b1 : decide ((P : Int) ≤ (q : Int)) = true := decide_eq_true (by omega)
                            have hcv : (convert 22 9 (.slice A9 (LexW.cut l0 P q).length (c0 - P))).run Tryd.prog w7 = .ok (.string (strOfNums (LexW.cut l0 P q))) w7 := Kd.C_string (P := Tryd.prog) Tryd.underlying22 Tryd.underlying5 Tryd.underlying9 (Kd.C_below (Kd.C_of_reads (h1 := fun _ => rfl) (hA9 _ (Kd.reads_of_C HR0.out))) HB.out)
                            clear hA9 hC9 hi0 hsz0
                            have ht0 := (blk_cell HT.out 0).trans rfl
                            have hf0 := blk_frozen HT.out 0
                            have ht1 := (blk_cell HT.out 1).trans rfl
                            have hf1 := blk_frozen HT.out 1
                            have ht2 := (blk_cell HT.out 2).trans rfl
                            have hf2 := blk_frozen HT.out 2
                            have ht3 := (blk_cell HT.out 3).trans rfl
                            have hf3 := blk_frozen HT.out 3
                            go_wp2
                            go_meet
                            case rel => exact ⟨r2, 2, strOfNums (LexW.cut l0 P q), (q : Int), rfl, ⟨below_set HB.out HGT.out⟩, ⟨blk_put HT.out 1 _ rfl⟩, ⟨blk_far HR.out HNT.out _⟩, ⟨⟨HR2.out, rfl, by rw [HXX.out, if_neg (by decide)], rfl⟩⟩⟩
                        · have b4 : (cc == 45) = false := beq_eq_false_iff_ne.mpr c4
                          rcases hdg : LexW.digit cc with _ | _
                          · rw [if_neg (by rw [hdg]; rintro (h | h); exact c4 h; cases h)] at hsw
                            by_cases c5 : cc = 34
                            · rw [if_pos c5] at hsw
                              have b5 : (cc == 34) = true := beq_iff_eq.mpr c5
                              obtain ⟨⟨t1, t2, t3⟩, hte, hsw⟩ := Option.bind_eq_some_iff.mp hsw
                              obtain ⟨e1, e2, e3, e4⟩ := LexW.inj4 hsw
                              dsimp only at e1 e2 e3 e4
                              subst e1; subst e2; subst e3; subst e4
                              obtain ⟨kw, HW⟩ := HTX.out (P + 1) _ _ _ hlt hte
                              have HTP := Aside0.mk (fun e (h : t1 = some e) => LexW.text_pos (e := e) _ (by rw [← h]; exact hte))
                              rcases htr : RefW.toT (t1, t2, t3) with ⟨r1, r2, r3⟩
                              rw [htr, show ((P + 1 : Nat) : Int) = (P : Int) + 1 by omega] at HW
                              have HTR := Aside0.mk htr
                              replace HW := Aside0.mk HW
                              clear hsw hte htr c1 c2 c3 c4 c5
                              go_wp2_with (first | (go_at_call 20; (with_reducible refine (RefT.digit cc _).mono ?_); rintro e w1 ⟨rfl, hb⟩; rw [hdg]; have n1_ := Aside0.mk (below_step HB.out hb); have n5_ := Aside0.mk (blk_grown HR.out (grown_of_below hb none) (by simp)); have n7_ := Aside0.mk (blk_grown HT.out (grown_of_below hb none) (by simp)); clear HB HR HT; have HB := n1_; have HR := n5_; have HT := n7_; clear n1_ n5_ n7_; clear hb; clear ht0 ht1 ht2 ht3 hf0 hf1 hf2 hf3; have ht0 := (blk_cell HT.out 0).trans rfl; have hf0 := blk_frozen HT.out 0; have ht1 := (blk_cell HT.out 1).trans rfl; have hf1 := blk_frozen HT.out 1; have ht2 := (blk_cell HT.out 2).trans rfl; have hf2 := blk_frozen HT.out 2; have ht3 := (blk_cell HT.out 3).trans rfl; have hf3 := blk_frozen HT.out 3) | (go_at_call 22; (with_reducible refine (caliperref04_text.calls kw _ c0 l0 ((P : Int) + 1) r1 r2 r3 _ (Kd.C_below HR0.out (below_set HB.out HGT.out)) hcp HW.out).mono ?_); rintro e w1 ⟨rfl, hb⟩; have n1_ := Aside0.mk (below_step (below_set HB.out HGT.out) hb); have n5_ := Aside0.mk (blk_grown (blk_far HR.out HNT.out _) (grown_of_below hb none) (by simp)); have n7_ := Aside0.mk (show w1.heap[t7]? = some (.cells #[.int .i64 1, .string (⟨#[]⟩ : ByteArray), .int .i64 P, .int .i64 P] 25 (0, 0)) from blk_grown (blk_put HT.out 0 _ rfl) (grown_of_below hb none) (by simp)); clear HB HR HT ht0 ht1 ht2 ht3 hf0 hf1 hf2 hf3; have HB := n1_; have HR := n5_; have HT := n7_; clear n1_ n5_ n7_ hb; have ht0 := (blk_cell HT.out 0).trans rfl; have hf0 := blk_frozen HT.out 0; have ht1 := (blk_cell HT.out 1).trans rfl; have hf1 := blk_frozen HT.out 1; have ht2 := (blk_cell HT.out 2).trans rfl; have hf2 := blk_frozen HT.out 2; have ht3 := (blk_cell HT.out 3).trans rfl; have hf3 := blk_frozen HT.out 3))
                              go_meet
                              case rel => exact ⟨r3, 1, r1, r2, rfl, ⟨below_set (below_set HB.out HGT.out) HGT.out⟩, ⟨blk_put (blk_put HT.out 1 _ rfl) 3 _ rfl⟩, ⟨blk_far (blk_far HR.out HNT.out _) HNT.out _⟩, ⟨by
                                have hq := HTR.out
                                have hp := HTP.out
                                rw [HXX.out, if_pos (by first | rfl | trivial)]
                                cases t1 with
                                | none => cases hq; exact ⟨rfl, rfl, rfl, rfl⟩
                                | some e => cases hq; exact ⟨rfl, hp e rfl⟩⟩⟩
                            · rw [if_neg c5] at hsw
                              have b5 : (cc == 34) = false := beq_eq_false_iff_ne.mpr c5
                              obtain ⟨e1, e2, e3, e4⟩ := LexW.inj4 hsw
                              subst e1; subst e2; subst e3; subst e4
                              clear hsw c1 c2 c3 c4 c5
                              go_wp2_with (first | (go_at_call 20; (with_reducible refine (RefT.digit cc _).mono ?_); rintro e w1 ⟨rfl, hb⟩; rw [hdg]; have n1_ := Aside0.mk (below_step HB.out hb); have n5_ := Aside0.mk (blk_grown HR.out (grown_of_below hb none) (by simp)); have n7_ := Aside0.mk (blk_grown HT.out (grown_of_below hb none) (by simp)); clear HB HR HT; have HB := n1_; have HR := n5_; have HT := n7_; clear n1_ n5_ n7_; clear hb))
                              go_meet
                              case rel => exact ⟨((P + 1 : Nat) : Int), 0, (⟨#[]⟩ : ByteArray), (P : Int), by first | rfl | (congr 1), HB, HT, HR, ⟨⟨rfl, by omega⟩⟩⟩
                          · rw [if_pos (.inr hdg)] at hsw
                            obtain ⟨kw, HW⟩ := HNM.out P hlt
                            have HX := Aside0.mk (show LexW.number l0 P = (r, q) by obtain ⟨e1, _, _, e2⟩ := LexW.inj4 hsw; exact Prod.ext e1 e2)
                            obtain ⟨_, e2, e3, _⟩ := LexW.inj4 hsw
                            subst e2; subst e3
                            clear hsw c1 c2 c3 c4
                            rw [HX.out] at HW
                            cases r with
                            | some e =>
                              obtain ⟨r1, hr1⟩ : ∃ x : Int, x = 0 := ⟨_, rfl⟩
                              obtain ⟨r2, hr2⟩ : ∃ x : Int, x = (e : Int) := ⟨_, rfl⟩
                              replace HW := Aside0.mk (show caliperref04_number.f kw l0 (P : Int) = some (r1, r2) by rw [hr1, hr2]; exact HW)
                              have hep := LexW.number_pos HX.out
                              have bz : (r2 == 0) = false := beq_eq_false_iff_ne.mpr (by omega)
                              have HR2 := Aside0.mk hr2
                              have HEP := Aside0.mk hep
                              clear hr1 hr2 hep
                              go_wp2_with (first | (go_at_call 20; (with_reducible refine (RefT.digit cc _).mono ?_); rintro e w1 ⟨rfl, hb⟩; rw [hdg]; have n1_ := Aside0.mk (below_step HB.out hb); have n5_ := Aside0.mk (blk_grown HR.out (grown_of_below hb none) (by simp)); have n7_ := Aside0.mk (blk_grown HT.out (grown_of_below hb none) (by simp)); clear HB HR HT; have HB := n1_; have HR := n5_; have HT := n7_; clear n1_ n5_ n7_; clear hb; clear ht0 ht1 ht2 ht3 hf0 hf1 hf2 hf3; have ht0 := (blk_cell HT.out 0).trans rfl; have hf0 := blk_frozen HT.out 0; have ht1 := (blk_cell HT.out 1).trans rfl; have hf1 := blk_frozen HT.out 1; have ht2 := (blk_cell HT.out 2).trans rfl; have hf2 := blk_frozen HT.out 2; have ht3 := (blk_cell HT.out 3).trans rfl; have hf3 := blk_frozen HT.out 3) | (go_at_call 21; (with_reducible refine (caliperref04_number.calls kw _ c0 l0 (P : Int) _ _ _ (Kd.C_below HR0.out (below_set HB.out HGT.out)) hcp HW.out).mono ?_); rintro e w1 ⟨rfl, hd⟩; have hb := hd.below; clear hd; have n1_ := Aside0.mk (below_step (below_set HB.out HGT.out) hb); have n5_ := Aside0.mk (blk_grown (blk_far HR.out HNT.out _) (grown_of_below hb none) (by simp)); have n7_ := Aside0.mk (show w1.heap[t7]? = some (.cells #[.int .i64 2, .string (⟨#[]⟩ : ByteArray), .int .i64 P, .int .i64 P] 25 (0, 0)) from blk_grown (blk_put HT.out 0 _ rfl) (grown_of_below hb none) (by simp)); clear HB HR HT ht0 ht1 ht2 ht3 hf0 hf1 hf2 hf3; have HB := n1_; have HR := n5_; have HT := n7_; clear n1_ n5_ n7_ hb; have ht0 := (blk_cell HT.out 0).trans rfl; have hf0 := blk_frozen HT.out 0; have ht1 := (blk_cell HT.out 1).trans rfl; have hf1 := blk_frozen HT.out 1; have ht2 := (blk_cell HT.out 2).trans rfl; have hf2 := blk_frozen HT.out 2; have ht3 := (blk_cell HT.out 3).trans rfl; have hf3 := blk_frozen HT.out 3))
                              go_meet
                              case rel => exact ⟨r2, 2, (⟨#[]⟩ : ByteArray), r1, rfl, ⟨below_set HB.out HGT.out⟩, ⟨blk_put HT.out 3 _ rfl⟩, ⟨blk_far HR.out HNT.out _⟩, ⟨⟨HR2.out, HEP.out⟩⟩⟩
                            | none =>
                              obtain ⟨r1, hr1⟩ : ∃ x : Int, x = (q : Int) := ⟨_, rfl⟩
                              obtain ⟨r2, hr2⟩ : ∃ x : Int, x = 0 := ⟨_, rfl⟩
                              replace HW := Aside0.mk (show caliperref04_number.f kw l0 (P : Int) = some (r1, r2) by rw [hr1, hr2]; exact HW)
                              have bz : (r2 == 0) = true := beq_iff_eq.mpr hr2
                              have hq1 := LexW.number_ge HX.out
                              have hq2 := LexW.number_le HX.out HPL.out
                              subst hr1
                              have HR2 := Aside0.mk hr2
                              clear hr2
                              go_upto_region 26 with (first | (go_at_call 20; (with_reducible refine (RefT.digit cc _).mono ?_); rintro e w1 ⟨rfl, hb⟩; rw [hdg]; have n1_ := Aside0.mk (below_step HB.out hb); have n5_ := Aside0.mk (blk_grown HR.out (grown_of_below hb none) (by simp)); have n7_ := Aside0.mk (blk_grown HT.out (grown_of_below hb none) (by simp)); clear HB HR HT; have HB := n1_; have HR := n5_; have HT := n7_; clear n1_ n5_ n7_; clear hb; clear ht0 ht1 ht2 ht3 hf0 hf1 hf2 hf3; have ht0 := (blk_cell HT.out 0).trans rfl; have hf0 := blk_frozen HT.out 0; have ht1 := (blk_cell HT.out 1).trans rfl; have hf1 := blk_frozen HT.out 1; have ht2 := (blk_cell HT.out 2).trans rfl; have hf2 := blk_frozen HT.out 2; have ht3 := (blk_cell HT.out 3).trans rfl; have hf3 := blk_frozen HT.out 3) | (go_at_call 21; (with_reducible refine (caliperref04_number.calls kw _ c0 l0 (P : Int) _ _ _ (Kd.C_below HR0.out (below_set HB.out HGT.out)) hcp HW.out).mono ?_); rintro e w1 ⟨rfl, hd⟩; have hb := hd.below; clear hd; have n1_ := Aside0.mk (below_step (below_set HB.out HGT.out) hb); have n5_ := Aside0.mk (blk_grown (blk_far HR.out HNT.out _) (grown_of_below hb none) (by simp)); have n7_ := Aside0.mk (show w1.heap[t7]? = some (.cells #[.int .i64 2, .string (⟨#[]⟩ : ByteArray), .int .i64 P, .int .i64 P] 25 (0, 0)) from blk_grown (blk_put HT.out 0 _ rfl) (grown_of_below hb none) (by simp)); clear HB HR HT ht0 ht1 ht2 ht3 hf0 hf1 hf2 hf3; have HB := n1_; have HR := n5_; have HT := n7_; clear n1_ n5_ n7_ hb; have ht0 := (blk_cell HT.out 0).trans rfl; have hf0 := blk_frozen HT.out 0; have ht1 := (blk_cell HT.out 1).trans rfl; have hf1 := blk_frozen HT.out 1; have ht2 := (blk_cell HT.out 2).trans rfl; have hf2 := blk_frozen HT.out 2; have ht3 := (blk_cell HT.out 3).trans rfl; have hf3 := blk_frozen HT.out 3))
                              have n1_ := Aside0.mk (show Below w.heap.size w (w1.setCell ⟨t7, 3, none⟩ (.int .i64 q)) from below_set HB.out HGT.out)
                              have n3_ := Aside0.mk (show (w1.setCell ⟨t7, 3, none⟩ (.int .i64 q)).heap[t7]? = some (.cells #[.int .i64 2, .string (⟨#[]⟩ : ByteArray), .int .i64 P, .int .i64 q] 25 (0, 0)) from blk_put HT.out 3 _ rfl)
                              have n4_ := Aside0.mk (show (w1.setCell ⟨t7, 3, none⟩ (.int .i64 q)).heap[gr]? = some (.cells #[.int .i64 0, .string (⟨#[]⟩ : ByteArray), .int .i64 0, .int .i64 0] 25 (0, 0)) from blk_far HR.out HNT.out _)
                              clear HB HT HR bz ht0 ht1 ht2 ht3 hf0 hf1 hf2 hf3
                              have HB := n1_
                              have HT := n3_
                              have HR := n4_
                              clear n1_ n3_ n4_
                              generalize (w1.setCell ⟨t7, 3, none⟩ (.int .i64 q)) = w7 at HB HT HR ⊢
                              obtain ⟨i0, hi0, _, hsz0, _⟩ := info_parts info5
                              obtain ⟨A9, hct, hA9, hC9⟩ := print_mid_of (P := Tryd.prog) (Value.int .u8) 0 22 5 .i64 .i64 Tryd.underlying22 hi0 hsz0 (some ad) c0 l0 (P : Int) (q : Int) (by omega) (by omega) (by omega) hcp
                              simp only [Int.toNat_natCast] at hct hA9 hC9
                              rw [show (l0.take q).drop P = LexW.cut l0 P q from rfl] at hct hA9 hC9
                              have b1 : decide ((P : Int) ≤ (q : Int)) = true := decide_eq_true (by omega)
                              have hcv : (convert 22 9 (.slice A9 (LexW.cut l0 P q).length (c0 - P))).run Tryd.prog w7 = .ok (.string (strOfNums (LexW.cut l0 P q))) w7 := Kd.C_string (P := Tryd.prog) Tryd.underlying22 Tryd.underlying5 Tryd.underlying9 (Kd.C_below (Kd.C_of_reads (h1 := fun _ => rfl) (hA9 _ (Kd.reads_of_C HR0.out))) HB.out)
                              clear hA9 hC9 hi0 hsz0
                              have ht0 := (blk_cell HT.out 0).trans rfl
                              have hf0 := blk_frozen HT.out 0
                              have ht1 := (blk_cell HT.out 1).trans rfl
                              have hf1 := blk_frozen HT.out 1
                              have ht2 := (blk_cell HT.out 2).trans rfl
                              have hf2 := blk_frozen HT.out 2
                              have ht3 := (blk_cell HT.out 3).trans rfl
                              have hf3 := blk_frozen HT.out 3
                              go_wp2
                              go_meet
                              case rel => exact ⟨r2, 2, strOfNums (LexW.cut l0 P q), (q : Int), rfl, ⟨below_set HB.out HGT.out⟩, ⟨blk_put HT.out 1 _ rfl⟩, ⟨blk_far HR.out HNT.out _⟩, ⟨⟨HR2.out, rfl, by rw [HXX.out, if_neg (by decide)], rfl⟩⟩⟩
            case rest =>
              clear HB HT HR
              obtain ⟨bad, kd', tx, to_, rfl, HB, HT, HR, HF⟩ := hcut
              have h := HH.out
              have htk := HTK.out
              clear HH HTK
              have hr0 := (blk_cell HR.out 0).trans rfl
              have hx0 := blk_frozen HR.out 0
              have hr1 := (blk_cell HR.out 1).trans rfl
              have hx1 := blk_frozen HR.out 1
              have hr2 := (blk_cell HR.out 2).trans rfl
              have hx2 := blk_frozen HR.out 2
              have hr3 := (blk_cell HR.out 3).trans rfl
              have hx3 := blk_frozen HR.out 3
              cases r with
              | some e =>
                obtain ⟨rfl, hpos⟩ := HF.out
                simp only [Option.isSome_some, if_true, Option.some.injEq, Prod.mk.injEq] at htk
                obtain ⟨e1, e2, e3, e4, e5⟩ := htk
                subst e1; subst e2; subst e3; subst e4; subst e5
                obtain ⟨e1, e2, e3, e4, e5, e6⟩ := LexW.inj6 h
                subst e1; subst e2; subst e3; subst e4; subst e5; subst e6
                have bb : decide ((0 : Int) < (e : Int)) = true := decide_eq_true (by omega)
                have bn : (0 < e) = True := eq_true hpos
                clear h hpos
                go_wp2
                refine bodyPost_ret (results_ctt rfl _ _ gr 25 #[.int .i64 0, .string (⟨#[]⟩ : ByteArray), .int .i64 0, .int .i64 0] (0, 0) _ rfl (by exact blk_put (blk_put (blk_put (blk_put HR.out 0 _ rfl) 1 _ rfl) 2 _ rfl) 3 _ rfl) hu25 rfl (by kernel_rfl)) rfl ?_
                exact ⟨rfl, below_set (below_set (below_set (below_set HB.out HGR.out) HGR.out) HGR.out) HGR.out⟩
              | none =>
                obtain ⟨g1, g2, g3, g4⟩ := HF.out
                replace g2 := g2.symm
                subst g1; subst g2; subst g3; subst g4
                simp only [Option.isSome_none, Bool.false_eq_true, if_false, Option.some.injEq, Prod.mk.injEq] at htk
                obtain ⟨e1, e2, e3, e4, e5⟩ := htk
                subst e1; subst e4; subst e5
                obtain ⟨f1, f2, f3, f4, f5, f6⟩ := LexW.inj6 h
                clear h
                have ht0 := (blk_cell HT.out 0).trans rfl
                have hf0 := blk_frozen HT.out 0
                have ht1 := (blk_cell HT.out 1).trans rfl
                have hf1 := blk_frozen HT.out 1
                have ht2 := (blk_cell HT.out 2).trans rfl
                have hf2 := blk_frozen HT.out 2
                have ht3 := (blk_cell HT.out 3).trans rfl
                have hf3 := blk_frozen HT.out 3
                have hntr := HNT.out
                have hntr2 := Ne.symm HNT.out
                subst f1; subst f2; subst f3; subst f4; subst f5; subst f6
                subst e2; subst e3
                go_wp2
                refine bodyPost_ret (results_ctt rfl _ _ gr 25 #[.int .i64 kd, .string (strOfNums xx), .int .i64 P, .int .i64 q] (0, 0) _ rfl (by exact blk_put (blk_put (blk_put (blk_put HR.out 0 _ rfl) 1 _ rfl) 2 _ rfl) 3 _ rfl) hu25 rfl (by kernel_rfl)) rfl ?_
                exact ⟨rfl, below_set (below_set (below_set (below_set HB.out HGR.out) HGR.out) HGR.out) HGR.out⟩
          · have hsw := HSW.out
            have h := HH.out
            have htk := HTK.out
            have hpe := HPL.out
            clear HSW HH HTK
            unfold LexW.sw at hsw
            rw [if_neg hlt] at hsw
            obtain ⟨e1, e2, e3, e4⟩ := LexW.inj4 hsw
            subst e1; subst e2; subst e3; subst e4
            simp only [Option.isSome_none, Bool.false_eq_true, if_false, Option.some.injEq, Prod.mk.injEq] at htk
            rw [if_neg (by decide), LexW.cut_self] at htk
            obtain ⟨e1, e2, e3, e4, e5⟩ := htk
            subst e1; subst e2; subst e3; subst e4; subst e5
            obtain ⟨e1, e2, e3, e4, e5, e6⟩ := LexW.inj6 h
            subst e1; subst e2; subst e3; subst e4; subst e5; subst e6
            have beq : ((P : Int) == (l0.length : Int)) = true := beq_iff_eq.mpr (by omega)
            obtain rfl : P = l0.length := by omega
            clear h hsw hlt hpe
            have hr0 := (blk_cell HR.out 0).trans rfl
            have hx0 := blk_frozen HR.out 0
            have hr1 := (blk_cell HR.out 1).trans rfl
            have hx1 := blk_frozen HR.out 1
            have hr2 := (blk_cell HR.out 2).trans rfl
            have hx2 := blk_frozen HR.out 2
            have hr3 := (blk_cell HR.out 3).trans rfl
            have hx3 := blk_frozen HR.out 3
            have ht0 := (blk_cell HT.out 0).trans rfl
            have hf0 := blk_frozen HT.out 0
            have ht1 := (blk_cell HT.out 1).trans rfl
            have hf1 := blk_frozen HT.out 1
            have ht2 := (blk_cell HT.out 2).trans rfl
            have hf2 := blk_frozen HT.out 2
            have ht3 := (blk_cell HT.out 3).trans rfl
            have hf3 := blk_frozen HT.out 3
            have hntr := HNT.out
            have hntr2 := Ne.symm HNT.out
            go_wp2
            refine bodyPost_ret (results_ctt rfl _ _ gr 25 #[.int .i64 0, .string (⟨#[]⟩ : ByteArray), .int .i64 l0.length, .int .i64 l0.length] (0, 0) _ rfl (by exact blk_put (blk_put (blk_put (blk_put HR.out 0 _ rfl) 1 _ rfl) 2 _ rfl) 3 _ rfl) hu25 rfl (by kernel_rfl)) rfl ?_
            exact ⟨rfl, below_set (below_set (below_set (below_set HB.out HGR.out) HGR.out) HGR.out) HGR.out⟩

end Go.Proofs.YthoobepfkfjgnaaDoor.PL
