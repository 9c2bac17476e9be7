import Derived.Test.YthoobepfkfjgnaaDoorPLx0
import Derived.Test.YthoobepfkfjgnaaDoorLXe
import Derived.Test.YthoobepfkfjgnaaDoorLXh
import Derived.Test.YthoobepfkfjgnaaDoorRPa
import Derived.Test.YthoobepfkfjgnaaDoorLexW
import Derived.Lib.SmallJoins
import Derived.WalkLawsBesides
import Derived.Outline
import Derived.StillTailTactics
import Derived.Test.YthoobepfkfjgnaaDoorMore
namespace Go.Proofs.YthoobepfkfjgnaaDoor.PL
open Go.RowKit Go.Proofs.YthoobepfkfjgnaaDoorW.PrintWords Go.Proofs.YthoobepfkfjgnaaDoorW.PrintLast Go.Proofs.YthoobepfkfjgnaaDoorW.PrintMore
attribute [local go_sem] max2_int min2_int max_two min_two max_three min_three max_four min_four
set_option linter.unusedVariables false
set_option linter.unusedSimpArgs false
-- GIVEN plain making
theorem LexW.may_gt {of b : List Int} {p q : Nat} (h : LexW.may of b p = (true, q)) : p + 1 ≤ q := by
  unfold LexW.may at h
  split at h
  · split at h <;> cases h; exact Nat.le_refl _
  · cases h
theorem LexW.digits_gt {b : List Int} {p q : Nat} (h : LexW.digits b p = (none, q)) : p + 1 ≤ q := by
  unfold LexW.digits at h
  rcases hm : LexW.must LexW.digit b p with ⟨r1, q1⟩
  rw [hm] at h
  simp only [Prod.mk.injEq] at h
  obtain ⟨h1, h2⟩ := h
  have h3 : q1 ≤ LexW.pass LexW.digit b q1 := LexW.le_pass _ _ _ _ rfl
  subst h1
  unfold LexW.must at hm
  split at hm
  · split at hm
    · cases hm; omega
    · cases hm
  · cases hm
theorem LexW.number_gt {b : List Int} {p q : Nat} (h : LexW.number b p = (none, q)) : p + 1 ≤ q := by
  unfold LexW.number at h
  have h1 : p ≤ (LexW.may [45] b p).2 := LexW.may_ge (m := (LexW.may [45] b p).1) rfl
  rcases hi : LexW.int_ b (LexW.may [45] b p).2 with ⟨ri, qi⟩
  have h2 : ri = none → (LexW.may [45] b p).2 + 1 ≤ qi := by
    intro e
    subst e
    unfold LexW.int_ at hi
    split at hi
    · rename_i hm
      cases hi
      exact LexW.may_gt (Prod.ext hm rfl)
    · have := LexW.digits_gt hi
      have h3 : (LexW.may [45] b p).2 ≤ (LexW.may [48] b (LexW.may [45] b p).2).2 := LexW.may_ge (m := (LexW.may [48] b (LexW.may [45] b p).2).1) rfl
      omega
  simp only [hi] at h
  cases ri with
  | some e => simp only [Option.isSome_some, if_true] at h; cases h
  | none =>
    have := h2 rfl
    simp only [Option.isSome_none, Bool.false_eq_true, if_false] at h
    have h3 : qi ≤ (LexW.frac b qi).2 := LexW.frac_ge (r := (LexW.frac b qi).1) rfl
    split at h
    · have := LexW.frac_ge h; omega
    · have := LexW.expo_ge h; omega
theorem LexW.text_ge (l : List Int) : ∀ (k : Nat) {o : List Int} {p : Nat} {out : List Int} {q : Nat}, LexW.text l k o p = some (none, out, q) → p + 1 ≤ q := by
  intro k
  induction k with
  | zero => intro o p out q h; cases h
  | succ k ih =>
    intro o p out q h
    have hle : p ≤ LexW.tq l p := LexW.le_pass _ _ _ _ rfl
    rw [LexW.text] at h
    obtain ⟨gd, _, h⟩ := Option.bind_eq_some_iff.mp h
    split at h
    · split at h
      · cases h
      · split at h
        · split at h
          · split at h
            · cases h; omega
            · rcases hes : LexW.escape l (LexW.tq l p + 1) with ⟨r8, n8, q8⟩
              simp only [hes] at h
              cases r8 with
              | some e => simp only [Option.isSome_some, if_true] at h; cases h
              | none =>
                simp only [Option.isSome_none, Bool.false_eq_true, if_false] at h
                obtain ⟨o3, _, h⟩ := Option.bind_eq_some_iff.mp h
                have := ih h
                have := LexW.escape_gt hes
                omega
          · cases h
        · cases h
    · cases h
theorem LexW.sw_gt {b : List Int} {k p : Nat} {kd : Int} {out : List Int} {q : Nat} (h : LexW.sw b k p = some (none, kd, out, q)) (hk : kd ≠ 0) : p + 1 ≤ q := by
  unfold LexW.sw at h
  split at h
  · split at h
    · cases h; exact Nat.le_refl _
    · split at h
      · obtain ⟨h1, _, _, h4⟩ := LexW.inj4 h; have := (LexW.exactly_cut _ (Prod.ext h1 h4)).1; simp at this; omega
      · split at h
        · obtain ⟨h1, _, _, h4⟩ := LexW.inj4 h; have := (LexW.exactly_cut _ (Prod.ext h1 h4)).1; simp at this; omega
        · split at h
          · obtain ⟨h1, _, _, h4⟩ := LexW.inj4 h; have := (LexW.exactly_cut _ (Prod.ext h1 h4)).1; simp at this; omega
          · split at h
            · obtain ⟨h1, _, _, h4⟩ := LexW.inj4 h; exact LexW.number_gt (Prod.ext h1 h4)
            · split at h
              · obtain ⟨⟨t1, t2, t3⟩, ht, h⟩ := Option.bind_eq_some_iff.mp h
                obtain ⟨h1, _, _, h4⟩ := LexW.inj4 h
                dsimp only at h1 h4
                subst h1; subst h4
                have := LexW.text_ge b _ ht
                omega
              · cases h
  · cases h; exact absurd rfl hk
theorem LexW.next_adv {b : List Int} {k a : Nat} {rk : Int} {rx : List Int} {rf rt2 rn : Nat} {re : Int} (h : LexW.next b k (a : Int) = some (rk, rx, rf, rt2, rn, re)) (ha : a ≤ b.length) (he : re = 0) (hk : rk ≠ 0) : a + 1 ≤ rt2 ∧ rt2 ≤ b.length := by
  unfold LexW.next at h
  rw [if_neg (by omega), if_neg (by omega)] at h
  obtain ⟨⟨rt, kt, txt, ft, et⟩, htk, h⟩ := Option.bind_eq_some_iff.mp h
  rw [Int.toNat_natCast] at htk
  cases rt with
  | some e => obtain ⟨_, _, _, _, _, h6⟩ := LexW.inj6 h; omega
  | none =>
    obtain ⟨h1, _, _, h4, _, _⟩ := LexW.inj6 h
    dsimp only at h1 h4
    subst h1; subst h4
    unfold LexW.token at htk
    obtain ⟨⟨r, kd, out, q⟩, hsw, htk⟩ := Option.bind_eq_some_iff.mp htk
    dsimp only at htk
    have hp1 : LexW.pass LexW.blank b a ≤ b.length := LexW.pass_le _ _ _ _ rfl ha
    have hp2 : a ≤ LexW.pass LexW.blank b a := LexW.le_pass _ _ _ _ rfl
    cases r with
    | some e => simp only [Option.isSome_some, if_true, Option.some.injEq, Prod.mk.injEq] at htk; cases htk.1
    | none =>
      simp only [Option.isSome_none, Bool.false_eq_true, if_false, Option.some.injEq, Prod.mk.injEq] at htk
      obtain ⟨_, e2, _, _, e5⟩ := htk
      subst e2; subst e5
      have := LexW.sw_gt hsw hk
      have := LexW.sw_le hsw hp1
      omega

-- GIVEN plain making
attribute [local go_sem high] LexT.eq25 LexT.conv_const
set_option maxHeartbeats 4000000 in
set_option maxRecDepth 100000 in
theorem lexlaw_All.calls (k : Nat) (A0 : Option Addr) (c0 : Nat) (l0 : List Int) (w : World) (hr0 : Kd.C (Kd.int .u8) w A0 l0.length l0) (hcp : l0.length ≤ c0) (hm : l0.length < 4611686018427387904) (hby : ∀ p, 0 ≤ LexW.at_ l0 p ∧ LexW.at_ l0 p ≤ 255) (hgl : w.cell? ⟨0, 0, none⟩ = some (.iface 98 (.agg #[.pointer (some ⟨2, 46, none⟩)])))
    (hwd : ∀ (s : ByteArray) (p : Nat), p ≤ l0.length → s.size < 100 → ∃ k', caliperref04_word.f k' l0 (p : Int) s = some (RefW.toR (LexW.exactly (bytesOf s) l0 p)))
    (hnm : ∀ p : Nat, p < l0.length → ∃ k', caliperref04_number.f k' l0 (p : Int) = some (RefW.toR (LexW.number l0 p)))
    (htx : ∀ (p : Nat) r out q, p ≤ l0.length → LexW.text l0 k [] p = some (r, out, q) → ∃ k', caliperref04_text.f k' l0 (p : Int) = some (RefW.toT (r, out, q)))
    (hna : ∀ a : Int, ∃ r, LexW.next l0 k a = some r) : Calls Tryd.prog 4 #[.slice A0 l0.length c0] w fun e w' => e = .returned (.bool true) ∧ Below w.heap.size w w' := by
  have hu25 := Tryd.underlying25
  have HR0 := Aside0.mk hr0
  have HBY := Aside0.mk hby
  have HGL := Aside0.mk hgl
  have HWD := Aside0.mk hwd
  have HNM := Aside0.mk hnm
  have HTX := Aside0.mk htx
  have HNA := Aside0.mk hna
  have HB := Aside0.mk (Below.refl w.heap.size w)
  clear hr0 hby hgl hwd hnm htx hna
  go_enter Tryd.func4, Tryd.ntmps4
  go_wp2
  go_loopg [3, 4] (l0.length + 1) (fun kq v3 v4 wr => ∃ (a kk : Nat), v3 = .int .i64 a ∧ v4 = .int .i64 kk ∧ kk ≤ a ∧ a ≤ l0.length ∧ kq = l0.length + 1 - kk ∧ Aside0 (Below w.heap.size w wr))
  case atStart => exact ⟨0, 0, rfl, rfl, Nat.le_refl _, Nat.zero_le _, rfl, HB⟩
  case round =>
    clear HB
    obtain ⟨a, kk, rfl, rfl, hka, hal, hk1, HB⟩ := hrel
    obtain ⟨⟨rk, rx, rf, rt2, rn, re⟩, hnx⟩ := HNA.out (a : Int)
    have HADV := Aside0.mk (LexW.next_adv hnx hal)
    have HNX := Aside0.mk hnx
    clear hnx
    have b0 : decide ((kk : Int) < (l0.length : Int) + 1) = true := decide_eq_true (by omega)
    have b0n : decide (kk < l0.length + 1) = true := decide_eq_true (by omega)
    go_upto_region 5 with (fail)
    go_cut [5, 6, 7] (fun v5 v6 v7 wc => ∃ t5, v5 = .pointer (some ⟨t5, 0, none⟩) ∧ v6 = .int .i64 rn ∧ v7 = .int .i64 re ∧ Aside0 (Below w.heap.size w wc) ∧ Aside0 (w.heap.size ≤ t5) ∧ Aside0 (wc.heap[t5]? = some (.cells #[.int .i64 rk, .string (strOfNums rx), .int .i64 rf, .int .i64 rt2] 25 (0, 0))))
    case first =>
      go_wp2_with (first | (go_at_call 9; (with_reducible refine (lexn_Next.calls k A0 c0 l0 (a : Int) rk rx rf rt2 rn re _ (Kd.C_below HR0.out HB.out) hcp hm HBY.out (pw_cell_below HB.out HGL.out) HNX.out).mono ?_); rintro e w1 ⟨rfl, hb⟩; have n1_ := Aside0.mk (below_step HB.out hb); clear HB hb; have HB := n1_; clear n1_) | ((with_reducible refine gate_dst (N := 5) rfl ?_); (try (refine gate_guard (by rfl) ?_; dsimp only)); refine box_event ?hg (N := 5) ?hd (cs := #[.int .i64 0, .string (⟨#[]⟩ : ByteArray), .int .i64 0, .int .i64 0]) (t := 25) ?hr ?_; (case hd => rfl); (case hg => rfl); (case hr => first | (go_simp; done) | (go_simp; rfl)); intro t5 hg w2 hbox hb; have n1_ := Aside0.mk (below_step HB.out hb); have HG_ := Aside0.mk (show w.heap.size ≤ t5 by rw [hg]; exact HB.out.size); clear HB; have HB := n1_; have HT := Aside0.mk hbox; clear n1_ hb hbox hg; have ht0 := (blk_cell HT.out 0).trans rfl; have hf0 := blk_frozen HT.out 0; have ht1 := (blk_cell HT.out 1).trans rfl; have hf1 := blk_frozen HT.out 1; have ht2 := (blk_cell HT.out 2).trans rfl; have hf2 := blk_frozen HT.out 2; have ht3 := (blk_cell HT.out 3).trans rfl; have hf3 := blk_frozen HT.out 3))
      go_meet
      case rel => exact ⟨t5, rfl, rfl, rfl, ⟨below_set (below_set (below_set (below_set HB.out HG_.out) HG_.out) HG_.out) HG_.out⟩, HG_, ⟨blk_put (blk_put (blk_put (blk_put HT.out 0 _ rfl) 1 _ rfl) 2 _ rfl) 3 _ rfl⟩⟩
    case rest =>
      clear HB
      obtain ⟨t5, rfl, rfl, rfl, HB, HG_t5, HT_t5⟩ := hcut
      go_upto_region 6 with (fail)
      go_cut [8, 9, 10] (fun v8 v9 v10 wc => ∃ t8, v8 = .pointer (some ⟨t8, 0, none⟩) ∧ v9 = .int .i64 rn ∧ v10 = .int .i64 re ∧ Aside0 (Below w.heap.size w wc) ∧ Aside0 (w.heap.size ≤ t8) ∧ Aside0 (wc.heap[t8]? = some (.cells #[.int .i64 rk, .string (strOfNums rx), .int .i64 rf, .int .i64 rt2] 25 (0, 0))) ∧ Aside0 (wc.heap[t5]? = some (.cells #[.int .i64 rk, .string (strOfNums rx), .int .i64 rf, .int .i64 rt2] 25 (0, 0))) ∧ Aside0 (t5 ≠ t8))
      case first =>
        go_wp2_with (first | (go_at_call 10; (with_reducible refine (refn_Next.calls k A0 c0 l0 (a : Int) rk rx rf rt2 rn re _ (Kd.C_below HR0.out HB.out) hcp hm HWD.out HNM.out HTX.out HNX.out).mono ?_); rintro e w1 ⟨rfl, hb⟩; have n1_ := Aside0.mk (below_step HB.out hb); have m0_ := Aside0.mk (blk_grown HT_t5.out (grown_of_below hb none) (by simp)); clear HT_t5; have HT_t5 := m0_; clear m0_; clear HB hb; have HB := n1_; clear n1_) | ((with_reducible refine gate_dst (N := 8) rfl ?_); (try (refine gate_guard (by rfl) ?_; dsimp only)); refine box_event ?hg (N := 8) ?hd (cs := #[.int .i64 0, .string (⟨#[]⟩ : ByteArray), .int .i64 0, .int .i64 0]) (t := 25) ?hr ?_; (case hd => rfl); (case hg => rfl); (case hr => first | (go_simp; done) | (go_simp; rfl)); intro t8 hg w2 hbox hb; have n1_ := Aside0.mk (below_step HB.out hb); have HG_ := Aside0.mk (show w.heap.size ≤ t8 by rw [hg]; exact HB.out.size); have m0_ := Aside0.mk (blk_grown HT_t5.out (grown_of_below hb none) (by simp)); have HN_t5 := Aside0.mk (show t5 ≠ t8 by rw [hg]; exact Nat.ne_of_lt (blk_lt HT_t5.out)); clear HB; have HB := n1_; clear HT_t5; have HT_t5 := m0_; clear m0_; have HT := Aside0.mk hbox; clear n1_ hb hbox hg; have ht0 := (blk_cell HT.out 0).trans rfl; have hf0 := blk_frozen HT.out 0; have ht1 := (blk_cell HT.out 1).trans rfl; have hf1 := blk_frozen HT.out 1; have ht2 := (blk_cell HT.out 2).trans rfl; have hf2 := blk_frozen HT.out 2; have ht3 := (blk_cell HT.out 3).trans rfl; have hf3 := blk_frozen HT.out 3))
        go_meet
        case rel => exact ⟨t8, rfl, rfl, rfl, ⟨below_set (below_set (below_set (below_set HB.out HG_.out) HG_.out) HG_.out) HG_.out⟩, HG_, ⟨blk_put (blk_put (blk_put (blk_put HT.out 0 _ rfl) 1 _ rfl) 2 _ rfl) 3 _ rfl⟩, ⟨blk_far (blk_far (blk_far (blk_far HT_t5.out HN_t5.out _) HN_t5.out _) HN_t5.out _) HN_t5.out _⟩, HN_t5⟩
      case rest =>
        clear HB HT_t5
        obtain ⟨t8, rfl, rfl, rfl, HB, HG_t8, HT_t8, HT_t5, HN_t5_t8⟩ := hcut
        have h_t5_0 := (blk_cell HT_t5.out 0).trans rfl
        have h_t5_1 := (blk_cell HT_t5.out 1).trans rfl
        have h_t5_2 := (blk_cell HT_t5.out 2).trans rfl
        have h_t5_3 := (blk_cell HT_t5.out 3).trans rfl
        have h_t8_0 := (blk_cell HT_t8.out 0).trans rfl
        have h_t8_1 := (blk_cell HT_t8.out 1).trans rfl
        have h_t8_2 := (blk_cell HT_t8.out 2).trans rfl
        have h_t8_3 := (blk_cell HT_t8.out 3).trans rfl
        by_cases he : re = 0
        · by_cases hk : rk = 0
          · have b1 : (re != 0) = false := by rw [he]; rfl
            have b2 : (rk == 0) = true := beq_iff_eq.mpr hk
            clear he hk
            go_wp2_with (first | (go_at_call 11; (with_reducible refine (lexlaw_heads.calls _ (pw_cell_below HB.out HGL.out)).mono ?_); rintro e w1 ⟨rfl, hb⟩; have n1_ := Aside0.mk (below_step HB.out hb); clear HB hb; have HB := n1_; clear n1_))
            go_ret
            exact ⟨rfl, HB.out⟩
          · obtain ⟨hv1, hv2⟩ := HADV.out he hk
            have b1 : (re != 0) = false := by rw [he]; rfl
            have b2 : (rk == 0) = false := beq_eq_false_iff_ne.mpr hk
            clear he hk
            go_wp2
            go_roundg (l0.length + 1 - (kk + 1))
            case measure => omega
            case rel => exact ⟨rt2, kk + 1, rfl, by go_num, by omega, hv2, rfl, HB⟩
        · have b1 : (re != 0) = true := by simpa using he
          clear he
          go_wp2_with (first | (go_at_call 11; (with_reducible refine (lexlaw_heads.calls _ (pw_cell_below HB.out HGL.out)).mono ?_); rintro e w1 ⟨rfl, hb⟩; have n1_ := Aside0.mk (below_step HB.out hb); clear HB hb; have HB := n1_; clear n1_))
          go_ret
          exact ⟨rfl, HB.out⟩

end Go.Proofs.YthoobepfkfjgnaaDoor.PL
