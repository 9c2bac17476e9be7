import Derived.Test.YthoobepfkfjgnaaDoorPLx0
import Derived.Test.YthoobepfkfjgnaaDoorLXe
import Derived.Test.YthoobepfkfjgnaaDoorLXh
import Derived.Test.YthoobepfkfjgnaaDoorLexW
import Derived.Lib.SmallJoins
import Derived.WalkLawsBesides
import Derived.Outline
import Derived.StillTailTactics
import Derived.Test.YthoobepfkfjgnaaDoorMore
namespace Go.Proofs.YthoobepfkfjgnaaDoor.PL
open Go.RowKit Go.Proofs.YthoobepfkfjgnaaDoorW.PrintWords Go.Proofs.YthoobepfkfjgnaaDoorW.PrintLast Go.Proofs.YthoobepfkfjgnaaDoorW.PrintMore
attribute [local go_sem] max2_int min2_int max_two min_two max_three min_three max_four min_four
set_option linter.unusedVariables false
set_option linter.unusedSimpArgs false
-- GIVEN plain making
attribute [local go_sem high] LexT.eq25 LexT.conv_const
set_option maxHeartbeats 4000000 in
set_option maxRecDepth 100000 in
theorem lexlaw_Reads.calls (k : Nat) (A0 : Option Addr) (c0 : Nat) (l0 : List Int) (a : Int) (w : World) (hr0 : Kd.C (Kd.int .u8) w A0 l0.length l0) (hcp : l0.length ≤ c0) (hm : l0.length < 4611686018427387904) (hby : ∀ p, 0 ≤ LexW.at_ l0 p ∧ LexW.at_ l0 p ≤ 255) (hgl : w.cell? ⟨0, 0, none⟩ = some (.iface 98 (.agg #[.pointer (some ⟨2, 46, none⟩)])))
    (hwd : ∀ (s : ByteArray) (p : Nat), p ≤ l0.length → s.size < 100 → ∃ k', caliperref04_word.f k' l0 (p : Int) s = some (RefW.toR (LexW.exactly (bytesOf s) l0 p)))
    (hnm : ∀ p : Nat, p < l0.length → ∃ k', caliperref04_number.f k' l0 (p : Int) = some (RefW.toR (LexW.number l0 p)))
    (htx : ∀ (p : Nat) r out q, p ≤ l0.length → LexW.text l0 k [] p = some (r, out, q) → ∃ k', caliperref04_text.f k' l0 (p : Int) = some (RefW.toT (r, out, q)))
    (hnx : ∃ r, LexW.next l0 k a = some r) : Calls Tryd.prog 3 #[.slice A0 l0.length c0, .int .i64 a] w fun e w' => e = .returned (.bool true) ∧ Below w.heap.size w w' := by
  obtain ⟨⟨rk, rx, rf, rt2, rn, re⟩, hnx⟩ := hnx
  have hu25 := Tryd.underlying25
  have HR0 := Aside0.mk hr0
  have HBY := Aside0.mk hby
  have HGL := Aside0.mk hgl
  have HWD := Aside0.mk hwd
  have HNM := Aside0.mk hnm
  have HTX := Aside0.mk htx
  have HNX := Aside0.mk hnx
  have HB := Aside0.mk (Below.refl w.heap.size w)
  clear hr0 hby hgl hwd hnm htx hnx
  go_enter Tryd.func3, Tryd.ntmps3
  go_upto_region 1 with (fail)
  go_cut [5, 6, 7] (fun v5 v6 v7 wc => ∃ t5, v5 = .pointer (some ⟨t5, 0, none⟩) ∧ v6 = .int .i64 rn ∧ v7 = .int .i64 re ∧ Aside0 (Below w.heap.size w wc) ∧ Aside0 (w.heap.size ≤ t5) ∧ Aside0 (wc.heap[t5]? = some (.cells #[.int .i64 rk, .string (strOfNums rx), .int .i64 rf, .int .i64 rt2] 25 (0, 0))))
  case first =>
    go_wp2_with (first | (go_at_call 9; (with_reducible refine (lexn_Next.calls k A0 c0 l0 a rk rx rf rt2 rn re _ (Kd.C_below HR0.out HB.out) hcp hm HBY.out (pw_cell_below HB.out HGL.out) HNX.out).mono ?_); rintro e w1 ⟨rfl, hb⟩; have n1_ := Aside0.mk (below_step HB.out hb); clear HB hb; have HB := n1_; clear n1_) | ((with_reducible refine gate_dst (N := 5) rfl ?_); (try (refine gate_guard (by rfl) ?_; dsimp only)); refine box_event ?hg (N := 5) ?hd (cs := #[.int .i64 0, .string (⟨#[]⟩ : ByteArray), .int .i64 0, .int .i64 0]) (t := 25) ?hr ?_; (case hd => rfl); (case hg => rfl); (case hr => first | (go_simp; done) | (go_simp; rfl)); intro t5 hg w2 hbox hb; have n1_ := Aside0.mk (below_step HB.out hb); have HG_ := Aside0.mk (show w.heap.size ≤ t5 by rw [hg]; exact HB.out.size); clear HB; have HB := n1_; have HT := Aside0.mk hbox; clear n1_ hb hbox hg; have ht0 := (blk_cell HT.out 0).trans rfl; have hf0 := blk_frozen HT.out 0; have ht1 := (blk_cell HT.out 1).trans rfl; have hf1 := blk_frozen HT.out 1; have ht2 := (blk_cell HT.out 2).trans rfl; have hf2 := blk_frozen HT.out 2; have ht3 := (blk_cell HT.out 3).trans rfl; have hf3 := blk_frozen HT.out 3))
    go_meet
    case rel => exact ⟨t5, rfl, rfl, rfl, ⟨below_set (below_set (below_set (below_set HB.out HG_.out) HG_.out) HG_.out) HG_.out⟩, HG_, ⟨blk_put (blk_put (blk_put (blk_put HT.out 0 _ rfl) 1 _ rfl) 2 _ rfl) 3 _ rfl⟩⟩
  case rest =>
    clear HB
    obtain ⟨t5, rfl, rfl, rfl, HB, HG_t5, HT_t5⟩ := hcut
    go_upto_region 2 with (fail)
    go_cut [8, 9, 10] (fun v8 v9 v10 wc => ∃ t8, v8 = .pointer (some ⟨t8, 0, none⟩) ∧ v9 = .int .i64 rn ∧ v10 = .int .i64 re ∧ Aside0 (Below w.heap.size w wc) ∧ Aside0 (w.heap.size ≤ t8) ∧ Aside0 (wc.heap[t8]? = some (.cells #[.int .i64 rk, .string (strOfNums rx), .int .i64 rf, .int .i64 rt2] 25 (0, 0))) ∧ Aside0 (wc.heap[t5]? = some (.cells #[.int .i64 rk, .string (strOfNums rx), .int .i64 rf, .int .i64 rt2] 25 (0, 0))) ∧ Aside0 (t5 ≠ t8))
    case first =>
      go_wp2_with (first | (go_at_call 10; (with_reducible refine (refn_Next.calls k A0 c0 l0 a rk rx rf rt2 rn re _ (Kd.C_below HR0.out HB.out) hcp hm HWD.out HNM.out HTX.out HNX.out).mono ?_); rintro e w1 ⟨rfl, hb⟩; have n1_ := Aside0.mk (below_step HB.out hb); have m0_ := Aside0.mk (blk_grown HT_t5.out (grown_of_below hb none) (by simp)); clear HT_t5; have HT_t5 := m0_; clear m0_; clear HB hb; have HB := n1_; clear n1_) | ((with_reducible refine gate_dst (N := 8) rfl ?_); (try (refine gate_guard (by rfl) ?_; dsimp only)); refine box_event ?hg (N := 8) ?hd (cs := #[.int .i64 0, .string (⟨#[]⟩ : ByteArray), .int .i64 0, .int .i64 0]) (t := 25) ?hr ?_; (case hd => rfl); (case hg => rfl); (case hr => first | (go_simp; done) | (go_simp; rfl)); intro t8 hg w2 hbox hb; have n1_ := Aside0.mk (below_step HB.out hb); have HG_ := Aside0.mk (show w.heap.size ≤ t8 by rw [hg]; exact HB.out.size); have m0_ := Aside0.mk (blk_grown HT_t5.out (grown_of_below hb none) (by simp)); have HN_t5 := Aside0.mk (show t5 ≠ t8 by rw [hg]; exact Nat.ne_of_lt (blk_lt HT_t5.out)); clear HB; have HB := n1_; clear HT_t5; have HT_t5 := m0_; clear m0_; have HT := Aside0.mk hbox; clear n1_ hb hbox hg; have ht0 := (blk_cell HT.out 0).trans rfl; have hf0 := blk_frozen HT.out 0; have ht1 := (blk_cell HT.out 1).trans rfl; have hf1 := blk_frozen HT.out 1; have ht2 := (blk_cell HT.out 2).trans rfl; have hf2 := blk_frozen HT.out 2; have ht3 := (blk_cell HT.out 3).trans rfl; have hf3 := blk_frozen HT.out 3))
      go_meet
      case rel => exact ⟨t8, rfl, rfl, rfl, ⟨below_set (below_set (below_set (below_set HB.out HG_.out) HG_.out) HG_.out) HG_.out⟩, HG_, ⟨blk_put (blk_put (blk_put (blk_put HT.out 0 _ rfl) 1 _ rfl) 2 _ rfl) 3 _ rfl⟩, ⟨blk_far (blk_far (blk_far (blk_far HT_t5.out HN_t5.out _) HN_t5.out _) HN_t5.out _) HN_t5.out _⟩, HN_t5⟩
    case rest =>
      clear HB HT_t5
      obtain ⟨t8, rfl, rfl, rfl, HB, HG_t8, HT_t8, HT_t5, HN_t5_t8⟩ := hcut
      have h_t5_0 := (blk_cell HT_t5.out 0).trans rfl
      have h_t5_1 := (blk_cell HT_t5.out 1).trans rfl
      have h_t5_2 := (blk_cell HT_t5.out 2).trans rfl
      have h_t5_3 := (blk_cell HT_t5.out 3).trans rfl
      have h_t8_0 := (blk_cell HT_t8.out 0).trans rfl
      have h_t8_1 := (blk_cell HT_t8.out 1).trans rfl
      have h_t8_2 := (blk_cell HT_t8.out 2).trans rfl
      have h_t8_3 := (blk_cell HT_t8.out 3).trans rfl
      go_wp2_with (first | (go_at_call 11; (with_reducible refine (lexlaw_heads.calls _ (pw_cell_below HB.out HGL.out)).mono ?_); rintro e w1 ⟨rfl, hb⟩; have n1_ := Aside0.mk (below_step HB.out hb); clear HB hb; have HB := n1_; clear n1_))
      go_ret
      exact ⟨rfl, HB.out⟩

end Go.Proofs.YthoobepfkfjgnaaDoor.PL
