import Derived.Test.YthoobepfkfjgnaaDoorPLx0
import Derived.Test.YthoobepfkfjgnaaDoorLXd
import Derived.Test.YthoobepfkfjgnaaDoorLexW
import Derived.Lib.SmallJoins
import Derived.WalkLawsBesides
import Derived.Outline
import Derived.StillTailTactics
import Derived.Test.YthoobepfkfjgnaaDoorMore
namespace Go.Proofs.YthoobepfkfjgnaaDoor.PL
open Go.RowKit Go.Proofs.YthoobepfkfjgnaaDoorW.PrintWords Go.Proofs.YthoobepfkfjgnaaDoorW.PrintLast Go.Proofs.YthoobepfkfjgnaaDoorW.PrintMore
attribute [local go_sem] max2_int min2_int max_two min_two max_three min_three max_four min_four
set_option linter.unusedVariables false
set_option linter.unusedSimpArgs false
-- GIVEN plain making
theorem LexT.eq25 (d : Nat) (w : World) (x0 y0 : Int) (x1 y1 : ByteArray) (x2 y2 : Int) (x3 y3 : Int) :
    (Op.equalIn (d + 2) 25 (.agg #[.int .i64 x0, .string x1, .int .i64 x2, .int .i64 x3]) (.agg #[.int .i64 y0, .string y1, .int .i64 y2, .int .i64 y3])).run Tryd.prog w = .ok (x0 == y0 && (x1.toList == y1.toList && (x2 == y2 && (x3 == y3)))) w := by
  refine eqA_of Tryd.underlying25 (by kernel_rfl) ?_
  refine eqf_cons (by rfl) (by go_simp; rfl) (by go_simp; rfl) (by go_simp) ?_
  refine eqf_cons (by rfl) (by go_simp; rfl) (by go_simp; rfl) (by go_simp) ?_
  refine eqf_cons (by rfl) (by go_simp; rfl) (by go_simp; rfl) (by go_simp) ?_
  exact eqf_last (by rfl) (by go_simp; rfl) (by go_simp; rfl) (by go_simp)
theorem LexT.conv_const (W : World) (C : Array Value) (n c : Nat) : (convert 22 22 (.slice (some ⟨W.heap.size, 0, none⟩) n c)).run Tryd.prog (W.alloc (.cells C 5)) = .ok (.slice (some ⟨W.heap.size, 0, none⟩) n c) (W.alloc (.cells C 5 (C.size, C.size + 1))) :=
  Go.Joins.run_convert_bytes_const_at W 22 5 C n c W.heap.size rfl Tryd.underlying22 Tryd.underlying5
theorem LexT.litm (W : World) (k : IntKind) (xs : List Int) (e : TypeId) (fr : Nat × Nat) (hx : xs.length ≤ 9223372036854775807) : Kd.C (Kd.int k) (W.alloc (.cells (xs.map (Value.int k)).toArray e fr)) (some ⟨W.heap.size, 0, none⟩) xs.length xs := by
  refine Kd.C_of_reads (d := (0 : Int)) (h1 := fun _ => rfl) ⟨rfl, hx, fun _ => ⟨_, rfl, fun j hj => ?_⟩⟩
  rw [add_plain]
  have h1 : (W.alloc (.cells (xs.map (Value.int k)).toArray e fr)).heap[W.heap.size]? = some (.cells (xs.map (Value.int k)).toArray e fr) := by
    show (W.heap.push _)[W.heap.size]? = _
    simp
  unfold World.cell?
  rw [h1]
  simp [List.getElem?_eq_getElem hj]
attribute [local go_sem high] LexT.eq25 LexT.conv_const
theorem LexW.at_bytes {l : List Int} (h : ∀ x ∈ l, 0 ≤ x ∧ x ≤ 255) (p : Nat) : 0 ≤ LexW.at_ l p ∧ LexW.at_ l p ≤ 255 := by
  unfold LexW.at_
  rw [List.getD_eq_getElem?_getD]
  by_cases hp : p < l.length
  · rw [List.getElem?_eq_getElem hp]; exact h _ (List.getElem_mem hp)
  · rw [List.getElem?_eq_none (by omega)]; exact ⟨Int.le_refl _, by decide⟩
theorem LexH.h1 : LexW.next [32, 34, 97, 92, 117, 48, 48, 101, 57, 34] 12 0 = some (1, [97, 195, 169], 1, 10, 0, 0) := by decide +kernel
theorem LexH.ch1 (W : World) (hg : W.cell? ⟨0, 0, none⟩ = some (.iface 98 (.agg #[.pointer (some ⟨2, 46, none⟩)]))) : Calls Tryd.prog 9 #[.slice (some ⟨W.heap.size, 0, none⟩) 10 10, .int .i64 0] (W.alloc (.cells #[.int .u8 32, .int .u8 34, .int .u8 97, .int .u8 92, .int .u8 117, .int .u8 48, .int .u8 48, .int .u8 101, .int .u8 57, .int .u8 34] 5 (10, 11))) fun e w' => e = .returned (.tuple #[.agg #[.int .i64 1, .string (⟨#[97, 195, 169]⟩ : ByteArray), .int .i64 1, .int .i64 10], .int .i64 0, .int .i64 0]) ∧ Below W.heap.size W w' := by
  refine (lexn_Next.calls 12 (some ⟨W.heap.size, 0, none⟩) 10 [32, 34, 97, 92, 117, 48, 48, 101, 57, 34] 0 1 [97, 195, 169] 1 10 0 0 _ (LexT.litm W .u8 [32, 34, 97, 92, 117, 48, 48, 101, 57, 34] 5 (10, 11) (by simp)) (by simp) (by simp) (LexW.at_bytes (by decide)) (pw_cell_below (below_alloc (Below.refl _ _) _) hg) LexH.h1).mono ?_
  rintro e w1 ⟨rfl, hb⟩
  exact ⟨rfl, below_step (below_alloc (Below.refl _ _) _) hb⟩
theorem LexH.h2 : LexW.next [110, 117, 108] 12 0 = some (0, [], 0, 0, 4, 50) := by decide +kernel
theorem LexH.ch2 (W : World) (hg : W.cell? ⟨0, 0, none⟩ = some (.iface 98 (.agg #[.pointer (some ⟨2, 46, none⟩)]))) : Calls Tryd.prog 9 #[.slice (some ⟨W.heap.size, 0, none⟩) 3 3, .int .i64 0] (W.alloc (.cells #[.int .u8 110, .int .u8 117, .int .u8 108] 5 (3, 4))) fun e w' => e = .returned (.tuple #[.agg #[.int .i64 0, .string (⟨#[]⟩ : ByteArray), .int .i64 0, .int .i64 0], .int .i64 4, .int .i64 50]) ∧ Below W.heap.size W w' := by
  refine (lexn_Next.calls 12 (some ⟨W.heap.size, 0, none⟩) 3 [110, 117, 108] 0 0 [] 0 0 4 50 _ (LexT.litm W .u8 [110, 117, 108] 5 (3, 4) (by simp)) (by simp) (by simp) (LexW.at_bytes (by decide)) (pw_cell_below (below_alloc (Below.refl _ _) _) hg) LexH.h2).mono ?_
  rintro e w1 ⟨rfl, hb⟩
  exact ⟨rfl, below_step (below_alloc (Below.refl _ _) _) hb⟩
theorem LexH.h3 : LexW.next [45, 120] 12 0 = some (0, [], 0, 0, 2, 50) := by decide +kernel
theorem LexH.ch3 (W : World) (hg : W.cell? ⟨0, 0, none⟩ = some (.iface 98 (.agg #[.pointer (some ⟨2, 46, none⟩)]))) : Calls Tryd.prog 9 #[.slice (some ⟨W.heap.size, 0, none⟩) 2 2, .int .i64 0] (W.alloc (.cells #[.int .u8 45, .int .u8 120] 5 (2, 3))) fun e w' => e = .returned (.tuple #[.agg #[.int .i64 0, .string (⟨#[]⟩ : ByteArray), .int .i64 0, .int .i64 0], .int .i64 2, .int .i64 50]) ∧ Below W.heap.size W w' := by
  refine (lexn_Next.calls 12 (some ⟨W.heap.size, 0, none⟩) 2 [45, 120] 0 0 [] 0 0 2 50 _ (LexT.litm W .u8 [45, 120] 5 (2, 3) (by simp)) (by simp) (by simp) (LexW.at_bytes (by decide)) (pw_cell_below (below_alloc (Below.refl _ _) _) hg) LexH.h3).mono ?_
  rintro e w1 ⟨rfl, hb⟩
  exact ⟨rfl, below_step (below_alloc (Below.refl _ _) _) hb⟩
theorem LexH.h4 : LexW.next [34, 92, 117, 100, 56, 48, 48, 120] 12 0 = some (0, [], 0, 0, 8, 50) := by decide +kernel
theorem LexH.ch4 (W : World) (hg : W.cell? ⟨0, 0, none⟩ = some (.iface 98 (.agg #[.pointer (some ⟨2, 46, none⟩)]))) : Calls Tryd.prog 9 #[.slice (some ⟨W.heap.size, 0, none⟩) 8 8, .int .i64 0] (W.alloc (.cells #[.int .u8 34, .int .u8 92, .int .u8 117, .int .u8 100, .int .u8 56, .int .u8 48, .int .u8 48, .int .u8 120] 5 (8, 9))) fun e w' => e = .returned (.tuple #[.agg #[.int .i64 0, .string (⟨#[]⟩ : ByteArray), .int .i64 0, .int .i64 0], .int .i64 8, .int .i64 50]) ∧ Below W.heap.size W w' := by
  refine (lexn_Next.calls 12 (some ⟨W.heap.size, 0, none⟩) 8 [34, 92, 117, 100, 56, 48, 48, 120] 0 0 [] 0 0 8 50 _ (LexT.litm W .u8 [34, 92, 117, 100, 56, 48, 48, 120] 5 (8, 9) (by simp)) (by simp) (by simp) (LexW.at_bytes (by decide)) (pw_cell_below (below_alloc (Below.refl _ _) _) hg) LexH.h4).mono ?_
  rintro e w1 ⟨rfl, hb⟩
  exact ⟨rfl, below_step (below_alloc (Below.refl _ _) _) hb⟩
set_option maxHeartbeats 4000000 in
set_option maxRecDepth 100000 in
theorem lexlaw_heads.calls (w : World) (hgl : w.cell? ⟨0, 0, none⟩ = some (.iface 98 (.agg #[.pointer (some ⟨2, 46, none⟩)]))) : Calls Tryd.prog 11 #[] w fun e w' => e = .returned (.bool true) ∧ Below w.heap.size w w' := by
  have hu25 := Tryd.underlying25
  have HGL := Aside0.mk hgl
  have HB := Aside0.mk (Below.refl w.heap.size w)
  clear hgl
  go_enter Tryd.func11, Tryd.ntmps11
  go_upto_region 1 with (fail)
  go_cut [1, 2, 3] (fun v1 v2 v3 wc => ∃ t1, v1 = .pointer (some ⟨t1, 0, none⟩) ∧ v2 = .int .i64 0 ∧ v3 = .int .i64 0 ∧ Aside0 (Below w.heap.size w wc) ∧ Aside0 (w.heap.size ≤ t1) ∧ Aside0 (wc.heap[t1]? = some (.cells #[.int .i64 1, .string (⟨#[97, 195, 169]⟩ : ByteArray), .int .i64 1, .int .i64 10] 25 (0, 0))))
  case first =>
    go_wp2_with (first | (go_at_call 9; (with_reducible refine (LexH.ch1 _ (pw_cell_below (by repeat (first | exact HB.out | apply below_alloc | apply pw_below_drewN | apply below_drew1)) HGL.out)).mono ?_); rintro e w1 ⟨rfl, hb⟩; have n1_ := Aside0.mk (below_step HB.out hb); clear HB hb; have HB := n1_; clear n1_) | ((with_reducible refine gate_dst (N := 1) rfl ?_); (try (refine gate_guard (by rfl) ?_; dsimp only)); refine box_event ?hg (N := 1) ?hd (cs := #[.int .i64 0, .string (⟨#[]⟩ : ByteArray), .int .i64 0, .int .i64 0]) (t := 25) ?hr ?_; (case hd => rfl); (case hg => rfl); (case hr => first | (go_simp; done) | (go_simp; rfl)); intro t1 hg w2 hbox hb; have n1_ := Aside0.mk (below_step HB.out hb); have HG_ := Aside0.mk (show w.heap.size ≤ t1 by rw [hg]; exact HB.out.size); clear HB; have HB := n1_; have HT := Aside0.mk hbox; clear n1_ hb hbox hg; have ht0 := (blk_cell HT.out 0).trans rfl; have hf0 := blk_frozen HT.out 0; have ht1 := (blk_cell HT.out 1).trans rfl; have hf1 := blk_frozen HT.out 1; have ht2 := (blk_cell HT.out 2).trans rfl; have hf2 := blk_frozen HT.out 2; have ht3 := (blk_cell HT.out 3).trans rfl; have hf3 := blk_frozen HT.out 3))
    go_meet
    case rel => exact ⟨t1, rfl, rfl, rfl, ⟨below_set (below_set (below_set (below_set HB.out HG_.out) HG_.out) HG_.out) HG_.out⟩, HG_, ⟨blk_put (blk_put (blk_put (blk_put HT.out 0 _ rfl) 1 _ rfl) 2 _ rfl) 3 _ rfl⟩⟩
  case rest =>
    clear HB
    obtain ⟨t1, rfl, rfl, rfl, HB, HG_t1, HT_t1⟩ := hcut
    go_upto_region 2 with (fail)
    go_cut [4, 5, 6] (fun v4 v5 v6 wc => ∃ t4, v4 = .pointer (some ⟨t4, 0, none⟩) ∧ v5 = .int .i64 4 ∧ v6 = .int .i64 50 ∧ Aside0 (Below w.heap.size w wc) ∧ Aside0 (w.heap.size ≤ t4) ∧ Aside0 (wc.heap[t4]? = some (.cells #[.int .i64 0, .string (⟨#[]⟩ : ByteArray), .int .i64 0, .int .i64 0] 25 (0, 0))) ∧ Aside0 (wc.heap[t1]? = some (.cells #[.int .i64 1, .string (⟨#[97, 195, 169]⟩ : ByteArray), .int .i64 1, .int .i64 10] 25 (0, 0))) ∧ Aside0 (t1 ≠ t4))
    case first =>
      go_wp2_with (first | (go_at_call 9; (with_reducible refine (LexH.ch2 _ (pw_cell_below (by repeat (first | exact HB.out | apply below_alloc | apply pw_below_drewN | apply below_drew1)) HGL.out)).mono ?_); rintro e w1 ⟨rfl, hb⟩; have n1_ := Aside0.mk (below_step HB.out hb); have m0_ := Aside0.mk (blk_grown HT_t1.out (grown_of_below hb none) (by simp)); clear HT_t1; have HT_t1 := m0_; clear m0_; clear HB hb; have HB := n1_; clear n1_) | ((with_reducible refine gate_dst (N := 4) rfl ?_); (try (refine gate_guard (by rfl) ?_; dsimp only)); refine box_event ?hg (N := 4) ?hd (cs := #[.int .i64 0, .string (⟨#[]⟩ : ByteArray), .int .i64 0, .int .i64 0]) (t := 25) ?hr ?_; (case hd => rfl); (case hg => rfl); (case hr => first | (go_simp; done) | (go_simp; rfl)); intro t4 hg w2 hbox hb; have n1_ := Aside0.mk (below_step HB.out hb); have HG_ := Aside0.mk (show w.heap.size ≤ t4 by rw [hg]; exact HB.out.size); have m0_ := Aside0.mk (blk_grown HT_t1.out (grown_of_below hb none) (by simp)); have HN_t1 := Aside0.mk (show t1 ≠ t4 by rw [hg]; exact Nat.ne_of_lt (blk_lt HT_t1.out)); clear HB; have HB := n1_; clear HT_t1; have HT_t1 := m0_; clear m0_; have HT := Aside0.mk hbox; clear n1_ hb hbox hg; have ht0 := (blk_cell HT.out 0).trans rfl; have hf0 := blk_frozen HT.out 0; have ht1 := (blk_cell HT.out 1).trans rfl; have hf1 := blk_frozen HT.out 1; have ht2 := (blk_cell HT.out 2).trans rfl; have hf2 := blk_frozen HT.out 2; have ht3 := (blk_cell HT.out 3).trans rfl; have hf3 := blk_frozen HT.out 3))
      go_meet
      case rel => exact ⟨t4, rfl, rfl, rfl, ⟨below_set (below_set (below_set (below_set HB.out HG_.out) HG_.out) HG_.out) HG_.out⟩, HG_, ⟨blk_put (blk_put (blk_put (blk_put HT.out 0 _ rfl) 1 _ rfl) 2 _ rfl) 3 _ rfl⟩, ⟨blk_far (blk_far (blk_far (blk_far HT_t1.out HN_t1.out _) HN_t1.out _) HN_t1.out _) HN_t1.out _⟩, HN_t1⟩
    case rest =>
      clear HB HT_t1
      obtain ⟨t4, rfl, rfl, rfl, HB, HG_t4, HT_t4, HT_t1, HN_t1_t4⟩ := hcut
      clear HT_t4
      go_upto_region 3 with (fail)
      go_cut [7, 8, 9] (fun v7 v8 v9 wc => ∃ t7, v7 = .pointer (some ⟨t7, 0, none⟩) ∧ v8 = .int .i64 2 ∧ v9 = .int .i64 50 ∧ Aside0 (Below w.heap.size w wc) ∧ Aside0 (w.heap.size ≤ t7) ∧ Aside0 (wc.heap[t7]? = some (.cells #[.int .i64 0, .string (⟨#[]⟩ : ByteArray), .int .i64 0, .int .i64 0] 25 (0, 0))) ∧ Aside0 (wc.heap[t1]? = some (.cells #[.int .i64 1, .string (⟨#[97, 195, 169]⟩ : ByteArray), .int .i64 1, .int .i64 10] 25 (0, 0))) ∧ Aside0 (t1 ≠ t7))
      case first =>
        go_wp2_with (first | (go_at_call 9; (with_reducible refine (LexH.ch3 _ (pw_cell_below (by repeat (first | exact HB.out | apply below_alloc | apply pw_below_drewN | apply below_drew1)) HGL.out)).mono ?_); rintro e w1 ⟨rfl, hb⟩; have n1_ := Aside0.mk (below_step HB.out hb); have m0_ := Aside0.mk (blk_grown HT_t1.out (grown_of_below hb none) (by simp)); clear HT_t1; have HT_t1 := m0_; clear m0_; clear HB hb; have HB := n1_; clear n1_) | ((with_reducible refine gate_dst (N := 7) rfl ?_); (try (refine gate_guard (by rfl) ?_; dsimp only)); refine box_event ?hg (N := 7) ?hd (cs := #[.int .i64 0, .string (⟨#[]⟩ : ByteArray), .int .i64 0, .int .i64 0]) (t := 25) ?hr ?_; (case hd => rfl); (case hg => rfl); (case hr => first | (go_simp; done) | (go_simp; rfl)); intro t7 hg w2 hbox hb; have n1_ := Aside0.mk (below_step HB.out hb); have HG_ := Aside0.mk (show w.heap.size ≤ t7 by rw [hg]; exact HB.out.size); have m0_ := Aside0.mk (blk_grown HT_t1.out (grown_of_below hb none) (by simp)); have HN_t1 := Aside0.mk (show t1 ≠ t7 by rw [hg]; exact Nat.ne_of_lt (blk_lt HT_t1.out)); clear HB; have HB := n1_; clear HT_t1; have HT_t1 := m0_; clear m0_; have HT := Aside0.mk hbox; clear n1_ hb hbox hg; have ht0 := (blk_cell HT.out 0).trans rfl; have hf0 := blk_frozen HT.out 0; have ht1 := (blk_cell HT.out 1).trans rfl; have hf1 := blk_frozen HT.out 1; have ht2 := (blk_cell HT.out 2).trans rfl; have hf2 := blk_frozen HT.out 2; have ht3 := (blk_cell HT.out 3).trans rfl; have hf3 := blk_frozen HT.out 3))
        go_meet
        case rel => exact ⟨t7, rfl, rfl, rfl, ⟨below_set (below_set (below_set (below_set HB.out HG_.out) HG_.out) HG_.out) HG_.out⟩, HG_, ⟨blk_put (blk_put (blk_put (blk_put HT.out 0 _ rfl) 1 _ rfl) 2 _ rfl) 3 _ rfl⟩, ⟨blk_far (blk_far (blk_far (blk_far HT_t1.out HN_t1.out _) HN_t1.out _) HN_t1.out _) HN_t1.out _⟩, HN_t1⟩
      case rest =>
        clear HB HT_t1
        obtain ⟨t7, rfl, rfl, rfl, HB, HG_t7, HT_t7, HT_t1, HN_t1_t7⟩ := hcut
        clear HT_t7
        go_upto_region 4 with (fail)
        go_cut [10, 11, 12] (fun v10 v11 v12 wc => ∃ t10, v10 = .pointer (some ⟨t10, 0, none⟩) ∧ v11 = .int .i64 8 ∧ v12 = .int .i64 50 ∧ Aside0 (Below w.heap.size w wc) ∧ Aside0 (w.heap.size ≤ t10) ∧ Aside0 (wc.heap[t10]? = some (.cells #[.int .i64 0, .string (⟨#[]⟩ : ByteArray), .int .i64 0, .int .i64 0] 25 (0, 0))) ∧ Aside0 (wc.heap[t1]? = some (.cells #[.int .i64 1, .string (⟨#[97, 195, 169]⟩ : ByteArray), .int .i64 1, .int .i64 10] 25 (0, 0))) ∧ Aside0 (t1 ≠ t10))
        case first =>
          go_wp2_with (first | (go_at_call 9; (with_reducible refine (LexH.ch4 _ (pw_cell_below (by repeat (first | exact HB.out | apply below_alloc | apply pw_below_drewN | apply below_drew1)) HGL.out)).mono ?_); rintro e w1 ⟨rfl, hb⟩; have n1_ := Aside0.mk (below_step HB.out hb); have m0_ := Aside0.mk (blk_grown HT_t1.out (grown_of_below hb none) (by simp)); clear HT_t1; have HT_t1 := m0_; clear m0_; clear HB hb; have HB := n1_; clear n1_) | ((with_reducible refine gate_dst (N := 10) rfl ?_); (try (refine gate_guard (by rfl) ?_; dsimp only)); refine box_event ?hg (N := 10) ?hd (cs := #[.int .i64 0, .string (⟨#[]⟩ : ByteArray), .int .i64 0, .int .i64 0]) (t := 25) ?hr ?_; (case hd => rfl); (case hg => rfl); (case hr => first | (go_simp; done) | (go_simp; rfl)); intro t10 hg w2 hbox hb; have n1_ := Aside0.mk (below_step HB.out hb); have HG_ := Aside0.mk (show w.heap.size ≤ t10 by rw [hg]; exact HB.out.size); have m0_ := Aside0.mk (blk_grown HT_t1.out (grown_of_below hb none) (by simp)); have HN_t1 := Aside0.mk (show t1 ≠ t10 by rw [hg]; exact Nat.ne_of_lt (blk_lt HT_t1.out)); clear HB; have HB := n1_; clear HT_t1; have HT_t1 := m0_; clear m0_; have HT := Aside0.mk hbox; clear n1_ hb hbox hg; have ht0 := (blk_cell HT.out 0).trans rfl; have hf0 := blk_frozen HT.out 0; have ht1 := (blk_cell HT.out 1).trans rfl; have hf1 := blk_frozen HT.out 1; have ht2 := (blk_cell HT.out 2).trans rfl; have hf2 := blk_frozen HT.out 2; have ht3 := (blk_cell HT.out 3).trans rfl; have hf3 := blk_frozen HT.out 3))
          go_meet
          case rel => exact ⟨t10, rfl, rfl, rfl, ⟨below_set (below_set (below_set (below_set HB.out HG_.out) HG_.out) HG_.out) HG_.out⟩, HG_, ⟨blk_put (blk_put (blk_put (blk_put HT.out 0 _ rfl) 1 _ rfl) 2 _ rfl) 3 _ rfl⟩, ⟨blk_far (blk_far (blk_far (blk_far HT_t1.out HN_t1.out _) HN_t1.out _) HN_t1.out _) HN_t1.out _⟩, HN_t1⟩
        case rest =>
          clear HB HT_t1
          obtain ⟨t10, rfl, rfl, rfl, HB, HG_t10, HT_t10, HT_t1, HN_t1_t10⟩ := hcut
          clear HT_t10
          have h_t1_0 := (blk_cell HT_t1.out 0).trans rfl
          have h_t1_1 := (blk_cell HT_t1.out 1).trans rfl
          have h_t1_2 := (blk_cell HT_t1.out 2).trans rfl
          have h_t1_3 := (blk_cell HT_t1.out 3).trans rfl
          go_wp2
          go_ret
          exact ⟨rfl, HB.out⟩

end Go.Proofs.YthoobepfkfjgnaaDoor.PL
