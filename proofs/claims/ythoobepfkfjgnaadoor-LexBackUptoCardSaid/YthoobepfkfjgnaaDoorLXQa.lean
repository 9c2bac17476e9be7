import Derived.Test.YthoobepfkfjgnaaDoorPLx0
import Derived.Test.YthoobepfkfjgnaaDoorLXd
import Derived.Test.YthoobepfkfjgnaaDoorRPa
import Derived.Test.YthoobepfkfjgnaaDoorLexW
import Derived.Lib.SmallJoins
import Derived.WalkLawsBesides
import Derived.Outline
import Derived.StillTailTactics
import Derived.Test.YthoobepfkfjgnaaDoorMore
import Derived.Lib.Bytealg
import Derived.Lib.AppendStr
import Derived.Deep.RegionLaw
namespace Go.Proofs.YthoobepfkfjgnaaDoor.PL
open Go.RowKit Go.Proofs.YthoobepfkfjgnaaDoorW.PrintWords Go.Proofs.YthoobepfkfjgnaaDoorW.PrintLast Go.Proofs.YthoobepfkfjgnaaDoorW.PrintMore
attribute [local go_sem] max2_int min2_int max_two min_two max_three min_three max_four min_four
set_option linter.unusedVariables false
set_option linter.unusedSimpArgs false
-- GIVEN plain making
def LexW.qFrom : List Int := [34, 92, 8, 12, 10, 13, 9]
def LexW.qTo : List Int := [34, 92, 98, 102, 110, 114, 116]
def LexW.hexd (n : Int) : Int := if n < 10 then 48 + n else 87 + n
/-- How a byte is written within quotes. -/
def LexW.qc (c : Int) : List Int :=
  if 0 ≤ LexW.idx c LexW.qFrom then [92, LexW.qTo.getD (LexW.idx c LexW.qFrom).toNat 0] else if c < 32 then [92, 117, 48, 48, 48 + c / 16, LexW.hexd (c % 16)] else [c]
def LexW.quote (l : List Int) : List Int := 34 :: (l.flatMap LexW.qc ++ [34])
theorem LexW.qc_len (c : Int) : (LexW.qc c).length ≤ 6 := by unfold LexW.qc; split; simp; split <;> simp
theorem LexW.body_len : ∀ l : List Int, (l.flatMap LexW.qc).length ≤ 6 * l.length := by
  intro l
  induction l with
  | nil => simp
  | cons c l ih => rw [List.flatMap_cons, List.length_append, List.length_cons]; have := LexW.qc_len c; omega
theorem LexT.quo_idx (c : Int) (h0 : 0 ≤ c) (h1 : c ≤ 255) : Lib.indexByte [34, 92, 8, 12, 10, 13, 9] (UInt8.ofNat c.toNat) = LexW.idx c LexW.qFrom := LexT.idx_eq [34, 92, 8, 12, 10, 13, 9] c h0 h1
theorem LexT.append_str {P : Program} {ops : Array Oper} {rest : List Oper} {o : Oper} {a : Act} {Q : Exit → Act → World → Prop} {w0 W : World} (base : Nat) (hgd : o.guard = none) (sl x : Operand) (t u e : TypeId) (ho : o.op = .call { callee := .builtin .append, args := #[sl, x], argTypes := #[t, u] })
    (ht : P.underlying t = some (.slice e)) (hu : P.underlying u = some .string) (hinfo : (P.info? e).map (fun i => (i.zero, i.size, i.bytes)) = some (some (.int .u8 0), 1, 1)) (v : Value) (xs : List Int) (hs : a.eval sl = v) (y : ByteArray) (hx : a.eval x = .string y)
    (HO : Kd.R (Kd.int .u8) e W base (fun _ => True) v xs) (hne : 0 < xs.length) (HB : Below base w0 W) (hbase : base ≤ W.heap.size) (hl : xs.length + y.size ≤ 140737488355328)
    (h : ∀ v1 w1, Kd.R (Kd.int .u8) e w1 base (fun _ => True) v1 (xs ++ bytesOf y) → Below base w0 w1 → W.grownBy w1 v.ownBlock → (v1.ownBlock = v.ownBlock ∨ ∃ b, v1.ownBlock = some b ∧ W.heap.size ≤ b) → wpList P ops Q rest (a.put o.dst v1) w1) : wpList P ops Q (o :: rest) a W := by
  obtain ⟨i0, hi, hzz⟩ := Option.map_eq_some_iff.1 hinfo
  simp only [Prod.mk.injEq] at hzz
  obtain ⟨hz0, hz1, hz2⟩ := hzz
  have own := Kd.own_of_R HO
  have hxl : (encs (Value.int .u8) xs).length = xs.length := by simp [encs]
  obtain ⟨v', w', hr, h2, h3, _⟩ := Lib.run_append_own_string (P := P) W base t u o.type e i0 ht hu hi hz0 hz1 hz2 v xs.length (encs (Value.int .u8) xs) own y (by simp only [maxLen]; omega) hl hbase
  have hat : v'.ownBlock = v.ownBlock ∨ ∃ b, v'.ownBlock = some b ∧ W.heap.size ≤ b := by
    rcases own.2 with ⟨_, h0⟩ | ⟨g, cap, cur, rfl, hbg, hg, hnc, hcm, hcs, htake⟩
    · omega
    · by_cases hroom : xs.length + y.size ≤ cap
      · have hcs' : cur.size = cap := by simpa using hcs
        have hr2 := Lib.run_append_room_string (P := P) W t u o.type e i0 ht hu hi hz1 g xs.length cap cur hg y hroom (by omega)
        rw [hr2] at hr
        injection hr with hr _
        subst hr
        exact .inl rfl
      · have holds : ∀ j u, (encs (Value.int .u8) xs)[j]? = some u → W.cell? ((⟨g, 0, none⟩ : Addr).add j) = some u := own.cells (g := g) rfl
        have hr2 := Lib.run_append_grow_string (P := P) W t u o.type e i0 (.int .u8 0) ht hu hi hz0 ⟨g, 0, none⟩ xs.length cap (encs (Value.int .u8) xs) (by rw [hz1]; simpa using hxl) holds y (by omega) (by omega) (by rw [hz2]; exact growslice_fits (by omega) (by omega))
        rw [hr2] at hr
        injection hr with hr _
        subst hr
        exact .inr ⟨W.heap.size, rfl, Nat.le_refl _⟩
  have hl2 : (xs ++ bytesOf y).length = xs.length + y.size := by rw [List.length_append, bytesOf_length]
  have hc : encs (Value.int .u8) (xs ++ bytesOf y) = encs (Value.int .u8) xs ++ Lib.strCells y := by
    unfold encs
    rw [List.map_append]
    congr 1
    simp [bytesOf, Lib.strCells]
  refine wpList_plain hgd fun K hK => ?_
  unfold Oper.wp execOp
  simp only [ho, resolve, invoke, builtin, Sem.run_bind, Sem.run_pure, Result.andThen_ok, List.map_toArray, List.map_cons, List.map_nil, hs, hx, hr]
  exact hK _ _ (h v' w' (Kd.R_of_own (by rw [hl2, hc]; exact h2) (fun _ _ => trivial)) (HB.grown h3 hbase (own_base own)) h3 hat)
theorem LexT.and15 (c : Int) (h0 : 0 ≤ c) (h1 : c ≤ 255) : Go.bits .and .u8 c 15 = c % 16 :=
  bits_mask .u8 8 (by decide) (fun x h0 h1 => by rw [IntKind.wrap_u8]; omega) 4 (by decide) c h0 (by omega)
theorem LexT.cell_of {w w2 : World} {a : Addr} {v : Value} (h : w.heap[a.block]? = w2.heap[a.block]?) (hc : w2.cell? a = some v) : w.cell? a = some v := by
  unfold World.cell? at hc ⊢
  rw [h]
  exact hc
set_option maxHeartbeats 4000000 in
set_option maxRecDepth 100000 in
theorem lexn_Quote.calls (s : ByteArray) (hs : s.size ≤ 1048576) (w : World) :
    Calls Tryd.prog 12 #[.string s] w fun e w' => e = .returned (.tuple #[.string (if (Utf.good (bytesOf s)).2 = true then strOfNums (LexW.quote (bytesOf s)) else (⟨#[]⟩ : ByteArray)), .int .i64 (if (Utf.good (bytesOf s)).2 = true then 0 else 10)]) ∧ Below w.heap.size w w' := by
  have hl := bytesOf_length s
  have hby : ∀ x ∈ bytesOf s, 0 ≤ x ∧ x ≤ 255 := by
    intro x hx
    unfold bytesOf at hx
    obtain ⟨b, _, rfl⟩ := List.mem_map.1 hx
    have := b.toNat_lt
    omega
  obtain ⟨l, hle⟩ : ∃ l, l = bytesOf s := ⟨_, rfl⟩
  rw [← hle] at hl hby ⊢
  have hgk := Pure.utf_Points.good_k l (by omega) (l.length + 2) (by omega)
  obtain ⟨gd, hgd⟩ : ∃ g, g = Utf.good l := ⟨_, rfl⟩
  rw [← hgd] at hgk ⊢
  obtain ⟨gn, gok⟩ := gd
  have HGD := Aside0.mk hgk
  have HE := Aside0.mk hle
  have HBY := Aside0.mk hby
  have HB := Aside0.mk (Below.refl w.heap.size w)
  clear hgk hgd hle hby
  have hlen : l.length ≤ 1048576 := by omega
  have HLL := Aside0.mk hl
  clear hl
  cases gok with
  | false =>
    simp only [Bool.false_eq_true, if_false]
    go_enter Tryd.func12, Tryd.ntmps12
    go_wp2_with (first | ((with_reducible refine gate_dst (N := 12) rfl ?_); refine LexT.conv_bytes rfl 9 22 5 (.tmp 11) rfl s rfl Tryd.underlying9 Tryd.underlying22 Tryd.underlying5 (by omega) ?_; intro n1 cv w1 hn hc hR hb; rw [← HE.out] at hR ⊢; rw [← HLL.out] at hc; have HC1 := Aside0.mk hR; have n1_ := Aside0.mk (below_step HB.out hb); clear HB hb hR hn; have HB := n1_; clear n1_) | (go_at_call 16; (with_reducible refine (utf_Good.calls _ _ _ l gn _ _ HC1.out hc HGD.out).mono ?_); rintro e w1 ⟨rfl, hd⟩; have hb := hd.below; clear hd HC1; have n1_ := Aside0.mk (below_step HB.out hb); clear HB hb; have HB := n1_; clear n1_))
    go_ret2
    exact ⟨rfl, HB.out⟩
  | true =>
    simp only [if_true]
    go_enter Tryd.func12, Tryd.ntmps12
    go_wp2_with (first | ((with_reducible refine gate_dst (N := 12) rfl ?_); refine LexT.conv_bytes rfl 9 22 5 (.tmp 11) rfl s rfl Tryd.underlying9 Tryd.underlying22 Tryd.underlying5 (by omega) ?_; intro n1 cv w1 hn hc hR hb; rw [← HE.out] at hR ⊢; rw [← HLL.out] at hc; have HC1 := Aside0.mk hR; have n1_ := Aside0.mk (below_step HB.out hb); clear HB hb hR hn; have HB := n1_; clear n1_) | (go_at_call 16; (with_reducible refine (utf_Good.calls _ _ _ l gn _ _ HC1.out hc HGD.out).mono ?_); rintro e w1 ⟨rfl, hd⟩; have hb := hd.below; clear hd HC1; have n1_ := Aside0.mk (below_step HB.out hb); clear HB hb; have HB := n1_; clear n1_) | ((with_reducible refine gate_dst (N := 18) rfl ?_); refine Kd.R_lit (Kd.int .u8) w.heap.size 5 ?hg (N := 18) ?hd (xs := ([34] : List Int)) (inner := [.int .u8 34]) (ok := fun _ => True) (okp := fun _ => True) ?hr ?hp (fun _ hk => hk) trivial HB.out HB.out.size (by simp) ?_; (case hd => rfl); (case hg => rfl); (case hr => first | (go_simp; done) | (go_simp; rfl)); (case hp => exact (Reps.one (show Kd.M (Kd.int .u8) _ _ _ 34 [.int .u8 34] from rfl) (Reps.none _ _))); intro v18 w18 ho hb hg_ hnew_; clear HB; have HO := Aside0.mk ho; have HB := Aside0.mk hb; clear ho hb hg_ hnew_) | ((with_reducible refine gate_dst (N := 20) rfl ?_); refine LexT.conv_bytes rfl 9 22 5 (.tmp 19) rfl s rfl Tryd.underlying9 Tryd.underlying22 Tryd.underlying5 (by omega) ?_; intro nn cv2 w2 hn hc2 hR hb; rw [← HE.out] at hR ⊢; rw [← HLL.out] at hc2; have HC2 := Aside0.mk hR; have n1_ := Aside0.mk (below_step HB.out hb); have n2_ := Aside0.mk (Kd.R_below HO.out hb); have HNE := Aside0.mk (show some nn ≠ v18.ownBlock by intro h; have := Kd.R_lt HO.out nn h.symm; omega); have HLT := Aside0.mk (fun (hp : 0 < l.length) => (show nn < w2.heap.size from Kd.C_lt HC2.out hp (by decide))); clear HB HO hb hR hn; have HB := n1_; have HO := n2_; clear n1_ n2_))
    clear hc
    go_loopg [6, 22] l.length (fun kq v6 v22 wr => ∃ (i : Nat), v22 = .int .i64 i ∧ i ≤ l.length ∧ kq = l.length - i ∧ Aside0 (Below w.heap.size w wr) ∧ Aside0 (Kd.R (Kd.int .u8) 5 wr w.heap.size (fun _ => True) v6 (34 :: (l.take i).flatMap LexW.qc)) ∧ Aside0 (some nn ≠ v6.ownBlock) ∧ Aside0 (wr.heap[nn]? = w2.heap[nn]?) ∧ Aside0 (0 < l.length → nn < wr.heap.size))
    case atStart => exact ⟨0, rfl, Nat.zero_le _, rfl, HB, by rw [List.take_zero, List.flatMap_nil]; exact HO, HNE, ⟨rfl⟩, HLT⟩
    case round =>
      clear HB HO HNE HLT
      obtain ⟨i, rfl, hi, hk, HB, HO, HNE, HCB, HLT0⟩ := hrel
      by_cases hlt : i < l.length
      · have HLT := Aside0.mk (HLT0.out (by omega))
        clear HLT0
        obtain ⟨ad, e1, hx⟩ := Kd.at_int HC2.out (i : Int) (by omega) (by omega)
        cases e1
        obtain ⟨cc, hcc⟩ : ∃ x, x = l[i] := ⟨_, rfl⟩
        rw [show rd l (i : Int) = cc by rw [hcc]; unfold rd; rw [Int.toNat_natCast, List.getD_eq_getElem?_getD, List.getElem?_eq_getElem hlt]; rfl, Int.toNat_natCast, add_plain] at hx
        replace hx := LexT.cell_of (a := ⟨nn, i, none⟩) HCB.out hx
        have hcb := HBY.out cc (by rw [hcc]; exact List.getElem_mem hlt)
        have HCC := Aside0.mk (show (l.take (i + 1)).flatMap LexW.qc = (l.take i).flatMap LexW.qc ++ LexW.qc cc by rw [hcc, List.take_add_one, List.flatMap_append, List.getElem?_eq_getElem hlt]; simp)
        obtain ⟨o, ho⟩ : ∃ x, x = 34 :: (l.take i).flatMap LexW.qc := ⟨_, rfl⟩
        rw [← ho] at HO
        have HLB := Aside0.mk (show o.length ≤ 7000000 by rw [ho, List.length_cons]; have := LexW.body_len (l.take i); rw [List.length_take] at this; omega)
        have HPO := Aside0.mk (show 0 < o.length by rw [ho, List.length_cons]; omega)
        have HOE := Aside0.mk (show o ++ LexW.qc cc = 34 :: (l.take (i + 1)).flatMap LexW.qc by rw [ho, HCC.out]; rfl)
        have hix := LexT.quo_idx cc hcb.1 hcb.2
        have hrg := LexW.idx_range cc LexW.qFrom
        rw [show LexW.qFrom.length = 7 from rfl] at hrg
        have HQC := Aside0.mk (show LexW.qc cc = if 0 ≤ LexW.idx cc LexW.qFrom then [92, LexW.qTo.getD (LexW.idx cc LexW.qFrom).toNat 0] else if cc < 32 then [92, 117, 48, 48, 48 + cc / 16, LexW.hexd (cc % 16)] else [cc] from rfl)
        obtain ⟨j, hj⟩ : ∃ j, j = LexW.idx cc LexW.qFrom := ⟨_, rfl⟩
        rw [← hj] at hix hrg HQC
        clear hj hcc ho HCC
        by_cases h0 : 0 ≤ j
        · have hqc := HQC.out
          rw [if_pos h0] at hqc
          have hbt : bt (⟨#[34, 92, 98, 102, 110, 114, 116]⟩ : ByteArray) j = LexW.qTo.getD j.toNat 0 := by
            obtain rfl | rfl | rfl | rfl | rfl | rfl | rfl : j = 0 ∨ j = 1 ∨ j = 2 ∨ j = 3 ∨ j = 4 ∨ j = 5 ∨ j = 6 := by omega
            all_goals kernel_rfl
          obtain ⟨xx, hxx⟩ : ∃ x, x = LexW.qTo.getD j.toNat 0 := ⟨_, rfl⟩
          rw [← hxx] at hbt hqc
          have HQ := Aside0.mk hqc
          have q7 : (j < (7 : Int)) = True := eq_true (by omega)
          have hx8 := bt_at (⟨#[34, 92, 98, 102, 110, 114, 116]⟩ : ByteArray) j
          rw [hbt] at hx8
          have p8b : decide (0 ≤ j) = true := decide_eq_true h0
          have p8 : (0 ≤ j) = True := eq_true h0
          clear hqc HQC hxx hbt hrg h0
          go_wp2_with (first | (go_at_call 23; (with_reducible refine (LexT.i23 _ cc _).mono ?_); rintro e w1 ⟨rfl, hd⟩; have hb := hd.below; clear hd; (try rw [hix]); have n1_ := Aside0.mk (below_step HB.out hb); have n2_ := Aside0.mk (Kd.R_below HO.out hb); have n3_ := Aside0.mk ((hb.block nn HLT.out).trans HCB.out); have n4_ := Aside0.mk (Nat.lt_of_lt_of_le HLT.out hb.size); clear HB HO HCB HLT hb; have HB := n1_; have HO := n2_; have HCB := n3_; have HLT := n4_; clear n1_ n2_ n3_ n4_) | ((with_reducible refine gate_dst (N := 38) rfl ?_); refine Kd.R_lit (Kd.int .u8) w.heap.size 5 ?hg (N := 38) ?hd (xs := ([92, xx] : List Int)) (inner := [.int .u8 92, .int .u8 xx]) (ok := fun _ => True) (okp := fun _ => True) ?hr ?hp (fun _ hk => hk) trivial HB.out HB.out.size (by simp) ?_; (case hd => rfl); (case hg => rfl); (case hr => first | (go_simp; done) | (go_simp; rfl)); (case hp => exact (Reps.one (show Kd.M (Kd.int .u8) _ _ _ 92 [.int .u8 92] from rfl) (Reps.one (show Kd.M (Kd.int .u8) _ _ _ xx [.int .u8 xx] from rfl) (Reps.none _ _)))); intro v38 w38 ho hb hg_ hnew_; have m2_ := Aside0.mk (Kd.R_grown HO.out hg_ (by simp)); have m3_ := Aside0.mk ((hg_.block nn HLT.out (by simp)).trans HCB.out); have m4_ := Aside0.mk (Nat.lt_of_lt_of_le HLT.out hg_.size); clear HCB; have HCB := m3_; clear m3_; clear HO HLT; have HOO := m2_; have HLT := m4_; clear m2_ m4_; clear HB; have HLt := Aside0.mk ho; have HO := HOO; clear HOO; have HB := Aside0.mk hb; clear ho hb hg_ hnew_) | ((with_reducible refine gate_builtin (b := .append) (xs := #[.tmp 35, .tmp 38]) rfl ?_); at_builtin; obtain ⟨Al, cl, el⟩ := Kd.R_slice HLt.out; subst el; refine Kd.R_append_rows (Kd.int .u8) (w0 := w) w.heap.size rfl (.tmp 35) (.tmp 38) 22 5 (.int .u8 0) 1 rfl Tryd.underlying22 info5 rfl (by decide) (by omega) _ (o) ([92, xx]) _ _ _ (fun _ => True) (fun _ => False) rfl rfl HO.out (Kd.R_reads' HLt.out).2.2 (fun _ _ h => h) (fun _ h => h.elim) (fun _ _ => trivial) HB.out HB.out.size (by have := HLB.out; first | omega | (simp only [List.length_append, List.length_cons, List.length_nil]; omega)) ?_; intro v39 w39 ho hb hg hat; have m5_ := Aside0.mk (show some nn ≠ v39.ownBlock by rcases hat with h | ⟨b, h1, h2⟩; rw [h]; exact HNE.out; rw [h1]; intro h; injection h with h; have := HLT.out; omega); have m3_ := Aside0.mk ((hg.block nn HLT.out HNE.out).trans HCB.out); have m4_ := Aside0.mk (Nat.lt_of_lt_of_le HLT.out hg.size); clear HCB; have HCB := m3_; clear m3_; clear HLt HNE HLT; have HNE := m5_; have HLT := m4_; clear m5_ m4_; clear HB HO; have HO := Aside0.mk ho; have HB := Aside0.mk hb; clear ho hb hg hat))
          go_roundg (l.length - (i + 1))
          case measure => omega
          case rel => exact ⟨i + 1, by go_num, by omega, rfl, HB, ⟨by rw [← HOE.out, HQ.out]; exact HO.out⟩, HNE, HCB, ⟨fun _ => HLT.out⟩⟩
        · have hjb : decide (0 ≤ j) = false := decide_eq_false h0
          have hqc := HQC.out
          rw [if_neg h0] at hqc
          clear h0 HQC
          by_cases h32 : cc < 32
          · have b32 : decide (cc < 32) = true := decide_eq_true h32
            rw [if_pos h32] at hqc
            obtain ⟨x1, hx1⟩ : ∃ x, x = 48 + cc / 16 := ⟨_, rfl⟩
            obtain ⟨x2, hx2⟩ : ∃ x, x = LexW.hexd (cc % 16) := ⟨_, rfl⟩
            rw [← hx1, ← hx2] at hqc
            have HQ := Aside0.mk hqc
            have HX1 := Aside0.mk hx1
            have HX2 := Aside0.mk hx2
            have H32 := Aside0.mk h32
            clear hqc h32 hx1 hx2
            go_upto_region 14 with (first | (go_at_call 23; (with_reducible refine (LexT.i23 _ cc _).mono ?_); rintro e w1 ⟨rfl, hd⟩; have hb := hd.below; clear hd; (try rw [hix]); have n1_ := Aside0.mk (below_step HB.out hb); have n2_ := Aside0.mk (Kd.R_below HO.out hb); have n3_ := Aside0.mk ((hb.block nn HLT.out).trans HCB.out); have n4_ := Aside0.mk (Nat.lt_of_lt_of_le HLT.out hb.size); clear HB HO HCB HLT hb; have HB := n1_; have HO := n2_; have HCB := n3_; have HLT := n4_; clear n1_ n2_ n3_ n4_) | ((with_reducible refine gate_builtin (b := .append) (xs := #[.tmp 43, .const (.string (⟨#[92, 117, 48, 48]⟩ : ByteArray))]) rfl ?_); at_builtin; refine LexT.append_str (w0 := w) w.heap.size rfl (.tmp 43) _ 22 9 5 rfl Tryd.underlying22 Tryd.underlying9 info5 _ o rfl (⟨#[92, 117, 48, 48]⟩ : ByteArray) rfl HO.out HPO.out HB.out HB.out.size (by have := HLB.out; show o.length + 4 ≤ _; omega) ?_; intro v44 w44 ho hb hg hat; rw [show bytesOf (⟨#[92, 117, 48, 48]⟩ : ByteArray) = [92, 117, 48, 48] from rfl] at ho; have m5_ := Aside0.mk (show some nn ≠ v44.ownBlock by rcases hat with h | ⟨b, h1, h2⟩; rw [h]; exact HNE.out; rw [h1]; intro h; injection h with h; have := HLT.out; omega); have m3_ := Aside0.mk ((hg.block nn HLT.out HNE.out).trans HCB.out); have m4_ := Aside0.mk (Nat.lt_of_lt_of_le HLT.out hg.size); clear HCB HNE HLT HB HO; have HCB := m3_; have HNE := m5_; have HLT := m4_; have HO := Aside0.mk ho; have HB := Aside0.mk hb; clear m3_ m5_ m4_ ho hb hg hat))
            clear hx
            have h32 := H32.out
            have hy1r : 0 ≤ (cc / 16) ∧ (cc / 16) < 2 := by omega
            have hy2r : 0 ≤ (cc % 16) ∧ (cc % 16) < 16 := by omega
            have hand : Go.bits .and .u8 cc 15 = cc % 16 := LexT.and15 cc hcb.1 hcb.2
            have hb1 : bt (⟨#[48, 49]⟩ : ByteArray) (cc / 16) = x1 := by
              rw [HX1.out]
              obtain h | h : (cc / 16) = 0 ∨ (cc / 16) = 1 := by omega
              all_goals (rw [h]; kernel_rfl)
            have hb2 : bt (⟨#[48, 49, 50, 51, 52, 53, 54, 55, 56, 57, 97, 98, 99, 100, 101, 102]⟩ : ByteArray) (cc % 16) = x2 := by
              rw [HX2.out]
              obtain h | h | h | h | h | h | h | h | h | h | h | h | h | h | h | h : (cc % 16) = 0 ∨ (cc % 16) = 1 ∨ (cc % 16) = 2 ∨ (cc % 16) = 3 ∨ (cc % 16) = 4 ∨ (cc % 16) = 5 ∨ (cc % 16) = 6 ∨ (cc % 16) = 7 ∨ (cc % 16) = 8 ∨ (cc % 16) = 9 ∨ (cc % 16) = 10 ∨ (cc % 16) = 11 ∨ (cc % 16) = 12 ∨ (cc % 16) = 13 ∨ (cc % 16) = 14 ∨ (cc % 16) = 15 := by omega
              all_goals (rw [h]; kernel_rfl)
            have bx1 := bt_at (⟨#[48, 49]⟩ : ByteArray) (cc / 16)
            rw [hb1] at bx1
            have bx2 := bt_at (⟨#[48, 49, 50, 51, 52, 53, 54, 55, 56, 57, 97, 98, 99, 100, 101, 102]⟩ : ByteArray) (cc % 16)
            rw [hb2] at bx2
            have p1 : (0 ≤ (cc / 16)) = True := eq_true hy1r.1
            have p2 : (0 ≤ (cc % 16)) = True := eq_true hy2r.1
            have p1b : decide (0 ≤ (cc / 16)) = true := decide_eq_true hy1r.1
            have p2b : decide (0 ≤ (cc % 16)) = true := decide_eq_true hy2r.1
            have q1 : ((cc / 16) < (2 : Int)) = True := eq_true hy1r.2
            have q2 : ((cc % 16) < (16 : Int)) = True := eq_true hy2r.2
            clear hb1 hb2 h32 hy1r hy2r
            go_region_law (refine Kd.R_append_rows_step (Kd.int .u8) (w0 := w) w.heap.size (by rfl) (.tmp 45) (.tmp 52) 22 5 (.int .u8 0) 1 rfl Tryd.underlying22 info5 rfl (by decide) (by omega) v44 (o ++ [92, 117, 48, 48]) [x1, x2] _ _ _ (fun _ => True) (fun _ => False) rfl rfl (Kd.R_drew (Kd.R_alloc HO.out _)) (Kd.C_drew (show Kd.C (Kd.int .u8) (w44.alloc (.cells #[.int .u8 x1, .int .u8 x2] 5)) (some ⟨w44.heap.size, 0, none⟩) 2 [x1, x2] from LexT.lit w44 .u8 [x1, x2] 5 _ rfl (by simp))) (fun _ _ h => h) (fun _ h => h.elim) (fun _ _ => trivial) (below_drew1 (below_alloc HB.out _)) (below_drew1 (below_alloc HB.out _)).size (by have := HLB.out; simp only [List.length_append, List.length_cons, List.length_nil]; omega) ?_; intro v53 w53 ho hb hg hat; have m6_ := (show nn < (w44.alloc (.cells #[.int .u8 x1, .int .u8 x2] 5)).drew.heap.size from Nat.lt_of_lt_of_le HLT.out (below_alloc (Below.refl w44.heap.size w44) _).size); have m5_ := Aside0.mk (show some nn ≠ v53.ownBlock by rcases hat with h | ⟨b, h1, h2⟩; rw [h]; exact HNE.out; rw [h1]; intro h; injection h with h; omega); have m3_ := Aside0.mk (((hg.block nn m6_ HNE.out).trans (show (w44.alloc (.cells #[.int .u8 x1, .int .u8 x2] 5)).drew.heap[nn]? = w44.heap[nn]? from Below.heap_alloc w44 _ nn HLT.out)).trans HCB.out); have m4_ := Aside0.mk (Nat.lt_of_lt_of_le m6_ hg.size); clear HCB m6_ HNE HLT HB HO; have HCB := m3_; have HNE := m5_; have HLT := m4_; have HO := Aside0.mk ho; have HB := Aside0.mk hb; clear m3_ m5_ m4_ ho hb hg hat)
            all_goals go_wp2
            all_goals (go_roundg (l.length - (i + 1)); (case measure => omega); (case rel => exact ⟨i + 1, by go_num, by omega, rfl, HB, ⟨by rw [← HOE.out, HQ.out]; exact (by simpa using HO.out)⟩, HNE, HCB, ⟨fun _ => HLT.out⟩⟩))
          · have b32 : decide (cc < 32) = false := decide_eq_false h32
            rw [if_neg h32] at hqc
            have HQ := Aside0.mk hqc
            clear hqc h32
            go_wp2_with (first | (go_at_call 23; (with_reducible refine (LexT.i23 _ cc _).mono ?_); rintro e w1 ⟨rfl, hd⟩; have hb := hd.below; clear hd; (try rw [hix]); have n1_ := Aside0.mk (below_step HB.out hb); have n2_ := Aside0.mk (Kd.R_below HO.out hb); have n3_ := Aside0.mk ((hb.block nn HLT.out).trans HCB.out); have n4_ := Aside0.mk (Nat.lt_of_lt_of_le HLT.out hb.size); clear HB HO HCB HLT hb; have HB := n1_; have HO := n2_; have HCB := n3_; have HLT := n4_; clear n1_ n2_ n3_ n4_) | ((with_reducible refine gate_dst (N := 30) rfl ?_); refine Kd.R_lit (Kd.int .u8) w.heap.size 5 ?hg (N := 30) ?hd (xs := ([cc] : List Int)) (inner := [.int .u8 cc]) (ok := fun _ => True) (okp := fun _ => True) ?hr ?hp (fun _ hk => hk) trivial HB.out HB.out.size (by simp) ?_; (case hd => rfl); (case hg => rfl); (case hr => first | (go_simp; done) | (go_simp; rfl)); (case hp => exact (Reps.one (show Kd.M (Kd.int .u8) _ _ _ cc [.int .u8 cc] from rfl) (Reps.none _ _))); intro v30 w30 ho hb hg_ hnew_; have m2_ := Aside0.mk (Kd.R_grown HO.out hg_ (by simp)); have m3_ := Aside0.mk ((hg_.block nn HLT.out (by simp)).trans HCB.out); have m4_ := Aside0.mk (Nat.lt_of_lt_of_le HLT.out hg_.size); clear HCB; have HCB := m3_; clear m3_; clear HO HLT; have HOO := m2_; have HLT := m4_; clear m2_ m4_; clear HB; have HLt := Aside0.mk ho; have HO := HOO; clear HOO; have HB := Aside0.mk hb; clear ho hb hg_ hnew_) | ((with_reducible refine gate_builtin (b := .append) (xs := #[.tmp 28, .tmp 30]) rfl ?_); at_builtin; obtain ⟨Al, cl, el⟩ := Kd.R_slice HLt.out; subst el; refine Kd.R_append_rows (Kd.int .u8) (w0 := w) w.heap.size rfl (.tmp 28) (.tmp 30) 22 5 (.int .u8 0) 1 rfl Tryd.underlying22 info5 rfl (by decide) (by omega) _ (o) ([cc]) _ _ _ (fun _ => True) (fun _ => False) rfl rfl HO.out (Kd.R_reads' HLt.out).2.2 (fun _ _ h => h) (fun _ h => h.elim) (fun _ _ => trivial) HB.out HB.out.size (by have := HLB.out; first | omega | (simp only [List.length_append, List.length_cons, List.length_nil]; omega)) ?_; intro v31 w31 ho hb hg hat; have m5_ := Aside0.mk (show some nn ≠ v31.ownBlock by rcases hat with h | ⟨b, h1, h2⟩; rw [h]; exact HNE.out; rw [h1]; intro h; injection h with h; have := HLT.out; omega); have m3_ := Aside0.mk ((hg.block nn HLT.out HNE.out).trans HCB.out); have m4_ := Aside0.mk (Nat.lt_of_lt_of_le HLT.out hg.size); clear HCB; have HCB := m3_; clear m3_; clear HLt HNE HLT; have HNE := m5_; have HLT := m4_; clear m5_ m4_; clear HB HO; have HO := Aside0.mk ho; have HB := Aside0.mk hb; clear ho hb hg hat))
            go_roundg (l.length - (i + 1))
            case measure => omega
            case rel => exact ⟨i + 1, by go_num, by omega, rfl, HB, ⟨by rw [← HOE.out, HQ.out]; exact HO.out⟩, HNE, HCB, ⟨fun _ => HLT.out⟩⟩
      · obtain rfl : i = l.length := by omega
        obtain ⟨o, ho⟩ : ∃ x, x = 34 :: (l.take l.length).flatMap LexW.qc := ⟨_, rfl⟩
        rw [← ho] at HO
        have HLB := Aside0.mk (show o.length ≤ 7000000 by rw [ho, List.length_cons]; have := LexW.body_len (l.take l.length); rw [List.length_take] at this; omega)
        have HOE := Aside0.mk (show o ++ [34] = LexW.quote l by rw [ho, List.take_length]; rfl)
        clear ho HLT0
        go_upto_region 16 with (fail)
        go_wp2_with (first | ((with_reducible refine gate_dst (N := 56) rfl ?_); refine Kd.R_lit (Kd.int .u8) w.heap.size 5 ?hg (N := 56) ?hd (xs := ([34] : List Int)) (inner := [.int .u8 34]) (ok := fun _ => True) (okp := fun _ => True) ?hr ?hp (fun _ hk => hk) trivial HB.out HB.out.size (by simp) ?_; (case hd => rfl); (case hg => rfl); (case hr => first | (go_simp; done) | (go_simp; rfl)); (case hp => exact (Reps.one (show Kd.M (Kd.int .u8) _ _ _ 34 [.int .u8 34] from rfl) (Reps.none _ _))); intro v56 w56 ho hb hg_ hnew_; have m2_ := Aside0.mk (Kd.R_grown HO.out hg_ (by simp)); clear HO; have HOO := m2_; clear m2_; clear HB; have HLt := Aside0.mk ho; have HO := HOO; clear HOO; have HB := Aside0.mk hb; clear ho hb hg_ hnew_) | ((with_reducible refine gate_builtin (b := .append) (xs := #[.tmp 55, .tmp 56]) rfl ?_); at_builtin; obtain ⟨Al, cl, el⟩ := Kd.R_slice HLt.out; subst el; refine Kd.R_append_rows (Kd.int .u8) (w0 := w) w.heap.size rfl (.tmp 55) (.tmp 56) 22 5 (.int .u8 0) 1 rfl Tryd.underlying22 info5 rfl (by decide) (by omega) _ (o) ([34]) _ _ _ (fun _ => True) (fun _ => False) rfl rfl HO.out (Kd.R_reads' HLt.out).2.2 (fun _ _ h => h) (fun _ h => h.elim) (fun _ _ => trivial) HB.out HB.out.size (by have := HLB.out; first | omega | (simp only [List.length_cons, List.length_nil]; omega)) ?_; intro v57 w57 ho hb hg hat; rw [HOE.out] at ho; clear HLt; obtain ⟨Ao, co, eo⟩ := Kd.R_slice ho; subst eo; have hcv := Kd.C_string (P := Tryd.prog) (A := Ao) (c := co) Tryd.underlying22 Tryd.underlying5 Tryd.underlying9 (Kd.R_reads' ho).2.2; clear HB HO; have HO := Aside0.mk ho; have HB := Aside0.mk hb; clear ho hb hg hat))
        go_ret2
        exact ⟨rfl, HB.out⟩

end Go.Proofs.YthoobepfkfjgnaaDoor.PL
