-- Written by printx.py (this claim's own program, over the kit's print): the functions that this claim reaches. Not trusted: Lean checks it.
import Derived.Test.YthoobepfkfjgnaaDoorPLx0
namespace Go.Proofs.YthoobepfkfjgnaaDoor.PL
open Go.RowKit Go.Proofs.YthoobepfkfjgnaaDoorW.PrintWords Go.Proofs.YthoobepfkfjgnaaDoorW.PrintLast Go.Proofs.YthoobepfkfjgnaaDoorW.PrintMore
attribute [local go_sem] max2_int min2_int max_two min_two max_three min_three max_four min_four   -- for this text's walks alone
set_option linter.unusedVariables false
set_option linter.unusedSimpArgs false

/-! ### utf_scalar: function 65 -/
def utf_scalar.f (a0 : Int) : Option (Bool) := if a0 ≥ 0 then (if a0 ≤ 1114111 then (if a0 < 55296 then (some true) else (some (decide (a0 ≥ 57344)))) else (some false)) else (some false)
set_option maxHeartbeats 8000000 in
set_option maxRecDepth 100000 in
theorem utf_scalar.calls (a0 : Int) (r : Bool) (w : World) (h : utf_scalar.f a0 = some r) :
    Calls Tryd.prog 65 #[.int .i64 a0] w fun e w' => e = .returned (.bool r) ∧ Drawn0 w w' := by
  have H : (if a0 ≥ 0 then (if a0 ≤ 1114111 then (if a0 < 55296 then (some true) else (some (decide (a0 ≥ 57344)))) else (some false)) else (some false)) = some r := h
  clear h
  by_cases c2 : a0 ≥ 0
  · rw [if_pos c2] at H
    have c2b0 : decide (0 ≤ a0) = true := decide_eq_true c2
    clear c2
    by_cases c3 : a0 ≤ 1114111
    · rw [if_pos c3] at H
      have c3b0 : decide (a0 ≤ 1114111) = true := decide_eq_true c3
      clear c3
      by_cases c4 : a0 < 55296
      · rw [if_pos c4] at H
        have c4b0 : decide (a0 < 55296) = true := decide_eq_true c4
        clear c4
        obtain rfl := Option.some.inj H
        go_enter Tryd.func65, Tryd.ntmps65
        go_wp2
        go_ret
        exact ⟨by first | rfl | (simp; done) | (simp [*]; done), by repeat (first | exact Drawn0.refl _ | apply Drawn0.step)⟩
      · rw [if_neg c4] at H
        have c4b0 : decide (a0 < 55296) = false := decide_eq_false c4
        clear c4
        obtain rfl := Option.some.inj H
        go_enter Tryd.func65, Tryd.ntmps65
        go_wp2
        go_ret
        exact ⟨by first | rfl | (simp; done) | (simp [*]; done), by repeat (first | exact Drawn0.refl _ | apply Drawn0.step)⟩
    · rw [if_neg c3] at H
      have c3b0 : decide (a0 ≤ 1114111) = false := decide_eq_false c3
      clear c3
      obtain rfl := Option.some.inj H
      go_enter Tryd.func65, Tryd.ntmps65
      go_wp2
      go_ret
      exact ⟨by first | rfl | (simp; done) | (simp [*]; done), by repeat (first | exact Drawn0.refl _ | apply Drawn0.step)⟩
  · rw [if_neg c2] at H
    have c2b0 : decide (0 ≤ a0) = false := decide_eq_false c2
    clear c2
    obtain rfl := Option.some.inj H
    go_enter Tryd.func65, Tryd.ntmps65
    go_wp2
    go_ret
    exact ⟨by first | rfl | (simp; done) | (simp [*]; done), by repeat (first | exact Drawn0.refl _ | apply Drawn0.step)⟩

/-! ### utf_joined: function 66: given -/
-- GIVEN plain making
def utf_joined.f (l0 : List Int) (l1 : List Int) : Option (List Int) := if l0.length + l1.length < 140737488355328 then some (l0 ++ l1) else none
theorem utf_joined.info : (Tryd.prog.info? 5).map (fun i => (i.zero, i.size, i.bytes)) = some (some (.int .u8 0), 1, 1) := by kernel_rfl
set_option maxHeartbeats 4000000 in
set_option maxRecDepth 100000 in
theorem utf_joined.calls (A0 : Option Addr) (c0 : Nat) (l0 : List Int) (A1 : Option Addr) (c1 : Nat) (l1 : List Int) (r : List Int) (w : World) (hr0 : Kd.C (Kd.int .u8) w A0 l0.length l0) (hc0 : l0.length ≤ c0) (hr1 : Kd.C (Kd.int .u8) w A1 l1.length l1) (hc1 : l1.length ≤ c1) (h : utf_joined.f l0 l1 = some r) :
    Calls Tryd.prog 66 #[.slice A0 l0.length c0, .slice A1 l1.length c1] w fun e w' => ∃ v0_ : Value, e = .returned (v0_) ∧ Kd.R (Kd.int .u8) 5 w' w.heap.size (fun _ => True) v0_ r ∧ Below w.heap.size w w' := by
  unfold utf_joined.f at h
  by_cases hlim : l0.length + l1.length < 140737488355328
  · rw [if_pos hlim] at h
    obtain rfl := Option.some.inj h
    clear h
    obtain ⟨i0, hi, hz0, hz1, hz2⟩ := info_parts utf_joined.info
    have HR0 := Aside0.mk hr0
    have HR1 := Aside0.mk hr1
    clear hr0 hr1
    have HI := Aside0.mk hi
    have HZ0 := Aside0.mk hz0
    have HZ1 := Aside0.mk hz1
    have HZ2 := Aside0.mk hz2
    clear hi hz0 hz1 hz2
    go_enter Tryd.func66, Tryd.ntmps66
    go_wp2_with (first | ((with_reducible refine gate_dst (N := 10) rfl ?_); refine wpList_make_own _ rfl (.const (.int .i64 0)) (.tmp 9) 22 rfl w.heap.size 5 i0 (.int .u8 0) 1 Tryd.underlying22 HI.out HZ0.out HZ1.out .i64 .i64 _ (l0.length + l1.length) rfl rfl ?cN ?cB ?cM (Nat.le_refl _) ?_; (case cN => simp); (case cB => rw [HZ2.out]; omega); (case cM => unfold maxLen; omega); intro w1 hown hg; have HB1 := Aside0.mk ((Below.refl w.heap.size w).grown hg (Nat.le_refl _) (fun _ hk => by cases hk)); have HO1 := Aside0.mk (Kd.R_of_own (enc := Value.int .u8) (h1 := fun _ => rfl) (ok := fun _ => True) (xs := []) hown (fun _ _ => trivial)); clear hown hg; (obtain ⟨v1, hv1⟩ : ∃ v1 : Value, v1 = .slice (some ⟨w.heap.size, 0, none⟩) 0 (l0.length + l1.length) := ⟨_, rfl⟩); rw [← hv1] at HO1 ⊢; clear hv1) | ((with_reducible refine gate_builtin (b := .append) (xs := #[.tmp 10, .tmp 11]) rfl ?_); at_builtin; refine Kd.R_append_rows (Kd.int .u8) (w0 := w) w.heap.size rfl (.tmp 10) (.tmp 11) 22 5 (.int .u8 0) 1 rfl Tryd.underlying22 utf_joined.info rfl (by decide) (by omega) v1 [] l0 _ _ _ (fun _ => True) (fun _ => False) rfl rfl HO1.out (Kd.C_below HR0.out HB1.out) (fun _ _ h => h) (fun _ h => h.elim) (fun _ _ => trivial) HB1.out HB1.out.size ?cL ?_; (case cL => simp; omega); intro v2 w2 ho2 hb2 hg2 hat2; have HB2 := Aside0.mk hb2; have HO2 := Aside0.mk ho2; clear hb2 ho2 hg2 hat2) | ((with_reducible refine gate_builtin (b := .append) (xs := #[.tmp 12, .tmp 13]) rfl ?_); at_builtin; refine Kd.R_append_rows (Kd.int .u8) (w0 := w) w.heap.size rfl (.tmp 12) (.tmp 13) 22 5 (.int .u8 0) 1 rfl Tryd.underlying22 utf_joined.info rfl (by decide) (by omega) v2 ([] ++ l0) l1 _ _ _ (fun _ => True) (fun _ => False) rfl rfl HO2.out (Kd.C_below HR1.out HB2.out) (fun _ _ h => h) (fun _ h => h.elim) (fun _ _ => trivial) HB2.out HB2.out.size ?cL2 ?_; (case cL2 => simp; omega); intro v3 w3 ho3 hb3 hg3 hat3; have HB3 := Aside0.mk hb3; have HO3 := Aside0.mk ho3; clear hb3 ho3 hg3 hat3))
    go_ret
    exact ⟨_, rfl, HO3.out, HB3.out⟩
  · rw [if_neg hlim] at h
    exact absurd h (by simp)


/-! ### utf_tail: function 67 -/
def utf_tail.f (a0 : Int) (a1 : Int) : Option (Int) := if 0 ≤ a1 then (some ((Go.bits .or .i64 128 (Go.bits .and .i64 (shr .i64 a0 a1) 63)) % 256)) else (none)
set_option maxHeartbeats 8000000 in
set_option maxRecDepth 100000 in
theorem utf_tail.calls (a0 : Int) (a1 : Int) (r : Int) (w : World) (h : utf_tail.f a0 a1 = some r) :
    Calls Tryd.prog 67 #[.int .i64 a0, .int .i64 a1] w fun e w' => e = .returned (.int .u8 r) ∧ Drawn0 w w' := by
  have H : (if 0 ≤ a1 then (some ((Go.bits .or .i64 128 (Go.bits .and .i64 (shr .i64 a0 a1) 63)) % 256)) else (none)) = some r := h
  clear h
  by_cases c3 : 0 ≤ a1
  · rw [if_pos c3] at H
    have c3b0 := eq_true c3
    have c3b1 : decide (0 ≤ a1) = true := decide_eq_true c3
    clear c3
    obtain ⟨ji4, hji4⟩ : ∃ j_ : Int, (shr .i64 a0 a1) = j_ := ⟨_, rfl⟩
    replace H : (some ((Go.bits .or .i64 128 (Go.bits .and .i64 (ji4) 63)) % 256)) = some r := by first | (rw [hji4] at H; exact H) | (simp only [hji4] at H ⊢; exact H)
    have hji4_ : (a0 / 2 ^ min a1.toNat 64) = ji4 := hji4
    have hji4z : a1 ≤ 64 → (a0 / 2 ^ a1.toNat) = ji4 := shr_small hji4
    obtain rfl := Option.some.inj H
    go_enter Tryd.func67, Tryd.ntmps67
    go_wp2
    go_ret
    exact ⟨by first | rfl | (simp; done) | (simp only [← hji4] <;> (first | rfl | simp)) | (simp [*]; done), by repeat (first | exact Drawn0.refl _ | apply Drawn0.step)⟩
  · rw [if_neg c3] at H
    exact absurd H (by simp)

/-! ### utf_Put: function 49: given -/
-- GIVEN plain making
/-- A tail byte, as the walk spells it. -/
def utf_Put.T (p s : Int) : Int := (Go.bits .or .i64 128 (Go.bits .and .i64 (shr .i64 p s) 63)) % 256
def utf_Put.f (l0 : List Int) (a1 : Int) : Option (List Int × Int) := (utf_scalar.f a1).bind fun t => if t = true then (if a1 < 128 then (utf_joined.f l0 [a1]).bind fun r => some (r, 0) else if a1 < 2048 then (utf_joined.f l0 [(Go.bits .or .i64 192 (a1 / 64)) % 256, utf_Put.T a1 0]).bind fun r => some (r, 0) else if a1 < 65536 then (utf_joined.f l0 [(Go.bits .or .i64 224 (a1 / 4096)) % 256, utf_Put.T a1 6, utf_Put.T a1 0]).bind fun r => some (r, 0) else (utf_joined.f l0 [(Go.bits .or .i64 240 (a1 / 262144)) % 256, utf_Put.T a1 12, utf_Put.T a1 6, utf_Put.T a1 0]).bind fun r => some (r, 0)) else some ([], 2)
theorem utf_Put.tail (p s : Int) (h : 0 ≤ s) : utf_tail.f p s = some (utf_Put.T p s) := by unfold utf_tail.f utf_Put.T; rw [if_pos h]
theorem utf_Put.lit (W : World) (k : IntKind) (xs : List Int) (e : TypeId) (n : Nat) (hn : n = W.heap.size) (hx : xs.length ≤ 9223372036854775807) : Kd.C (Kd.int k) (W.alloc (.cells (xs.map (Value.int k)).toArray e)) (some ⟨n, 0, none⟩) xs.length xs := by
  subst hn
  refine Kd.C_of_reads (d := (0 : Int)) (h1 := fun _ => rfl) ⟨rfl, hx, fun _ => ⟨_, rfl, fun j hj => ?_⟩⟩
  rw [add_plain]
  have h1 : (W.alloc (.cells (xs.map (Value.int k)).toArray e)).heap[W.heap.size]? = some (.cells (xs.map (Value.int k)).toArray e) := by
    show (W.heap.push _)[W.heap.size]? = _
    simp
  unfold World.cell?
  rw [h1]
  simp [List.getElem?_eq_getElem hj]
set_option maxHeartbeats 4000000 in
set_option maxRecDepth 100000 in
theorem utf_Put.calls (A0 : Option Addr) (c0 : Nat) (l0 : List Int) (a1 : Int) (r1 : List Int) (r2 : Int) (w : World) (hr0 : Kd.C (Kd.int .u8) w A0 l0.length l0) (hc0 : l0.length ≤ c0) (h : utf_Put.f l0 a1 = some (r1, r2)) :
    Calls Tryd.prog 49 #[.slice A0 l0.length c0, .int .i64 a1] w fun e w' => ∃ v0_ : Value, e = .returned (.tuple #[v0_, .int .i64 r2]) ∧ Kd.R (Kd.int .u8) 5 w' w.heap.size (fun _ => True) v0_ r1 ∧ Below w.heap.size w w' := by
  unfold utf_Put.f at h
  have hU := h
  clear h
  obtain ⟨t, hs, h⟩ := Option.bind_eq_some_iff.mp hU
  clear hU
  have HS := Aside0.mk hs
  have HR0 := Aside0.mk hr0
  have hb1 : 0 ≤ a1 ∧ a1 ≤ 1114111 ∨ t = false := by
    unfold utf_scalar.f at hs
    by_cases h1 : a1 ≥ 0
    · by_cases h2 : a1 ≤ 1114111
      · exact .inl ⟨h1, h2⟩
      · rw [if_pos h1, if_neg h2] at hs; exact .inr (Option.some.inj hs).symm
    · rw [if_neg h1] at hs; exact .inr (Option.some.inj hs).symm
  clear hs hr0
  cases t with
  | false =>
    rw [if_neg (by decide)] at h
    obtain ⟨rfl, rfl⟩ := Prod.mk.inj (Option.some.inj h)
    clear h hb1
    go_enter Tryd.func49, Tryd.ntmps49
    go_wp2_with (go_at_call 65; refine (utf_scalar.calls a1 false _ HS.out).mono ?_; rintro e w' ⟨rfl, ⟨nd, rfl⟩⟩)
    go_ret2
    exact ⟨_, rfl, Kd.R_nil _ _ _ _ _, by repeat (first | exact Below.refl _ _ | apply pw_below_drewN | apply below_drew)⟩
  | true =>
    rw [if_pos rfl] at h
    obtain ⟨h0, h1⟩ : 0 ≤ a1 ∧ a1 ≤ 1114111 := hb1.resolve_right (by decide)
    clear hb1
    by_cases k0 : a1 < 128
    · rw [if_pos k0] at h
      have hU := h
      clear h
      obtain ⟨rr, hj, h⟩ := Option.bind_eq_some_iff.mp hU
      obtain ⟨rfl, rfl⟩ := Prod.mk.inj (Option.some.inj h)
      have HJ := Aside0.mk hj
      clear h hj hU
      have hu := Tryd.underlying121
      go_enter Tryd.func49, Tryd.ntmps49
      go_wp2_with (first | (go_at_call 65; refine (utf_scalar.calls a1 true _ HS.out).mono ?_; rintro e w0 ⟨rfl, hd⟩; have HD := Aside0.mk hd.below; clear hd) | (go_at_call 66; (refine (utf_joined.calls _ _ l0 _ _ [a1] rr _ ?sa hc0 ?sb (Nat.le_refl _) HJ.out).mono ?_); (case sa => repeat (first | exact Kd.C_below HR0.out HD.out | refine Kd.C_alloc ?_ _ | refine Kd.C_drewN ?_ _ | refine Kd.C_drew ?_)); (case sb => exact utf_Put.lit _ .u8 [a1] _ _ (by simp) (by simp)); rintro e w1 ⟨v0, rfl, hR, hB⟩; have HR1 := Aside0.mk hR; have HB1 := Aside0.mk hB; clear hR hB))
      go_ret2
      exact ⟨_, rfl, Kd.R_lower HR1.out (by have := HD.out.size; simp; omega), (by repeat (first | exact HD.out | apply below_alloc | apply pw_below_drewN | apply below_drew) : Below w.heap.size w _).trans (HB1.out.mono (by have := HD.out.size; simp; omega))⟩
    · rw [if_neg k0] at h
      by_cases k1 : a1 < 2048
      · rw [if_pos k1] at h
        have hU := h
        clear h
        obtain ⟨rr, hj, h⟩ := Option.bind_eq_some_iff.mp hU
        obtain ⟨rfl, rfl⟩ := Prod.mk.inj (Option.some.inj h)
        have HJ := Aside0.mk hj
        clear h hj hU
        have hu := Tryd.underlying121
        go_enter Tryd.func49, Tryd.ntmps49
        go_wp2_with (first | (go_at_call 65; refine (utf_scalar.calls a1 true _ HS.out).mono ?_; rintro e w0 ⟨rfl, hd⟩; have HD := Aside0.mk hd.below; clear hd) | (go_at_call 67; (with_reducible refine (utf_tail.calls a1 0 _ _ (utf_Put.tail a1 0 (by omega))).mono ?_); rintro e w' ⟨rfl, ⟨nd, rfl⟩⟩) | (go_at_call 66; (refine (utf_joined.calls _ _ l0 _ _ [(Go.bits .or .i64 192 (a1 / 64)) % 256, utf_Put.T a1 0] rr _ ?sa hc0 ?sb (Nat.le_refl _) HJ.out).mono ?_); (case sa => repeat (first | exact Kd.C_below HR0.out HD.out | refine Kd.C_alloc ?_ _ | refine Kd.C_drewN ?_ _ | refine Kd.C_drew ?_)); (case sb => exact utf_Put.lit _ .u8 [(Go.bits .or .i64 192 (a1 / 64)) % 256, utf_Put.T a1 0] _ _ (by simp) (by simp)); rintro e w1 ⟨v0, rfl, hR, hB⟩; have HR1 := Aside0.mk hR; have HB1 := Aside0.mk hB; clear hR hB))
        go_ret2
        exact ⟨_, rfl, Kd.R_lower HR1.out (by have := HD.out.size; simp; omega), (by repeat (first | exact HD.out | apply below_alloc | apply pw_below_drewN | apply below_drew) : Below w.heap.size w _).trans (HB1.out.mono (by have := HD.out.size; simp; omega))⟩
      · rw [if_neg k1] at h
        by_cases k2 : a1 < 65536
        · rw [if_pos k2] at h
          have hU := h
          clear h
          obtain ⟨rr, hj, h⟩ := Option.bind_eq_some_iff.mp hU
          obtain ⟨rfl, rfl⟩ := Prod.mk.inj (Option.some.inj h)
          have HJ := Aside0.mk hj
          clear h hj hU
          have hu := Tryd.underlying121
          go_enter Tryd.func49, Tryd.ntmps49
          go_wp2_with (first | (go_at_call 65; refine (utf_scalar.calls a1 true _ HS.out).mono ?_; rintro e w0 ⟨rfl, hd⟩; have HD := Aside0.mk hd.below; clear hd) | (go_at_call 67; (with_reducible refine (utf_tail.calls a1 6 _ _ (utf_Put.tail a1 6 (by omega))).mono ?_); rintro e w' ⟨rfl, ⟨nd, rfl⟩⟩) | (go_at_call 67; (with_reducible refine (utf_tail.calls a1 0 _ _ (utf_Put.tail a1 0 (by omega))).mono ?_); rintro e w' ⟨rfl, ⟨nd, rfl⟩⟩) | (go_at_call 66; (refine (utf_joined.calls _ _ l0 _ _ [(Go.bits .or .i64 224 (a1 / 4096)) % 256, utf_Put.T a1 6, utf_Put.T a1 0] rr _ ?sa hc0 ?sb (Nat.le_refl _) HJ.out).mono ?_); (case sa => repeat (first | exact Kd.C_below HR0.out HD.out | refine Kd.C_alloc ?_ _ | refine Kd.C_drewN ?_ _ | refine Kd.C_drew ?_)); (case sb => exact utf_Put.lit _ .u8 [(Go.bits .or .i64 224 (a1 / 4096)) % 256, utf_Put.T a1 6, utf_Put.T a1 0] _ _ (by simp) (by simp)); rintro e w1 ⟨v0, rfl, hR, hB⟩; have HR1 := Aside0.mk hR; have HB1 := Aside0.mk hB; clear hR hB))
          go_ret2
          exact ⟨_, rfl, Kd.R_lower HR1.out (by have := HD.out.size; simp; omega), (by repeat (first | exact HD.out | apply below_alloc | apply pw_below_drewN | apply below_drew) : Below w.heap.size w _).trans (HB1.out.mono (by have := HD.out.size; simp; omega))⟩
        · rw [if_neg k2] at h
          have hU := h
          clear h
          obtain ⟨rr, hj, h⟩ := Option.bind_eq_some_iff.mp hU
          obtain ⟨rfl, rfl⟩ := Prod.mk.inj (Option.some.inj h)
          have HJ := Aside0.mk hj
          clear h hj hU
          have hu := Tryd.underlying121
          go_enter Tryd.func49, Tryd.ntmps49
          go_wp2_with (first | (go_at_call 65; refine (utf_scalar.calls a1 true _ HS.out).mono ?_; rintro e w0 ⟨rfl, hd⟩; have HD := Aside0.mk hd.below; clear hd) | (go_at_call 67; (with_reducible refine (utf_tail.calls a1 12 _ _ (utf_Put.tail a1 12 (by omega))).mono ?_); rintro e w' ⟨rfl, ⟨nd, rfl⟩⟩) | (go_at_call 67; (with_reducible refine (utf_tail.calls a1 6 _ _ (utf_Put.tail a1 6 (by omega))).mono ?_); rintro e w' ⟨rfl, ⟨nd, rfl⟩⟩) | (go_at_call 67; (with_reducible refine (utf_tail.calls a1 0 _ _ (utf_Put.tail a1 0 (by omega))).mono ?_); rintro e w' ⟨rfl, ⟨nd, rfl⟩⟩) | (go_at_call 66; (refine (utf_joined.calls _ _ l0 _ _ [(Go.bits .or .i64 240 (a1 / 262144)) % 256, utf_Put.T a1 12, utf_Put.T a1 6, utf_Put.T a1 0] rr _ ?sa hc0 ?sb (Nat.le_refl _) HJ.out).mono ?_); (case sa => repeat (first | exact Kd.C_below HR0.out HD.out | refine Kd.C_alloc ?_ _ | refine Kd.C_drewN ?_ _ | refine Kd.C_drew ?_)); (case sb => exact utf_Put.lit _ .u8 [(Go.bits .or .i64 240 (a1 / 262144)) % 256, utf_Put.T a1 12, utf_Put.T a1 6, utf_Put.T a1 0] _ _ (by simp) (by simp)); rintro e w1 ⟨v0, rfl, hR, hB⟩; have HR1 := Aside0.mk hR; have HB1 := Aside0.mk hB; clear hR hB))
          go_ret2
          exact ⟨_, rfl, Kd.R_lower HR1.out (by have := HD.out.size; simp; omega), (by repeat (first | exact HD.out | apply below_alloc | apply pw_below_drewN | apply below_drew) : Below w.heap.size w _).trans (HB1.out.mono (by have := HD.out.size; simp; omega))⟩


-- NOT PRINTED: function 32 (lex_scanner_text)

-- NOT PRINTED: function 17 (lex_scanner_token)

-- NOT PRINTED: function 34 (reflectlite_ValueOf)

-- NOT PRINTED: function 35 (reflectlite_Value_Type)

-- NOT PRINTED: function 36 (reflectlite_Value_IsNil)

-- NOT PRINTED: function 50 (reflectlite_TypeOf)

-- NOT PRINTED: function 51 (reflectlite_Value_Elem)

-- NOT PRINTED: function 52 (reflectlite_Value_Set)

-- NOT PRINTED: function 37 (errors_as)

-- NOT PRINTED: function 18 (errors_As)

-- NOT PRINTED: function 9 (lex_Next)

/-! ### caliperref04_Blank: function 15 -/
def caliperref04_Blank.f (a0 : Int) : Option (Bool) := if a0 = 9 then (some true) else (if a0 = 10 then (some true) else (if a0 = 13 then (some true) else (some (a0 == 32))))
set_option maxHeartbeats 8000000 in
set_option maxRecDepth 100000 in
theorem caliperref04_Blank.calls (a0 : Int) (r : Bool) (w : World) (h : caliperref04_Blank.f a0 = some r) :
    Calls Tryd.prog 15 #[.int .u8 a0] w fun e w' => e = .returned (.bool r) ∧ Drawn0 w w' := by
  have H : (if a0 = 9 then (some true) else (if a0 = 10 then (some true) else (if a0 = 13 then (some true) else (some (a0 == 32))))) = some r := h
  clear h
  by_cases c2 : a0 = 9
  · rw [if_pos c2] at H
    have c2b0 : (a0 == 9) = true := beq_iff_eq.mpr c2
    have c2b1 : (a0 != 9) = false := bne_eq_false_iff_eq.mpr c2
    clear c2
    obtain rfl := Option.some.inj H
    go_enter Tryd.func15, Tryd.ntmps15
    go_wp2
    go_ret
    exact ⟨by first | rfl | (simp; done) | (simp [*]; done), by repeat (first | exact Drawn0.refl _ | apply Drawn0.step)⟩
  · rw [if_neg c2] at H
    have c2b0 : (a0 == 9) = false := beq_eq_false_iff_ne.mpr c2
    have c2b1 : (a0 != 9) = true := bne_iff_ne.mpr c2
    by_cases c3 : a0 = 10
    · rw [if_pos c3] at H
      have c3b0 : (a0 == 10) = true := beq_iff_eq.mpr c3
      have c3b1 : (a0 != 10) = false := bne_eq_false_iff_eq.mpr c3
      clear c3
      obtain rfl := Option.some.inj H
      go_enter Tryd.func15, Tryd.ntmps15
      go_wp2
      go_ret
      exact ⟨by first | rfl | (simp; done) | (simp [*]; done), by repeat (first | exact Drawn0.refl _ | apply Drawn0.step)⟩
    · rw [if_neg c3] at H
      have c3b0 : (a0 == 10) = false := beq_eq_false_iff_ne.mpr c3
      have c3b1 : (a0 != 10) = true := bne_iff_ne.mpr c3
      by_cases c4 : a0 = 13
      · rw [if_pos c4] at H
        have c4b0 : (a0 == 13) = true := beq_iff_eq.mpr c4
        have c4b1 : (a0 != 13) = false := bne_eq_false_iff_eq.mpr c4
        clear c4
        obtain rfl := Option.some.inj H
        go_enter Tryd.func15, Tryd.ntmps15
        go_wp2
        go_ret
        exact ⟨by first | rfl | (simp; done) | (simp [*]; done), by repeat (first | exact Drawn0.refl _ | apply Drawn0.step)⟩
      · rw [if_neg c4] at H
        have c4b0 : (a0 == 13) = false := beq_eq_false_iff_ne.mpr c4
        have c4b1 : (a0 != 13) = true := bne_iff_ne.mpr c4
        obtain rfl := Option.some.inj H
        go_enter Tryd.func15, Tryd.ntmps15
        go_wp2
        go_ret
        exact ⟨by first | rfl | (simp; done) | (simp [*]; done), by repeat (first | exact Drawn0.refl _ | apply Drawn0.step)⟩

/-! ### caliperref04_word: function 19 -/
def caliperref04_word.l0 : Nat → List Int → Int → ByteArray → Int → Option (Int × Int)
  | 0, _, _, _, _ => none
  | k + 1, x0, x1, x2, x8 => if x8 < (x2.size : Int) then (if (wrap64 (x1 + x8)) = (x0.length : Int) then (some (0, wrap64 ((wrap64 (x1 + x8)) + 1))) else (if 0 ≤ (wrap64 (x1 + x8)) then (if (wrap64 (x1 + x8)) < (x0.length : Int) then (if 0 ≤ x8 then (if (rd x0 (wrap64 (x1 + x8))) = (bt x2 x8) then (caliperref04_word.l0 k x0 x1 x2 (wrap64 (x8 + 1))) else (some (0, wrap64 ((wrap64 (x1 + x8)) + 1)))) else (none)) else (none)) else (none))) else (some (wrap64 (x1 + (x2.size : Int)), 0))
def caliperref04_word.f (k : Nat) (l0 : List Int) (a1 : Int) (a2 : ByteArray) : Option (Int × Int) := caliperref04_word.l0 k l0 a1 a2 0
theorem caliperref04_word.mono_l : ∀ k, (∀ y0 y1 y2 y3, LeO (caliperref04_word.l0 k y0 y1 y2 y3) (caliperref04_word.l0 (k + 1) y0 y1 y2 y3))
  | 0 => fun _ _ _ _ r h => by simp [caliperref04_word.l0] at h
  | k + 1 => by
    have ih0 := caliperref04_word.mono_l k
    · intro y0 y1 y2 y3
      unfold caliperref04_word.l0
      repeat' first
      | (with_reducible exact ih0 _ _ _ _)
      | (with_reducible exact LeO.refl _)
      | (with_reducible exact LeO.none _)
      | (with_reducible refine LeO.ite ?_ ?_)
      | (with_reducible refine LeO.bind ?_ (fun _ => ?_))
      | exact ih0 _ _ _ _
      | exact LeO.none _
      | refine LeO.ite ?_ ?_
      | refine LeO.bind ?_ (fun _ => ?_)
theorem caliperref04_word.mono : ∀ a0 a1 a2 k, LeO (caliperref04_word.f k a0 a1 a2) (caliperref04_word.f (k + 1) a0 a1 a2) := by
  intro a0 a1 a2 k
  have ih0 := caliperref04_word.mono_l k
  unfold caliperref04_word.f
  repeat' first
      | (with_reducible exact ih0 _ _ _ _)
      | (with_reducible exact LeO.refl _)
      | (with_reducible exact LeO.none _)
      | (with_reducible refine LeO.ite ?_ ?_)
      | (with_reducible refine LeO.bind ?_ (fun _ => ?_))
      | exact ih0 _ _ _ _
      | exact LeO.none _
      | refine LeO.ite ?_ ?_
      | refine LeO.bind ?_ (fun _ => ?_)
set_option maxHeartbeats 8000000 in
set_option maxRecDepth 100000 in
theorem caliperref04_word.calls (k : Nat) (A0 : Option Addr) (c0 : Nat) (l0 : List Int) (a1 : Int) (a2 : ByteArray) (r1 : Int) (r2 : Int) (w : World) (hr0 : Kd.C (Kd.int .u8) w A0 l0.length l0) (hc0 : l0.length ≤ c0) (h : caliperref04_word.f k l0 a1 a2 = some (r1, r2)) :
    Calls Tryd.prog 19 #[.slice A0 l0.length c0, .int .i64 a1, .string a2] w fun e w' => e = .returned (.tuple #[.int .i64 r1, .int .i64 r2]) ∧ Drawn0 w w' := by
  have HR0 := Aside0.mk hr0
  have HC0 := Aside0.mk hc0
  clear hr0 hc0
  have H : (caliperref04_word.l0 k l0 a1 a2 0) = some (r1, r2) := h
  clear h
  have H' := Aside0.mk H
  clear H
  go_enter Tryd.func19, Tryd.ntmps19
  go_wp2
  repeat (go_quiet (fail); try go_wp2)
  go_loopg [8] k (fun kq v8 w' => ∃ (x8_1 : Int), v8 = .int .i64 x8_1 ∧ Aside0 (caliperref04_word.l0 kq l0 a1 a2 x8_1 = some (r1, r2)) ∧ Aside0 (kq ≤ k) ∧ Drawn0 w w')
  case atStart => exact ⟨(0), (by first | rfl | (simp; done) | (simp [*]; done)), H', ⟨Nat.le_refl _⟩, by repeat (first | exact Drawn0.refl _ | apply Drawn0.step)⟩
  case round =>
    clear H'
    try clear c1
    try clear p2
    obtain ⟨x8_1, rfl, HA, HK1, ⟨m1, rfl⟩⟩ := hrel
    cases gk with
    | zero => exact absurd HA.out (by simp [caliperref04_word.l0])
    | succ k1 =>
      have H := HA.out
      clear HA
      simp only [caliperref04_word.l0] at H
      by_cases c4 : x8_1 < (a2.size : Int)
      · rw [if_pos c4] at H
        have c4b0 : decide (x8_1 < (a2.size : Int)) = true := decide_eq_true c4
        clear c4
        by_cases c5 : (wrap64 (a1 + x8_1)) = (l0.length : Int)
        · rw [if_pos c5] at H
          have c5b0 : ((wrap64 (a1 + x8_1)) == (l0.length : Int)) = true := beq_iff_eq.mpr c5
          have c5b1 : ((wrap64 (a1 + x8_1)) != (l0.length : Int)) = false := bne_eq_false_iff_eq.mpr c5
          clear c5
          simp only [Option.some.injEq, Prod.mk.injEq] at H
          obtain ⟨rfl, rfl⟩ := H
          go_wp2
          repeat (go_quiet (fail); try go_wp2)
          go_ret2
          exact ⟨by first | rfl | (simp; done) | (simp [*]; done), by repeat (first | exact Drawn0.refl _ | apply Drawn0.step)⟩
        · rw [if_neg c5] at H
          have c5b0 : ((wrap64 (a1 + x8_1)) == (l0.length : Int)) = false := beq_eq_false_iff_ne.mpr c5
          have c5b1 : ((wrap64 (a1 + x8_1)) != (l0.length : Int)) = true := bne_iff_ne.mpr c5
          obtain ⟨ji6, hji6⟩ : ∃ j_ : Int, (wrap64 (a1 + x8_1)) = j_ := ⟨_, rfl⟩
          replace H : (if 0 ≤ (ji6) then (if (ji6) < (l0.length : Int) then (if 0 ≤ x8_1 then (if (rd l0 (ji6)) = (bt a2 x8_1) then (caliperref04_word.l0 k1 l0 a1 a2 (wrap64 (x8_1 + 1))) else (some (0, wrap64 ((ji6) + 1)))) else (none)) else (none)) else (none)) = some (r1, r2) := by first | (rw [hji6] at H; exact H) | (simp only [hji6] at H ⊢; exact H)
          (try rw [hji6] at c5b0)
          (try rw [hji6] at c5b1)
          have hji6w : (IntKind.i64.wrap (a1 + x8_1)) = ji6 := (i64_w _).trans hji6
          by_cases c7 : 0 ≤ (ji6)
          · rw [if_pos c7] at H
            have c7b0 : decide (0 ≤ (ji6)) = true := decide_eq_true c7
            clear c7
            by_cases c8 : (ji6) < (l0.length : Int)
            · rw [if_pos c8] at H
              have c8b0 : decide ((ji6) < (l0.length : Int)) = true := decide_eq_true c8
              clear c8
              by_cases c9 : 0 ≤ x8_1
              · rw [if_pos c9] at H
                have c9b0 : decide (0 ≤ x8_1) = true := decide_eq_true c9
                clear c9
                by_cases c11 : (rd l0 (ji6)) = (bt a2 x8_1)
                · rw [if_pos c11] at H
                  have c11b0 : ((rd l0 (ji6)) == (bt a2 x8_1)) = true := beq_iff_eq.mpr c11
                  have c11b1 : ((rd l0 (ji6)) != (bt a2 x8_1)) = false := bne_eq_false_iff_eq.mpr c11
                  clear c11
                  have H' := Aside0.mk H
                  clear H
                  have p132 : 0 ≤ ((ji6) : Int) := of_decide_eq_true (by first | (with_reducible assumption) | assumption)
                  have q132 : (ji6) < (l0.length : Int) := of_decide_eq_true (by first | (with_reducible assumption) | assumption)
                  obtain ⟨ad132, e132, hx132_0⟩ := Kd.at_int HR0.out (ji6) p132 q132
                  cases e132
                  replace p132 := eq_true p132
                  replace q132 := eq_true q132
                  have p10 : 0 ≤ (x8_1 : Int) := of_decide_eq_true (by first | (with_reducible assumption) | assumption)
                  have q10 : x8_1 < (a2.size : Int) := of_decide_eq_true (by first | (with_reducible assumption) | assumption)
                  have hx10 := bt_at a2 x8_1
                  replace p10 := eq_true p10
                  replace q10 := eq_true q10
                  go_wp2
                  repeat (go_quiet (fail); try go_wp2)
                  go_roundg k1
                  case measure => have := HK1.out; omega
                  case rel => exact ⟨(wrap64 (x8_1 + 1)), (by first | rfl | (simp; done) | (simp [*]; done)), H', ⟨by have := HK1.out; omega⟩, by repeat (first | exact Drawn0.refl _ | apply Drawn0.step)⟩
                · rw [if_neg c11] at H
                  have c11b0 : ((rd l0 (ji6)) == (bt a2 x8_1)) = false := beq_eq_false_iff_ne.mpr c11
                  have c11b1 : ((rd l0 (ji6)) != (bt a2 x8_1)) = true := bne_iff_ne.mpr c11
                  simp only [Option.some.injEq, Prod.mk.injEq] at H
                  obtain ⟨rfl, rfl⟩ := H
                  have p132 : 0 ≤ ((ji6) : Int) := of_decide_eq_true (by first | (with_reducible assumption) | assumption)
                  have q132 : (ji6) < (l0.length : Int) := of_decide_eq_true (by first | (with_reducible assumption) | assumption)
                  obtain ⟨ad132, e132, hx132_0⟩ := Kd.at_int HR0.out (ji6) p132 q132
                  cases e132
                  replace p132 := eq_true p132
                  replace q132 := eq_true q132
                  have p10 : 0 ≤ (x8_1 : Int) := of_decide_eq_true (by first | (with_reducible assumption) | assumption)
                  have q10 : x8_1 < (a2.size : Int) := of_decide_eq_true (by first | (with_reducible assumption) | assumption)
                  have hx10 := bt_at a2 x8_1
                  replace p10 := eq_true p10
                  replace q10 := eq_true q10
                  go_wp2
                  repeat (go_quiet (fail); try go_wp2)
                  go_ret2
                  exact ⟨by first | rfl | (simp; done) | (simp only [← hji6] <;> (first | rfl | simp)) | (simp [*]; done), by repeat (first | exact Drawn0.refl _ | apply Drawn0.step)⟩
              · rw [if_neg c9] at H
                exact absurd H (by simp)
            · rw [if_neg c8] at H
              exact absurd H (by simp)
          · rw [if_neg c7] at H
            exact absurd H (by simp)
      · rw [if_neg c4] at H
        have c4b0 : decide (x8_1 < (a2.size : Int)) = false := decide_eq_false c4
        clear c4
        simp only [Option.some.injEq, Prod.mk.injEq] at H
        obtain ⟨rfl, rfl⟩ := H
        go_wp2
        repeat (go_quiet (fail); try go_wp2)
        go_ret2
        exact ⟨by first | rfl | (simp; done) | (simp [*]; done), by repeat (first | exact Drawn0.refl _ | apply Drawn0.step)⟩

/-! ### caliperref04_digit: function 20 -/
def caliperref04_digit.f (a0 : Int) : Option (Bool) := if a0 ≥ 48 then (some (decide (a0 ≤ 57))) else (some false)
set_option maxHeartbeats 8000000 in
set_option maxRecDepth 100000 in
theorem caliperref04_digit.calls (a0 : Int) (r : Bool) (w : World) (h : caliperref04_digit.f a0 = some r) :
    Calls Tryd.prog 20 #[.int .u8 a0] w fun e w' => e = .returned (.bool r) ∧ Drawn0 w w' := by
  have H : (if a0 ≥ 48 then (some (decide (a0 ≤ 57))) else (some false)) = some r := h
  clear h
  by_cases c2 : a0 ≥ 48
  · rw [if_pos c2] at H
    have c2b0 : decide (48 ≤ a0) = true := decide_eq_true c2
    clear c2
    obtain rfl := Option.some.inj H
    go_enter Tryd.func20, Tryd.ntmps20
    go_wp2
    go_ret
    exact ⟨by first | rfl | (simp; done) | (simp [*]; done), by repeat (first | exact Drawn0.refl _ | apply Drawn0.step)⟩
  · rw [if_neg c2] at H
    have c2b0 : decide (48 ≤ a0) = false := decide_eq_false c2
    clear c2
    obtain rfl := Option.some.inj H
    go_enter Tryd.func20, Tryd.ntmps20
    go_wp2
    go_ret
    exact ⟨by first | rfl | (simp; done) | (simp [*]; done), by repeat (first | exact Drawn0.refl _ | apply Drawn0.step)⟩

end Go.Proofs.YthoobepfkfjgnaaDoor.PL
