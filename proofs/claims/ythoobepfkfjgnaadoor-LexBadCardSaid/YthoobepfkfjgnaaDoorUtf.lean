/- UTF-8 over lists of whole numbers: the automaton that utf.Good runs, the encoding of a code point, and that the automaton takes just the concatenations of encodings. No program in sight. -/
import GoSem.Core.Utf8
namespace Go.Proofs.YthoobepfkfjgnaaDoor.Utf
set_option linter.unusedVariables false

def goes (c : Int) : Int × Int × Int :=
  if c < 128 then (0, 0, 0) else if c < 194 ∨ c > 244 then (-1, 0, 0) else if c < 224 then (1, 128, 191) else if c = 224 then (2, 160, 191) else if c = 237 then (2, 128, 159) else if c < 240 then (2, 128, 191) else if c = 240 then (3, 144, 191) else if c = 244 then (3, 128, 143) else (3, 128, 191)

/-- The automaton: what is left to come, between which the next byte must be; how many bytes were taken, and whether all were and none is owed. -/
def run : List Int → Int → Int → Int → Int → Int × Bool
  | [], left, _, _, i => (i, left == 0)
  | c :: r, left, low, high, i =>
    if left = 0 then (if (goes c).1 < 0 then (i, false) else run r (goes c).1 (goes c).2.1 (goes c).2.2 (i + 1))
    else if c < low then (i, false) else if c > high then (i, false) else run r (left - 1) 128 191 (i + 1)
def good (l : List Int) : Int × Bool := run l 0 128 191 0

def Scalar (p : Int) : Prop := (0 ≤ p ∧ p < 55296) ∨ (57344 ≤ p ∧ p ≤ 1114111)
def enc (p : Int) : List Int :=
  if p < 128 then [p] else if p < 2048 then [192 + p / 64, 128 + p % 64] else if p < 65536 then [224 + p / 4096, 128 + p / 64 % 64, 128 + p % 64] else [240 + p / 262144, 128 + p / 4096 % 64, 128 + p / 64 % 64, 128 + p % 64]
def encs (ps : List Int) : List Int := ps.flatMap enc
def Bytes (l : List Int) : Prop := ∀ x ∈ l, 0 ≤ x ∧ x ≤ 255

/-- The code points of a valid text. -/
def pts : List Int → List Int
  | [] => []
  | b0 :: r =>
    if b0 < 128 then b0 :: pts r else
    match r with
    | [] => []
    | b1 :: r1 =>
      if b0 < 224 then (b0 % 32 * 64 + b1 % 64) :: pts r1 else
      match r1 with
      | [] => []
      | b2 :: r2 =>
        if b0 < 240 then (b0 % 16 * 4096 + b1 % 64 * 64 + b2 % 64) :: pts r2 else
        match r2 with
        | [] => []
        | b3 :: r3 => (b0 % 8 * 262144 + b1 % 64 * 4096 + b2 % 64 * 64 + b3 % 64) :: pts r3

theorem encs_nil : encs [] = [] := rfl
theorem encs_cons (p : Int) (ps : List Int) : encs (p :: ps) = enc p ++ encs ps := by simp [encs]
theorem encs_append (a b : List Int) : encs (a ++ b) = encs a ++ encs b := by simp [encs]

/-- The four forms of an encoding. -/
theorem enc_cases {p : Int} (h : Scalar p) :
    (0 ≤ p ∧ p < 128 ∧ enc p = [p]) ∨
    (128 ≤ p ∧ p < 2048 ∧ enc p = [192 + p / 64, 128 + p % 64]) ∨
    (2048 ≤ p ∧ p < 65536 ∧ enc p = [224 + p / 4096, 128 + p / 64 % 64, 128 + p % 64]) ∨
    (65536 ≤ p ∧ p ≤ 1114111 ∧ enc p = [240 + p / 262144, 128 + p / 4096 % 64, 128 + p / 64 % 64, 128 + p % 64]) := by
  unfold Scalar at h
  unfold enc
  by_cases h1 : p < 128
  · left; rw [if_pos h1]; exact ⟨by omega, h1, rfl⟩
  · right
    rw [if_neg h1]
    by_cases h2 : p < 2048
    · left; rw [if_pos h2]; exact ⟨by omega, h2, rfl⟩
    · right
      rw [if_neg h2]
      by_cases h3 : p < 65536
      · left; rw [if_pos h3]; exact ⟨by omega, h3, rfl⟩
      · right; rw [if_neg h3]; exact ⟨by omega, by omega, rfl⟩

theorem enc_bytes {p : Int} (h : Scalar p) : Bytes (enc p) := by
  have h0 := h
  unfold Scalar at h0
  intro x hx
  rcases enc_cases h with ⟨a, b, e⟩ | ⟨a, b, e⟩ | ⟨a, b, e⟩ | ⟨a, b, e⟩ <;> rw [e] at hx <;> simp only [List.mem_cons, List.not_mem_nil, or_false] at hx <;> omega
theorem enc_length (p : Int) : 0 < (enc p).length ∧ (enc p).length ≤ 4 := by
  unfold enc
  by_cases h1 : p < 128
  · rw [if_pos h1]; simp
  · rw [if_neg h1]
    by_cases h2 : p < 2048
    · rw [if_pos h2]; simp
    · rw [if_neg h2]
      by_cases h3 : p < 65536
      · rw [if_pos h3]; simp
      · rw [if_neg h3]; simp
theorem enc_length_pos (p : Int) : 0 < (enc p).length := (enc_length p).1
theorem enc_length_le (p : Int) : (enc p).length ≤ 4 := (enc_length p).2

theorem run_zero (c : Int) (r : List Int) (lo hi i : Int) : run (c :: r) 0 lo hi i = if (goes c).1 < 0 then (i, false) else run r (goes c).1 (goes c).2.1 (goes c).2.2 (i + 1) := by
  rw [run, if_pos rfl]
theorem run_more (c : Int) (r : List Int) (n lo hi i : Int) (h : n ≠ 0) (h1 : lo ≤ c) (h2 : c ≤ hi) : run (c :: r) n lo hi i = run r (n - 1) 128 191 (i + 1) := by
  rw [run, if_neg h, if_neg (by omega), if_neg (by omega)]
theorem run_zero_any (l : List Int) (lo hi lo' hi' i : Int) : run l 0 lo hi i = run l 0 lo' hi' i := by
  cases l with
  | nil => rfl
  | cons c r => rw [run_zero, run_zero]

theorem goes_1 {c : Int} (h : c < 128) : goes c = (0, 0, 0) := by unfold goes; rw [if_pos h]
theorem goes_2 {c : Int} (h : 194 ≤ c) (h1 : c < 224) : goes c = (1, 128, 191) := by unfold goes; rw [if_neg (by omega), if_neg (by omega), if_pos h1]
theorem goes_3 {c : Int} (h : 224 ≤ c) (h1 : c < 240) : (goes c).1 = 2 ∧ (goes c).2.1 = (if c = 224 then 160 else 128) ∧ (goes c).2.2 = (if c = 237 then 159 else 191) := by
  unfold goes
  rw [if_neg (by omega), if_neg (by omega), if_neg (by omega)]
  by_cases h2 : c = 224
  · rw [if_pos h2]; refine ⟨rfl, by rw [if_pos h2], by rw [if_neg (by omega)]⟩
  · rw [if_neg h2]
    by_cases h3 : c = 237
    · rw [if_pos h3]; refine ⟨rfl, by rw [if_neg h2], by rw [if_pos h3]⟩
    · rw [if_neg h3, if_pos h1]; refine ⟨rfl, by rw [if_neg h2], by rw [if_neg h3]⟩
theorem goes_4 {c : Int} (h : 240 ≤ c) (h1 : c ≤ 244) : (goes c).1 = 3 ∧ (goes c).2.1 = (if c = 240 then 144 else 128) ∧ (goes c).2.2 = (if c = 244 then 143 else 191) := by
  unfold goes
  rw [if_neg (by omega), if_neg (by omega), if_neg (by omega), if_neg (by omega), if_neg (by omega), if_neg (by omega)]
  by_cases h2 : c = 240
  · rw [if_pos h2]; refine ⟨rfl, by rw [if_pos h2], by rw [if_neg (by omega)]⟩
  · rw [if_neg h2]
    by_cases h3 : c = 244
    · rw [if_pos h3]; refine ⟨rfl, by rw [if_neg h2], by rw [if_pos h3]⟩
    · rw [if_neg h3]; refine ⟨rfl, by rw [if_neg h2], by rw [if_neg h3]⟩
theorem goes_bad {c : Int} (h : 128 ≤ c) (h1 : c < 194 ∨ 244 < c) : (goes c).1 = -1 := by unfold goes; rw [if_neg (by omega), if_pos (by omega)]

/-- An encoding is taken whole. -/
theorem run_enc {p : Int} (h : Scalar p) (r : List Int) (lo hi i : Int) : run (enc p ++ r) 0 lo hi i = run r 0 128 191 (i + (enc p).length) := by
  have h0 := h
  unfold Scalar at h0
  rcases enc_cases h with ⟨a, b, e⟩ | ⟨a, b, e⟩ | ⟨a, b, e⟩ | ⟨a, b, e⟩
  · rw [e]
    simp only [List.cons_append, List.nil_append, List.length_cons, List.length_nil]
    rw [run_zero, goes_1 b, if_neg (by decide), run_zero_any _ _ _ 128 191]
    rfl
  · rw [e]
    simp only [List.cons_append, List.nil_append, List.length_cons, List.length_nil]
    rw [run_zero, goes_2 (by omega) (by omega), if_neg (by decide), run_more _ _ _ _ _ _ (by decide) (by show (128 : Int) ≤ _; omega) (by show _ ≤ (191 : Int); omega)]
    congr 1
    simp only [Int.natCast_add, Int.natCast_one, Int.natCast_zero]
    omega
  · obtain ⟨g1, g2, g3⟩ := goes_3 (c := 224 + p / 4096) (by omega) (by omega)
    rw [e]
    simp only [List.cons_append, List.nil_append, List.length_cons, List.length_nil]
    rw [run_zero, if_neg (by omega), run_more _ _ _ _ _ _ (by omega) (by rw [g2]; split <;> omega) (by rw [g3]; split <;> omega), g1, run_more _ _ _ _ _ _ (by decide) (by omega) (by omega)]
    congr 1
    simp only [Int.natCast_add, Int.natCast_one, Int.natCast_zero]
    omega
  · obtain ⟨g1, g2, g3⟩ := goes_4 (c := 240 + p / 262144) (by omega) (by omega)
    rw [e]
    simp only [List.cons_append, List.nil_append, List.length_cons, List.length_nil]
    rw [run_zero, if_neg (by omega), run_more _ _ _ _ _ _ (by omega) (by rw [g2]; split <;> omega) (by rw [g3]; split <;> omega), g1, run_more _ _ _ _ _ _ (by decide) (by omega) (by omega), run_more _ _ _ _ _ _ (by decide) (by omega) (by omega)]
    congr 1
    simp only [Int.natCast_add, Int.natCast_one, Int.natCast_zero]
    omega

theorem run_encs : ∀ (ps : List Int), (∀ p ∈ ps, Scalar p) → ∀ (r : List Int) (lo hi i : Int), run (encs ps ++ r) 0 lo hi i = run r 0 128 191 (i + (encs ps).length)
  | [], _, r, lo, hi, i => by rw [encs_nil, List.nil_append, run_zero_any r lo hi 128 191]; simp
  | p :: ps, h, r, lo, hi, i => by
    rw [encs_cons, List.append_assoc, run_enc (h p List.mem_cons_self), run_encs ps (fun q hq => h q (List.mem_cons_of_mem _ hq))]
    congr 1
    rw [List.length_append, Int.natCast_add]
    omega
theorem good_encs {ps : List Int} (h : ∀ p ∈ ps, Scalar p) : good (encs ps) = (((encs ps).length : Int), true) := by
  have := run_encs ps h [] 128 191 0
  rw [List.append_nil] at this
  unfold good
  rw [this]
  simp [run]

/-- One code point is read back. -/
theorem pts_enc {p : Int} (h : Scalar p) (r : List Int) : pts (enc p ++ r) = p :: pts r := by
  have h0 := h
  unfold Scalar at h0
  rcases enc_cases h with ⟨a, b, e⟩ | ⟨a, b, e⟩ | ⟨a, b, e⟩ | ⟨a, b, e⟩
  · rw [e]
    simp only [List.cons_append, List.nil_append]
    rw [pts.eq_def]
    simp only
    rw [if_pos b]
  · rw [e]
    simp only [List.cons_append, List.nil_append]
    rw [pts.eq_def]
    simp only
    rw [if_neg (by omega), if_pos (by omega)]
    congr 1
    omega
  · rw [e]
    simp only [List.cons_append, List.nil_append]
    rw [pts.eq_def]
    simp only
    rw [if_neg (by omega), if_neg (by omega), if_pos (by omega)]
    congr 1
    omega
  · rw [e]
    simp only [List.cons_append, List.nil_append]
    rw [pts.eq_def]
    simp only
    rw [if_neg (by omega), if_neg (by omega), if_neg (by omega)]
    congr 1
    omega
theorem pts_encs : ∀ (ps : List Int), (∀ p ∈ ps, Scalar p) → pts (encs ps) = ps
  | [], _ => rfl
  | p :: ps, h => by rw [encs_cons, pts_enc (h p List.mem_cons_self), pts_encs ps (fun q hq => h q (List.mem_cons_of_mem _ hq))]

theorem run_le : ∀ (l : List Int) (n lo hi i : Int), i ≤ (run l n lo hi i).1 ∧ (run l n lo hi i).1 ≤ i + l.length
  | [], n, lo, hi, i => by simp [run]
  | c :: r, n, lo, hi, i => by
    rw [run]
    have h1 := run_le r (goes c).1 (goes c).2.1 (goes c).2.2 (i + 1)
    have h2 := run_le r (n - 1) 128 191 (i + 1)
    have h3 : ((c :: r).length : Int) = r.length + 1 := by simp
    repeat' split
    all_goals (simp only [h3]; omega)
theorem good_range (l : List Int) : 0 ≤ (good l).1 ∧ (good l).1 ≤ l.length := by
  have := run_le l 0 128 191 0
  unfold good
  omega

/-- A byte that is owed: it is there, and between the two. -/
theorem run_owed {l : List Int} {n lo hi i : Int} (hn : n ≠ 0) (h : (run l n lo hi i).2 = true) : ∃ c r, l = c :: r ∧ lo ≤ c ∧ c ≤ hi ∧ (run r (n - 1) 128 191 (i + 1)).2 = true := by
  cases l with
  | nil => simp [run, hn] at h
  | cons c r =>
    rw [run, if_neg hn] at h
    by_cases h1 : c < lo
    · rw [if_pos h1] at h; simp at h
    · rw [if_neg h1] at h
      by_cases h2 : c > hi
      · rw [if_pos h2] at h; simp at h
      · rw [if_neg h2] at h; exact ⟨c, r, rfl, by omega, by omega, h⟩

/-- What is taken whole begins with an encoding. -/
theorem run_first {c : Int} {l : List Int} {lo hi i : Int} (hb : Bytes (c :: l)) (h : (run (c :: l) 0 lo hi i).2 = true) : ∃ p r, Scalar p ∧ c :: l = enc p ++ r ∧ (run r 0 128 191 (i + (enc p).length)).2 = true := by
  have hc := hb c List.mem_cons_self
  have key : ∀ (p : Int) (r : List Int), Scalar p → c :: l = enc p ++ r → ∃ p r, Scalar p ∧ c :: l = enc p ++ r ∧ (run r 0 128 191 (i + (enc p).length)).2 = true := fun p r hp e => ⟨p, r, hp, e, by rw [e, run_enc hp] at h; exact h⟩
  rw [run_zero] at h
  by_cases h1 : c < 128
  · exact key c l (.inl ⟨by omega, by omega⟩) (by unfold enc; rw [if_pos h1]; rfl)
  · by_cases hbad : c < 194 ∨ 244 < c
    · rw [goes_bad (by omega) hbad, if_pos (by decide)] at h; simp at h
    · by_cases h2 : c < 224
      · rw [goes_2 (by omega) h2, if_neg (by decide)] at h
        obtain ⟨c1, r1, rfl, a1, b1, h⟩ := run_owed (by decide) h
        have a1 : (128 : Int) ≤ c1 := a1
        have b1 : c1 ≤ (191 : Int) := b1
        have e : enc (c % 32 * 64 + c1 % 64) = [c, c1] := by
          unfold enc
          rw [if_neg (by omega), if_pos (by omega)]
          congr 1
          · omega
          · congr 1; omega
        exact key (c % 32 * 64 + c1 % 64) r1 (.inl ⟨by omega, by omega⟩) (by rw [e]; rfl)
      · by_cases h3 : c < 240
        · obtain ⟨g1, g2, g3⟩ := goes_3 (c := c) (by omega) h3
          rw [if_neg (by omega)] at h
          obtain ⟨c1, r1, rfl, a1, b1, h⟩ := run_owed (by omega) h
          obtain ⟨c2, r2, rfl, a2, b2, h⟩ := run_owed (by omega) h
          rw [g2] at a1
          rw [g3] at b1
          have a1' : 128 ≤ c1 ∧ (c = 224 → 160 ≤ c1) := by constructor <;> (try intro) <;> split at a1 <;> omega
          have b1' : c1 ≤ 191 ∧ (c = 237 → c1 ≤ 159) := by constructor <;> (try intro) <;> split at b1 <;> omega
          have e : enc (c % 16 * 4096 + c1 % 64 * 64 + c2 % 64) = [c, c1, c2] := by
            unfold enc
            rw [if_neg (by omega), if_neg (by omega), if_pos (by omega)]
            congr 1
            · omega
            · congr 1
              · omega
              · congr 1; omega
          exact key (c % 16 * 4096 + c1 % 64 * 64 + c2 % 64) r2 (by unfold Scalar; omega) (by rw [e]; rfl)
        · obtain ⟨g1, g2, g3⟩ := goes_4 (c := c) (by omega) (by omega)
          rw [if_neg (by omega)] at h
          obtain ⟨c1, r1, rfl, a1, b1, h⟩ := run_owed (by omega) h
          obtain ⟨c2, r2, rfl, a2, b2, h⟩ := run_owed (by omega) h
          obtain ⟨c3, r3, rfl, a3, b3, h⟩ := run_owed (by omega) h
          rw [g2] at a1
          rw [g3] at b1
          have a1' : 128 ≤ c1 ∧ (c = 240 → 144 ≤ c1) := by constructor <;> (try intro) <;> split at a1 <;> omega
          have b1' : c1 ≤ 191 ∧ (c = 244 → c1 ≤ 143) := by constructor <;> (try intro) <;> split at b1 <;> omega
          have e : enc (c % 8 * 262144 + c1 % 64 * 4096 + c2 % 64 * 64 + c3 % 64) = [c, c1, c2, c3] := by
            unfold enc
            rw [if_neg (by omega), if_neg (by omega), if_neg (by omega)]
            congr 1
            · omega
            · congr 1
              · omega
              · congr 1
                · omega
                · congr 1; omega
          exact key (c % 8 * 262144 + c1 % 64 * 4096 + c2 % 64 * 64 + c3 % 64) r3 (by unfold Scalar; omega) (by rw [e]; rfl)

/-- What is taken whole is a concatenation of encodings. -/
theorem valid_of_run : ∀ (n : Nat) (l : List Int) (lo hi i : Int), l.length ≤ n → Bytes l → (run l 0 lo hi i).2 = true → ∃ ps, (∀ p ∈ ps, Scalar p) ∧ l = encs ps := by
  intro n
  induction n with
  | zero =>
    intro l lo hi i hl hb h
    obtain rfl : l = [] := List.eq_nil_of_length_eq_zero (by omega)
    exact ⟨[], by simp, rfl⟩
  | succ n ih =>
    intro l lo hi i hl hb h
    cases l with
    | nil => exact ⟨[], by simp, rfl⟩
    | cons c l =>
      obtain ⟨p, r, hp, e, h⟩ := run_first hb h
      have hlen : (c :: l).length = (enc p).length + r.length := by rw [e, List.length_append]
      have hpos := enc_length_pos p
      obtain ⟨ps, hps, er⟩ := ih r 128 191 _ (by omega) (fun x hx => hb x (by rw [e]; exact List.mem_append_right _ hx)) h
      refine ⟨p :: ps, ?_, by rw [encs_cons, ← er]; exact e⟩
      intro q hq
      rcases List.mem_cons.1 hq with rfl | hq
      · exact hp
      · exact hps q hq
theorem valid_of_good {l : List Int} (hb : Bytes l) (h : (good l).2 = true) : (∀ p ∈ pts l, Scalar p) ∧ l = encs (pts l) := by
  obtain ⟨ps, hps, e⟩ := valid_of_run l.length l 128 191 0 (Nat.le_refl _) hb h
  rw [e, pts_encs ps hps]
  exact ⟨hps, rfl⟩
theorem good_of_valid {l : List Int} (hb : Bytes l) (h : (good l).2 = true) : good l = ((l.length : Int), true) := by
  obtain ⟨h1, h2⟩ := valid_of_good hb h
  have := good_encs h1
  rwa [← h2] at this
theorem pts_length_le : ∀ (n : Nat) (l : List Int), l.length ≤ n → (pts l).length ≤ l.length := by
  intro n
  induction n with
  | zero => intro l hl; obtain rfl : l = [] := List.eq_nil_of_length_eq_zero (by omega); simp [pts]
  | succ n ih =>
    intro l hl
    rw [pts.eq_def]
    split
    · simp
    · rename_i b0 r
      simp only [List.length_cons] at hl ⊢
      split
      · have := ih r (by omega); simp only [List.length_cons]; omega
      · split
        · simp
        · rename_i b1 r1
          simp only [List.length_cons] at hl ⊢
          split
          · have := ih r1 (by omega); simp only [List.length_cons]; omega
          · split
            · simp
            · rename_i b2 r2
              simp only [List.length_cons] at hl ⊢
              split
              · have := ih r2 (by omega); simp only [List.length_cons]; omega
              · split
                · simp
                · rename_i b3 r3
                  simp only [List.length_cons] at hl ⊢
                  have := ih r3 (by omega); omega

/-- Code points stand as many as bytes that do not go on. -/
def cnt (l : List Int) : Int := ((l.filter fun c => decide (c < 128 ∨ 191 < c)).length : Int)
theorem cnt_append (a b : List Int) : cnt (a ++ b) = cnt a + cnt b := by simp [cnt]
theorem cnt_cons (c : Int) (l : List Int) : cnt (c :: l) = (if c < 128 ∨ 191 < c then 1 else 0) + cnt l := by
  unfold cnt
  rw [List.filter_cons]
  by_cases h : c < 128 ∨ 191 < c
  · rw [if_pos (decide_eq_true h), if_pos h]; simp; omega
  · rw [if_neg (by simpa using h), if_neg h]; simp
theorem cnt_enc {p : Int} (h : Scalar p) : cnt (enc p) = 1 := by
  have h0 := h
  unfold Scalar at h0
  have hn : cnt [] = 0 := rfl
  rcases enc_cases h with ⟨a, b, e⟩ | ⟨a, b, e⟩ | ⟨a, b, e⟩ | ⟨a, b, e⟩ <;> rw [e] <;> simp only [cnt_cons, hn]
  · rw [if_pos (by omega)]; rfl
  · rw [if_pos (by omega), if_neg (by omega)]; rfl
  · rw [if_pos (by omega), if_neg (by omega), if_neg (by omega)]; rfl
  · rw [if_pos (by omega), if_neg (by omega), if_neg (by omega), if_neg (by omega)]; rfl
theorem cnt_encs : ∀ (ps : List Int), (∀ p ∈ ps, Scalar p) → cnt (encs ps) = ps.length
  | [], _ => rfl
  | p :: ps, h => by
    rw [encs_cons, cnt_append, cnt_enc (h p List.mem_cons_self), cnt_encs ps (fun q hq => h q (List.mem_cons_of_mem _ hq))]
    simp
    omega
theorem cnt_le (l : List Int) : 0 ≤ cnt l ∧ cnt l ≤ l.length := by
  unfold cnt
  have := List.length_filter_le (fun c => decide (c < 128 ∨ 191 < c)) l
  omega

/-- The bytes of a text. -/
def bytesAt (s : ByteArray) : List Int := s.data.toList.map fun b => (b.toNat : Int)
theorem bytesAt_length (s : ByteArray) : (bytesAt s).length = s.size := by
  unfold bytesAt
  rw [List.length_map, Array.length_toList]
  rfl
theorem get_bytes (s : ByteArray) (i : Nat) (h : i < s.size) : ((s.get! i).toNat : Int) = (bytesAt s)[i]'(by rw [bytesAt_length]; exact h) := by
  have h1 : s.get! i = s[i]'h := by
    simp [ByteArray.get!, getElem!_pos, h]
    rfl
  rw [h1]
  simp only [bytesAt, List.getElem_map]
  rfl
/-- The machine's reading of one code point agrees. -/
theorem decode_enc (s : ByteArray) (i : Nat) {p : Int} (hp : Scalar p) (r : List Int) (h : (bytesAt s).drop i = enc p ++ r) : Go.Utf8.decode s i = (p.toNat, (enc p).length) := by
  have hp0 := hp
  unfold Scalar at hp0
  have hl : s.size = i + (enc p).length + r.length := by
    have h1 := congrArg List.length h
    rw [List.length_drop, bytesAt_length, List.length_append] at h1
    have := enc_length_pos p
    omega
  have hat : ∀ k c, (enc p)[k]? = some c → ((s.get! (i + k)).toNat : Int) = c := by
    intro k c hk
    obtain ⟨hk1, hk2⟩ := List.getElem?_eq_some_iff.1 hk
    rw [get_bytes s (i + k) (by omega)]
    have h2 : ((bytesAt s).drop i)[k]? = some c := by rw [h, List.getElem?_append_left hk1]; exact hk
    rw [List.getElem?_drop] at h2
    exact (List.getElem?_eq_some_iff.1 h2).2
  unfold Go.Utf8.decode
  rcases enc_cases hp with ⟨a, b, e⟩ | ⟨a, b, e⟩ | ⟨a, b, e⟩ | ⟨a, b, e⟩ <;> rw [e] at hat hl ⊢
  · have h0 := hat 0 _ rfl
    simp only [Nat.add_zero] at h0 ⊢
    rw [if_pos (by omega)]
    simp only [List.length_cons, List.length_nil]
    congr 1
    omega
  · have h0 := hat 0 _ rfl
    have h1 := hat 1 _ rfl
    simp only [List.length_cons, List.length_nil] at hl
    simp only [Nat.add_zero] at h0 ⊢
    rw [if_neg (by omega), if_pos (by simp; omega), if_pos (by omega)]
    simp only [List.length_cons, List.length_nil]
    congr 1
    omega
  · have h0 := hat 0 _ rfl
    have h1 := hat 1 _ rfl
    have h2 := hat 2 _ rfl
    simp only [List.length_cons, List.length_nil] at hl
    simp only [Nat.add_zero] at h0 ⊢
    rw [if_neg (by omega), if_neg (by simp; omega), if_pos (by simp; omega), if_pos (by simp [Go.Utf8.valid]; omega)]
    simp only [List.length_cons, List.length_nil]
    congr 1
    omega
  · have h0 := hat 0 _ rfl
    have h1 := hat 1 _ rfl
    have h2 := hat 2 _ rfl
    have h3 := hat 3 _ rfl
    simp only [List.length_cons, List.length_nil] at hl
    simp only [Nat.add_zero] at h0 ⊢
    rw [if_neg (by omega), if_neg (by simp; omega), if_neg (by simp; omega), if_pos (by simp; omega), if_pos (by simp [Go.Utf8.valid]; omega)]
    simp only [List.length_cons, List.length_nil]
    congr 1
    omega
end Go.Proofs.YthoobepfkfjgnaaDoor.Utf
