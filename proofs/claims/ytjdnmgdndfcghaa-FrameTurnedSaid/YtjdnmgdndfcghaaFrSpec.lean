/- What a stream of frames is, over lists of bytes: which bytes are a frame, what a scan finds, and the three laws on it (a cut stream, a turned byte, the sum bit by bit); no condition. -/
import Derived.Test.YtjdnmgdndfcghaaFrSum
namespace Go.Proofs.Ytjdnmgdndfcghaa
open Go.RowKit

/-! ### The sum, over natural numbers -/
def stN (r : Nat) : Nat := (r * 2 % 65536) ^^^ (r / 32768 * 4129)
def st8 (r : Nat) : Nat := stN (stN (stN (stN (stN (stN (stN (stN r)))))))
theorem stN_lt (r : Nat) (h : r < 65536) : stN r < 65536 := Nat.xor_lt_two_pow (n := 16) (by omega) (by omega)
theorem stp_nat (r : Nat) (h : r < 65536) : stp (r : Int) = (stN r : Int) := by
  unfold stp stN
  rw [IntKind.wrap_u16, show ((r : Int) * 2 % 65536) = ((r * 2 % 65536 : Nat) : Int) by omega, show ((r : Int) / 32768 * 4129) = ((r / 32768 * 4129 : Nat) : Int) by omega]
  exact u16_xor_nat _ _ (by omega) (by omega)
theorem crc8_nat (r : Nat) (h : r < 65536) : crcN 8 (r : Int) = (st8 r : Int) := by
  have h1 := stN_lt _ h
  have h2 := stN_lt _ h1
  have h3 := stN_lt _ h2
  have h4 := stN_lt _ h3
  have h5 := stN_lt _ h4
  have h6 := stN_lt _ h5
  have h7 := stN_lt _ h6
  simp only [crcN, st8]
  rw [stp_nat _ h, stp_nat _ h1, stp_nat _ h2, stp_nat _ h3, stp_nat _ h4, stp_nat _ h5, stp_nat _ h6, stp_nat _ h7]
theorem st8_lt (r : Nat) (h : r < 65536) : st8 r < 65536 := stN_lt _ (stN_lt _ (stN_lt _ (stN_lt _ (stN_lt _ (stN_lt _ (stN_lt _ (stN_lt _ h)))))))
theorem bit01 (a b : Nat) (ha : a < 2) (hb : b < 2) : (a ^^^ b) * 4129 = (a * 4129) ^^^ (b * 4129) := by
  have h1 : a = 0 ∨ a = 1 := by omega
  have h2 : b = 0 ∨ b = 1 := by omega
  rcases h1 with rfl | rfl <;> rcases h2 with rfl | rfl <;> decide
theorem stN_xor (x y : Nat) (hx : x < 65536) (hy : y < 65536) : stN (x ^^^ y) = stN x ^^^ stN y := by
  unfold stN
  have e1 : (x ^^^ y) * 2 % 65536 = (x * 2 % 65536) ^^^ (y * 2 % 65536) := by
    have : (x ^^^ y) * 2 = (x * 2) ^^^ (y * 2) := by
      have := Nat.shiftLeft_xor_distrib (a := x) (b := y) (i := 1)
      simpa [Nat.shiftLeft_eq] using this
    rw [this, show (65536 : Nat) = 2 ^ 16 by decide, Nat.xor_mod_two_pow]
  have e2 : (x ^^^ y) / 32768 = (x / 32768) ^^^ (y / 32768) := by
    have := Nat.shiftRight_xor_distrib (a := x) (b := y) (i := 15)
    simpa [Nat.shiftRight_eq_div_pow] using this
  rw [e1, e2, bit01 _ _ (by omega) (by omega)]
  ac_rfl
theorem xor_lt16 {x y : Nat} (hx : x < 65536) (hy : y < 65536) : x ^^^ y < 65536 := Nat.xor_lt_two_pow (n := 16) hx hy
theorem st8_xor (x y : Nat) (hx : x < 65536) (hy : y < 65536) : st8 (x ^^^ y) = st8 x ^^^ st8 y := by
  have x1 := stN_lt _ hx
  have x2 := stN_lt _ x1
  have x3 := stN_lt _ x2
  have x4 := stN_lt _ x3
  have x5 := stN_lt _ x4
  have x6 := stN_lt _ x5
  have x7 := stN_lt _ x6
  have y1 := stN_lt _ hy
  have y2 := stN_lt _ y1
  have y3 := stN_lt _ y2
  have y4 := stN_lt _ y3
  have y5 := stN_lt _ y4
  have y6 := stN_lt _ y5
  have y7 := stN_lt _ y6
  unfold st8
  rw [stN_xor _ _ hx hy, stN_xor _ _ x1 y1, stN_xor _ _ x2 y2, stN_xor _ _ x3 y3, stN_xor _ _ x4 y4, stN_xor _ _ x5 y5, stN_xor _ _ x6 y6, stN_xor _ _ x7 y7]
theorem st8_low : ∀ l, l < 256 → st8 l = l * 256 := by decide +kernel
theorem st8_back : ∀ i, i < 256 → ∀ j, j < 256 → st8 (i * 256) % 256 = st8 (j * 256) % 256 → i = j := by
  have key : ∀ i, i < 256 → ((List.range 256).find? (fun j => st8 (j * 256) % 256 == st8 (i * 256) % 256)) = some i := by decide +kernel
  intro i hi j hj h
  have h1 := key i hi
  have h2 := key j hj
  rw [h] at h1
  rw [h1] at h2
  simpa using h2

/-! ### One byte of the sum -/
def smN (r c : Nat) : Nat := (r * 256 % 65536) ^^^ st8 ((r / 256 ^^^ c) * 256)
theorem x8_lt {a b : Nat} (ha : a < 256) (hb : b < 256) : a ^^^ b < 256 := Nat.xor_lt_two_pow (n := 8) ha hb
theorem smN_lt (r c : Nat) (hr : r < 65536) (hc : c < 256) : smN r c < 65536 := by
  have := x8_lt (a := r / 256) (b := c) (by omega) hc
  exact xor_lt16 (by omega) (st8_lt _ (by omega))
theorem sumStep_nat (r : Nat) (c : UInt8) (hr : r < 65536) : sumStep (r : Int) c = (smN r c.toNat : Int) := by
  have hc := c.toNat_lt
  have hx := x8_lt (a := r / 256) (b := c.toNat) (by omega) (by omega)
  unfold sumStep smN
  rw [show ((r : Int) / 256) = ((r / 256 : Nat) : Int) by omega, u8_xor_nat _ _ (by omega) (by omega), Int.toNat_natCast]
  unfold T
  rw [show (((r / 256 ^^^ c.toNat : Nat) : Int) * 256) = (((r / 256 ^^^ c.toNat) * 256 : Nat) : Int) by omega, crc8_nat _ (by omega), IntKind.wrap_u16,
    show ((r : Int) * 256 % 65536) = ((r * 256 % 65536 : Nat) : Int) by omega]
  exact u16_xor_nat _ _ (by omega) (st8_lt _ (by omega))
theorem split16 (x : Nat) (_h : x < 65536) : x = (x / 256 * 256) ^^^ (x % 256) := by
  have h := Nat.two_pow_add_eq_or_of_lt (i := 8) (b := x % 256) (by omega) (x / 256)
  have e : x = 2 ^ 8 * (x / 256) + x % 256 := by omega
  have h2 : (2 ^ 8 * (x / 256)) &&& (x % 256) = 0 := by
    apply Nat.eq_of_testBit_eq
    intro i
    rw [Nat.testBit_and, Nat.zero_testBit]
    by_cases hi : i < 8
    · rw [Nat.testBit_two_pow_mul]; simp; omega
    · have : (x % 256).testBit i = false := Nat.testBit_lt_two_pow (Nat.lt_of_lt_of_le (show x % 256 < 2 ^ 8 by omega) (Nat.pow_le_pow_right (by omega) (by omega)))
      rw [this, Bool.and_false]
  have h3 : (2 ^ 8 * (x / 256)) ||| (x % 256) = (2 ^ 8 * (x / 256)) ^^^ (x % 256) := by
    apply Nat.eq_of_testBit_eq
    intro i
    have := congrArg (·.testBit i) h2
    simp only [Nat.testBit_and, Nat.zero_testBit] at this
    rw [Nat.testBit_or, Nat.testBit_xor]
    revert this
    cases (2 ^ 8 * (x / 256)).testBit i <;> cases (x % 256).testBit i <;> simp
  rw [h, h3] at e
  rw [Nat.mul_comm]; exact e
/-- Eight steps over a byte that was put in above: what the table gives. -/
theorem smN_bits (r c : Nat) (hr : r < 65536) (hc : c < 256) : st8 (r ^^^ c * 256) = smN r c := by
  have hx : r ^^^ c * 256 < 65536 := xor_lt16 hr (by omega)
  have e := split16 _ hx
  have h1 : (r ^^^ c * 256) / 256 = r / 256 ^^^ c := by
    have := Nat.shiftRight_xor_distrib (a := r) (b := c * 256) (i := 8)
    simpa [Nat.shiftRight_eq_div_pow] using this
  have h2 : (r ^^^ c * 256) % 256 = r % 256 := by
    rw [show (256 : Nat) = 2 ^ 8 by decide, Nat.xor_mod_two_pow, show c * 2 ^ 8 % 2 ^ 8 = 0 by omega, Nat.xor_zero]
  have hb := x8_lt (a := r / 256) (b := c) (by omega) hc
  rw [h1, h2] at e
  rw [e, st8_xor _ _ (by omega) (by omega), st8_low (r % 256) (by omega)]
  unfold smN
  rw [show r % 256 * 256 = r * 256 % 65536 by omega, Nat.xor_comm]
theorem smN_inj_byte (r c d : Nat) (hr : r < 65536) (hc : c < 256) (hd : d < 256) (h : smN r c = smN r d) : c = d := by
  unfold smN at h
  have h' : st8 ((r / 256 ^^^ c) * 256) = st8 ((r / 256 ^^^ d) * 256) := by
    have := congrArg (fun z => (r * 256 % 65536) ^^^ z) h
    simpa [← Nat.xor_assoc, Nat.xor_self] using this
  have := st8_back (r / 256 ^^^ c) (x8_lt (by omega) hc) (r / 256 ^^^ d) (x8_lt (by omega) hd) (by rw [h'])
  have := congrArg (fun z => (r / 256) ^^^ z) this
  simpa [← Nat.xor_assoc, Nat.xor_self] using this
theorem smN_inj_sum (r s c : Nat) (hr : r < 65536) (hs : s < 65536) (hc : c < 256) (h : smN r c = smN s c) : r = s := by
  unfold smN at h
  have hm := congrArg (· % 256) h
  simp only [show (256 : Nat) = 2 ^ 8 by decide, Nat.xor_mod_two_pow] at hm
  simp only [show (2 : Nat) ^ 8 = 256 by decide] at hm
  rw [show r * 256 % 65536 % 256 = 0 by omega, show s * 256 % 65536 % 256 = 0 by omega, Nat.zero_xor, Nat.zero_xor] at hm
  have hi := st8_back _ (x8_lt (a := r / 256) (by omega) hc) _ (x8_lt (a := s / 256) (by omega) hc) hm
  have h1 : r / 256 = s / 256 := by
    have := congrArg (fun z => z ^^^ c) hi
    simpa [Nat.xor_assoc, Nat.xor_self] using this
  rw [hi] at h
  have h2 : r * 256 % 65536 = s * 256 % 65536 := by
    have := congrArg (fun z => z ^^^ st8 ((s / 256 ^^^ c) * 256)) h
    simpa [Nat.xor_assoc, Nat.xor_self] using this
  omega

/-! ### The sum of bytes -/
def crcM (l : List UInt8) (r : Nat) : Nat := l.foldl (fun r c => smN r c.toNat) r
theorem crcM_lt (l : List UInt8) (r : Nat) (hr : r < 65536) : crcM l r < 65536 := by
  induction l generalizing r with
  | nil => exact hr
  | cons c l ih => exact ih _ (smN_lt _ _ hr c.toNat_lt)
theorem foldl_nat (l : List UInt8) (r : Nat) (hr : r < 65536) : l.foldl sumStep (r : Int) = (crcM l r : Int) := by
  induction l generalizing r with
  | nil => rfl
  | cons c l ih =>
    simp only [List.foldl_cons, crcM]
    rw [sumStep_nat _ _ hr]
    exact ih _ (smN_lt _ _ hr c.toNat_lt)
theorem crc_nat (l : List UInt8) : crc l = (crcM l 65535 : Int) := foldl_nat l 65535 (by decide)
theorem crc_lt (l : List UInt8) : 0 ≤ crc l ∧ crc l < 65536 := by
  have := crcM_lt l 65535 (by decide)
  rw [crc_nat]; omega
theorem crcM_append (a b : List UInt8) (r : Nat) : crcM (a ++ b) r = crcM b (crcM a r) := by simp [crcM]
theorem crcM_inj (l : List UInt8) (r s : Nat) (hr : r < 65536) (hs : s < 65536) (h : crcM l r = crcM l s) : r = s := by
  induction l generalizing r s with
  | nil => exact h
  | cons c l ih => exact smN_inj_sum _ _ _ hr hs c.toNat_lt (ih _ _ (smN_lt _ _ hr c.toNat_lt) (smN_lt _ _ hs c.toNat_lt) h)
/-- Bytes of which one was turned have another sum. -/
theorem crc_turned (a b : List UInt8) (c d : UInt8) (h : c ≠ d) : crc (a ++ c :: b) ≠ crc (a ++ d :: b) := by
  intro e
  rw [crc_nat, crc_nat] at e
  have e' : crcM (a ++ c :: b) 65535 = crcM (a ++ d :: b) 65535 := by omega
  rw [crcM_append, crcM_append] at e'
  have hr := crcM_lt a 65535 (by decide)
  have e2 : smN (crcM a 65535) c.toNat = smN (crcM a 65535) d.toNat := crcM_inj b _ _ (smN_lt _ _ hr c.toNat_lt) (smN_lt _ _ hr d.toNat_lt) e'
  have := smN_inj_byte _ _ _ hr c.toNat_lt d.toNat_lt e2
  exact h (UInt8.toNat_inj.1 this)

/-! ### Frames -/
def okL (l : List UInt8) : Bool := decide (5 ≤ l.length) && decide (l.length ≤ 69) && (l.getD 0 0 == 165) && decide ((l.getD 2 0).toNat + 5 = l.length) &&
  decide (crc ((l.drop 1).take (l.length - 3)) = ((l.getD (l.length - 2) 0).toNat : Int) * 256 + ((l.getD (l.length - 1) 0).toNat : Int))
theorem okL_iff (l : List UInt8) : okL l = true ↔ 5 ≤ l.length ∧ l.length ≤ 69 ∧ l.getD 0 0 = 165 ∧ (l.getD 2 0).toNat + 5 = l.length ∧
    crc ((l.drop 1).take (l.length - 3)) = ((l.getD (l.length - 2) 0).toNat : Int) * 256 + ((l.getD (l.length - 1) 0).toNat : Int) := by
  simp [okL, and_assoc]
def kindL (l : List UInt8) : Int := ((l.getD 1 0).toNat : Int)
def dataL (l : List UInt8) : List UInt8 := (l.drop 3).take (l.length - 5)
def need (l : List UInt8) : Nat := (l.getD 2 0).toNat + 5
abbrev FrameL := Int × List UInt8
def scanL (l : List UInt8) : List FrameL × List UInt8 × Nat :=
  if l = [] then ([], [], 0)
  else if l.getD 0 0 ≠ 165 then ((scanL l.tail).1, (scanL l.tail).2.1, (scanL l.tail).2.2 + 1)
  else if l.length < 3 then ([], l, 0)
  else if 69 < need l then ((scanL l.tail).1, (scanL l.tail).2.1, (scanL l.tail).2.2 + 1)
  else if l.length < need l then ([], l, 0)
  else if okL (l.take (need l)) = true then ((kindL (l.take (need l)), dataL (l.take (need l))) :: (scanL (l.drop (need l))).1, (scanL (l.drop (need l))).2.1, (scanL (l.drop (need l))).2.2)
  else ((scanL l.tail).1, (scanL l.tail).2.1, (scanL l.tail).2.2 + 1)
termination_by l.length
decreasing_by
  all_goals
    have hl : 0 < l.length := List.length_pos_iff.2 ‹l ≠ []›
    simp [need]; try omega

theorem scanL_bound (n : Nat) : ∀ l : List UInt8, l.length ≤ n → (scanL l).2.2 ≤ l.length ∧ (scanL l).1.length ≤ l.length := by
  induction n with
  | zero => intro l h; have : l = [] := List.length_eq_zero_iff.1 (by omega); subst this; rw [scanL]; simp
  | succ n ih =>
    intro l h
    by_cases h0 : l = []
    · subst h0; rw [scanL]; simp
    · have hl : 0 < l.length := List.length_pos_iff.2 h0
      have ht := ih l.tail (by simp; omega)
      have hd := ih (l.drop (need l)) (by simp [need]; omega)
      simp only [List.length_tail, List.length_drop] at ht hd
      have hn : 5 ≤ need l := by simp [need]
      rw [scanL, if_neg h0]
      split
      · simp only; omega
      · split
        · simp only [List.length_nil]; omega
        · split
          · simp only; omega
          · split
            · simp only [List.length_nil]; omega
            · split
              · simp only [List.length_cons]; omega
              · simp only; omega

theorem scanL_rest (n : Nat) : ∀ l : List UInt8, l.length ≤ n → (scanL l).2.1.length ≤ l.length := by
  induction n with
  | zero => intro l h; have : l = [] := List.length_eq_zero_iff.1 (by omega); subst this; rw [scanL]; simp
  | succ n ih =>
    intro l h
    by_cases h0 : l = []
    · subst h0; rw [scanL]; simp
    · have hl : 0 < l.length := List.length_pos_iff.2 h0
      have ht := ih l.tail (by simp; omega)
      have hd := ih (l.drop (need l)) (by simp [need]; omega)
      simp only [List.length_tail, List.length_drop] at ht hd
      rw [scanL, if_neg h0]
      split
      · simp only; omega
      · split
        · simp only [Nat.le_refl]
        · split
          · simp only; omega
          · split
            · simp only [Nat.le_refl]
            · split
              · simp only; omega
              · simp only; omega

/-- A stream that is cut in two gives what the whole gives. -/
theorem scanL_cut (n : Nat) : ∀ a b : List UInt8, a.length ≤ n →
    scanL (a ++ b) = ((scanL a).1 ++ (scanL ((scanL a).2.1 ++ b)).1, (scanL ((scanL a).2.1 ++ b)).2.1, (scanL a).2.2 + (scanL ((scanL a).2.1 ++ b)).2.2) := by
  induction n with
  | zero =>
    intro a b h
    have : a = [] := List.length_eq_zero_iff.1 (by omega)
    subst this
    have e : scanL [] = ([], [], 0) := by rw [scanL]; simp
    rw [e]; simp
  | succ n ih =>
    intro a b h
    by_cases h0 : a = []
    · subst h0
      have e : scanL [] = ([], [], 0) := by rw [scanL]; simp
      rw [e]; simp
    · have hl : 0 < a.length := List.length_pos_iff.2 h0
      have h0' : a ++ b ≠ [] := by simp [h0]
      have g0 : (a ++ b).getD 0 0 = a.getD 0 0 := by simp [List.getD, List.getElem?_append_left hl]
      have tl : (a ++ b).tail = a.tail ++ b := List.tail_append_of_ne_nil h0
      have it := ih a.tail b (by simp; omega)
      by_cases c1 : a.getD 0 0 ≠ 165
      · have ea : scanL a = ((scanL a.tail).1, (scanL a.tail).2.1, (scanL a.tail).2.2 + 1) := by rw [scanL, if_neg h0, if_pos c1]
        have eb : scanL (a ++ b) = ((scanL (a.tail ++ b)).1, (scanL (a.tail ++ b)).2.1, (scanL (a.tail ++ b)).2.2 + 1) := by rw [scanL, if_neg h0', if_pos (by rw [g0]; exact c1), tl]
        rw [eb, ea, it]
        simp only [Prod.mk.injEq, true_and]
        omega
      · by_cases c2 : a.length < 3
        · have ea : scanL a = ([], a, 0) := by rw [scanL, if_neg h0, if_neg c1, if_pos c2]
          rw [ea]; simp
        · have g2 : (a ++ b).getD 2 0 = a.getD 2 0 := by simp [List.getD, List.getElem?_append_left (show 2 < a.length by omega)]
          have gn : need (a ++ b) = need a := by simp only [need, g2]
          have c2' : ¬ (a ++ b).length < 3 := by simp; omega
          have c1' : ¬ (a ++ b).getD 0 0 ≠ 165 := by rw [g0]; exact c1
          by_cases c3 : 69 < need a
          · have ea : scanL a = ((scanL a.tail).1, (scanL a.tail).2.1, (scanL a.tail).2.2 + 1) := by rw [scanL, if_neg h0, if_neg c1, if_neg c2, if_pos c3]
            have eb : scanL (a ++ b) = ((scanL (a.tail ++ b)).1, (scanL (a.tail ++ b)).2.1, (scanL (a.tail ++ b)).2.2 + 1) := by
              rw [scanL, if_neg h0', if_neg c1', if_neg c2', if_pos (by rw [gn]; exact c3), tl]
            rw [eb, ea, it]
            simp only [Prod.mk.injEq, true_and]
            omega
          · by_cases c4 : a.length < need a
            · have ea : scanL a = ([], a, 0) := by rw [scanL, if_neg h0, if_neg c1, if_neg c2, if_neg c3, if_pos c4]
              rw [ea]; simp
            · have c4' : ¬ (a ++ b).length < need (a ++ b) := by rw [gn]; simp; omega
              have c3' : ¬ 69 < need (a ++ b) := by rw [gn]; exact c3
              have tk : (a ++ b).take (need (a ++ b)) = a.take (need a) := by rw [gn, List.take_append_of_le_length (by omega)]
              by_cases c5 : okL (a.take (need a)) = true
              · have hn : 5 ≤ need a := by simp [need]
                have dr : (a ++ b).drop (need (a ++ b)) = a.drop (need a) ++ b := by rw [gn, List.drop_append_of_le_length (by omega)]
                have id := ih (a.drop (need a)) b (by simp; omega)
                have ea : scanL a = ((kindL (a.take (need a)), dataL (a.take (need a))) :: (scanL (a.drop (need a))).1, (scanL (a.drop (need a))).2.1, (scanL (a.drop (need a))).2.2) := by
                  rw [scanL, if_neg h0, if_neg c1, if_neg c2, if_neg c3, if_neg c4, if_pos c5]
                have eb : scanL (a ++ b) = ((kindL (a.take (need a)), dataL (a.take (need a))) :: (scanL (a.drop (need a) ++ b)).1, (scanL (a.drop (need a) ++ b)).2.1, (scanL (a.drop (need a) ++ b)).2.2) := by
                  rw [scanL, if_neg h0', if_neg c1', if_neg c2', if_neg c3', if_neg c4', if_pos (by rw [tk]; exact c5), tk, dr]
                rw [eb, ea, id]
                simp
              · have ea : scanL a = ((scanL a.tail).1, (scanL a.tail).2.1, (scanL a.tail).2.2 + 1) := by rw [scanL, if_neg h0, if_neg c1, if_neg c2, if_neg c3, if_neg c4, if_neg c5]
                have eb : scanL (a ++ b) = ((scanL (a.tail ++ b)).1, (scanL (a.tail ++ b)).2.1, (scanL (a.tail ++ b)).2.2 + 1) := by
                  rw [scanL, if_neg h0', if_neg c1', if_neg c2', if_neg c3', if_neg c4', if_neg (by rw [tk]; exact c5), tl]
                rw [eb, ea, it]
                simp only [Prod.mk.injEq, true_and]
                omega
end Go.Proofs.Ytjdnmgdndfcghaa
