/- The printed functions of frames (PFrameTurned), held against the lists of FrSpec: what is opened, what is scanned; strings of at most a million bytes. -/
import Derived.Test.YtjdnmgdndfcghaaFrSpec
import Derived.Test.YtjdnmgdndfcghaaPFrameTurnedx3
namespace Go.Proofs.Ytjdnmgdndfcghaa.PFrameTurned
open Go.RowKit Go.Proofs.YtjdnmgdndfcghaaW.PrintWords Go.Proofs.YtjdnmgdndfcghaaW.PrintLast
theorem size_l (s : ByteArray) : s.size = s.data.toList.length := (data_length s).symm
theorem bt_l (s : ByteArray) (i : Nat) (h : i < s.size) : bt s (i : Int) = ((s.data.toList.getD i 0).toNat : Int) := by
  have h' : (i : Int).toNat < s.size := by simpa using h
  rw [bt, dif_pos h']
  simp only [Int.toNat_natCast]
  have : i < s.data.toList.length := by rw [← size_l]; exact h
  simp [List.getD, List.getElem?_eq_getElem this]
  rfl
theorem bt_0 (s : ByteArray) (h : 0 < s.size) : bt s 0 = ((s.data.toList.getD 0 0).toNat : Int) := bt_l s 0 h
theorem bt_1 (s : ByteArray) (h : 1 < s.size) : bt s 1 = ((s.data.toList.getD 1 0).toNat : Int) := bt_l s 1 h
theorem bt_2 (s : ByteArray) (h : 2 < s.size) : bt s 2 = ((s.data.toList.getD 2 0).toNat : Int) := bt_l s 2 h
theorem byte_lt (l : List UInt8) (i : Nat) : (l.getD i 0).toNat < 256 := (l.getD i 0).toNat_lt
theorem w64 {n : Int} (h0 : -9223372036854775808 ≤ n) (h1 : n ≤ 9223372036854775807) : wrap64 n = n := by unfold wrap64; omega
def encB (l : List UInt8) : ByteArray := ⟨l.toArray⟩
theorem ext_l {s t : ByteArray} (h : s.data.toList = t.data.toList) : s = t := by
  obtain ⟨⟨s⟩⟩ := s; obtain ⟨⟨t⟩⟩ := t; simp at h; subst h; rfl
theorem encB_data (s : ByteArray) : encB s.data.toList = s := ext_l (by simp [encB])
theorem extract_l (s : ByteArray) (a b : Nat) : (s.extract a b).data.toList = (s.data.toList.drop a).take (b - a) := Lib.extract_data s a b
theorem or16 (a b : Int) (h0 : 0 ≤ a) (h1 : a < 256) (h2 : 0 ≤ b) (h3 : b < 256) : Go.bits .or .u16 (IntKind.u16.wrap ((IntKind.u16.wrap a) * 256)) (IntKind.u16.wrap b) = a * 256 + b := by
  rw [IntKind.wrap_u16, IntKind.wrap_u16, IntKind.wrap_u16, u16_or _ _ (by omega) (by omega) (by omega) (by omega)]
  have e1 : (a % 65536 * 256 % 65536).toNat = 2 ^ 8 * a.toNat := by omega
  have e2 : (b % 65536).toNat = b.toNat := by omega
  rw [e1, e2, ← Nat.two_pow_add_eq_or_of_lt (by omega)]
  omega
def openR (l : List UInt8) : Int × ByteArray × Bool := if okL l = true then (kindL l, encB (dataL l), true) else (0, (⟨#[]⟩ : ByteArray), false)
theorem open_eq (s : ByteArray) (k : Nat) (hs : s.size ≤ 1000000) : frame_Open.f (k + 1) s = some (openR s.data.toList) := by
  have hl := size_l s
  unfold frame_Open.f openR
  by_cases c0 : (s.size : Int) < 5
  · rw [if_pos c0, if_neg (by rw [okL_iff]; omega)]; simp [frame_Open.j0]
  · rw [if_neg c0, if_pos (by omega)]
    by_cases c1 : bt s 0 = 165
    · rw [if_pos c1, if_pos (by omega)]
      rw [bt_0 s (by omega)] at c1
      have c1' : s.data.toList.getD 0 0 = 165 := by apply UInt8.toNat_inj.1; simpa using (by omega : (s.data.toList.getD 0 0).toNat = 165)
      have b2 := byte_lt s.data.toList 2
      rw [bt_2 s (by omega), w64 (by omega) (by omega), w64 (n := (s.size : Int) - 5) (by omega) (by omega)]
      by_cases c2 : (((s.data.toList.getD 2 0).toNat : Int)) = (s.size : Int) - 5
      · rw [if_pos c2]
        by_cases c3 : (s.size : Int) - 5 > 64
        · rw [if_neg (by rw [okL_iff]; omega), decide_eq_true c3]; simp [frame_Open.j0]
        · rw [decide_eq_false c3]
          simp only [frame_Open.j0]
          have hn : ((s.size : Int) - 2) = ((s.size - 2 : Nat) : Int) := by omega
          have hb1 := byte_lt s.data.toList (s.size - 2)
          have hb2 := byte_lt s.data.toList (s.size - 1)
          rw [if_neg (by simp), w64 (n := (s.size : Int) - 2) (by omega) (by omega), if_pos (by omega), if_pos (by omega)]
          rw [frame_Sum.f, if_pos (by simp; omega)]
          simp only [Option.bind_some]
          rw [if_pos (by omega), if_pos (by omega), w64 (n := (s.size : Int) - 2 + 1) (by omega) (by omega), if_pos (by omega), if_pos (by omega)]
          rw [hn, bt_l s (s.size - 2) (by omega), show (((s.size - 2 : Nat) : Int) + 1) = ((s.size - 1 : Nat) : Int) by omega, bt_l s (s.size - 1) (by omega)]
          rw [or16 _ _ (by omega) (by omega) (by omega) (by omega), Int.toNat_natCast, extract_l, bt_1 s (by omega), w64 (by have := byte_lt s.data.toList 1; omega) (by have := byte_lt s.data.toList 1; omega)]
          by_cases c4 : crc ((s.data.toList.drop 1).take (s.size - 2 - 1)) = ((s.data.toList.getD (s.size - 2) 0).toNat : Int) * 256 + ((s.data.toList.getD (s.size - 1) 0).toNat : Int)
          · rw [if_pos c4, if_pos (by omega), if_pos (by omega), if_pos (by rw [okL_iff, ← hl]; refine ⟨by omega, by omega, c1', by omega, ?_⟩; rw [← c4, show s.size - 3 = s.size - 2 - 1 by omega])]
            simp only [kindL, dataL, Option.some.injEq, Prod.mk.injEq, true_and, and_true]
            apply ext_l
            rw [extract_l, ← hl]; simp [encB]; omega
          · rw [if_neg c4, if_neg (by rw [okL_iff, ← hl]; intro h; apply c4; rw [← h.2.2.2.2, show s.size - 3 = s.size - 2 - 1 by omega])]
      · rw [if_neg c2, if_neg (by rw [okL_iff, ← hl]; omega)]; simp [frame_Open.j0]
    · rw [if_neg c1, if_neg (by rw [okL_iff]; intro h; apply c1; rw [bt_0 s (by omega), h.2.2.1]; rfl)]; simp [frame_Open.j0]

theorem idx_spec (c : UInt8) : ∀ l : List UInt8, (Lib.indexByte l c = -1 ∧ ∀ j, j < l.length → l.getD j 0 ≠ c) ∨ ∃ t : Nat, Lib.indexByte l c = (t : Int) ∧ t < l.length ∧ l.getD t 0 = c ∧ ∀ j, j < t → l.getD j 0 ≠ c
  | [] => .inl ⟨rfl, fun j hj => by simp at hj⟩
  | b :: l => by
    unfold Lib.indexByte
    by_cases h : b = c
    · subst h
      exact .inr ⟨0, by simp, by simp, by simp, fun j hj => by omega⟩
    · have hb : (b == c) = false := by simpa using h
      simp only [hb, Bool.false_eq_true, if_false]
      rcases idx_spec c l with ⟨h1, h2⟩ | ⟨t, h1, h2, h3, h4⟩
      · refine .inl ⟨by simp [h1], fun j hj => ?_⟩
        cases j with
        | zero => simpa using h
        | succ j => simp only [List.getD_cons_succ]; exact h2 j (by simpa using hj)
      · refine .inr ⟨t + 1, ?_, by simp; omega, by simpa using h3, fun j hj => ?_⟩
        · have : ((t : Int) == -1) = false := by simp <;> omega
          simp [h1, this]
        · cases j with
          | zero => simpa using h
          | succ j => simp only [List.getD_cons_succ]; exact h4 j (by omega)
theorem scan_nil : scanL [] = ([], [], 0) := by rw [scanL]; simp
theorem scan_skip : ∀ (t : Nat) (l : List UInt8), t ≤ l.length → (∀ j, j < t → l.getD j 0 ≠ 165) → scanL l = ((scanL (l.drop t)).1, (scanL (l.drop t)).2.1, (scanL (l.drop t)).2.2 + t)
  | 0, l, _, _ => by simp
  | t + 1, l, h, hj => by
    have h0 : l ≠ [] := by intro e; subst e; simp at h
    have e1 : scanL l = ((scanL l.tail).1, (scanL l.tail).2.1, (scanL l.tail).2.2 + 1) := by rw [scanL, if_neg h0, if_pos (hj 0 (by omega))]
    have ih := scan_skip t l.tail (by simp; omega) (fun j hjt => by
      have := hj (j + 1) (by omega)
      cases l with
      | nil => exact absurd rfl h0
      | cons b l => simpa using this)
    rw [e1, ih]
    have : l.tail.drop t = l.drop (t + 1) := by simp
    rw [this]
    simp; omega
def frS (x : FrameL) : S30 := ⟨x.1, encB x.2⟩
theorem okL_short (l : List UInt8) (n : Nat) (h : l.length < need l ∨ 69 < need l) (h3 : 3 ≤ l.length) (hn : n = min (need l) l.length) : okL (l.take n) = false := by
  have : ¬ okL (l.take n) = true := by
    rw [okL_iff]
    rintro ⟨h5, h69, _, hnd, _⟩
    have e : (l.take n).getD 2 0 = l.getD 2 0 := by
      simp only [List.getD, List.getElem?_take]
      rw [if_pos (by simp [need] at hn; omega)]
    rw [e, List.length_take] at hnd
    simp only [List.length_take, need] at *
    omega
  simpa using this
/-- The scan of the program is the scan of the lists. -/
theorem scan_eq (n : Nat) : ∀ (s : ByteArray) (acc : List S30) (over : Int) (k : Nat), s.size ≤ n → n ≤ 1000000 → acc.length + s.size ≤ 2000000 → 0 ≤ over → over + s.size ≤ 2000000 → 2 * n + 3 ≤ k →
    frame_Scan.l0 k s acc over = some (acc ++ (scanL s.data.toList).1.map frS, encB (scanL s.data.toList).2.1, over + ((scanL s.data.toList).2.2 : Int)) := by
  induction n with
  | zero =>
    intro s acc over k hs _ _ h0 h1 hk
    obtain ⟨k, rfl⟩ : ∃ m, k = m + 1 := ⟨k - 1, by omega⟩
    have hl := size_l s
    have e : s.data.toList = [] := List.length_eq_zero_iff.1 (by omega)
    simp only [frame_Scan.l0, strings_IndexByte.f, Option.bind_some]
    rw [e, scan_nil]
    have : Lib.indexByte [] (Int.toNat 165).toUInt8 = -1 := rfl
    rw [this, if_pos (by decide), w64 (by omega) (by omega)]
    simp [encB]; omega
  | succ n ih =>
    intro s acc over k hs hn ha h0 h1 hk
    obtain ⟨k, rfl⟩ : ∃ m, k = m + 3 := ⟨k - 3, by omega⟩
    have hl := size_l s
    simp only [frame_Scan.l0, strings_IndexByte.f, Option.bind_some]
    have e165 : (Int.toNat 165).toUInt8 = 165 := rfl
    rw [e165]
    rcases idx_spec 165 s.data.toList with ⟨hi, hno⟩ | ⟨t, hi, ht, htc, hno⟩
    · rw [hi, if_pos (by decide), w64 (by omega) (by omega)]
      have e := scan_skip s.data.toList.length s.data.toList (Nat.le_refl _) hno
      rw [List.drop_length, scan_nil] at e
      rw [e, ← hl]
      simp [encB]
    · rw [hi, if_neg (by omega), if_pos (by omega), if_pos (by omega)]
      have esk := scan_skip t s.data.toList (by omega) hno
      rw [esk]
      obtain ⟨y, hy⟩ : ∃ y : ByteArray, s.extract t s.size = y := ⟨_, rfl⟩
      have hyl : y.data.toList = s.data.toList.drop t := by
        rw [← hy, extract_l, List.take_of_length_le (by simp)]
      have hys : y.size = s.size - t := by rw [size_l y, hyl, List.length_drop, ← hl]
      simp only [Int.toNat_natCast, hy, ← hyl]
      have hly := size_l y
      have hy0 : y.data.toList ≠ [] := by intro e; rw [e, List.length_nil] at hly; omega
      have hyc : y.data.toList.getD 0 0 = 165 := by rw [hyl]; simpa [List.getD] using htc
      rw [w64 (n := over + (t : Int)) (by omega) (by omega)]
      by_cases c2 : (y.size : Int) < 3
      · rw [if_pos c2]
        have e : scanL y.data.toList = ([], y.data.toList, 0) := by rw [scanL, if_neg hy0, if_neg (fun h => h hyc), if_pos (by omega)]
        rw [e]
        simp [encB_data]
      · rw [if_neg c2, if_pos (by omega)]
        have b2 := byte_lt y.data.toList 2
        rw [bt_2 y (by omega), w64 (n := ((y.data.toList.getD 2 0).toNat : Int)) (by omega) (by omega), w64 (n := ((y.data.toList.getD 2 0).toNat : Int) + 5) (by omega) (by omega)]
        have hnd : ((y.data.toList.getD 2 0).toNat : Int) + 5 = (need y.data.toList : Int) := by simp [need]
        rw [hnd]
        have hnd5 : 5 ≤ need y.data.toList := by simp [need]
        have hndb : need y.data.toList ≤ 260 := by simp only [need]; omega
        -- what the second half does where it goes on
        have step : ∀ b : Bool, (b = true ↔ y.data.toList.length < need y.data.toList ∧ need y.data.toList ≤ 69) →
            frame_Scan.j1 (k + 2) y acc (over + t) (need y.data.toList) b = some (acc ++ (scanL y.data.toList).1.map frS, encB (scanL y.data.toList).2.1, over + t + ((scanL y.data.toList).2.2 : Int)) := by
          intro b hb
          cases b with
          | true =>
            obtain ⟨c4, c3⟩ := hb.1 rfl
            have e : scanL y.data.toList = ([], y.data.toList, 0) := by rw [scanL, if_neg hy0, if_neg (fun h => h hyc), if_neg (by omega), if_neg (by omega), if_pos c4]
            rw [e]
            simp [frame_Scan.j1, encB_data]
          | false =>
            have c34 : ¬ (y.data.toList.length < need y.data.toList ∧ need y.data.toList ≤ 69) := fun h => by have := hb.2 h; simp at this
            simp only [frame_Scan.j1]
            have hmn : mn (need y.data.toList : Int) (y.size : Int) = ((min (need y.data.toList) y.size : Nat) : Int) := by unfold mn; omega
            rw [if_neg (by simp), hmn, if_pos (by omega), if_pos (by omega), open_eq _ k (by simp [ByteArray.size_extract]; omega)]
            simp only [Option.bind_some, Int.toNat_natCast]
            have ex : (y.extract 0 (min (need y.data.toList) y.size)).data.toList = y.data.toList.take (min (need y.data.toList) y.size) := by rw [extract_l]; simp
            rw [ex]
            unfold openR
            by_cases c5 : okL (y.data.toList.take (min (need y.data.toList) y.size)) = true
            · have c4 : ¬ y.data.toList.length < need y.data.toList := fun h => by
                rw [okL_short _ _ (.inl h) (by omega) (by rw [← hly])] at c5; simp at c5
              have c3 : ¬ 69 < need y.data.toList := fun h => by
                rw [okL_short _ _ (.inr h) (by omega) (by rw [← hly])] at c5; simp at c5
              have em : min (need y.data.toList) y.size = need y.data.toList := by omega
              rw [em] at c5 ⊢
              rw [if_pos c5]
              simp only [if_true]
              rw [if_pos (by omega), if_pos (by omega), if_pos (by omega)]
              rw [ih _ _ _ _ (by simp [ByteArray.size_extract]; omega) (by omega) (by simp [ByteArray.size_extract]; omega) (by omega) (by simp [ByteArray.size_extract]; omega) (by omega)]
              have ed : (y.extract (need y.data.toList) y.size).data.toList = y.data.toList.drop (need y.data.toList) := by
                rw [extract_l, List.take_of_length_le (by simp)]
              rw [ed]
              have e : scanL y.data.toList = ((kindL (y.data.toList.take (need y.data.toList)), dataL (y.data.toList.take (need y.data.toList))) :: (scanL (y.data.toList.drop (need y.data.toList))).1, (scanL (y.data.toList.drop (need y.data.toList))).2.1, (scanL (y.data.toList.drop (need y.data.toList))).2.2) := by
                rw [scanL, if_neg hy0, if_neg (fun h => h hyc), if_neg (by omega), if_neg c3, if_neg c4, if_pos c5]
              rw [e]
              simp [frS]
            · rw [if_neg c5]
              simp only [Bool.false_eq_true, if_false]
              rw [if_pos (by omega), w64 (n := over + (t : Int) + 1) (by omega) (by omega)]
              rw [ih _ _ _ _ (by simp [ByteArray.size_extract]; omega) (by omega) (by simp [ByteArray.size_extract]; omega) (by omega) (by simp [ByteArray.size_extract]; omega) (by omega)]
              have ed : (y.extract 1 y.size).data.toList = y.data.toList.tail := by
                rw [extract_l, List.take_of_length_le (by simp)]; simp
              rw [ed]
              have e : scanL y.data.toList = ((scanL y.data.toList.tail).1, (scanL y.data.toList.tail).2.1, (scanL y.data.toList.tail).2.2 + 1) := by
                by_cases c3 : 69 < need y.data.toList
                · rw [scanL, if_neg hy0, if_neg (fun h => h hyc), if_neg (by omega), if_pos c3]
                · have c4 : ¬ y.data.toList.length < need y.data.toList := by omega
                  have em : min (need y.data.toList) y.size = need y.data.toList := by omega
                  rw [em] at c5
                  rw [scanL, if_neg hy0, if_neg (fun h => h hyc), if_neg (by omega), if_neg c3, if_neg c4, if_neg c5]
              rw [e]
              simp; omega
        by_cases c4 : (need y.data.toList : Int) > (y.size : Int)
        · rw [if_pos c4, step _ (by simp; omega)]
          simp; omega
        · rw [if_neg c4, step _ (by simp; omega)]
          simp; omega

theorem awake_10 : alidadelaw11_awake.f 10 = some true := by kernel_rfl
theorem awake_k (k : Nat) (h : 10 ≤ k) : alidadelaw11_awake.f k = some true := at_rounds alidadelaw11_awake.mono h awake_10
theorem scan_f (s : ByteArray) (k : Nat) (hs : s.size ≤ 6000) (hk : 12003 ≤ k) :
    frame_Scan.f k s = some ((scanL s.data.toList).1.map frS, encB (scanL s.data.toList).2.1, ((scanL s.data.toList).2.2 : Int)) := by
  unfold frame_Scan.f
  rw [scan_eq 6000 s [] 0 k hs (by omega) (by simp; omega) (by omega) (by omega) (by omega)]
  simp
end Go.Proofs.Ytjdnmgdndfcghaa.PFrameTurned
