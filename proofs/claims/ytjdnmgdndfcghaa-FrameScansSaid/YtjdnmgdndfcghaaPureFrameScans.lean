/- What the program finds in a stream of at most 3000 bytes, what it leaves, and how much it passes over, are the reference's: the pure statement of the law FrameScans; no further condition. -/
import Derived.Test.YtjdnmgdndfcghaaLnkFrameScans
namespace Go.Proofs.Ytjdnmgdndfcghaa.Pure
open Go.RowKit Go.Proofs.Ytjdnmgdndfcghaa Go.Proofs.Ytjdnmgdndfcghaa.PFrameScans Go.Proofs.YtjdnmgdndfcghaaW.PrintWords Go.Proofs.YtjdnmgdndfcghaaW.PrintLast

/-! ### The reference's sum, bit by bit -/
theorem stp_bits (r : Nat) (h : r < 65536) : (if (r : Int) ≥ 32768 then Go.bits .xor .u16 (IntKind.u16.wrap ((r : Int) * 2)) 4129 else IntKind.u16.wrap ((r : Int) * 2)) = (stN r : Int) := by
  rw [IntKind.wrap_u16, show ((r : Int) * 2 % 65536) = ((r * 2 % 65536 : Nat) : Int) by omega]
  unfold stN
  split
  · rename_i hc
    have e : r / 32768 * 4129 = 4129 := by omega
    rw [e, show (4129 : Int) = ((4129 : Nat) : Int) from rfl]
    exact u16_xor_nat _ _ (by omega) (by omega)
  · rename_i hc
    have e : r / 32768 * 4129 = 0 := by omega
    rw [e, Nat.xor_zero]
def stI : Nat → Nat → Nat | 0, r => r | n + 1, r => stI n (stN r)
theorem stI_lt (n : Nat) : ∀ r, r < 65536 → stI n r < 65536 := by
  induction n with
  | zero => intro r h; exact h
  | succ n ih => intro r h; exact ih _ (stN_lt _ h)
theorem sum_bits (s : ByteArray) (i : Int) (n : Nat) : ∀ (j k r : Nat), j + n = 8 → r < 65536 →
    alidaderef11_Sum.l1 (k + n + 1) s (r : Int) i (j : Int) = alidaderef11_Sum.l0 k s (stI n r : Nat) (wrap64 (i + 1)) := by
  induction n with
  | zero =>
    intro j k r hj hr
    obtain rfl : j = 8 := by omega
    simp only [alidaderef11_Sum.l1, stI]
    rw [if_neg (by omega)]
  | succ n ih =>
    intro j k r hj hr
    rw [show k + (n + 1) + 1 = (k + n + 1) + 1 by omega]
    simp only [alidaderef11_Sum.l1]
    have hb := stp_bits r hr
    have hw : wrap64 ((j : Int) + 1) = ((j + 1 : Nat) : Int) := by rw [w64 (by omega) (by omega)]; omega
    rw [if_pos (by omega), hw]
    by_cases c : (r : Int) ≥ 32768
    · rw [if_pos c] at hb ⊢
      rw [hb]
      exact ih (j + 1) k _ (by omega) (stN_lt _ hr)
    · rw [if_neg c] at hb ⊢
      rw [hb]
      exact ih (j + 1) k _ (by omega) (stN_lt _ hr)
theorem stI_8 (r : Nat) : stI 8 r = st8 r := rfl
theorem sum_ref (s : ByteArray) (hs : s.size ≤ 1000000) (n : Nat) : ∀ (i k r : Nat), i + n = s.size → r < 65536 → 10 * n + 1 ≤ k →
    alidaderef11_Sum.l0 k s (r : Int) (i : Int) = some ((crcM (s.data.toList.drop i) r : Nat) : Int) := by
  have hl := size_l s
  induction n with
  | zero =>
    intro i k r hi hr hk
    obtain ⟨k, rfl⟩ : ∃ m, k = m + 1 := ⟨k - 1, by omega⟩
    simp only [alidaderef11_Sum.l0]
    rw [if_neg (by omega), List.drop_of_length_le (by omega)]
    rfl
  | succ n ih =>
    intro i k r hi hr hk
    obtain ⟨k, rfl⟩ : ∃ m, k = (m + 8 + 1) + 1 := ⟨k - 10, by omega⟩
    simp only [alidaderef11_Sum.l0]
    have hb := byte_lt s.data.toList i
    rw [if_pos (by omega), if_pos (by omega), bt_l s i (by omega)]
    have e1 : Go.bits .xor .u16 (r : Int) (IntKind.u16.wrap ((IntKind.u16.wrap ((s.data.toList.getD i 0).toNat : Int)) * 256)) = ((r ^^^ (s.data.toList.getD i 0).toNat * 256 : Nat) : Int) := by
      rw [IntKind.wrap_u16, IntKind.wrap_u16, show (((s.data.toList.getD i 0).toNat : Int) % 65536 * 256 % 65536) = (((s.data.toList.getD i 0).toNat * 256 : Nat) : Int) by omega]
      exact u16_xor_nat _ _ hr (by omega)
    have hx := xor_lt16 hr (show (s.data.toList.getD i 0).toNat * 256 < 65536 by omega)
    rw [e1, show (0 : Int) = ((0 : Nat) : Int) by rfl, sum_bits s i 8 0 k _ (by omega) hx, stI_8, smN_bits _ _ hr hb]
    rw [w64 (by omega) (by omega), show ((i : Int) + 1) = ((i + 1 : Nat) : Int) by omega, ih (i + 1) k _ (by omega) (smN_lt _ _ hr hb) (by omega)]
    have hi' : i < s.data.toList.length := by omega
    rw [List.drop_eq_getElem_cons hi']
    simp [crcM, List.getD, List.getElem?_eq_getElem hi']
theorem sum_f (s : ByteArray) (k : Nat) (hs : s.size ≤ 1000) (hk : 10001 ≤ k) : alidaderef11_Sum.f k s = some (crc s.data.toList) := by
  unfold alidaderef11_Sum.f
  rw [show (65535 : Int) = ((65535 : Nat) : Int) by rfl, show (0 : Int) = ((0 : Nat) : Int) by rfl, sum_ref s (by omega) s.size 0 k 65535 (by omega) (by decide) (by omega), List.drop_zero, crc_nat]

/-! ### The reference's frames -/
def wrapB (kind : Int) (d : List UInt8) : List UInt8 :=
  165 :: UInt8.ofNat kind.toNat :: UInt8.ofNat d.length :: (d ++ [UInt8.ofNat (crc (UInt8.ofNat kind.toNat :: UInt8.ofNat d.length :: d) / 256).toNat, UInt8.ofNat (crc (UInt8.ofNat kind.toNat :: UInt8.ofNat d.length :: d) % 256).toNat])
theorem wrap_ref (n : Int) (d : ByteArray) (k : Nat) (h0 : 0 ≤ n) (h1 : n ≤ 255) (hd : d.size ≤ 64) (hk : 10001 ≤ k) : alidaderef11_Wrap.f k n d = some (encB (wrapB n d.data.toList), true) := by
  have hl := size_l d
  unfold alidaderef11_Wrap.f
  rw [if_neg (by omega), if_neg (by omega), if_neg (by omega)]
  simp only [Option.bind_some]
  have hz1 : ∀ x y : Int, (strOfNums [x, y]).size = 2 := fun x y => by simp [strOfNums, ByteArray.size]
  have hz0 : (⟨#[165]⟩ : ByteArray).size = 1 := rfl
  rw [if_pos (by rw [hz1]; omega), sum_f _ _ (by rw [ByteArray.size_append, hz1]; omega) hk]
  simp only [Option.bind_some]
  have hdat : (strOfNums [n % 256, (d.size : Int) % 256] ++ d).data.toList = UInt8.ofNat n.toNat :: UInt8.ofNat d.data.toList.length :: d.data.toList := by
    rw [ByteArray.data_append, Array.toList_append, strOfNums_data]
    simp only [List.map_cons, List.map_nil, List.cons_append, List.nil_append]
    rw [show (n % 256) = n by omega, show ((d.size : Int) % 256).toNat = d.data.toList.length by omega]
  have hcl := crc_lt (UInt8.ofNat n.toNat :: UInt8.ofNat d.data.toList.length :: d.data.toList)
  rw [hdat]
  generalize hg : crc (UInt8.ofNat n.toNat :: UInt8.ofNat d.data.toList.length :: d.data.toList) = c at hcl
  have e1 : IntKind.u16.wrap (Int.tdiv c 256) % 256 = c / 256 := by
    rw [IntKind.wrap_u16, Int.tdiv_eq_ediv_of_nonneg hcl.1]; omega
  have e2 : Int.tmod c 256 % 256 = c % 256 := by rw [Int.tmod_eq_emod_of_nonneg hcl.1]; omega
  rw [e1, e2, if_pos (by rw [ByteArray.size_append, hz1]; omega), if_pos (by rw [ByteArray.size_append, hz0, ByteArray.size_append, hz1, hz1]; omega)]
  simp only [Option.some.injEq, Prod.mk.injEq, and_true]
  apply ext_l
  rw [ByteArray.data_append, Array.toList_append, ByteArray.data_append, Array.toList_append, hdat, strOfNums_data]
  simp only [encB, wrapB, hg]
  simp
theorem wrapB_ok (l : List UInt8) (h5 : 5 ≤ l.length) (h69 : l.length ≤ 69) : wrapB (kindL l) (dataL l) = l ↔ okL l = true := by
  match l, h5 with
  | a :: b :: c :: rest, h5 =>
    have hr : 2 ≤ rest.length := by simp at h5; omega
    have hrl : rest.length ≤ 66 := by simp at h69; omega
    have e1 : dataL (a :: b :: c :: rest) = rest.take (rest.length - 2) := by simp [dataL]
    have e2 : kindL (a :: b :: c :: rest) = (b.toNat : Int) := rfl
    have hlast : rest = rest.take (rest.length - 2) ++ [rest.getD (rest.length - 2) 0, rest.getD (rest.length - 1) 0] := by
      have h1 : rest.drop (rest.length - 2) = [rest.getD (rest.length - 2) 0, rest.getD (rest.length - 1) 0] := by
        rw [List.drop_eq_getElem_cons (by omega), List.drop_eq_getElem_cons (by omega), List.drop_of_length_le (by omega)]
        simp [List.getD, show rest.length - 2 + 1 = rest.length - 1 by omega]
        exact ⟨by rw [List.getElem?_eq_getElem (by omega)]; rfl, by rw [List.getElem?_eq_getElem (by omega)]; rfl⟩
      rw [← h1, List.take_append_drop]
    generalize hd : rest.take (rest.length - 2) = d at *
    have hdl : d.length = rest.length - 2 := by rw [← hd]; simp
    generalize rest.getD (rest.length - 2) 0 = h at *
    generalize rest.getD (rest.length - 1) 0 = lo at *
    subst hlast
    rw [e1, e2]
    unfold wrapB
    have eb : UInt8.ofNat ((b.toNat : Int)).toNat = b := by simp
    rw [eb]
    have ecrc : ((a :: b :: c :: (d ++ [h, lo])).drop 1).take ((a :: b :: c :: (d ++ [h, lo])).length - 3) = b :: c :: d := by
      simp only [List.drop_succ_cons, List.drop_zero, List.length_cons, List.length_append, List.length_nil]
      rw [show d.length + (0 + 1 + 1) + 1 + 1 + 1 - 3 = d.length + 2 by omega]
      simp
    have eh : (a :: b :: c :: (d ++ [h, lo])).getD ((a :: b :: c :: (d ++ [h, lo])).length - 2) 0 = h := by
      simp [List.getD]
    have el : (a :: b :: c :: (d ++ [h, lo])).getD ((a :: b :: c :: (d ++ [h, lo])).length - 1) 0 = lo := by
      simp [List.getD]
    rw [okL_iff, ecrc, eh, el]
    have hd64 : d.length ≤ 64 := by simp at hrl; omega
    have hcl := crc_lt (b :: UInt8.ofNat d.length :: d)
    have hhl := h.toNat_lt
    have hll := lo.toNat_lt
    have hcc := c.toNat_lt
    simp only [List.cons.injEq, List.append_cancel_left_eq, and_true, true_and]
    constructor
    · rintro ⟨rfl, rfl, rfl, rfl⟩
      refine ⟨by simp, by simp; omega, rfl, by simp [List.getD]; omega, ?_⟩
      simp; omega
    · rintro ⟨_, _, h0, h2, h3⟩
      have ha : (165 : UInt8) = a := by simpa [List.getD] using h0.symm
      have hc : UInt8.ofNat d.length = c := by
        apply UInt8.toNat_inj.1
        simp [List.getD] at h2
        simp; omega
      rw [hc]
      refine ⟨ha, rfl, ?_, ?_⟩
      · apply UInt8.toNat_inj.1; rw [h3]; simp; omega
      · apply UInt8.toNat_inj.1; rw [h3]; simp; omega
theorem open_ref (s : ByteArray) (k : Nat) (hs : s.size ≤ 3000) (hk : 10001 ≤ k) : alidaderef11_Open.f k s = some (openR s.data.toList) := by
  have hl := size_l s
  unfold alidaderef11_Open.f openR
  by_cases c0 : (s.size : Int) < 5
  · rw [if_pos c0, if_neg (by rw [okL_iff]; omega)]
  · rw [if_neg c0, if_pos (by omega), w64 (n := (s.size : Int) - 2) (by omega) (by omega), if_pos (by omega), if_pos (by omega)]
    have hb := byte_lt s.data.toList 1
    rw [bt_1 s (by omega), w64 (by omega) (by omega)]
    obtain ⟨d, hd⟩ : ∃ d : ByteArray, s.extract 3 ((s.size : Int) - 2).toNat = d := ⟨_, rfl⟩
    have hdl : d.data.toList = dataL s.data.toList := by
      rw [← hd, extract_l, show ((s.size : Int) - 2).toNat - 3 = s.data.toList.length - 5 by omega]; rfl
    have hds : d.size = s.size - 5 := by rw [size_l d, hdl]; simp [dataL]; have := hl; simp at this; omega
    rw [hd]
    by_cases c1 : s.size ≤ 69
    · rw [wrap_ref _ d k (by omega) (by omega) (by omega) hk, hdl]
      simp only [Option.bind_some, if_true]
      have hok := wrapB_ok s.data.toList (by omega) (by omega)
      have ek : ((s.data.toList.getD 1 0).toNat : Int) = kindL s.data.toList := rfl
      rw [ek]
      have es : (encB (wrapB (kindL s.data.toList) (dataL s.data.toList))).toList = s.toList ↔ wrapB (kindL s.data.toList) (dataL s.data.toList) = s.data.toList := by
        rw [Lib.toList_data, Lib.toList_data]; simp [encB]
      by_cases c2 : okL s.data.toList = true
      · rw [if_pos (es.2 (hok.2 c2)), if_pos c2]
        simp only [Option.some.injEq, Prod.mk.injEq, true_and, and_true]
        apply ext_l
        rw [hdl]; simp [encB]
      · rw [if_neg (fun h => c2 (hok.1 (es.1 h))), if_neg c2]
    · have hw : alidaderef11_Wrap.f k ((s.data.toList.getD 1 0).toNat : Int) d = some ((⟨#[]⟩ : ByteArray), false) := by
        unfold alidaderef11_Wrap.f
        rw [if_neg (by omega), if_neg (by omega), if_pos (by omega)]
      rw [hw, if_neg (by rw [okL_iff]; omega)]
      simp

theorem scan_ref (s : ByteArray) (hs : s.size ≤ 3000) (n : Nat) : ∀ (i : Nat) (acc : List S30) (over : Int) (k : Nat), i ≤ s.size → s.size ≤ i + n → acc.length + (s.size - i) ≤ 3000 → 0 ≤ over → over + ((s.size - i : Nat) : Int) ≤ 3000 → n + 10002 ≤ k →
    alidaderef11_Scan.l0 k s acc over (i : Int) = some (acc ++ (scanL (s.data.toList.drop i)).1.map frS, encB (scanL (s.data.toList.drop i)).2.1, over + ((scanL (s.data.toList.drop i)).2.2 : Int)) := by
  have hl := size_l s
  induction n with
  | zero =>
    intro i acc over k hi hn _ _ _ hk
    obtain ⟨k, rfl⟩ : ∃ m, k = m + 1 := ⟨k - 1, by omega⟩
    simp only [alidaderef11_Scan.l0]
    rw [if_neg (by omega), List.drop_of_length_le (by omega), scan_nil]
    simp [encB]
  | succ n ih =>
    intro i acc over k hi hn ha h0 h1 hk
    obtain ⟨k, rfl⟩ : ∃ m, k = m + 1 := ⟨k - 1, by omega⟩
    simp only [alidaderef11_Scan.l0]
    by_cases c0 : i < s.size
    · rw [if_pos (by omega), if_pos (by omega)]
      obtain ⟨y, hy⟩ : ∃ y, s.data.toList.drop i = y := ⟨_, rfl⟩
      have hyl : y.length = s.size - i := by rw [← hy, List.length_drop, ← hl]
      have hg : ∀ j, y.getD j 0 = s.data.toList.getD (i + j) 0 := fun j => by rw [← hy]; simp [List.getD]
      have hy0 : y ≠ [] := by intro e; rw [e, List.length_nil] at hyl; omega
      have hyt : y.tail = s.data.toList.drop (i + 1) := by rw [← hy]; simp
      rw [bt_l s i c0, ← Nat.add_zero i, ← hg 0, Nat.add_zero, hy]
      have skip : scanL y = ((scanL y.tail).1, (scanL y.tail).2.1, (scanL y.tail).2.2 + 1) →
          alidaderef11_Scan.l0 k s acc (wrap64 (over + 1)) (wrap64 ((i : Int) + 1)) = some (acc ++ (scanL y).1.map frS, encB (scanL y).2.1, over + ((scanL y).2.2 : Int)) := fun e => by
        rw [w64 (by omega) (by omega), w64 (by omega) (by omega), show ((i : Int) + 1) = ((i + 1 : Nat) : Int) by omega, ih (i + 1) acc (over + 1) k (by omega) (by omega) (by omega) (by omega) (by omega) (by omega), ← hyt, e]
        simp only [Option.some.injEq, Prod.mk.injEq, true_and]
        omega
      by_cases c1 : ((y.getD 0 0).toNat : Int) = 165
      · have hyc : y.getD 0 0 = 165 := by apply UInt8.toNat_inj.1; simpa using (by omega : (y.getD 0 0).toNat = 165)
        have hny : ¬ y.getD 0 0 ≠ 165 := fun h => h hyc
        rw [if_pos c1, w64 (n := (s.size : Int) - (i : Int)) (by omega) (by omega)]
        have ex : (s.extract i s.size).data.toList = y := by rw [extract_l, List.take_of_length_le (by simp), hy]
        have exB : encB y = s.extract i s.size := by rw [← ex, encB_data]
        by_cases c2 : (s.size : Int) - (i : Int) < 3
        · rw [if_pos c2, if_pos (by omega)]
          have e : scanL y = ([], y, 0) := by rw [scanL, if_neg hy0, if_neg hny, if_pos (by omega)]
          rw [e, exB]; simp
        · rw [if_neg c2, w64 (n := (i : Int) + 2) (by omega) (by omega), if_pos (by omega), if_pos (by omega), show ((i : Int) + 2) = ((i + 2 : Nat) : Int) by omega, bt_l s (i + 2) (by omega), ← hg 2]
          have b2 := byte_lt y 2
          have hnd : (need y : Int) = ((y.getD 2 0).toNat : Int) + 5 := by simp [need]
          have hnd5 : 5 ≤ need y := by simp [need]
          rw [w64 (n := ((y.getD 2 0).toNat : Int)) (by omega) (by omega)]
          by_cases c3 : ((y.getD 2 0).toNat : Int) > 64
          · rw [if_pos c3]
            exact skip (by rw [scanL, if_neg hy0, if_neg hny, if_neg (by omega), if_pos (by omega)])
          · rw [if_neg c3, w64 (n := ((y.getD 2 0).toNat : Int) + 5) (by omega) (by omega)]
            by_cases c4 : (s.size : Int) - (i : Int) < ((y.getD 2 0).toNat : Int) + 5
            · rw [if_pos c4, if_pos (by omega)]
              have e : scanL y = ([], y, 0) := by rw [scanL, if_neg hy0, if_neg hny, if_neg (by omega), if_neg (by omega), if_pos (by omega)]
              rw [e]
              simp only [Int.toNat_natCast]
              rw [exB]; simp
            · rw [if_neg c4, w64 (n := (i : Int) + ((y.getD 2 0).toNat : Int)) (by omega) (by omega), w64 (by omega) (by omega), if_pos (by omega), if_pos (by omega)]
              rw [open_ref _ k (by simp [ByteArray.size_extract]; omega) (by omega)]
              have ex2 : (s.extract ((i : Int)).toNat ((i : Int) + ((y.getD 2 0).toNat : Int) + 5).toNat).data.toList = y.take (need y) := by
                rw [extract_l, Int.toNat_natCast, hy, show ((i : Int) + ((y.getD 2 0).toNat : Int) + 5).toNat - i = need y by omega]
              rw [ex2]
              simp only [Option.bind_some, openR]
              by_cases c5 : okL (y.take (need y)) = true
              · rw [if_pos c5]
                simp only [if_true]
                rw [if_pos (by omega), show ((i : Int) + ((y.getD 2 0).toNat : Int) + 5) = ((i + need y : Nat) : Int) by omega, ih (i + need y) _ over k (by omega) (by omega) (by simp; omega) (by omega) (by omega) (by omega)]
                have e : scanL y = ((kindL (y.take (need y)), dataL (y.take (need y))) :: (scanL (y.drop (need y))).1, (scanL (y.drop (need y))).2.1, (scanL (y.drop (need y))).2.2) := by
                  rw [scanL, if_neg hy0, if_neg hny, if_neg (by omega), if_neg (by omega), if_neg (by omega), if_pos c5]
                have ed : y.drop (need y) = s.data.toList.drop (i + need y) := by rw [← hy, List.drop_drop]
                rw [e, ed]
                simp [frS]
              · rw [if_neg c5]
                simp only [Bool.false_eq_true, if_false]
                exact skip (by rw [scanL, if_neg hy0, if_neg hny, if_neg (by omega), if_neg (by omega), if_neg (by omega), if_neg c5])
      · rw [if_neg c1]
        exact skip (by rw [scanL, if_neg hy0, if_pos (fun h => c1 (by rw [h]; rfl))])
    · rw [if_neg (by omega), List.drop_of_length_le (by omega), scan_nil]
      simp [encB]

theorem FrameScans : alidadelaw11_FrameScans.Pure := by
  intro s hs
  refine ⟨14000, ?_⟩
  unfold alidadelaw11_FrameScans.f
  rw [awake_k 14000 (by omega)]
  simp only [Option.bind_some, if_true]
  by_cases c1 : (s.size : Int) > 3000
  · rw [if_pos c1]
  · rw [if_neg c1, scan_f s _ (by omega) (by omega)]
    have bs := scanL_bound s.data.toList.length s.data.toList (Nat.le_refl _)
    have hl := size_l s
    have hr : alidaderef11_Scan.f 14000 s = some ((scanL s.data.toList).1.map frS, encB (scanL s.data.toList).2.1, ((scanL s.data.toList).2.2 : Int)) := by
      unfold alidaderef11_Scan.f
      rw [show (alidaderef11_Scan.l0 14000 s ([] : List S30) 0 0) = alidaderef11_Scan.l0 14000 s ([] : List S30) 0 ((0 : Nat) : Int) from rfl, scan_ref s (by omega) 3000 0 [] 0 14000 (by omega) (by omega) (by simp; omega) (by omega) (by omega) (by omega)]
      simp
    rw [hr]
    simp only [Option.bind_some]
    rw [same_self _ _ (by simp only [List.length_map]; omega) (by simp only [List.length_map]; omega)]
    simp
end Go.Proofs.Ytjdnmgdndfcghaa.Pure
