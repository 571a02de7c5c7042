/- A frame of which one byte was turned is no frame: the law FrameTurned, whole; no further condition. -/
import Derived.Test.YtjdnmgdndfcghaaRows
import Derived.Test.YtjdnmgdndfcghaaLnkFrameTurned
import Derived.WalkKit
import Derived.ProofKit
import Derived.OpenShut
import Derived.ShutString
import Derived.ChangeOld
import Derived.Below
import Derived.SizedLaws
import Derived.Lib.SmallJoins
namespace Go.Proofs.Ytjdnmgdndfcghaa.PFrameTurned
open Go.RowKit Go.Proofs.YtjdnmgdndfcghaaW.PrintWords Go.Proofs.YtjdnmgdndfcghaaW.PrintLast

/-! ### The plain law -/
def wrapB (kind : Int) (d : List UInt8) : List UInt8 :=
  165 :: UInt8.ofNat kind.toNat :: UInt8.ofNat d.length :: (d ++ [UInt8.ofNat (crc (UInt8.ofNat kind.toNat :: UInt8.ofNat d.length :: d) / 256).toNat, UInt8.ofNat (crc (UInt8.ofNat kind.toNat :: UInt8.ofNat d.length :: d) % 256).toNat])
theorem wrap_eq (n : Int) (d : ByteArray) (h0 : 0 ≤ n) (h1 : n ≤ 255) (hd : d.size ≤ 64) : frame_Wrap.f n d = some (encB (wrapB n d.data.toList), true) := by
  have hl := size_l d
  unfold frame_Wrap.f
  rw [if_neg (by omega), if_neg (by omega), if_neg (by omega)]
  simp only [Option.bind_some]
  have hbl : (bytesOf d).length = d.size := bytesOf_length d
  have hz : ([165, n % 256, (d.size : Int) % 256] : List Int).length = 3 := rfl
  have hz2 : ∀ x y : Int, ([x, y] : List Int).length = 2 := fun x y => rfl
  rw [if_pos (by rw [hz]; omega), if_pos (by rw [List.length_append, hz, hbl]; omega)]
  have hdrop : ([165, n % 256, (d.size : Int) % 256] ++ bytesOf d).drop 1 = [n % 256, (d.size : Int) % 256] ++ bytesOf d := rfl
  have hby : (bytesOf d).map (fun n => UInt8.ofNat n.toNat) = d.data.toList := by
    rw [bytesOf, List.map_map]
    conv => rhs; rw [← List.map_id d.data.toList]
    apply List.map_congr_left
    intro b _
    simp
  have hdat : (strOfNums ([n % 256, (d.size : Int) % 256] ++ bytesOf d)).data.toList = UInt8.ofNat n.toNat :: UInt8.ofNat d.data.toList.length :: d.data.toList := by
    rw [strOfNums_data, List.map_append, hby]
    simp only [List.map_cons, List.map_nil, List.cons_append, List.nil_append]
    rw [show (n % 256) = n by omega, show ((d.size : Int) % 256).toNat = d.data.toList.length by omega]
  rw [hdrop, frame_Sum.f, if_pos (by rw [strOfNums_size, List.length_append, hz2, hbl]; omega), hdat]
  simp only [Option.bind_some]
  have hcl := crc_lt (UInt8.ofNat n.toNat :: UInt8.ofNat d.data.toList.length :: d.data.toList)
  generalize hg : crc (UInt8.ofNat n.toNat :: UInt8.ofNat d.data.toList.length :: d.data.toList) = c at hcl
  rw [show (c / 256) % 256 = c / 256 by omega, if_pos (by rw [List.length_append, hz, hbl, hz2]; omega)]
  simp only [Option.some.injEq, Prod.mk.injEq, and_true]
  apply ext_l
  rw [strOfNums_data, List.map_append, List.map_append, hby]
  simp only [encB, wrapB, hg, List.map_cons, List.map_nil]
  rw [show (n % 256) = n by omega, show ((d.size : Int) % 256).toNat = d.data.toList.length by omega]
  simp
theorem wrap_none (n : Int) (d : ByteArray) (h : n < 0 ∨ 255 < n ∨ 64 < d.size) : frame_Wrap.f n d = some ((⟨#[]⟩ : ByteArray), false) := by
  unfold frame_Wrap.f
  by_cases h0 : n < 0
  · rw [if_pos h0]
  · rw [if_neg h0]
    by_cases h1 : n > 255
    · rw [if_pos h1]
    · rw [if_neg h1, if_pos (by omega)]
theorem xor_self_ne (c b : UInt8) (h : b ≠ 0) : c ^^^ b ≠ c := by
  intro e
  apply h
  have : c ^^^ (c ^^^ b) = c ^^^ c := by rw [e]
  simpa [← UInt8.xor_assoc] using this
/-- A frame's bytes, one of which was turned, are no frame. -/
theorem turned_no (n : Int) (d : List UInt8) (j : Nat) (b : UInt8) (hb : b ≠ 0) (hd : d.length ≤ 64) (hj : j < (wrapB n d).length) :
    okL ((wrapB n d).set j ((wrapB n d).getD j 0 ^^^ b)) = false := by
  have key : ¬ okL ((wrapB n d).set j ((wrapB n d).getD j 0 ^^^ b)) = true := by
    rw [okL_iff]
    rintro ⟨_, _, h0, h2, hc⟩
    have hlen : (wrapB n d).length = d.length + 5 := by simp [wrapB]
    rw [List.length_set, hlen] at h2 hc
    generalize hx : UInt8.ofNat n.toNat = x at *
    have hL : (UInt8.ofNat d.length).toNat = d.length := by simp; omega
    generalize hy : UInt8.ofNat d.length = y at *
    have hcl := crc_lt (x :: y :: d)
    have hW : wrapB n d = 165 :: ((x :: y :: d) ++ [UInt8.ofNat (crc (x :: y :: d) / 256).toNat, UInt8.ofNat (crc (x :: y :: d) % 256).toNat]) := by
      unfold wrapB; rw [hx, hy]; rfl
    rw [hW] at h0 h2 hc hj
    generalize hB : (x :: y :: d) = B at *
    have hBl : B.length = d.length + 2 := by rw [← hB]; simp
    have hB1 : B.getD 1 0 = y := by rw [← hB]; rfl
    generalize hh : UInt8.ofNat (crc B / 256).toNat = h at *
    generalize hl : UInt8.ofNat (crc B % 256).toNat = lo at *
    have hhv : (h.toNat : Int) = crc B / 256 := by rw [← hh]; simp; omega
    have hlv : (lo.toNat : Int) = crc B % 256 := by rw [← hl]; simp; omega
    rw [show d.length + 5 - 3 = B.length by omega, show d.length + 5 - 2 = B.length + 1 by omega, show d.length + 5 - 1 = B.length + 2 by omega] at hc
    have hne := xor_self_ne
    cases j with
    | zero =>
      simp only [List.set_cons_zero, List.getD_cons_zero] at h0
      exact hne 165 b hb h0
    | succ j =>
      simp only [List.set_cons_succ, List.getD_cons_succ, List.drop_succ_cons, List.drop_zero] at h2 hc
      simp only [List.length_cons, List.length_append, List.length_nil] at hj
      by_cases c1 : j < B.length
      · have hgB : (B ++ [h, lo]).getD j 0 = B.getD j 0 := by simp [List.getD, List.getElem?_append_left c1]
        have hset : (B ++ [h, lo]).set j (B.getD j 0 ^^^ b) = B.set j (B.getD j 0 ^^^ b) ++ [h, lo] := List.set_append_left _ _ c1
        rw [hgB, hset] at h2 hc
        have e1 : (B.set j (B.getD j 0 ^^^ b) ++ [h, lo]).take B.length = B.set j (B.getD j 0 ^^^ b) := by
          rw [List.take_append_of_le_length (by simp)]; exact List.take_of_length_le (by simp)
        have e2 : (B.set j (B.getD j 0 ^^^ b) ++ [h, lo]).getD B.length 0 = h := by
          simp [List.getD]
        have e3 : (B.set j (B.getD j 0 ^^^ b) ++ [h, lo]).getD (B.length + 1) 0 = lo := by
          simp [List.getD]
        rw [e1, e2, e3] at hc
        have hcB : crc (B.set j (B.getD j 0 ^^^ b)) = crc B := by omega
        have es : B = B.take j ++ B.getD j 0 :: B.drop (j + 1) := by
          conv => lhs; rw [← List.take_append_drop j B, List.drop_eq_getElem_cons c1]
          simp [List.getD, List.getElem?_eq_getElem c1]
        have es2 : B.set j (B.getD j 0 ^^^ b) = B.take j ++ (B.getD j 0 ^^^ b) :: B.drop (j + 1) := List.set_eq_take_append_cons_drop.trans (if_pos c1)
        rw [es2] at hcB
        rw [show crc B = crc (B.take j ++ B.getD j 0 :: B.drop (j + 1)) by rw [← es]] at hcB
        exact crc_turned _ _ _ _ (hne _ _ hb) hcB
      · have hset : (B ++ [h, lo]).set j ((B ++ [h, lo]).getD j 0 ^^^ b) = B ++ [h, lo].set (j - B.length) ((B ++ [h, lo]).getD j 0 ^^^ b) := List.set_append_right _ _ (by omega)
        rw [hset] at hc
        have e1 : (B ++ [h, lo].set (j - B.length) ((B ++ [h, lo]).getD j 0 ^^^ b)).take B.length = B := by simp
        have j2 : j = B.length ∨ j = B.length + 1 := by omega
        rcases j2 with rfl | rfl
        · have g : (B ++ [h, lo]).getD B.length 0 = h := by simp [List.getD]
          rw [g, Nat.sub_self] at hc e1
          simp only [List.set_cons_zero] at hc e1
          have e2 : (B ++ [h ^^^ b, lo]).getD B.length 0 = h ^^^ b := by simp [List.getD]
          have e3 : (B ++ [h ^^^ b, lo]).getD (B.length + 1) 0 = lo := by simp [List.getD]
          rw [e1, e2, e3] at hc
          exact hne h b hb (UInt8.toNat_inj.1 (by omega))
        · have g : (B ++ [h, lo]).getD (B.length + 1) 0 = lo := by simp [List.getD]
          rw [g, show B.length + 1 - B.length = 1 by omega] at hc e1
          simp only [List.set_cons_succ, List.set_cons_zero] at hc e1
          have e2 : (B ++ [h, lo ^^^ b]).getD B.length 0 = h := by simp [List.getD]
          have e3 : (B ++ [h, lo ^^^ b]).getD (B.length + 1) 0 = lo ^^^ b := by simp [List.getD]
          rw [e1, e2, e3] at hc
          exact hne lo b hb (UInt8.toNat_inj.1 (by omega))
  simpa using key

/-! ### The walk -/
theorem bytes_frozen (w : World) (e : TypeId) (s : ByteArray) (j : Nat) (hj : j < s.size) : (Lib.bytesWorld w e s).frozen? ⟨w.heap.size, j, none⟩ = false := by
  have h := Lib.bytesWorld_at_new w e s
  have hz : s.size ≤ (Lib.bytesCells w e s).size := by
    have h1 : s.data.size = s.size := rfl
    unfold Lib.bytesCells
    rw [Array.size_append, Array.size_map, h1]; omega
  simp only [World.frozen?, h]
  simp; omega
theorem store_cell (w : World) (g j : Nat) (v u : Value) (i : Nat) (h : w.cell? ⟨g, j, none⟩ = some u) : (w.setCell ⟨g, j, none⟩ v).cell? ⟨g, i, none⟩ = if i = j then some v else w.cell? ⟨g, i, none⟩ := by
  by_cases e : i = j
  · subst e
    rw [if_pos rfl]
    exact World.cell?_setCell_same _ _ _ h
  · rw [if_neg e]
    exact World.cell?_setCell_other _ _ _ _ (fun h => e (by injection h with _ h2 _; exact h2.symm))
/-- What the text reads back: the bytes, one of them turned. -/
theorem back_string (w : World) (s : ByteArray) (j : Nat) (x : Int) (c : Nat) (hj : j < s.size) :
    (convert 33 9 (.slice (some ⟨w.heap.size, 0, none⟩) s.size c)).run Try.prog ((Lib.bytesWorld w 5 s).setCell ⟨w.heap.size, j, none⟩ (.int .u8 x)) =
      .ok (.string (encB (s.data.toList.set j (UInt8.ofNat x.toNat)))) ((Lib.bytesWorld w 5 s).setCell ⟨w.heap.size, j, none⟩ (.int .u8 x)) := by
  have hl := size_l s
  have h := run_convert_bytes_arg (P := Try.prog) ((Lib.bytesWorld w 5 s).setCell ⟨w.heap.size, j, none⟩ (.int .u8 x)) 33 5 Try.underlying33 Try.underlying5 w.heap.size 0 s.size c
    ((s.data.toList.map fun b => (b.toNat : Int)).set j x) (by rw [List.length_set, List.length_map, hl]) (fun i hi => by
      have hc := Lib.bytesWorld_cell w 5 s j hj
      rw [Nat.zero_add, store_cell _ _ _ _ _ i hc]
      by_cases e : i = j
      · subst e
        rw [if_pos rfl]
        simp [List.getD, show i < s.size from hi, ← hl]
      · rw [if_neg e, Lib.bytesWorld_cell w 5 s i hi]
        have hi' : i < s.data.toList.length := by omega
        simp [List.getD, Ne.symm e, List.getElem?_eq_getElem hi']) 9 Try.underlying9
  rw [h]
  have : strOfNums ((s.data.toList.map fun b => (b.toNat : Int)).set j x) = encB (s.data.toList.set j (UInt8.ofNat x.toNat)) := by
    apply ext_l
    rw [strOfNums_data, List.map_set, List.map_map]
    have e : s.data.toList.map ((fun n => UInt8.ofNat n.toNat) ∘ fun b => (b.toNat : Int)) = s.data.toList := by
      conv => rhs; rw [← List.map_id s.data.toList]
      apply List.map_congr_left
      intro b _
      simp
    rw [e]; simp [encB]
  rw [this]
theorem xor_u8 (c b : UInt8) : bits BinOp.xor IntKind.u8 (c.toNat : Int) (b.toNat : Int) = ((c ^^^ b).toNat : Int) := by
  rw [u8_xor_nat _ _ c.toNat_lt b.toNat_lt, UInt8.toNat_xor]
set_option maxRecDepth 100000 in
theorem turned_walk (n : Int) (d : ByteArray) (at_ by_ : Int) (s : ByteArray) (w : World)
    (hw : frame_Wrap.f n d = some (s, true)) (hs : s.data.toList = wrapB n d.data.toList) (hd : d.size ≤ 64) (hb : (by_ == 0) = false) (hb0 : 0 ≤ by_) (hb1 : by_ < 256) :
    Calls Try.prog 5 #[.agg #[.int .i64 n, .string d], .int .i64 at_, .int .u8 by_] w fun e w' => e = .returned (.bool true) ∧ Below w.heap.size w w' := by
  have hu30 := Try.underlying30
  have HW := Aside0.mk hw
  have hl := size_l s
  have hdl := size_l d
  have hlen : s.size = d.size + 5 := by rw [hl, hs]; simp [wrapB]
  obtain ⟨j, hj, hI⟩ : ∃ j : Nat, j < s.size ∧ (wrap64 (at_.tmod (s.size : Int) + (s.size : Int))).tmod (s.size : Int) = (j : Int) := by
    have h1 := Int.tmod_lt_of_pos at_ (show (0 : Int) < (s.size : Int) by omega)
    have h2 : -(s.size : Int) < at_.tmod (s.size : Int) := by
      have := Int.tmod_lt_of_pos (-at_) (show (0 : Int) < (s.size : Int) by omega)
      rw [Int.neg_tmod] at this
      omega
    rw [w64 (by omega) (by omega), Int.tmod_eq_emod_of_nonneg (by omega)]
    have h3 := Int.emod_lt_of_pos (at_.tmod (s.size : Int) + (s.size : Int)) (show (0 : Int) < (s.size : Int) by omega)
    have h4 := Int.emod_nonneg (at_.tmod (s.size : Int) + (s.size : Int)) (show (s.size : Int) ≠ 0 by omega)
    exact ⟨((at_.tmod (s.size : Int) + (s.size : Int)) % (s.size : Int)).toNat, by omega, by omega⟩
  have hbn : by_ = ((UInt8.ofNat by_.toNat).toNat : Int) := by simp; omega
  have hbz : UInt8.ofNat by_.toNat ≠ 0 := by
    intro e
    have : (UInt8.ofNat by_.toNat).toNat = 0 := by rw [e]; rfl
    simp at hb; omega
  generalize UInt8.ofNat by_.toNat = b at hbn hbz
  subst hbn
  have hopen : frame_Open.f 2 (encB (s.data.toList.set j (s.data.toList.getD j 0 ^^^ b))) = some (0, (⟨#[]⟩ : ByteArray), false) := by
    rw [open_eq _ 1 (by rw [size_l, show (encB (s.data.toList.set j (s.data.toList.getD j 0 ^^^ b))).data.toList = s.data.toList.set j (s.data.toList.getD j 0 ^^^ b) by simp [encB], List.length_set]; omega)]
    have e : (encB (s.data.toList.set j (s.data.toList.getD j 0 ^^^ b))).data.toList = s.data.toList.set j (s.data.toList.getD j 0 ^^^ b) := by simp [encB]
    rw [e, openR, hs, if_neg (by rw [turned_no n d.data.toList j b hbz (by omega) (by rw [← hs]; omega)]; simp)]
  have HO := Aside0.mk hopen
  have hxr := xor_u8 (s.data.toList.getD j 0) b
  have hxl := (s.data.toList.getD j 0 ^^^ b).toNat_lt
  have hback := fun W : World => back_string W s j ((s.data.toList.getD j 0 ^^^ b).toNat : Int) (grownCap W s.size 0 5) hj
  simp only [Int.toNat_natCast, UInt8.ofNat_toNat] at hback
  simp only [UInt8.toNat_xor] at hback hxr
  have HB := Aside0.mk hback
  have hs0 : (0 : Int) < (s.size : Int) := by omega
  have hj0 : (0 : Int) ≤ (j : Int) := by omega
  have hj1 : (j : Int) < (s.size : Int) := by omega
  have hsm : (s.size : Int) ≤ 100 := by omega
  clear hw hopen hback hs hlen hl hdl hbz hxl hd
  generalize hc : s.data.toList.getD j 0 = c at HO HB hxr
  go_enter Try.func5, Try.ntmps5
  go_wp2_with fail
  refine (alidadelaw11_awake.calls 10 true _ awake_10).mono ?_
  rintro e w1 ⟨rfl, hb1⟩
  have hc0 : w1.cell? ⟨w.heap.size, 0, none⟩ = some (.int .i64 n) := by rw [hb1.cell (p := ⟨w.heap.size, 0, none⟩) (by simp)]; simp
  have hc1 : w1.cell? ⟨w.heap.size, 1, none⟩ = some (.string d) := by rw [hb1.cell (p := ⟨w.heap.size, 1, none⟩) (by simp)]; simp
  go_wp2_with fail
  refine (frame_Wrap.calls n d s true _ HW.out).mono ?_
  rintro e w2 ⟨rfl, hb2⟩
  have hcell := Lib.bytesWorld_cell w2 5 s j hj
  rw [hc] at hcell
  have hfree := bytes_frozen w2 5 s j hj
  have hbk := HB.out w2
  go_wp2_with (simp only [Lib.run_convert_string_bytes (P := Try.prog) _ 9 33 5 s Try.underlying9 Try.underlying33 Try.underlying5])
  refine (frame_Open.calls 2 _ 0 (⟨#[]⟩ : ByteArray) false _ HO.out).mono ?_
  rintro e w3 ⟨rfl, hb3⟩
  go_wp2_with fail
  go_ret
  refine ⟨rfl, ?_⟩
  have b0 : Below w.heap.size w (w.alloc (Obj.cells #[Value.int IntKind.i64 n, Value.string d] 30)) := (Below.refl _ _).alloc (Nat.le_refl _) _
  have b1 := b0.trans (hb1.mono b0.size)
  have b2 := b1.trans (hb2.mono b1.size)
  have b3 := bytes_below b2 b2.size 5 s
  have b4 := b3.setCell (p := ⟨w2.heap.size, j, none⟩) b2.size (Value.int IntKind.u8 ↑(c.toNat ^^^ b.toNat))
  have b5 := b4.trans (hb3.mono b4.size)
  exact b5.alloc b5.size _
set_option maxRecDepth 100000 in
theorem turned_none (n : Int) (d : ByteArray) (at_ by_ : Int) (s : ByteArray) (ok : Bool) (w : World)
    (hw : frame_Wrap.f n d = some (s, ok)) (hb : ok = false ∨ (by_ == 0) = true) :
    Calls Try.prog 5 #[.agg #[.int .i64 n, .string d], .int .i64 at_, .int .u8 by_] w fun e w' => e = .returned (.bool true) ∧ Below w.heap.size w w' := by
  have hu30 := Try.underlying30
  have HW := Aside0.mk hw
  clear hw
  cases ok with
  | false =>
    clear hb
    go_enter Try.func5, Try.ntmps5
    go_wp2_with fail
    refine (alidadelaw11_awake.calls 10 true _ awake_10).mono ?_
    rintro e w1 ⟨rfl, hb1⟩
    have hc0 : w1.cell? ⟨w.heap.size, 0, none⟩ = some (.int .i64 n) := by rw [hb1.cell (p := ⟨w.heap.size, 0, none⟩) (by simp)]; simp
    have hc1 : w1.cell? ⟨w.heap.size, 1, none⟩ = some (.string d) := by rw [hb1.cell (p := ⟨w.heap.size, 1, none⟩) (by simp)]; simp
    go_wp2_with fail
    refine (frame_Wrap.calls n d s false _ HW.out).mono ?_
    rintro e w2 ⟨rfl, hb2⟩
    go_wp2_with fail
    go_ret
    refine ⟨rfl, ?_⟩
    have b0 : Below w.heap.size w (w.alloc (Obj.cells #[Value.int IntKind.i64 n, Value.string d] 30)) := (Below.refl _ _).alloc (Nat.le_refl _) _
    have b1 := b0.trans (hb1.mono b0.size)
    exact b1.trans (hb2.mono b1.size)
  | true =>
    have hb : (by_ == 0) = true := by simpa using hb
    go_enter Try.func5, Try.ntmps5
    go_wp2_with fail
    refine (alidadelaw11_awake.calls 10 true _ awake_10).mono ?_
    rintro e w1 ⟨rfl, hb1⟩
    have hc0 : w1.cell? ⟨w.heap.size, 0, none⟩ = some (.int .i64 n) := by rw [hb1.cell (p := ⟨w.heap.size, 0, none⟩) (by simp)]; simp
    have hc1 : w1.cell? ⟨w.heap.size, 1, none⟩ = some (.string d) := by rw [hb1.cell (p := ⟨w.heap.size, 1, none⟩) (by simp)]; simp
    go_wp2_with fail
    refine (frame_Wrap.calls n d s true _ HW.out).mono ?_
    rintro e w2 ⟨rfl, hb2⟩
    go_wp2_with fail
    go_ret
    refine ⟨rfl, ?_⟩
    have b0 : Below w.heap.size w (w.alloc (Obj.cells #[Value.int IntKind.i64 n, Value.string d] 30)) := (Below.refl _ _).alloc (Nat.le_refl _) _
    have b1 := b0.trans (hb1.mono b0.size)
    exact b1.trans (hb2.mono b1.size)
theorem turned_any (n : Int) (d : ByteArray) (at_ by_ : Int) (w : World) (hb0 : 0 ≤ by_) (hb1 : by_ < 256) :
    Calls Try.prog 5 #[.agg #[.int .i64 n, .string d], .int .i64 at_, .int .u8 by_] w fun e w' => e = .returned (.bool true) ∧ Below w.heap.size w w' := by
  by_cases c : n < 0 ∨ 255 < n ∨ 64 < d.size
  · exact turned_none n d at_ by_ _ false w (wrap_none n d c) (.inl rfl)
  · have hw := wrap_eq n d (by omega) (by omega) (by omega)
    by_cases hz : by_ = 0
    · exact turned_none n d at_ by_ _ true w hw (.inr (by simp [hz]))
    · exact turned_walk n d at_ by_ _ w hw (by simp [encB]) (by omega) (by simp [hz]) hb0 hb1
end Go.Proofs.Ytjdnmgdndfcghaa.PFrameTurned

namespace Go.Proofs.Ytjdnmgdndfcghaa.frameTurned
open Go.ChangeShapes Go.WideShapes Go.ChangeAt Go.RowKit Go.Joins
set_option linter.unusedVariables false
theorem own : ownKnob Try.prog.godebug = none := by kernel_rfl
theorem laidOut : laidOutB Try.prog = true := by kernel_rfl
theorem cells : Try.prog.cellsOf 30 = 2 := by kernel_rfl
set_option maxRecDepth 100000 in
theorem lifted (os : Os) (started : os.Started) (H : Type) (enc : TypeId × Value → H) :
    ReturnsInHanded {} Try.checked os 5 .any (Rows.frameTurnedSpec.pre6 enc Try.prog Try.f5 Rows.frameTurnedRow.domain false) (Rows.frameTurnedSpec.post enc Try.prog Try.f5 false true false false) := by
  refine returnsInHanded_of_change (C := Try.checked) own started (by kernel_rfl) Try.func5
    (ChangeSpec.witness6 (enc := enc) (C := Try.checked) false ⟨#[], #[.agg #[.int .i64 0, .string ByteArray.empty], .int .i64 0, .int .u8 0], []⟩ 8 (by kernel_rfl) (by kernel_rfl) (by kernel_rfl) (by kernel_rfl)) ?_
  intro W base args ds gs before hval0 hW hcnd _
  have hval : ∀ (j : Nat) t v, Try.f5.params[j]? = some t → args[j]? = some v → Value.okWide Try.prog W .any base t v := hval0
  have hW' := hW
  obtain ⟨p, q, hA0, hV, rfl, hfz, hnd⟩ := hW
  have hA : DataW.TrodAll enc Try.prog W 0 (fun _ => true) true Try.f5.params.toList args.toList ds p := hA0
  rw [Try.params5] at hA hval
  obtain ⟨v0, vs0, d0, ds0, p0, q0, hargs, rfl, rfl, h0, r0⟩ := trodAll_cons hA
  obtain ⟨v1, vs1, d1, ds1, p1, q1, rfl, rfl, rfl, h1, r1⟩ := trodAll_cons r0
  obtain ⟨v2, vs2, d2, ds2, p2, q2, rfl, rfl, rfl, h2, r2⟩ := trodAll_cons r1
  obtain ⟨rfl, rfl, rfl⟩ := trodAll_nil r2
  obtain rfl : args = #[v0, v1, v2] := by cases args; simp_all
  obtain ⟨rfl, rfl⟩ := trodVars_none hV
  have k0 := h0
  have lt0 : ∀ x ∈ p0, x.block < W.heap.size := by obtain ⟨m, hm⟩ := k0; exact DataW.trod_lt m _ _ _ hm
  obtain ⟨c0, c1, y0, y1, m, rfl, e0, e1, hy0, hy1⟩ := open_agg2 Try.underlying30 (by kernel_rfl) cells (hval 0 30 v0 rfl rfl) h0
  obtain ⟨n, g0, _, _⟩ := DataW.trod_int Try.underlying3 hy0
  obtain ⟨s, g1, _⟩ := DataW.trod_string Try.underlying9 hy1
  simp at g0 g1
  subst g0 g1
  obtain ⟨a1, rfl, rfl, rfl, w1⟩ := open_int Try.underlying3 (hval 1 3 v1 rfl rfl) h1
  obtain ⟨a2, rfl, rfl, rfl, w2⟩ := open_int Try.underlying5 (hval 2 5 v2 rfl rfl) h2
  have b2 : 0 ≤ a2 ∧ a2 < 256 := by have := bounds_u8 w2; omega
  clear hA0 hval0
  refine (PFrameTurned.turned_any n s a1 a2 W b2.1 b2.2).mono fun e W' ⟨he, bel⟩ => ?_
  subst he
  exact ⟨_, rfl, _, _, _, [], _, [], hW', trodAll_mk1 (shut_bool Try.underlying4 _), (trodAll_cons_mk (Below.trod laidOut (by kernel_rfl) (of_decide_eq_true (by kernel_rfl)) k0 bel lt0) (trodAll_cons_mk (shut_int Try.underlying3 w1) (trodAll_cons_mk (shut_int Try.underlying5 w2) trodAll_mk0))), rfl, bel.frame _, fun h => by cases h⟩
theorem over : Rows.frameTurnedRow.holds Try.pinned (OpenSpec.ofChange Rows.frameTurnedSpec) :=
  OpenClaim.holds_of_wide 5 Try.f5 rfl rfl rfl rfl rfl rfl rfl ⟨rfl, rfl, rfl, rfl, rfl⟩ rfl rfl rfl rfl rfl (by kernel_rfl) Try.func5 (by kernel_rfl)
    (of_decide_eq_true (by kernel_rfl)) (by unfold Func.isWrapper; rw [if_neg (of_decide_eq_false (by kernel_rfl))]; exact ⟨rfl, rfl⟩)
    (fun os started H enc _ => lifted os started H enc)
end Go.Proofs.Ytjdnmgdndfcghaa.frameTurned
namespace Go.Proofs.Ytjdnmgdndfcghaa
theorem frameTurned_holds : Rows.FrameTurnedSaid := frameTurned.over
#print axioms frameTurned_holds
end Go.Proofs.Ytjdnmgdndfcghaa
