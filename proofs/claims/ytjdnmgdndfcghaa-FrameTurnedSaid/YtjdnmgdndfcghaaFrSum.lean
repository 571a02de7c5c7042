/- The table and the sum of frames: what frame.table and frame.Sum compute, and the contract of strings.IndexByte; no condition but that a string's length is an int. -/
import Derived.Test.YtjdnmgdndfcghaaProg
import Derived.WalkKit
import Derived.Great.Walk
import Derived.Deep.LoopGhost
import Derived.Deep.WholeRow
import Derived.Lib.ConvBytes
import Derived.Outline
import Derived.Lib.Bytealg
import Derived.Laws.Externs
import Derived.Lib.Hide
namespace Go.Proofs.Ytjdnmgdndfcghaa
open Go.RowKit Go.Great
def stp (r : Int) : Int := bits BinOp.xor IntKind.u16 (IntKind.u16.wrap (r * 2)) (r / 32768 * 4129)
def crcN : Nat → Int → Int | 0, r => r | n + 1, r => stp (crcN n r)
def T (i : Nat) : Int := crcN 8 ((i : Int) * 256)
def tabCells (k : Nat) : Array Value := ((List.range 256).map (fun i => Value.int .u16 (if i < k then T i else 0))).toArray
theorem tabCells_size (k : Nat) : (tabCells k).size = 256 := by simp [tabCells]
theorem tabCells_get (k i : Nat) (h : i < 256) : (tabCells k)[i]? = some (.int .u16 (if i < k then T i else 0)) := by simp [tabCells, h]
theorem tabCells_set (k : Nat) (h : k < 256) : (tabCells k).setIfInBounds k (.int .u16 (T k)) = tabCells (k + 1) := by
  apply Array.ext_getElem?
  intro i
  rw [Array.getElem?_setIfInBounds]
  by_cases hi : i < 256
  · rw [tabCells_get _ _ hi, tabCells_get _ _ hi]
    by_cases he : k = i
    · subst he; simp [tabCells_size, h]
    · rw [if_neg he]
      by_cases h2 : i < k
      · rw [if_pos h2, if_pos (by omega)]
      · rw [if_neg h2, if_neg (by omega)]
  · have : (tabCells (k+1))[i]? = none := by simp [tabCells_size]; omega
    rw [this, if_neg (by omega)]
    simp [tabCells_size]; omega
theorem stp_lt (r : Int) (h0 : 0 ≤ r) (h1 : r < 65536) : 0 ≤ stp r ∧ stp r < 65536 := by
  unfold stp
  rw [IntKind.wrap_u16, u16_xor _ _ (by omega) (by omega) (by omega) (by omega)]
  have : ((r * 2 % 65536).toNat ^^^ (r / 32768 * 4129).toNat) < 2 ^ 16 := Nat.xor_lt_two_pow (by omega) (by omega)
  omega
theorem crcN_lt (n : Nat) (r : Int) (h0 : 0 ≤ r) (h1 : r < 65536) : 0 ≤ crcN n r ∧ crcN n r < 65536 := by
  induction n with
  | zero => exact ⟨h0, h1⟩
  | succ n ih => exact stp_lt _ ih.1 ih.2
theorem tabCells_one (k : Nat) : (tabCells k).all (·.oneCell') = true := by
  rw [Array.all_eq_true_iff_forall_mem]; intro v hv; simp [tabCells] at hv; obtain ⟨i, _, rfl⟩ := hv; rfl
theorem u16eq {a b : Int} (h : a = b) : Value.int .u16 a = Value.int .u16 b := by rw [h]
theorem info130 : (Try.prog.info? 130).map (·.size) = some 256 := by kernel_rfl
theorem Below.setRow {B : Nat} {a w : World} (h : Below B a w) {g : Nat} (hg : B ≤ g) (cs : Array Value) : Below B a (w.setRow g cs) :=
  h.trans ⟨rfl, rfl, rfl, by simp, fun k hk => setRow_other w g k cs (by omega)⟩
set_option maxRecDepth 100000 in
theorem table_any (w : World) :
    Calls Try.prog 96 #[] w fun e w' => e = .returned (.agg (tabCells 256)) ∧ Below w.heap.size w w' := by
  go_enter Try.func96, Try.ntmps96
  go_step; go_step; go_step
  refine wpList_runTo rfl _ rfl (.pointer (some ⟨w.heap.size, 0, none⟩)) (w.alloc (.cells (tabCells 0) 130)) (by kernel_rfl) ?_
  go_step
  go_step
  go_step
  go_step
  go_step
  refine wpList_runTo rfl _ rfl (.pointer (some ⟨w.heap.size + 1, 0, none⟩)) ((w.alloc (.cells (tabCells 0) 130)).alloc (.cells (tabCells 0) 130)) (by rw [← World.size_alloc w (.cells (tabCells 0) 130)]; kernel_rfl) ?_
  go_wp2
  go_loopw [2, 3, 4, 10] (fun v2 v3 v4 v10 wr => ∃ k : Nat, k ≤ 256 ∧ v4 = .int .i64 k ∧ wr = (w.alloc (.cells (tabCells 0) 130)).alloc (.cells (tabCells k) 130)) (fun _ _ v4 _ _ => 256 - (intOf v4).toNat)
  case atStart => exact ⟨0, by omega, rfl, rfl⟩
  case round =>
    obtain ⟨k, hk, rfl, rfl⟩ := hrel
    by_cases hlt : k < 256
    · go_wp2
      go_loop [3, 10] (fun v3 v10 => ∃ (j : Nat), j ≤ 8 ∧ v10 = .int .i64 j ∧ v3 = .int .u16 (crcN j ((k : Int) * 256))) (fun _ v10 => 8 - (intOf v10).toNat)
      case atStart => exact ⟨0, by omega, rfl, rfl⟩
      case round =>
        obtain ⟨j, hj, rfl, rfl⟩ := hrel
        obtain ⟨hr0, hr1⟩ := crcN_lt j ((k : Int) * 256) (by omega) (by omega)
        by_cases hl : j < 8
        · go_wp2
          go_round
          case rel => exact ⟨j + 1, by omega, by go_num, rfl⟩
          case measure => simp [intOf]; omega
        · obtain rfl : j = 8 := by omega
          have hcell : ((w.alloc (.cells (tabCells 0) 130)).alloc (.cells (tabCells k) 130)).cell? ⟨w.heap.size + 1, k, none⟩ = some (.int .u16 0) := by
            rw [World.cell?_alloc2_new, tabCells_get _ _ hlt, if_neg (by omega)]
          go_wp2
          go_roundw
          case rel =>
            refine ⟨k + 1, by omega, by go_num, ?_⟩
            rw [← tabCells_set k hlt]; rfl
          case measure => simp [intOf]; omega
    · obtain rfl : k = 256 := by omega
      go_wp2_with (first
        | (refine wpList_load_row rfl 130 _ rfl (w.heap.size + 1) rfl 130 (tabCells 256) (0, 0) _ (heap_alloc2_new _ _ _) Try.underlying130 rfl (by rw [tabCells_size]; exact info130) ?_)
        | (refine wpList_store_row rfl 130 _ _ rfl w.heap.size (tabCells 256) rfl rfl 130 (tabCells 0) (heap_alloc2_old _ _ _) (by rw [tabCells_size]; exact info130) (by rw [tabCells_size, tabCells_size]) (tabCells_one _) ?_))
      refine bodyPost_ret (results_cell_row rfl _ _ w.heap.size 130 (tabCells 256) (0, 0) _ rfl (setRow_heap _ _ _ _ _ _ (heap_alloc2_old _ _ _)) Try.underlying130 rfl (by rw [tabCells_size]; exact info130)) rfl ⟨rfl, ?_⟩
      exact Below.setRow (((Below.refl _ _).alloc (Nat.le_refl _) _).alloc (by simp) _) (Nat.le_refl _) _


def sumStep (r : Int) (c : UInt8) : Int := bits BinOp.xor IntKind.u16 (IntKind.u16.wrap (r * 256)) (T (bits BinOp.xor IntKind.u8 (r / 256) (c.toNat : Int)).toNat)
def crc (l : List UInt8) : Int := l.foldl sumStep 65535
theorem xor8_lt (a b : Int) (h0 : 0 ≤ a) (h1 : a < 256) (h2 : 0 ≤ b) (h3 : b < 256) : 0 ≤ bits BinOp.xor IntKind.u8 a b ∧ bits BinOp.xor IntKind.u8 a b < 256 := by
  rw [u8_xor a b h0 h1 h2 h3]
  have : a.toNat ^^^ b.toNat < 2 ^ 8 := Nat.xor_lt_two_pow (by omega) (by omega)
  omega
theorem T_lt (i : Nat) (h : i < 256) : 0 ≤ T i ∧ T i < 65536 := crcN_lt 8 _ (by omega) (by omega)
theorem sumStep_lt (r : Int) (c : UInt8) (h0 : 0 ≤ r) (h1 : r < 65536) : 0 ≤ sumStep r c ∧ sumStep r c < 65536 := by
  unfold sumStep
  have hc := c.toNat_lt
  obtain ⟨hx0, hx1⟩ := xor8_lt (r / 256) c.toNat (by omega) (by omega) (by omega) (by omega)
  obtain ⟨ht0, ht1⟩ := T_lt (bits BinOp.xor IntKind.u8 (r / 256) (c.toNat : Int)).toNat (by omega)
  rw [IntKind.wrap_u16, u16_xor _ _ (by omega) (by omega) ht0 ht1]
  have : ((r * 256 % 65536).toNat ^^^ (T (bits BinOp.xor IntKind.u8 (r / 256) (c.toNat : Int)).toNat).toNat) < 2 ^ 16 := Nat.xor_lt_two_pow (by omega) (by omega)
  omega
theorem foldl_lt (l : List UInt8) (r : Int) (h0 : 0 ≤ r) (h1 : r < 65536) : 0 ≤ l.foldl sumStep r ∧ l.foldl sumStep r < 65536 := by
  induction l generalizing r with
  | nil => exact ⟨h0, h1⟩
  | cons c l ih => obtain ⟨a, b⟩ := sumStep_lt r c h0 h1; exact ih _ a b
theorem crc_take (s : ByteArray) (k : Nat) (h : k < s.size) : crc (s.data.toList.take (k + 1)) = sumStep (crc (s.data.toList.take k)) s.data[k] := by
  unfold crc
  rw [List.take_succ_eq_append_getElem (by simpa using h), List.foldl_append]; rfl
set_option maxRecDepth 100000 in
theorem sum_any (s : ByteArray) (w : World) (hs : s.size ≤ 9223372036854775807) :
    Calls Try.prog 42 #[.string s] w fun e w' => e = .returned (.int .u16 (crc s.data.toList)) ∧ Below w.heap.size w w' := by
  go_enter Try.func42, Try.ntmps42
  go_wp2_with fail
  refine (table_any _).mono ?_
  rintro e w1 ⟨rfl, hb1⟩
  dsimp only
  go_step
  refine wpList_runTo rfl _ rfl (.pointer (some ⟨w1.heap.size, 0, none⟩)) (w1.alloc (.cells (tabCells 0) 130)) (by kernel_rfl) ?_
  refine wpList_store_row rfl 130 _ _ rfl w1.heap.size (tabCells 256) rfl rfl 130 (tabCells 0) (heap_alloc_last _ _) (by rw [tabCells_size]; exact info130) (by rw [tabCells_size, tabCells_size]) (tabCells_one _) ?_
  rw [World.setRow_alloc_new]
  go_wp2_with (simp only [Lib.run_convert_string_bytes (P := Try.prog) _ 9 33 5 s Try.underlying9 Try.underlying33 Try.underlying5])
  go_loopw [4, 6, 11] (fun v4 v6 v11 wr => ∃ (k : Nat) (r : Int), k ≤ s.size ∧ Hid (r = crc (s.data.toList.take k)) ∧ v11 = .int .i64 k ∧ v4 = .int .u16 r ∧ wr = Lib.bytesWorld (w1.alloc (Obj.cells (tabCells 256) 130)) 5 s) (fun _ _ v11 _ => s.size - (intOf v11).toNat)
  case atStart => exact ⟨0, _, by omega, Lib.hid (by rfl), rfl, rfl, rfl⟩
  case round =>
    obtain ⟨k, r, hk, HR, rfl, rfl, rfl⟩ := hrel
    have hrr := foldl_lt (s.data.toList.take k) 65535 (by omega) (by omega)
    change 0 ≤ crc (s.data.toList.take k) ∧ crc (s.data.toList.take k) < 65536 at hrr
    rw [← HR.out] at hrr
    obtain ⟨hr0, hr1⟩ := hrr
    by_cases hlt : k < s.size
    · have hcell := Lib.bytesWorld_cell (w1.alloc (Obj.cells (tabCells 256) 130)) 5 s k hlt
      rw [World.size_alloc] at hcell
      have hc := s.data[k].toNat_lt
      obtain ⟨hx0, hx1⟩ := xor8_lt (r / 256) s.data[k].toNat (by omega) (by omega) (by omega) (by omega)
      have hcell2 : (Lib.bytesWorld (w1.alloc (Obj.cells (tabCells 256) 130)) 5 s).cell? ⟨w1.heap.size, (bits BinOp.xor IntKind.u8 (r / 256) (s.data[k].toNat : Int)).toNat, none⟩ = some (.int .u16 (T (bits BinOp.xor IntKind.u8 (r / 256) (s.data[k].toNat : Int)).toNat)) := by
        rw [Lib.bytesWorld_old _ _ _ _ (by simp), World.cell?_alloc_new, tabCells_get _ _ (by omega), if_pos (by omega)]
      clear hc
      go_wp2
      go_roundw
      case rel => exact ⟨k + 1, _, by omega, Lib.hid (by rw [crc_take s k hlt, ← HR.out]; rfl), by go_num, rfl, by first | rfl | trivial⟩
      case measure => simp [intOf]; omega
    · obtain rfl : k = s.size := by omega
      go_wp2
      go_ret
      refine ⟨?_, ?_⟩
      · rw [HR.out, List.take_of_length_le (by simp)]; rfl
      · refine hb1.trans ?_
        exact ⟨rfl, rfl, rfl, by simp [Lib.bytesWorld_size]; omega, fun j hj => by rw [Lib.bytesWorld_at_old _ _ _ _ (by have := hb1.size; simp; omega)]; exact Below.heap_alloc _ _ _ (by have := hb1.size; omega)⟩

theorem index_string (s : ByteArray) (c : Int) (w : World) :
    Calls Try.prog 40 #[.string s, .int .u8 c] w fun e w' => e = .returned (.int .i64 (Lib.indexByte s.data.toList c.toNat.toUInt8)) ∧ w' = w := by
  have hx : ∀ W : World, (callFunc 130 #[.string s, .int .u8 c]).run Try.prog W = .ok (.value (.int .i64 (Lib.indexByte s.data.toList c.toNat.toUInt8))) W := by
    intro W
    rw [run_callFunc_extern Try.func130 (by kernel_rfl) (by kernel_rfl) (by kernel_rfl) (e := Extern.BytealgIndexByte.indexByte) (by kernel_rfl)]
    rw [Lib.run_indexByteString]
    rfl
  go_enter Try.func40, Try.ntmps40
  go_wp2_with fail
  go_in
  go_wp2_with fail
  go_ret
  exact ⟨rfl, rfl⟩
end Go.Proofs.Ytjdnmgdndfcghaa
