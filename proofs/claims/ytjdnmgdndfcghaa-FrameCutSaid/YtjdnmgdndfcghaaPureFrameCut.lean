/- However a stream of at most 3000 bytes is cut in two, both parts give what the whole gives: the pure statement of the law FrameCut; no further condition. -/
import Derived.Test.YtjdnmgdndfcghaaLnkFrameCut
namespace Go.Proofs.Ytjdnmgdndfcghaa.Pure
open Go.RowKit Go.Proofs.Ytjdnmgdndfcghaa.PFrameCut Go.Proofs.YtjdnmgdndfcghaaW.PrintWords Go.Proofs.YtjdnmgdndfcghaaW.PrintLast

theorem FrameCut : alidadelaw11_FrameCut.Pure := by
  intro s cut hs hc
  refine ⟨13000, ?_⟩
  unfold alidadelaw11_FrameCut.f
  rw [awake_k 13000 (by omega)]
  simp only [Option.bind_some, if_true]
  by_cases c1 : (s.size : Int) > 3000
  · rw [if_pos c1]; simp [alidadelaw11_FrameCut.j0]
  · rw [if_neg c1]
    by_cases c2 : cut < 0
    · rw [if_pos c2]; simp [alidadelaw11_FrameCut.j0]
    · rw [if_neg c2]
      by_cases c3 : cut > (s.size : Int)
      · rw [decide_eq_true c3]; simp [alidadelaw11_FrameCut.j0]
      · rw [decide_eq_false c3]
        simp only [alidadelaw11_FrameCut.j0]
        have hl := size_l s
        obtain ⟨a, ha⟩ : ∃ a : ByteArray, s.extract 0 cut.toNat = a := ⟨_, rfl⟩
        obtain ⟨b, hb⟩ : ∃ b : ByteArray, s.extract cut.toNat s.size = b := ⟨_, rfl⟩
        have hal : a.data.toList = s.data.toList.take cut.toNat := by rw [← ha, extract_l]; simp
        have hbl : b.data.toList = s.data.toList.drop cut.toNat := by rw [← hb, extract_l, List.take_of_length_le (by simp)]
        have hab : a.data.toList ++ b.data.toList = s.data.toList := by rw [hal, hbl, List.take_append_drop]
        have has := size_l a
        have hbs := size_l b
        have hcut := scanL_cut a.data.toList.length a.data.toList b.data.toList (Nat.le_refl _)
        rw [hab] at hcut
        have hlen := congrArg List.length hab
        rw [List.length_append] at hlen
        have bd := scanL_bound a.data.toList.length a.data.toList (Nat.le_refl _)
        have bs := scanL_bound s.data.toList.length s.data.toList (Nat.le_refl _)
        have rl := scanL_rest a.data.toList.length a.data.toList (Nat.le_refl _)
        obtain ⟨r, hr⟩ : ∃ r, (scanL a.data.toList).2.1 = r := ⟨_, rfl⟩
        rw [hr] at hcut rl
        have brb := scanL_bound (r ++ b.data.toList).length (r ++ b.data.toList) (Nat.le_refl _)
        rw [List.length_append] at brb
        rw [if_neg (by simp), scan_f s _ (by omega) (by omega)]
        simp only [Option.bind_some]
        rw [if_pos (by omega), if_pos (by omega), ha, hb, scan_f a _ (by omega) (by omega)]
        simp only [Option.bind_some, hr]
        have hrb : (encB r ++ b).data.toList = r ++ b.data.toList := by simp [encB, ByteArray.data_append]
        have hrs : (encB r).size = r.length := by simp [encB, ByteArray.size]
        rw [if_pos (by rw [hrs]; omega), scan_f (encB r ++ b) _ (by rw [ByteArray.size_append, hrs]; omega) (by omega)]
        simp only [Option.bind_some, hrb]
        rw [if_pos (by simp only [List.length_map]; omega)]
        have e1 : (scanL a.data.toList).1.map frS ++ (scanL (r ++ b.data.toList)).1.map frS = (scanL s.data.toList).1.map frS := by rw [hcut, List.map_append]
        rw [e1, same_self _ _ (by simp only [List.length_map]; omega) (by simp only [List.length_map]; omega)]
        simp only [Option.bind_some, if_true]
        have e2 : (scanL s.data.toList).2.1 = (scanL (r ++ b.data.toList)).2.1 := by rw [hcut]
        have e3 : (scanL s.data.toList).2.2 = (scanL a.data.toList).2.2 + (scanL (r ++ b.data.toList)).2.2 := by rw [hcut]
        rw [e2, if_pos rfl, w64 (by omega) (by omega), e3]
        simp
end Go.Proofs.Ytjdnmgdndfcghaa.Pure
