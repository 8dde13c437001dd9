/-
  Walk of words.Name. Conditions: as the theorem says.
-/
import Derived.Test.YtcomfhigbjkoeaaGreatDoorVnA
import Derived.Test.YtcomfhigbjkoeaaGreatDoorShelf
namespace Go.Proofs.YtcomfhigbjkoeaaGreatDoor
open Go.RowKit Go.Shelf

/-- The bytes of names. -/
def letters : List UInt8 := [97, 98, 99, 100, 101, 102, 103, 104, 105, 106, 107, 108, 109, 110, 111, 112, 113, 114, 115, 116, 117, 118, 119, 120, 121, 122, 48, 49, 50, 51, 52, 53, 54, 55, 56, 57, 45]

theorem letters_word (c : UInt8) : letters.contains c = wordB c := by
  have h : ∀ i : Fin 256, letters.contains (UInt8.ofNat i.val) = wordB (UInt8.ofNat i.val) := by decide +kernel
  have h1 := h ⟨c.toNat, c.toNat_lt⟩
  simpa using h1

theorem dropWhile_nil {α : Type} {p : α → Bool} : ∀ {l : List α}, l.dropWhile p = [] ↔ ∀ x, x ∈ l → p x = true
  | [] => by simp
  | x :: xs => by
    by_cases h : p x = true
    · simp [h, dropWhile_nil (l := xs)]
    · simp [h]

theorem dropWhile_all {α : Type} {p : α → Bool} : ∀ {l : List α}, (∀ x, x ∈ l.dropWhile p → p x = true) → ∀ x, x ∈ l → p x = true
  | [], _ => by simp
  | x :: xs, h => by
    by_cases hx : p x = true
    · rw [List.dropWhile_cons_of_pos hx] at h
      intro y hy
      rcases List.mem_cons.1 hy with rfl | hy
      · exact hx
      · exact dropWhile_all h y hy
    · rw [List.dropWhile_cons_of_neg hx] at h
      exact h

theorem trim_nil (l cs : List UInt8) : (Lib.trimS l cs = []) ↔ ∀ x, x ∈ l → cs.contains x = true := by
  unfold Lib.trimS Lib.trimLeftS Lib.trimRightS
  rw [dropWhile_nil]
  constructor
  · intro h x hx
    exact dropWhile_all (l := l.reverse) (fun y hy => h y (List.mem_reverse.2 hy)) x (List.mem_reverse.2 hx)
  · intro h x hx
    have : l.reverse.dropWhile (fun x => cs.contains x) = [] := dropWhile_nil.2 fun y hy => h y (List.mem_reverse.1 hy)
    rw [this] at hx
    simp at hx

theorem size_zero {s : ByteArray} (h : s.size = 0) : s.toList = [] := by
  rw [ByteArray.toList_eq]
  exact List.eq_nil_of_length_eq_zero (by simpa using h)
theorem size_pos {s : ByteArray} (h : 0 < s.size) : ¬ s.toList = [] := by
  rw [ByteArray.toList_eq]
  intro h'
  have h1 : s.data.toList.length = 0 := by rw [h']; rfl
  rw [Array.length_toList] at h1
  have h2 : s.size = s.data.size := rfl
  omega

set_option maxHeartbeats 1000000 in
theorem name_any (s : ByteArray) (w : World) (hs : s.size ≤ 9223372036854775807) :
    Calls Tryz.prog 75 #[.string s] w fun e w' => e = .returned (.bool (nameB s)) ∧ Below w.heap.size w w' := by
  by_cases h0 : 0 < s.size
  case neg =>
    have hE := size_zero (s := s) (by omega)
    have hT := Lib.hid (show nameB s = false by simp [nameB]; omega)
    go_enter Tryz.func75, Tryz.ntmps75
    go_wp2
    go_ret
    exact ⟨ret_bool hT.out.symm, Below.refl _ _⟩
  have hE := size_pos h0
  by_cases h1 : 16 < s.size
  · have hT := Lib.hid (show nameB s = false by simp [nameB]; omega)
    go_enter Tryz.func75, Tryz.ntmps75
    go_wp2
    go_ret
    exact ⟨ret_bool hT.out.symm, Below.refl _ _⟩
  have hd : s.data.toList.getD 0 0 = s[0] := by
    rw [List.getD_eq_getElem?_getD, List.getElem?_eq_getElem (by simpa using h0)]
    rfl
  by_cases h2 : (s[0].toNat : Int) < 97
  · have hT := Lib.hid (show nameB s = false by simp only [nameB, hd, lowB]; simp; omega)
    clear hd
    go_enter Tryz.func75, Tryz.ntmps75
    go_wp2
    go_ret
    exact ⟨ret_bool hT.out.symm, Below.refl _ _⟩
  by_cases h3 : (122 : Int) < (s[0].toNat : Int)
  · have hT := Lib.hid (show nameB s = false by simp only [nameB, hd, lowB]; simp; omega)
    clear hd
    go_enter Tryz.func75, Tryz.ntmps75
    go_wp2
    go_ret
    exact ⟨ret_bool hT.out.symm, Below.refl _ _⟩
  have hcon := Any.strings_Trim_laid Tryz.lays160 (by kernel_rfl) s ⟨#[97, 98, 99, 100, 101, 102, 103, 104, 105, 106, 107, 108, 109, 110, 111, 112, 113, 114, 115, 116, 117, 118, 119, 120, 121, 122, 48, 49, 50, 51, 52, 53, 54, 55, 56, 57, 45]⟩ w hs (by decide) (ascii_of_all (by decide))
  change Calls Tryz.prog 84 _ _ (fun e w' => e = .returned (.string ⟨(Lib.trimS s.data.toList letters).toArray⟩) ∧ Below w.heap.size w w') at hcon
  have hT := Lib.hid (show nameB s = (ByteArray.mk (Lib.trimS s.data.toList letters).toArray).toList.isEmpty by
    rw [ByteArray.toList_eq]
    simp only [nameB, hd, lowB]
    have hc : (s.data.toList.all wordB) = (Lib.trimS s.data.toList letters).isEmpty := by
      rw [Bool.eq_iff_iff, List.all_eq_true, List.isEmpty_iff, trim_nil]
      simp only [letters_word]
    have e1 : decide (1 ≤ s.size) = true := by simp; omega
    have e2 : decide (s.size ≤ 16) = true := by simp; omega
    have e3 : decide (97 ≤ s[0].toNat) = true := by simp; omega
    have e4 : decide (s[0].toNat ≤ 122) = true := by simp; omega
    rw [e1, e2, e3, e4, hc]
    simp)
  have r0 : s.toList.isEmpty = false := by simpa using hE
  have r1 : decide (16 < (s.size : Int)) = false := by simp; omega
  have r2 : decide ((s[0].toNat : Int) < 97) = false := by simpa using h2
  have r3 : decide ((122 : Int) < (s[0].toNat : Int)) = false := by simpa using h3
  clear hd h1 h2 h3 hE
  generalize (⟨(Lib.trimS s.data.toList letters).toArray⟩ : ByteArray) = r at hcon hT
  go_enter Tryz.func75, Tryz.ntmps75
  go_wp2_with (go_at_call 84; refine hcon.mono ?_; rintro e w' ⟨rfl, hB⟩)
  go_ret
  exact ⟨ret_bool hT.out.symm, hB⟩
end Go.Proofs.YtcomfhigbjkoeaaGreatDoor
