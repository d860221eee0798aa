/- Plain lemmas on texts: equality, joining, digits: no program in sight. -/
import Derived.Test.YtacmlggiklkbiaaMine
namespace Go.Proofs.Ytacmlggiklkbiaa.Mine
open Go.RowKit Go.Proofs.YtacmlggiklkbiaaW.PrintWords Go.Proofs.YtacmlggiklkbiaaW.PrintLast Go.Proofs.YtacmlggiklkbiaaW.PrintMore

theorem bext {a b : ByteArray} (h : a.data.toList = b.data.toList) : a = b := by
  cases a; cases b; simp only [ByteArray.mk.injEq]; exact Array.toList_inj.mp h
theorem tl_inj {a b : ByteArray} : a.toList = b.toList ↔ a = b := by
  rw [ByteArray.toList_eq, ByteArray.toList_eq]
  exact ⟨bext, fun h => by rw [h]⟩
theorem app_data (a b : ByteArray) : (a ++ b).data.toList = a.data.toList ++ b.data.toList := by
  rw [ByteArray.data_append, Array.toList_append]
theorem app_assoc (a b c : ByteArray) : a ++ b ++ c = a ++ (b ++ c) := bext (by simp only [app_data, List.append_assoc])
theorem app_nil (a : ByteArray) : a ++ (⟨#[]⟩ : ByteArray) = a := bext (by simp [app_data])
theorem nil_app (a : ByteArray) : (⟨#[]⟩ : ByteArray) ++ a = a := bext (by simp [app_data])
theorem size_app (a b : ByteArray) : (a ++ b).size = a.size + b.size := ByteArray.size_append
theorem size_dl (a : ByteArray) : a.data.toList.length = a.size := by rw [Array.length_toList]; rfl
theorem size_none : (⟨#[]⟩ : ByteArray).size = 0 := rfl
theorem tl_nil {a : ByteArray} : a.toList = ([] : List UInt8) ↔ a.size = 0 := by
  rw [ByteArray.toList_eq, ← size_dl]; exact List.length_eq_zero_iff.symm
theorem son_size (l : List Int) : (strOfNums l).size = l.length := strOfNums_size l
theorem size_zero {a : ByteArray} (h : a.size = 0) : a = ⟨#[]⟩ := by
  refine bext ?_
  rw [← size_dl] at h
  rw [List.length_eq_zero_iff.mp h]

/-! ### digits -/
def digC (n : Int) : ByteArray := strOfNums [48 + n]
theorem digC_size (n : Int) : (digC n).size = 1 := by unfold digC; rw [son_size]; rfl
def decM (n : Nat) : ByteArray := if n < 10 then digC n else decM (n / 10) ++ digC ((n % 10 : Nat) : Int)
theorem decM_small {n : Nat} (h : n < 10) : decM n = digC n := by rw [decM, if_pos h]
theorem decM_big {n : Nat} (h : ¬ n < 10) : decM n = decM (n / 10) ++ digC ((n % 10 : Nat) : Int) := by rw [decM, if_neg h]
theorem decM_size (n : Nat) : 1 ≤ (decM n).size ∧ (decM n).size ≤ n + 1 := by
  induction n using Nat.strongRecOn with
  | _ n ih =>
    by_cases h : n < 10
    · rw [decM_small h, digC_size]; omega
    · rw [decM_big h, size_app, digC_size]
      have := ih (n / 10) (by omega)
      omega
def numM (n : Int) : ByteArray := if 0 ≤ n ∧ n ≤ 4294967295 then decM n.toNat else ⟨#[]⟩

/-! ### a number out of its digits -/
def tnN (s : ByteArray) : Nat → Int → Int → Option Int
  | 0, n, _ => some n
  | d + 1, n, i => if bt s i < 48 ∨ bt s i > 57 then none else tnN s d (wrap64 ((wrap64 (10 * n)) + (((bt s i) - 48) % 256))) (i + 1)
def tnEnd (s : ByteArray) : Option Int → Int × Bool
  | none => (0, false)
  | some n => if numM n = s then (n, true) else (0, false)
def textNumM (s : ByteArray) : Int × Bool := if 1 ≤ s.size ∧ s.size ≤ 10 then tnEnd s (tnN s s.size 0 0) else (0, false)

/-! ### all bytes of a stretch are of a kind -/
def allN (P : Int → Bool) (s : ByteArray) : Nat → Int → Bool
  | 0, _ => true
  | d + 1, i => P (bt s i) && allN P s d (i + 1)
theorem bt_ext' {s : ByteArray} {a b : Nat} {i : Int} (hb : b ≤ s.size) (h0 : 0 ≤ i) (h1 : i < (b : Int) - a) : bt (s.extract a b) i = bt s (i + a) := by
  rw [bt_ext hb h0 h1, Int.add_comm]
theorem allN_ext {P : Int → Bool} {s : ByteArray} {a b : Nat} (hb : b ≤ s.size) (d : Nat) : ∀ i : Int, 0 ≤ i → i + d ≤ (b : Int) - a → allN P (s.extract a b) d i = allN P s d (i + a) := by
  induction d with
  | zero => intro i h0 h1; rfl
  | succ d ih =>
    intro i h0 h1
    simp only [allN]
    rw [bt_ext' hb h0 (by omega), ih (i + 1) (by omega) (by omega), show i + 1 + (a : Int) = i + a + 1 by omega]
theorem allN_at {P : Int → Bool} {s : ByteArray} (d : Nat) : ∀ i : Int, allN P s d i = true → ∀ j : Int, i ≤ j → j < i + d → P (bt s j) = true := by
  induction d with
  | zero => intro i _ j h0 h1; omega
  | succ d ih =>
    intro i h j h0 h1
    simp only [allN, Bool.and_eq_true] at h
    by_cases e : j = i
    · subst e; exact h.1
    · exact ih (i + 1) h.2 j (by omega) (by omega)
theorem allN_of {P : Int → Bool} {s : ByteArray} (d : Nat) : ∀ i : Int, (∀ j : Int, i ≤ j → j < i + d → P (bt s j) = true) → allN P s d i = true := by
  induction d with
  | zero => intro i _; rfl
  | succ d ih =>
    intro i h
    simp only [allN, Bool.and_eq_true]
    exact ⟨h i (by omega) (by omega), ih (i + 1) (fun j a b => h j (by omega) (by omega))⟩
def wordB (b : Int) : Bool := decide ((97 ≤ b ∧ b ≤ 122) ∨ (65 ≤ b ∧ b ≤ 90) ∨ (48 ≤ b ∧ b ≤ 57) ∨ b = 45)
theorem wordB_iff {b : Int} : wordB b = true ↔ ((97 ≤ b ∧ b ≤ 122) ∨ (65 ≤ b ∧ b ≤ 90) ∨ (48 ≤ b ∧ b ≤ 57) ∨ b = 45) := by simp [wordB]
theorem wordB_not {b : Int} : wordB b = false ↔ ¬ ((97 ≤ b ∧ b ≤ 122) ∨ (65 ≤ b ∧ b ≤ 90) ∨ (48 ≤ b ∧ b ≤ 57) ∨ b = 45) := by simp only [wordB, decide_eq_false_iff_not]
def prB (b : Int) : Bool := decide (33 ≤ b ∧ b ≤ 126)
theorem prB_iff {b : Int} : prB b = true ↔ (33 ≤ b ∧ b ≤ 126) := by simp [prB]
theorem prB_not {b : Int} : prB b = false ↔ ¬ (33 ≤ b ∧ b ≤ 126) := by simp only [prB, decide_eq_false_iff_not]
def nameM (s : ByteArray) : Bool := decide (1 ≤ s.size ∧ s.size ≤ 60 ∧ bt s 0 = 33 ∧ bt s ((s.size : Int) - 1) = 33) && allN wordB s (s.size - 2) 1
def handleM (n p : ByteArray) : Bool := nameM n && decide (1 ≤ p.size ∧ p.size ≤ 60) && allN prB p p.size 0
theorem dl_get {s : ByteArray} {i : Nat} (h : i < s.data.toList.length) : ((s.data.toList[i]'h).toNat : Int) = bt s (i : Int) := by
  unfold bt
  rw [dif_pos (by rw [size_dl] at h; simpa using h)]
  rfl
theorem tl_one {s : ByteArray} {c : UInt8} : s.toList = [c] ↔ s.size = 1 ∧ bt s 0 = (c.toNat : Int) := by
  rw [ByteArray.toList_eq]
  constructor
  · intro h
    have hl : s.data.toList.length = 1 := by rw [h]; rfl
    refine ⟨by rw [← size_dl, hl], ?_⟩
    have := dl_get (s := s) (i := 0) (by omega)
    rw [show ((0 : Nat) : Int) = 0 from rfl] at this
    rw [← this]
    simp [h]
  · intro ⟨h1, h2⟩
    have hl : s.data.toList.length = 1 := by rw [size_dl, h1]
    obtain ⟨a, ha⟩ := List.length_eq_one_iff.mp hl
    have := dl_get (s := s) (i := 0) (by omega)
    rw [show ((0 : Nat) : Int) = 0 from rfl, h2] at this
    simp only [ha] at this
    have f0 : (a.toNat : Int) = (c.toNat : Int) := this
    rw [ha, UInt8.toNat_inj.mp (show a.toNat = c.toNat by omega)]
theorem tl_two {s : ByteArray} {c d : UInt8} : s.toList = [c, d] ↔ s.size = 2 ∧ bt s 0 = (c.toNat : Int) ∧ bt s 1 = (d.toNat : Int) := by
  rw [ByteArray.toList_eq]
  constructor
  · intro h
    have hl : s.data.toList.length = 2 := by rw [h]; rfl
    have e0 := dl_get (s := s) (i := 0) (by omega)
    have e1 := dl_get (s := s) (i := 1) (by omega)
    simp only [h] at e0 e1
    exact ⟨by rw [← size_dl, hl], e0.symm, e1.symm⟩
  · intro ⟨h1, h2, h3⟩
    have hl : s.data.toList.length = 2 := by rw [size_dl, h1]
    have e0 := dl_get (s := s) (i := 0) (by omega)
    have e1 := dl_get (s := s) (i := 1) (by omega)
    match hs : s.data.toList, hl with
    | [a, b], _ =>
      simp only [hs] at e0 e1
      have f0 : (a.toNat : Int) = bt s 0 := e0
      have f1 : (b.toNat : Int) = bt s 1 := e1
      rw [h2] at f0; rw [h3] at f1
      rw [UInt8.toNat_inj.mp (show a.toNat = c.toNat by omega), UInt8.toNat_inj.mp (show b.toNat = d.toNat by omega)]

end Go.Proofs.Ytacmlggiklkbiaa.Mine
