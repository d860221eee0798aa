/- Plain lemmas on the lines of a literal scalar that is written with a digit: no program in sight. -/
import Derived.Test.YtglmjmkbahfgaaaBlk
namespace Go.Proofs.Ytglmjmkbahfgaaa.Mine
open Go.RowKit Go.Proofs.YtglmjmkbahfgaaaW.PrintWords Go.Proofs.YtglmjmkbahfgaaaW.PrintLast Go.Proofs.YtglmjmkbahfgaaaW.PrintMore

theorem bt_list (s : ByteArray) (i : Nat) : bt s (i : Int) = ((s.data.toList.getD i 0).toNat : Int) := by
  by_cases h : i < s.data.toList.length
  · rw [← dl_get h, List.getD_eq_getElem?_getD, List.getElem?_eq_getElem h]; rfl
  · unfold bt
    rw [dif_neg (by rw [size_dl] at h; omega), List.getD_eq_getElem?_getD, List.getElem?_eq_none (by omega)]
    rfl
theorem bt_app_l {a b : ByteArray} {i : Int} (h0 : 0 ≤ i) (h1 : i < a.size) : bt (a ++ b) i = bt a i := by
  obtain ⟨n, rfl⟩ := Int.eq_ofNat_of_zero_le h0
  rw [bt_list, bt_list, app_data, List.getD_eq_getElem?_getD, List.getD_eq_getElem?_getD, List.getElem?_append_left (by rw [size_dl]; omega)]
theorem bt_app_r {a b : ByteArray} {i : Int} (h0 : 0 ≤ i) : bt (a ++ b) (a.size + i) = bt b i := by
  obtain ⟨n, rfl⟩ := Int.eq_ofNat_of_zero_le h0
  rw [show (a.size : Int) + n = ((a.size + n : Nat) : Int) by omega, bt_list, bt_list, app_data, List.getD_eq_getElem?_getD, List.getD_eq_getElem?_getD, List.getElem?_append_right (by rw [size_dl]; omega), size_dl, Nat.add_sub_cancel_left]
theorem ext_app (a b c : ByteArray) : (a ++ (b ++ c)).extract a.size (a.size + b.size) = b := by
  refine bext ?_
  rw [ByteArray.data_extract, Array.toList_extract, app_data, app_data]
  rw [List.extract_eq_take_drop, List.drop_append_of_le_length (by rw [size_dl]; exact Nat.le_refl _), List.drop_of_length_le (by rw [size_dl]; exact Nat.le_refl _), List.nil_append, Nat.add_sub_cancel_left, List.take_append_of_le_length (by rw [size_dl]; exact Nat.le_refl _), List.take_of_length_le (by rw [size_dl]; exact Nat.le_refl _)]
theorem ext_pre (a b : ByteArray) : (a ++ b).extract 0 a.size = a := by
  have := ext_app ⟨#[]⟩ a b
  rw [nil_app, size_none, Nat.zero_add] at this
  exact this
def okLine (x : ByteArray) : Prop := allN (fun b => decide (b ≠ 10)) x x.size 0 = true ∧ (x.size = 0 ∨ ∃ j : Nat, j < x.size ∧ noWh (bt x j) = true ∧ brB (bt x j) = false ∧ allN whB x j 0 = true)
theorem line_facts {P x R : ByteArray} (hP : 0 < P.size) (hl : bt P ((P.size : Int) - 1) = 10) (hx : okLine x) {s : ByteArray} (hs : s = P ++ ((⟨#[32]⟩ : ByteArray) ++ (x ++ ((⟨#[10]⟩ : ByteArray) ++ R)))) :
    s.size = P.size + 2 + x.size + R.size ∧ markM s P.size = 0 ∧ loneM s P.size = decide (x.size = 0) ∧ (¬ x.size = 0 → 1 ≤ indentM s P.size) ∧ (x.size = 0 → indentM s P.size = 1) ∧ endM s P.size = P.size + 1 + x.size ∧ s.extract (P.size + 1) (P.size + 1 + x.size) = x := by
  have z1 : (⟨#[32]⟩ : ByteArray).size = 1 := rfl
  have z2 : (⟨#[10]⟩ : ByteArray).size = 1 := rfl
  have hz : s.size = P.size + 2 + x.size + R.size := by rw [hs, size_app, size_app, size_app, size_app, z1, z2]; omega
  have b0 : bt s P.size = 32 := by
    rw [hs, show (P.size : Int) = P.size + 0 by omega, bt_app_r (by omega), bt_app_l (by omega) (by rw [z1]; omega)]; rfl
  have bm : bt s ((P.size : Int) - 1) = 10 := by rw [hs, bt_app_l (by omega) (by omega), hl]
  have bx : ∀ j : Nat, j < x.size → bt s (P.size + 1 + j) = bt x j := by
    intro j hj
    rw [hs, show (P.size : Int) + 1 + j = P.size + (1 + j) by omega, bt_app_r (by omega), show (1 : Int) + j = ((⟨#[32]⟩ : ByteArray).size : Int) + j from rfl, bt_app_r (by omega), bt_app_l (by omega) (by omega)]
  have be : bt s (P.size + 1 + x.size) = 10 := by
    rw [hs, show (P.size : Int) + 1 + x.size = P.size + (1 + x.size) by omega, bt_app_r (by omega), show (1 : Int) + x.size = ((⟨#[32]⟩ : ByteArray).size : Int) + x.size from rfl, bt_app_r (by omega), show (x.size : Int) = x.size + 0 by omega, bt_app_r (by omega), bt_app_l (by omega) (by rw [z2]; omega)]
    rfl
  have hsp : spotM s P.size = P.size := spotM_in (by omega) (by omega)
  have hln : lineM s P.size = P.size := by unfold lineM; rw [hsp]; exact lastM_hit (by omega) bm
  have hnl : ∀ i : Int, (P.size : Int) ≤ i → i < P.size + 1 + x.size → isLf (bt s i) = false := by
    intro i h0 h1
    rw [isLf_not]
    by_cases c : i = P.size
    · rw [c, b0]; decide
    · have := bx (i - P.size - 1).toNat (by omega)
      rw [show (P.size : Int) + 1 + ((i - P.size - 1).toNat : Int) = i by omega] at this
      rw [this]
      have := allN_at x.size 0 hx.1 ((i - P.size - 1).toNat : Int) (by omega) (by omega)
      simpa using this
  have hend : endM s P.size = P.size + 1 + x.size := by
    unfold endM
    rw [hsp]
    exact upto_is (by omega) (by omega) (fun _ => by rw [isLf_iff]; exact be) hnl
  have hw0 : ∀ j : Nat, (∀ i : Nat, i < j → whB (bt s (P.size + 1 + i)) = true) → noWh (bt s (P.size + 1 + j)) = true → (P.size : Int) + 1 + j < s.size → whiteM s P.size = P.size + 1 + j := by
    intro j hj hn hlt
    unfold whiteM
    rw [hsp]
    refine upto_is (by omega) (by omega) (fun _ => hn) fun i h0 h1 => ?_
    by_cases c : i = P.size
    · rw [c, b0]; rfl
    · have := hj (i - P.size - 1).toNat (by omega)
      rw [show (P.size : Int) + 1 + ((i - P.size - 1).toNat : Int) = i by omega] at this
      unfold noWh; rw [this]; rfl
  refine ⟨hz, ?_, ?_, ?_, ?_, hend, ?_⟩
  · unfold markM
    rw [hsp]
    split
    · rename_i h
      have no : ∀ c : List UInt8, ∀ b : UInt8, ¬ b = 32 → c = b :: c.tail → ¬ (s.extract ((P.size : Int)).toNat ((P.size : Int) + 3).toNat).toList = c := by
        intro c b hb hc he
        have e0 := bt_ext (s := s) (a := ((P.size : Int)).toNat) (b := ((P.size : Int) + 3).toNat) (i := 0) (by omega) (by omega) (by omega)
        rw [show (((P.size : Int)).toNat : Int) + 0 = P.size by omega, b0] at e0
        rw [ByteArray.toList_eq] at he
        rw [show (0 : Int) = ((0 : Nat) : Int) from rfl, bt_list, he, hc] at e0
        exact hb (UInt8.toNat_inj.mp (by show b.toNat = 32; have : ((b.toNat : Nat) : Int) = 32 := e0; omega))
      rw [if_neg (no _ 45 (by decide) rfl), if_neg (no _ 46 (by decide) rfl)]
    · rfl
  · unfold loneM
    rw [hln]
    rcases hx.2 with h | ⟨j, hj, hn, hb, ha⟩
    · have e := hw0 0 (fun i hi => absurd hi (by omega)) (by
        have := be
        rw [h] at this
        rw [show (P.size : Int) + 1 + ((0 : Nat) : Int) = P.size + 1 + 0 by omega, show (P.size : Int) + 1 + 0 = P.size + 1 + ((0 : Nat) : Int) by omega, this]; rfl) (by omega)
      rw [e, byteM_in (by omega) (by omega), decide_eq_true h]
      have := be
      rw [h] at this
      rw [this]; rfl
    · have e := hw0 j (fun i hi => by rw [bx i (by omega)]; exact allN_at j 0 ha i (by omega) (by omega)) (by rw [bx j hj]; exact hn) (by omega)
      rw [e, byteM_in (by omega) (by omega), bx j hj, hb, decide_eq_false (by omega)]
  · intro _
    unfold indentM
    rw [hln, upto_next (by omega) (by rw [b0]; rfl)]
    have := upto_ge noBl s (P.size + 1)
    omega
  · intro h
    unfold indentM
    have := be
    rw [h] at this
    rw [hln, upto_next (by omega) (by rw [b0]; rfl), upto_hit (by omega) (by rw [show (P.size : Int) + 1 = P.size + 1 + ((0 : Nat) : Int) by omega, this]; rfl)]
    omega
  · rw [hs, ← app_assoc P, show P.size + 1 = (P ++ (⟨#[32]⟩ : ByteArray)).size by rw [size_app, z1]]
    exact ext_app _ _ _

def bodyM : List ByteArray → ByteArray
  | [] => ⟨#[]⟩
  | x :: r => (⟨#[32]⟩ : ByteArray) ++ (x ++ ((⟨#[10]⟩ : ByteArray) ++ bodyM r))
def wantM : List ByteArray → ByteArray
  | [] => ⟨#[]⟩
  | x :: r => x ++ ((⟨#[10]⟩ : ByteArray) ++ wantM r)
theorem bodyM_size (l : List ByteArray) : (bodyM l).size = totS l + 2 * l.length := by
  induction l with
  | nil => rfl
  | cons x r ih => rw [bodyM, size_app, size_app, size_app, ih, totS, List.length_cons, show (⟨#[32]⟩ : ByteArray).size = 1 from rfl, show (⟨#[10]⟩ : ByteArray).size = 1 from rfl]; omega
theorem wantM_size (l : List ByteArray) : (wantM l).size = totS l + l.length := by
  induction l with
  | nil => rfl
  | cons x r ih => rw [wantM, size_app, size_app, ih, totS, List.length_cons, show (⟨#[10]⟩ : ByteArray).size = 1 from rfl]; omega
theorem wantM_app (a b : List ByteArray) : wantM (a ++ b) = wantM a ++ wantM b := by
  induction a with
  | nil => rw [List.nil_append, wantM, nil_app]
  | cons x r ih => rw [List.cons_append, wantM, wantM, ih, app_assoc, app_assoc]
theorem want_keepTail (r : List ByteArray) : (⟨#[10]⟩ : ByteArray) ++ wantM r = keepTail r ++ nl 1 := by
  induction r with
  | nil => rfl
  | cons x r ih => rw [wantM, keepTail, ih, ← nl_one, app_assoc, app_assoc]
theorem want_keep (l : List ByteArray) (h : ¬ l.length = 0) : wantM l = keepM l ++ nl 1 := by
  cases l with
  | nil => exact absurd rfl h
  | cons x r => rw [wantM, keepM, want_keepTail, app_assoc]
theorem want_trim (l : List ByteArray) (n : Nat) : n ≤ l.length → wantM (l.take n) = wantM (l.take (trimN l n)) ++ nl (n - trimN l n) := by
  induction n with
  | zero => intro _; rfl
  | succ n ih =>
    intro h
    rw [trimN_succ]
    by_cases c : (l.getD n ByteArray.empty).size = 0
    · have hn : n < l.length := by omega
      have e : l.getD n ByteArray.empty = l[n] := by rw [List.getD_eq_getElem?_getD, List.getElem?_eq_getElem hn]; rfl
      have hle := trimN_le l n
      rw [if_pos c, List.take_succ_eq_append_getElem hn, wantM_app, ih (by omega), app_assoc]
      rw [e] at c
      rw [size_zero c]
      show _ ++ (nl _ ++ nl 1) = _
      rw [nl_add, show n - trimN l n + 1 = n + 1 - trimN l n by omega]
    · rw [if_neg c, Nat.sub_self, nl_zero, app_nil]
/-- What the three ways leave of the lines: all, one break, none. -/
theorem block_ways (l : List ByteArray) : blockM l false 2 = wantM l ∧ ∃ a b c : ByteArray, blockM l false 1 = a ∧ blockM l false 0 = a ++ b ∧ wantM l = (a ++ b) ++ c ∧ b.size ≤ 1 := by
  have hle := trimN_le l l.length
  have hw := want_trim l l.length (Nat.le_refl _)
  rw [List.take_length] at hw
  unfold blockM
  by_cases c : trimN l l.length = 0
  · rw [if_pos c, if_pos c, if_pos c, if_pos rfl, if_neg (by decide), if_neg (by decide)]
    rw [c, List.take_zero] at hw
    have hw' : wantM l = nl l.length := by rw [hw, wantM, nil_app, Nat.sub_zero]
    exact ⟨hw'.symm, ⟨#[]⟩, ⟨#[]⟩, nl l.length, rfl, by rw [app_nil], by rw [app_nil, nil_app, hw'], by decide⟩
  · rw [if_neg c, if_neg c, if_neg c]
    have hk := want_keep (l.take (trimN l l.length)) (by rw [List.length_take]; omega)
    rw [hk, app_assoc, nl_add, show 1 + (l.length - trimN l l.length) = 1 + l.length - trimN l l.length by omega] at hw
    simp only [show ((2 : Int) = 1) = False from eq_false (by decide), show ((0 : Int) = 1) = False from eq_false (by decide), show ((0 : Int) = 2) = False from eq_false (by decide), if_false, if_true, Bool.false_eq_true]
    refine ⟨hw.symm, keepM (l.take (trimN l l.length)), nl 1, nl (l.length - trimN l l.length), rfl, rfl, ?_, by rw [nl_size]; exact Nat.le_refl _⟩
    rw [hw, app_assoc, nl_add, show 1 + (l.length - trimN l l.length) = 1 + l.length - trimN l l.length by omega]
end Go.Proofs.Ytglmjmkbahfgaaa.Mine
