/- Plain lemmas on what is left of a text without its breaks and blanks: no program in sight. -/
import Derived.Test.YtglmjmkbahfgaaaBlk
namespace Go.Proofs.Ytglmjmkbahfgaaa.Mine
open Go.RowKit Go.Proofs.YtglmjmkbahfgaaaW.PrintWords Go.Proofs.YtglmjmkbahfgaaaW.PrintLast Go.Proofs.YtglmjmkbahfgaaaW.PrintMore

def keepU (b : UInt8) : Bool := !(b == 10 || b == 32)
def thinL (l : List UInt8) : List Int := (l.filter keepU).map (fun b => (b.toNat : Int))
def thinI (s : ByteArray) : List Int := thinL s.data.toList
theorem thinL_app (a b : List UInt8) : thinL (a ++ b) = thinL a ++ thinL b := by unfold thinL; rw [List.filter_append, List.map_append]
theorem thinI_app (a b : ByteArray) : thinI (a ++ b) = thinI a ++ thinI b := by unfold thinI; rw [app_data, thinL_app]
theorem thinL_nl (n : Nat) : thinL (List.replicate n (10 : UInt8)) = [] := by
  unfold thinL
  rw [List.filter_replicate]
  rfl
theorem thinI_nl (n : Nat) : thinI (nl n) = [] := thinL_nl n
theorem thinI_sp : thinI sp = [] := rfl
theorem thinI_none : thinI (⟨#[]⟩ : ByteArray) = [] := rfl
theorem thinI_zero {x : ByteArray} (h : x.size = 0) : thinI x = [] := by rw [size_zero h]; rfl
theorem thinL_len (l : List UInt8) : (thinL l).length ≤ l.length := by unfold thinL; rw [List.length_map]; exact List.length_filter_le _ _
def thinS : List ByteArray → List Int
  | [] => []
  | x :: r => thinI x ++ thinS r
theorem thinI_fbSep (last : ByteArray) (many : Nat) (x : ByteArray) : thinI (fbSep last many x) = [] := by
  unfold fbSep
  split
  · exact thinI_nl _
  · split
    · exact thinI_nl _
    · split
      · exact thinI_sp
      · exact thinI_nl _
theorem thinI_fbN (l : List ByteArray) : ∀ (out last : ByteArray) (many : Nat), thinI (fbN out last many l) = thinI out ++ thinS l := by
  induction l with
  | nil => intro out last many; rw [fbN, thinS, List.append_nil]
  | cons x r ih =>
    intro out last many
    rw [fbN, thinS]
    split
    · rename_i h; rw [ih, thinI_zero h, List.nil_append]
    · rw [ih, thinI_app, thinI_app, thinI_fbSep, List.append_nil, List.append_assoc]
theorem thinI_foldBlock (l : List ByteArray) : thinI (foldBlockM l) = thinS l := by unfold foldBlockM; rw [thinI_fbN, thinI_none, List.nil_append]
theorem thinI_keepTail (l : List ByteArray) : thinI (keepTail l) = thinS l := by
  induction l with
  | nil => rfl
  | cons x r ih => rw [keepTail, thinI_app, thinI_app, thinI_nl, List.nil_append, ih, thinS]
theorem thinI_keep (l : List ByteArray) : thinI (keepM l) = thinS l := by
  cases l with
  | nil => rfl
  | cons x r => rw [keepM, thinI_app, thinI_keepTail, thinS]
theorem thinS_trim (l : List ByteArray) (n : Nat) : n ≤ l.length → thinS (l.take n) = thinS (l.take (trimN l n)) := by
  induction n with
  | zero => intro _; rfl
  | succ n ih =>
    intro h
    rw [trimN_succ]
    by_cases c : (l.getD n ByteArray.empty).size = 0
    · rw [if_pos c, ← ih (by omega)]
      have hn : n < l.length := by omega
      have e : l.getD n ByteArray.empty = l[n] := by rw [List.getD_eq_getElem?_getD, List.getElem?_eq_getElem hn]; rfl
      rw [List.take_succ_eq_append_getElem hn]
      have app : ∀ (a : List ByteArray) (x : ByteArray), thinI x = [] → thinS (a ++ [x]) = thinS a := by
        intro a x hx
        induction a with
        | nil => show thinI x ++ [] = []; rw [hx]; rfl
        | cons y r ih => rw [List.cons_append, thinS, thinS, ih]
      exact app _ _ (thinI_zero (by rw [← e]; exact c))
    · rw [if_neg c]
theorem thinI_block (l : List ByteArray) (folded : Bool) : thinI (blockM l folded 2) = thinS l := by
  have ht := thinS_trim l l.length (Nat.le_refl _)
  rw [List.take_length] at ht
  unfold blockM
  by_cases c : trimN l l.length = 0
  · rw [if_pos c, if_pos rfl, thinI_nl, ht, c]; rfl
  · rw [if_neg c, if_neg (by decide), if_pos rfl, thinI_app, thinI_nl, List.append_nil, ht]
    cases folded with
    | true => exact thinI_foldBlock _
    | false => exact thinI_keep _
theorem thinI_ffSep (glue : Bool) (many : Nat) : thinI (ffSep glue many) = [] := by
  unfold ffSep
  split
  · exact thinI_nl _
  · split
    · rfl
    · exact thinI_sp
theorem thinI_ffN (l : List (ByteArray × Bool)) : ∀ (out : ByteArray) (glue : Bool) (many : Nat), thinI (ffN out glue many l) = thinI out ++ thinS (l.map (·.1)) := by
  induction l with
  | nil => intro out glue many; rw [ffN, List.map_nil, thinS, List.append_nil]
  | cons x r ih =>
    intro out glue many
    rw [ffN, List.map_cons, thinS]
    split
    · rename_i h; rw [ih, thinI_zero h.1, List.nil_append]
    · rw [ih, thinI_app, thinI_app, thinI_ffSep, List.append_nil, List.append_assoc]
theorem thinI_foldFlow (l : List (ByteArray × Bool)) : thinI (foldFlowM l) = thinS (l.map (·.1)) := by
  cases l with
  | nil => rfl
  | cons x r => rw [foldFlowM, thinI_ffN, List.map_cons, thinS]

/-! ### what is folded is not longer -/
theorem fb_sizeA (r : List ByteArray) : ∀ (out last : ByteArray) (many : Nat), (fbN out last many r).size ≤ out.size + many + (keepTail r).size := by
  induction r with
  | nil => intro out last many; rw [fbN]; omega
  | cons x r ih =>
    intro out last many
    rw [fbN, keepTail, size_app, size_app, nl_size]
    split
    · have := ih out last (many + 1); omega
    · have := ih (out ++ fbSep last many x ++ x) x 0
      have h := fbSep_size last many x
      rw [size_app, size_app] at this
      omega
theorem fb_sizeB (r : List ByteArray) : ∀ (out : ByteArray) (many : Nat), ¬ r = [] → (fbN out ⟨#[]⟩ many r).size + 1 ≤ out.size + many + (keepTail r).size := by
  induction r with
  | nil => intro out many h; exact absurd rfl h
  | cons x r ih =>
    intro out many _
    rw [fbN, keepTail, size_app, size_app, nl_size]
    split
    · by_cases c : r = []
      · subst c; rw [fbN]; omega
      · have := ih out (many + 1) c; omega
    · have := fb_sizeA r (out ++ fbSep ⟨#[]⟩ many x ++ x) x 0
      have h : fbSep ⟨#[]⟩ many x = nl many := by unfold fbSep; rw [if_pos size_none]
      rw [h] at this ⊢
      rw [size_app, size_app, nl_size] at this
      omega
theorem fold_le (l : List ByteArray) : (foldBlockM l).size ≤ (keepM l).size := by
  cases l with
  | nil => exact Nat.le_refl _
  | cons x r =>
    have := fb_sizeB (x :: r) ⟨#[]⟩ 0 (by simp)
    rw [size_none, keepTail, size_app, nl_size] at this
    unfold foldBlockM
    rw [keepM]
    omega
theorem block_le (l : List ByteArray) : (blockM l true 2).size ≤ (blockM l false 2).size := by
  unfold blockM
  by_cases c : trimN l l.length = 0
  · rw [if_pos c, if_pos c]; exact Nat.le_refl _
  · rw [if_neg c, if_neg c]
    simp only [show ((2 : Int) = 1) = False from eq_false (by decide), if_false, if_true, Bool.false_eq_true, size_app]
    have := fold_le (l.take (trimN l l.length))
    omega
theorem block_pos (l : List ByteArray) (h : ¬ l.length = 0) : 0 < (blockM l false 2).size := by
  have hle := trimN_le l l.length
  unfold blockM
  by_cases c : trimN l l.length = 0
  · rw [if_pos c, if_pos rfl, nl_size]; omega
  · rw [if_neg c, if_neg (by decide), if_pos rfl, size_app, nl_size]; omega
theorem block_size (l : List ByteArray) (folded : Bool) (chomp : Int) : (blockM l folded chomp).size ≤ totS l + 3 * l.length + 1 := by
  have hle := trimN_le l l.length
  have ht := totS_take l (trimN l l.length)
  have h1 : (l.take (trimN l l.length)).length ≤ l.length := by rw [List.length_take]; omega
  have s1 := keepM_size (l.take (trimN l l.length))
  have s2 := foldBlockM_size (l.take (trimN l l.length))
  unfold blockM
  by_cases c : trimN l l.length = 0
  · rw [if_pos c]
    split
    · rw [nl_size]; omega
    · exact Nat.zero_le _
  · rw [if_neg c]
    split
    · split <;> omega
    · split
      · rw [size_app, nl_size]; split <;> omega
      · rw [size_app, nl_size]; split <;> omega
end Go.Proofs.Ytglmjmkbahfgaaa.Mine
