/- Plain lemmas on lists of texts and on folding: no program in sight. -/
import Derived.Test.YtacmlggiklkbiaaTxt
import Derived.Lib.Repeat
namespace Go.Proofs.Ytacmlggiklkbiaa.Mine
open Go.RowKit Go.Proofs.YtacmlggiklkbiaaW.PrintWords Go.Proofs.YtacmlggiklkbiaaW.PrintLast Go.Proofs.YtacmlggiklkbiaaW.PrintMore

theorem drop_at {α : Type} (d : α) (xs : List α) (i : Int) (h0 : 0 ≤ i) (h1 : i < (xs.length : Int)) : xs.drop i.toNat = xs.getD i.toNat d :: xs.drop (i + 1).toNat := by
  have h : i.toNat < xs.length := by omega
  rw [List.drop_eq_getElem_cons h, show (i + 1).toNat = i.toNat + 1 by omega, List.getD_eq_getElem?_getD, List.getElem?_eq_getElem h]
  rfl
theorem drop_end {α : Type} (xs : List α) (i : Int) (h1 : (xs.length : Int) ≤ i) : xs.drop i.toNat = [] := List.drop_of_length_le (by omega)
theorem copy_set {α : Type} (z v : α) (xs : List α) (i : Int) (h0 : 0 ≤ i) (h1 : i < (xs.length : Int)) (hv : xs[i.toNat]? = some v) :
    (xs.take i.toNat ++ List.replicate (xs.length - i.toNat) z).set i.toNat v = xs.take (i + 1).toNat ++ List.replicate (xs.length - (i + 1).toNat) z := by
  have h : i.toNat < xs.length := by omega
  have hl : (xs.take i.toNat).length = i.toNat := by rw [List.length_take]; omega
  rw [List.set_append_right _ _ (by omega), hl, Nat.sub_self, show xs.length - i.toNat = (xs.length - (i + 1).toNat) + 1 by omega, List.replicate_succ, List.set_cons_zero]
  rw [show (i + 1).toNat = i.toNat + 1 by omega, List.take_succ_eq_append_getElem h, List.append_assoc]
  rw [List.getElem?_eq_getElem h] at hv
  rw [Option.some.inj hv]
  rfl
theorem copy_end {α : Type} (z : α) (xs : List α) (i : Int) (h1 : i = (xs.length : Int)) : xs.take i.toNat ++ List.replicate (xs.length - i.toNat) z = xs := by
  rw [show i.toNat = xs.length by omega, Nat.sub_self, List.take_length]; simp
theorem copy_len {α : Type} (z : α) (xs : List α) (i : Int) (h0 : 0 ≤ i) (h1 : i ≤ (xs.length : Int)) : (xs.take i.toNat ++ List.replicate (xs.length - i.toNat) z).length = xs.length := by
  rw [List.length_append, List.length_take, List.length_replicate]; omega
theorem getD_some {α : Type} (d : α) (xs : List α) (i : Int) (h0 : 0 ≤ i) (h1 : i < (xs.length : Int)) : xs[i.toNat]? = some (xs.getD i.toNat d) := by
  have h : i.toNat < xs.length := by omega
  rw [List.getD_eq_getElem?_getD, List.getElem?_eq_getElem h]; rfl

def totS : List ByteArray → Nat
  | [] => 0
  | x :: r => x.size + totS r

/-! ### breaks and blanks -/
def nl (n : Nat) : ByteArray := ⟨(List.replicate n (10 : UInt8)).toArray⟩
def sp : ByteArray := ⟨#[32]⟩
theorem nl_data (n : Nat) : (nl n).data.toList = List.replicate n (10 : UInt8) := rfl
theorem nl_size (n : Nat) : (nl n).size = n := by rw [← size_dl, nl_data, List.length_replicate]
theorem sp_size : sp.size = 1 := rfl
theorem nl_zero : nl 0 = (⟨#[]⟩ : ByteArray) := rfl
theorem nl_one : nl 1 = (⟨#[10]⟩ : ByteArray) := rfl
theorem nl_add (a b : Nat) : nl a ++ nl b = nl (a + b) := bext (by rw [app_data, nl_data, nl_data, nl_data, List.replicate_append_replicate])
theorem repeatL_nl (n : Nat) : (⟨(Lib.repeatL (⟨#[10]⟩ : ByteArray).data.toList n).toArray⟩ : ByteArray) = nl n := by
  refine bext ?_
  rw [nl_data]
  show (Lib.repeatL [10] n) = _
  induction n with
  | zero => rfl
  | succ n ih => rw [List.replicate_succ, ← ih]; rfl

/-! ### lines of a folded scalar -/
def far (s : ByteArray) : Bool := whB (byteM s 0)
def fbSep (last : ByteArray) (many : Nat) (x : ByteArray) : ByteArray :=
  if last.size = 0 then nl many else if (far last || far x) = true then nl (many + 1) else if many = 0 then sp else nl many
def fbN (out last : ByteArray) (many : Nat) : List ByteArray → ByteArray
  | [] => out
  | x :: r => if x.size = 0 then fbN out last (many + 1) r else fbN (out ++ fbSep last many x ++ x) x 0 r
def foldBlockM (l : List ByteArray) : ByteArray := fbN ⟨#[]⟩ ⟨#[]⟩ 0 l
theorem fbSep_size (last : ByteArray) (many : Nat) (x : ByteArray) : (fbSep last many x).size ≤ many + 1 := by
  unfold fbSep
  split
  · rw [nl_size]; omega
  · split
    · rw [nl_size]; omega
    · split
      · rw [sp_size]; omega
      · rw [nl_size]; omega
theorem fbN_size (l : List ByteArray) : ∀ (out last : ByteArray) (many : Nat), (fbN out last many l).size ≤ out.size + many + totS l + 2 * l.length := by
  induction l with
  | nil => intro out last many; simp only [fbN, totS, List.length_nil]; omega
  | cons x r ih =>
    intro out last many
    simp only [fbN, totS, List.length_cons]
    split
    · have := ih out last (many + 1); omega
    · have := ih (out ++ fbSep last many x ++ x) x 0
      rw [size_app, size_app] at this
      have := fbSep_size last many x
      omega

/-! ### lines of a scalar in quotes or a plain one -/
def ffSep (glue : Bool) (many : Nat) : ByteArray := if many > 0 then nl many else if glue = true then ⟨#[]⟩ else sp
def ffN (out : ByteArray) (glue : Bool) (many : Nat) : List (ByteArray × Bool) → ByteArray
  | [] => out
  | x :: r => if x.1.size = 0 ∧ x.2 = false ∧ ¬ r = [] then ffN out glue (many + 1) r else ffN (out ++ ffSep glue many ++ x.1) x.2 0 r
def foldFlowM : List (ByteArray × Bool) → ByteArray
  | [] => ⟨#[]⟩
  | x :: r => ffN x.1 x.2 0 r
theorem ffSep_size (glue : Bool) (many : Nat) : (ffSep glue many).size ≤ many + 1 := by
  unfold ffSep
  split
  · rw [nl_size]; omega
  · split
    · rw [size_none]; omega
    · rw [sp_size]; omega
def totP : List (ByteArray × Bool) → Nat
  | [] => 0
  | x :: r => x.1.size + totP r
theorem ffN_size (l : List (ByteArray × Bool)) : ∀ (out : ByteArray) (glue : Bool) (many : Nat), (ffN out glue many l).size ≤ out.size + many + totP l + 2 * l.length := by
  induction l with
  | nil => intro out glue many; simp only [ffN, totP, List.length_nil]; omega
  | cons x r ih =>
    intro out glue many
    simp only [ffN, totP, List.length_cons]
    split
    · have := ih out glue (many + 1); omega
    · have := ih (out ++ ffSep glue many ++ x.1) x.2 0
      rw [size_app, size_app] at this
      have := ffSep_size glue many
      omega
theorem foldFlowM_size (l : List (ByteArray × Bool)) : (foldFlowM l).size ≤ totP l + 2 * l.length := by
  cases l with
  | nil => show 0 ≤ _; omega
  | cons x r =>
    have := ffN_size r x.1 x.2 0
    simp only [foldFlowM, totP, List.length_cons]
    omega

/-! ### tags by their handles -/
def coreTag : ByteArray := ⟨#[116, 97, 103, 58, 121, 97, 109, 108, 46, 111, 114, 103, 44, 50, 48, 48, 50, 58]⟩
def lookH (n : ByteArray) : List (ByteArray × ByteArray) → Option ByteArray
  | [] => none
  | x :: r => if x.1 = n then some x.2 else lookH n r
def prefixM (n : ByteArray) (l : List (ByteArray × ByteArray)) : ByteArray :=
  match lookH n l with
  | some p => p
  | none => if n.toList = ([33, 33] : List UInt8) then coreTag else if n.toList = ([33] : List UInt8) then ⟨#[33]⟩ else ⟨#[]⟩
theorem prefixM_nil (n : ByteArray) : prefixM n [] = (if n.toList = ([33, 33] : List UInt8) then coreTag else if n.toList = ([33] : List UInt8) then ⟨#[33]⟩ else ⟨#[]⟩ : ByteArray) := rfl
def tagReadM (raw : ByteArray) (l : List (ByteArray × ByteArray)) : ByteArray × Bool :=
  if raw.size = 0 ∨ ¬ bt raw 0 = 33 then (⟨#[]⟩, false)
  else if raw.size = 1 then (⟨#[33]⟩, true)
  else if raw.size > 3 ∧ bt raw 1 = 60 ∧ bt raw ((raw.size : Int) - 1) = 62 then (raw.extract 2 (raw.size - 1), true)
  else if (lastM 33 raw raw.size).toNat = raw.size ∨ nameM (raw.extract 0 (lastM 33 raw raw.size).toNat) = false ∨ (prefixM (raw.extract 0 (lastM 33 raw raw.size).toNat) l).size = 0 then (⟨#[]⟩, false)
  else (prefixM (raw.extract 0 (lastM 33 raw raw.size).toNat) l ++ raw.extract (lastM 33 raw raw.size).toNat raw.size, true)
def tot2 : List (ByteArray × ByteArray) → Nat
  | [] => 0
  | x :: r => x.1.size + x.2.size + tot2 r
theorem lookH_size (n : ByteArray) (l : List (ByteArray × ByteArray)) (p : ByteArray) (h : lookH n l = some p) : p.size ≤ tot2 l := by
  induction l with
  | nil => cases h
  | cons x r ih =>
    simp only [lookH] at h
    simp only [tot2]
    split at h
    · obtain rfl := Option.some.inj h; omega
    · have := ih h; omega
theorem prefixM_size (n : ByteArray) (l : List (ByteArray × ByteArray)) : (prefixM n l).size ≤ tot2 l + 20 := by
  unfold prefixM
  cases h : lookH n l with
  | some p => have := lookH_size n l p h; show p.size ≤ _; omega
  | none =>
    show (if n.toList = ([33, 33] : List UInt8) then coreTag else if n.toList = ([33] : List UInt8) then ⟨#[33]⟩ else ⟨#[]⟩ : ByteArray).size ≤ _
    split
    · show 18 ≤ _; omega
    · split
      · show 1 ≤ _; omega
      · show 0 ≤ _; omega

end Go.Proofs.Ytacmlggiklkbiaa.Mine
