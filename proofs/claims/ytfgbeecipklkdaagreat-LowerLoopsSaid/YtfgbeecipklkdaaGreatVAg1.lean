/-
  An abstract machine for Go functions: memory, operations, and that what they tell the model does. Nothing is asked.
-/
import Derived.AtR
import Derived.CallsIn
import Derived.ChangeKeysEq
import Derived.Laws.Append
import Derived.Laws.BytesString
import Derived.Laws.Cells
import Derived.Laws.IdiomCopy
import Derived.Laws.StructEq
import Derived.Laws.Tables
import Derived.Lib.ConvBytes
import Derived.MapKept
set_option linter.all false
namespace Go.Ag
inductive Tr (α : Type) where
  | nil
  | node (l : Tr α) (v : Option α) (r : Tr α)
namespace Tr
variable {α : Type}
noncomputable def get (t : Tr α) : Nat → Option α :=
  Tr.rec (motive := fun _ => Nat → Option α) (fun _ => none)
    (fun _ v _ gl gr i => Nat.rec (motive := fun _ => Option α) v
      (fun n _ => Nat.rec (motive := fun _ => Option α) (gl (Nat.shiftRight n 1)) (fun _ _ => gr (Nat.shiftRight n 1)) (Nat.land n 1)) i) t
noncomputable def one (x : α) : Nat → Nat → Tr α :=
  Nat.rec (fun _ => nil) (fun _ ih i =>
    Nat.rec (motive := fun _ => Tr α) (node nil (some x) nil)
      (fun n _ => Nat.rec (motive := fun _ => Tr α) (node (ih (Nat.shiftRight n 1)) none nil) (fun _ _ => node nil none (ih (Nat.shiftRight n 1))) (Nat.land n 1)) i)
noncomputable def set (x : α) (t : Tr α) : Nat → Tr α :=
  Tr.rec (motive := fun _ => Nat → Tr α) (fun i => one x (Nat.succ i) i)
    (fun l v r gl gr i => Nat.rec (motive := fun _ => Tr α) (node l (some x) r)
      (fun n _ => Nat.rec (motive := fun _ => Tr α) (node (gl (Nat.shiftRight n 1)) v r) (fun _ _ => node l v (gr (Nat.shiftRight n 1))) (Nat.land n 1)) i) t
theorem get_nil (i : Nat) : (nil : Tr α).get i = none := rfl
theorem get_node_zero (l r : Tr α) (v : Option α) : (node l v r).get 0 = v := rfl
theorem get_node_succ (l r : Tr α) (v : Option α) (n : Nat) :
    (node l v r).get (n + 1) = if n % 2 = 0 then l.get (n / 2) else r.get (n / 2) := by
  have h : (node l v r).get (n + 1) = Nat.rec (motive := fun _ => Option α) (l.get (Nat.shiftRight n 1)) (fun _ _ => r.get (Nat.shiftRight n 1)) (Nat.land n 1) := rfl
  rw [h]
  have h1 : Nat.land n 1 = n % 2 := Nat.and_one_is_mod n
  have h2 : Nat.shiftRight n 1 = n / 2 := by show n >>> 1 = n / 2; rw [Nat.shiftRight_eq_div_pow]
  rw [h1, h2]
  rcases Nat.mod_two_eq_zero_or_one n with e | e <;> rw [e] <;> rfl
theorem one_succ_zero (x : α) (f : Nat) : one x (f + 1) 0 = node nil (some x) nil := rfl
theorem one_succ_succ (x : α) (f n : Nat) : one x (f + 1) (n + 1) = if n % 2 = 0 then node (one x f (n / 2)) none nil else node nil none (one x f (n / 2)) := by
  have h : one x (f + 1) (n + 1) = Nat.rec (motive := fun _ => Tr α) (node (one x f (Nat.shiftRight n 1)) none nil) (fun _ _ => node nil none (one x f (Nat.shiftRight n 1))) (Nat.land n 1) := rfl
  rw [h]
  have h1 : Nat.land n 1 = n % 2 := Nat.and_one_is_mod n
  have h2 : Nat.shiftRight n 1 = n / 2 := by show n >>> 1 = n / 2; rw [Nat.shiftRight_eq_div_pow]
  rw [h1, h2]
  rcases Nat.mod_two_eq_zero_or_one n with e | e <;> rw [e] <;> rfl
theorem set_nil (x : α) (i : Nat) : (nil : Tr α).set x i = one x (i + 1) i := rfl
theorem set_node_zero (x : α) (l r : Tr α) (v : Option α) : (node l v r).set x 0 = node l (some x) r := rfl
theorem set_node_succ (x : α) (l r : Tr α) (v : Option α) (n : Nat) :
    (node l v r).set x (n + 1) = if n % 2 = 0 then node (l.set x (n / 2)) v r else node l v (r.set x (n / 2)) := by
  have h : (node l v r).set x (n + 1) = Nat.rec (motive := fun _ => Tr α) (node (l.set x (Nat.shiftRight n 1)) v r) (fun _ _ => node l v (r.set x (Nat.shiftRight n 1))) (Nat.land n 1) := rfl
  rw [h]
  have h1 : Nat.land n 1 = n % 2 := Nat.and_one_is_mod n
  have h2 : Nat.shiftRight n 1 = n / 2 := by show n >>> 1 = n / 2; rw [Nat.shiftRight_eq_div_pow]
  rw [h1, h2]
  rcases Nat.mod_two_eq_zero_or_one n with e | e <;> rw [e] <;> rfl
theorem get_one (x : α) : ∀ (f i j : Nat), i < f → (one x f i).get j = if i = j then some x else none := by
  intro f
  induction f with
  | zero => intro i j h; omega
  | succ f ih =>
    intro i j h
    cases i with
    | zero =>
      rw [one_succ_zero]
      cases j with
      | zero => simp [get_node_zero]
      | succ j => rw [get_node_succ]; simp [get_nil]
    | succ n =>
      rw [one_succ_succ]
      have hn : n / 2 < f := by omega
      cases j with
      | zero => split <;> simp [get_node_zero]
      | succ j =>
        split
        · rename_i he
          rw [get_node_succ]
          by_cases hj : j % 2 = 0
          · rw [if_pos hj, ih _ _ hn]
            by_cases e : n = j
            · subst e; simp
            · rw [if_neg (by omega), if_neg (by omega)]
          · rw [if_neg hj, get_nil, if_neg (by omega)]
        · rename_i he
          rw [get_node_succ]
          by_cases hj : j % 2 = 0
          · rw [if_pos hj, get_nil, if_neg (by omega)]
          · rw [if_neg hj, ih _ _ hn]
            by_cases e : n = j
            · subst e; simp
            · rw [if_neg (by omega), if_neg (by omega)]
theorem get_set (x : α) (t : Tr α) : ∀ (i j : Nat), (t.set x i).get j = if i = j then some x else t.get j := by
  induction t with
  | nil =>
    intro i j
    rw [set_nil, get_one x (i + 1) i j (by omega), get_nil]
  | node l v r ihl ihr =>
    intro i j
    cases i with
    | zero =>
      rw [set_node_zero]
      cases j with
      | zero => simp [get_node_zero]
      | succ j => simp [get_node_succ]
    | succ n =>
      rw [set_node_succ]
      cases j with
      | zero => split <;> simp [get_node_zero]
      | succ j =>
        split
        · rename_i he
          rw [get_node_succ, get_node_succ]
          by_cases hj : j % 2 = 0
          · rw [if_pos hj, if_pos hj, ihl]
            by_cases e : n = j
            · subst e; simp
            · rw [if_neg (by omega), if_neg (by omega)]
          · rw [if_neg hj, if_neg hj, if_neg (by omega)]
        · rename_i he
          rw [get_node_succ, get_node_succ]
          by_cases hj : j % 2 = 0
          · rw [if_pos hj, if_pos hj, if_neg (by omega)]
          · rw [if_neg hj, if_neg hj, ihr]
            by_cases e : n = j
            · subst e; simp
            · rw [if_neg (by omega), if_neg (by omega)]
end Tr
end Go.Ag
namespace Go.Ag
set_option linter.unusedVariables false
structure RV where
  c0 : Value
  c1 : Value
  c2 : Value
  c3 : Value
  c4 : Value
  c5 : Value
  c6 : Value
  c7 : Value
namespace RV
noncomputable def row (r : RV) : Nat → Value
  | 0 => r.c0
  | 1 => r.c1
  | 2 => r.c2
  | 3 => r.c3
  | 4 => r.c4
  | 5 => r.c5
  | 6 => r.c6
  | 7 => r.c7
  | _ => undef
noncomputable def put (r : RV) (v : Value) : Nat → RV
  | 0 => ⟨v, r.c1, r.c2, r.c3, r.c4, r.c5, r.c6, r.c7⟩
  | 1 => ⟨r.c0, v, r.c2, r.c3, r.c4, r.c5, r.c6, r.c7⟩
  | 2 => ⟨r.c0, r.c1, v, r.c3, r.c4, r.c5, r.c6, r.c7⟩
  | 3 => ⟨r.c0, r.c1, r.c2, v, r.c4, r.c5, r.c6, r.c7⟩
  | 4 => ⟨r.c0, r.c1, r.c2, r.c3, v, r.c5, r.c6, r.c7⟩
  | 5 => ⟨r.c0, r.c1, r.c2, r.c3, r.c4, v, r.c6, r.c7⟩
  | 6 => ⟨r.c0, r.c1, r.c2, r.c3, r.c4, r.c5, v, r.c7⟩
  | 7 => ⟨r.c0, r.c1, r.c2, r.c3, r.c4, r.c5, r.c6, v⟩
  | _ => r
theorem row_put (r : RV) (v : Value) (j : Nat) {i : Nat} (h : i < 8) : (r.put v i).row j = if i = j then v else r.row j := by
  match i, h with
  | 0, _ =>
    match j with
    | 0 => rfl
    | 1 => rfl
    | 2 => rfl
    | 3 => rfl
    | 4 => rfl
    | 5 => rfl
    | 6 => rfl
    | 7 => rfl
    | n + 8 => rw [if_neg (by omega)]; rfl
  | 1, _ =>
    match j with
    | 0 => rfl
    | 1 => rfl
    | 2 => rfl
    | 3 => rfl
    | 4 => rfl
    | 5 => rfl
    | 6 => rfl
    | 7 => rfl
    | n + 8 => rw [if_neg (by omega)]; rfl
  | 2, _ =>
    match j with
    | 0 => rfl
    | 1 => rfl
    | 2 => rfl
    | 3 => rfl
    | 4 => rfl
    | 5 => rfl
    | 6 => rfl
    | 7 => rfl
    | n + 8 => rw [if_neg (by omega)]; rfl
  | 3, _ =>
    match j with
    | 0 => rfl
    | 1 => rfl
    | 2 => rfl
    | 3 => rfl
    | 4 => rfl
    | 5 => rfl
    | 6 => rfl
    | 7 => rfl
    | n + 8 => rw [if_neg (by omega)]; rfl
  | 4, _ =>
    match j with
    | 0 => rfl
    | 1 => rfl
    | 2 => rfl
    | 3 => rfl
    | 4 => rfl
    | 5 => rfl
    | 6 => rfl
    | 7 => rfl
    | n + 8 => rw [if_neg (by omega)]; rfl
  | 5, _ =>
    match j with
    | 0 => rfl
    | 1 => rfl
    | 2 => rfl
    | 3 => rfl
    | 4 => rfl
    | 5 => rfl
    | 6 => rfl
    | 7 => rfl
    | n + 8 => rw [if_neg (by omega)]; rfl
  | 6, _ =>
    match j with
    | 0 => rfl
    | 1 => rfl
    | 2 => rfl
    | 3 => rfl
    | 4 => rfl
    | 5 => rfl
    | 6 => rfl
    | 7 => rfl
    | n + 8 => rw [if_neg (by omega)]; rfl
  | 7, _ =>
    match j with
    | 0 => rfl
    | 1 => rfl
    | 2 => rfl
    | 3 => rfl
    | 4 => rfl
    | 5 => rfl
    | 6 => rfl
    | 7 => rfl
    | n + 8 => rw [if_neg (by omega)]; rfl
  | n + 8, h => omega
end RV
def RV.none : RV := ⟨undef, undef, undef, undef, undef, undef, undef, undef⟩
theorem RV.row_none (i : Nat) : RV.none.row i = undef := by
  match i with
  | 0 => rfl
  | 1 => rfl
  | 2 => rfl
  | 3 => rfl
  | 4 => rfl
  | 5 => rfl
  | 6 => rfl
  | 7 => rfl
  | n + 8 => rfl
structure RS where
  c0 : RV
  c1 : RV
  c2 : RV
  c3 : RV
  c4 : RV
  c5 : RV
  c6 : RV
  c7 : RV
namespace RS
noncomputable def row (r : RS) : Nat → RV
  | 0 => r.c0
  | 1 => r.c1
  | 2 => r.c2
  | 3 => r.c3
  | 4 => r.c4
  | 5 => r.c5
  | 6 => r.c6
  | 7 => r.c7
  | _ => RV.none
noncomputable def put (r : RS) (v : RV) : Nat → RS
  | 0 => ⟨v, r.c1, r.c2, r.c3, r.c4, r.c5, r.c6, r.c7⟩
  | 1 => ⟨r.c0, v, r.c2, r.c3, r.c4, r.c5, r.c6, r.c7⟩
  | 2 => ⟨r.c0, r.c1, v, r.c3, r.c4, r.c5, r.c6, r.c7⟩
  | 3 => ⟨r.c0, r.c1, r.c2, v, r.c4, r.c5, r.c6, r.c7⟩
  | 4 => ⟨r.c0, r.c1, r.c2, r.c3, v, r.c5, r.c6, r.c7⟩
  | 5 => ⟨r.c0, r.c1, r.c2, r.c3, r.c4, v, r.c6, r.c7⟩
  | 6 => ⟨r.c0, r.c1, r.c2, r.c3, r.c4, r.c5, v, r.c7⟩
  | 7 => ⟨r.c0, r.c1, r.c2, r.c3, r.c4, r.c5, r.c6, v⟩
  | _ => r
theorem row_put (r : RS) (v : RV) (j : Nat) {i : Nat} (h : i < 8) : (r.put v i).row j = if i = j then v else r.row j := by
  match i, h with
  | 0, _ =>
    match j with
    | 0 => rfl
    | 1 => rfl
    | 2 => rfl
    | 3 => rfl
    | 4 => rfl
    | 5 => rfl
    | 6 => rfl
    | 7 => rfl
    | n + 8 => rw [if_neg (by omega)]; rfl
  | 1, _ =>
    match j with
    | 0 => rfl
    | 1 => rfl
    | 2 => rfl
    | 3 => rfl
    | 4 => rfl
    | 5 => rfl
    | 6 => rfl
    | 7 => rfl
    | n + 8 => rw [if_neg (by omega)]; rfl
  | 2, _ =>
    match j with
    | 0 => rfl
    | 1 => rfl
    | 2 => rfl
    | 3 => rfl
    | 4 => rfl
    | 5 => rfl
    | 6 => rfl
    | 7 => rfl
    | n + 8 => rw [if_neg (by omega)]; rfl
  | 3, _ =>
    match j with
    | 0 => rfl
    | 1 => rfl
    | 2 => rfl
    | 3 => rfl
    | 4 => rfl
    | 5 => rfl
    | 6 => rfl
    | 7 => rfl
    | n + 8 => rw [if_neg (by omega)]; rfl
  | 4, _ =>
    match j with
    | 0 => rfl
    | 1 => rfl
    | 2 => rfl
    | 3 => rfl
    | 4 => rfl
    | 5 => rfl
    | 6 => rfl
    | 7 => rfl
    | n + 8 => rw [if_neg (by omega)]; rfl
  | 5, _ =>
    match j with
    | 0 => rfl
    | 1 => rfl
    | 2 => rfl
    | 3 => rfl
    | 4 => rfl
    | 5 => rfl
    | 6 => rfl
    | 7 => rfl
    | n + 8 => rw [if_neg (by omega)]; rfl
  | 6, _ =>
    match j with
    | 0 => rfl
    | 1 => rfl
    | 2 => rfl
    | 3 => rfl
    | 4 => rfl
    | 5 => rfl
    | 6 => rfl
    | 7 => rfl
    | n + 8 => rw [if_neg (by omega)]; rfl
  | 7, _ =>
    match j with
    | 0 => rfl
    | 1 => rfl
    | 2 => rfl
    | 3 => rfl
    | 4 => rfl
    | 5 => rfl
    | 6 => rfl
    | 7 => rfl
    | n + 8 => rw [if_neg (by omega)]; rfl
  | n + 8, h => omega
end RS
def RS.none : RS := ⟨RV.none, RV.none, RV.none, RV.none, RV.none, RV.none, RV.none, RV.none⟩
theorem RS.row_none (i : Nat) : RS.none.row i = RV.none := by
  match i with
  | 0 => rfl
  | 1 => rfl
  | 2 => rfl
  | 3 => rfl
  | 4 => rfl
  | 5 => rfl
  | 6 => rfl
  | 7 => rfl
  | n + 8 => rfl
structure RH where
  c0 : RS
  c1 : RS
  c2 : RS
  c3 : RS
  c4 : RS
  c5 : RS
  c6 : RS
  c7 : RS
  more : Tr Value
namespace RH
noncomputable def row (r : RH) : Nat → RS
  | 0 => r.c0
  | 1 => r.c1
  | 2 => r.c2
  | 3 => r.c3
  | 4 => r.c4
  | 5 => r.c5
  | 6 => r.c6
  | 7 => r.c7
  | _ => RS.none
noncomputable def put (r : RH) (v : RS) : Nat → RH
  | 0 => ⟨v, r.c1, r.c2, r.c3, r.c4, r.c5, r.c6, r.c7, r.more⟩
  | 1 => ⟨r.c0, v, r.c2, r.c3, r.c4, r.c5, r.c6, r.c7, r.more⟩
  | 2 => ⟨r.c0, r.c1, v, r.c3, r.c4, r.c5, r.c6, r.c7, r.more⟩
  | 3 => ⟨r.c0, r.c1, r.c2, v, r.c4, r.c5, r.c6, r.c7, r.more⟩
  | 4 => ⟨r.c0, r.c1, r.c2, r.c3, v, r.c5, r.c6, r.c7, r.more⟩
  | 5 => ⟨r.c0, r.c1, r.c2, r.c3, r.c4, v, r.c6, r.c7, r.more⟩
  | 6 => ⟨r.c0, r.c1, r.c2, r.c3, r.c4, r.c5, v, r.c7, r.more⟩
  | 7 => ⟨r.c0, r.c1, r.c2, r.c3, r.c4, r.c5, r.c6, v, r.more⟩
  | _ => r
theorem row_put (r : RH) (v : RS) (j : Nat) {i : Nat} (h : i < 8) : (r.put v i).row j = if i = j then v else r.row j := by
  match i, h with
  | 0, _ =>
    match j with
    | 0 => rfl
    | 1 => rfl
    | 2 => rfl
    | 3 => rfl
    | 4 => rfl
    | 5 => rfl
    | 6 => rfl
    | 7 => rfl
    | n + 8 => rw [if_neg (by omega)]; rfl
  | 1, _ =>
    match j with
    | 0 => rfl
    | 1 => rfl
    | 2 => rfl
    | 3 => rfl
    | 4 => rfl
    | 5 => rfl
    | 6 => rfl
    | 7 => rfl
    | n + 8 => rw [if_neg (by omega)]; rfl
  | 2, _ =>
    match j with
    | 0 => rfl
    | 1 => rfl
    | 2 => rfl
    | 3 => rfl
    | 4 => rfl
    | 5 => rfl
    | 6 => rfl
    | 7 => rfl
    | n + 8 => rw [if_neg (by omega)]; rfl
  | 3, _ =>
    match j with
    | 0 => rfl
    | 1 => rfl
    | 2 => rfl
    | 3 => rfl
    | 4 => rfl
    | 5 => rfl
    | 6 => rfl
    | 7 => rfl
    | n + 8 => rw [if_neg (by omega)]; rfl
  | 4, _ =>
    match j with
    | 0 => rfl
    | 1 => rfl
    | 2 => rfl
    | 3 => rfl
    | 4 => rfl
    | 5 => rfl
    | 6 => rfl
    | 7 => rfl
    | n + 8 => rw [if_neg (by omega)]; rfl
  | 5, _ =>
    match j with
    | 0 => rfl
    | 1 => rfl
    | 2 => rfl
    | 3 => rfl
    | 4 => rfl
    | 5 => rfl
    | 6 => rfl
    | 7 => rfl
    | n + 8 => rw [if_neg (by omega)]; rfl
  | 6, _ =>
    match j with
    | 0 => rfl
    | 1 => rfl
    | 2 => rfl
    | 3 => rfl
    | 4 => rfl
    | 5 => rfl
    | 6 => rfl
    | 7 => rfl
    | n + 8 => rw [if_neg (by omega)]; rfl
  | 7, _ =>
    match j with
    | 0 => rfl
    | 1 => rfl
    | 2 => rfl
    | 3 => rfl
    | 4 => rfl
    | 5 => rfl
    | 6 => rfl
    | 7 => rfl
    | n + 8 => rw [if_neg (by omega)]; rfl
  | n + 8, h => omega
theorem more_put (r : RH) (v : RS) (i : Nat) : (r.put v i).more = r.more := by
  match i with
  | 0 => rfl
  | 1 => rfl
  | 2 => rfl
  | 3 => rfl
  | 4 => rfl
  | 5 => rfl
  | 6 => rfl
  | 7 => rfl
  | n + 8 => rfl
end RH
def RH.none : RH := ⟨RS.none, RS.none, RS.none, RS.none, RS.none, RS.none, RS.none, RS.none, .nil⟩
theorem RH.row_none (i : Nat) : RH.none.row i = RS.none := by
  match i with
  | 0 => rfl
  | 1 => rfl
  | 2 => rfl
  | 3 => rfl
  | 4 => rfl
  | 5 => rfl
  | 6 => rfl
  | 7 => rfl
  | n + 8 => rfl
structure FT where
  c0 : RV
  c1 : RV
  c2 : RV
  c3 : RV
  c4 : RV
  c5 : RV
  c6 : RV
  c7 : RV
  hi : RH
namespace FT
noncomputable def row (r : FT) : Nat → RV
  | 0 => r.c0
  | 1 => r.c1
  | 2 => r.c2
  | 3 => r.c3
  | 4 => r.c4
  | 5 => r.c5
  | 6 => r.c6
  | 7 => r.c7
  | _ => RV.none
noncomputable def put (r : FT) (v : RV) : Nat → FT
  | 0 => ⟨v, r.c1, r.c2, r.c3, r.c4, r.c5, r.c6, r.c7, r.hi⟩
  | 1 => ⟨r.c0, v, r.c2, r.c3, r.c4, r.c5, r.c6, r.c7, r.hi⟩
  | 2 => ⟨r.c0, r.c1, v, r.c3, r.c4, r.c5, r.c6, r.c7, r.hi⟩
  | 3 => ⟨r.c0, r.c1, r.c2, v, r.c4, r.c5, r.c6, r.c7, r.hi⟩
  | 4 => ⟨r.c0, r.c1, r.c2, r.c3, v, r.c5, r.c6, r.c7, r.hi⟩
  | 5 => ⟨r.c0, r.c1, r.c2, r.c3, r.c4, v, r.c6, r.c7, r.hi⟩
  | 6 => ⟨r.c0, r.c1, r.c2, r.c3, r.c4, r.c5, v, r.c7, r.hi⟩
  | 7 => ⟨r.c0, r.c1, r.c2, r.c3, r.c4, r.c5, r.c6, v, r.hi⟩
  | _ => r
theorem row_put (r : FT) (v : RV) (j : Nat) {i : Nat} (h : i < 8) : (r.put v i).row j = if i = j then v else r.row j := by
  match i, h with
  | 0, _ =>
    match j with
    | 0 => rfl
    | 1 => rfl
    | 2 => rfl
    | 3 => rfl
    | 4 => rfl
    | 5 => rfl
    | 6 => rfl
    | 7 => rfl
    | n + 8 => rw [if_neg (by omega)]; rfl
  | 1, _ =>
    match j with
    | 0 => rfl
    | 1 => rfl
    | 2 => rfl
    | 3 => rfl
    | 4 => rfl
    | 5 => rfl
    | 6 => rfl
    | 7 => rfl
    | n + 8 => rw [if_neg (by omega)]; rfl
  | 2, _ =>
    match j with
    | 0 => rfl
    | 1 => rfl
    | 2 => rfl
    | 3 => rfl
    | 4 => rfl
    | 5 => rfl
    | 6 => rfl
    | 7 => rfl
    | n + 8 => rw [if_neg (by omega)]; rfl
  | 3, _ =>
    match j with
    | 0 => rfl
    | 1 => rfl
    | 2 => rfl
    | 3 => rfl
    | 4 => rfl
    | 5 => rfl
    | 6 => rfl
    | 7 => rfl
    | n + 8 => rw [if_neg (by omega)]; rfl
  | 4, _ =>
    match j with
    | 0 => rfl
    | 1 => rfl
    | 2 => rfl
    | 3 => rfl
    | 4 => rfl
    | 5 => rfl
    | 6 => rfl
    | 7 => rfl
    | n + 8 => rw [if_neg (by omega)]; rfl
  | 5, _ =>
    match j with
    | 0 => rfl
    | 1 => rfl
    | 2 => rfl
    | 3 => rfl
    | 4 => rfl
    | 5 => rfl
    | 6 => rfl
    | 7 => rfl
    | n + 8 => rw [if_neg (by omega)]; rfl
  | 6, _ =>
    match j with
    | 0 => rfl
    | 1 => rfl
    | 2 => rfl
    | 3 => rfl
    | 4 => rfl
    | 5 => rfl
    | 6 => rfl
    | 7 => rfl
    | n + 8 => rw [if_neg (by omega)]; rfl
  | 7, _ =>
    match j with
    | 0 => rfl
    | 1 => rfl
    | 2 => rfl
    | 3 => rfl
    | 4 => rfl
    | 5 => rfl
    | 6 => rfl
    | 7 => rfl
    | n + 8 => rw [if_neg (by omega)]; rfl
  | n + 8, h => omega
theorem hi_put (r : FT) (v : RV) (i : Nat) : (r.put v i).hi = r.hi := by
  match i with
  | 0 => rfl
  | 1 => rfl
  | 2 => rfl
  | 3 => rfl
  | 4 => rfl
  | 5 => rfl
  | 6 => rfl
  | 7 => rfl
  | n + 8 => rfl
end FT
theorem all8 {p : Nat → Prop} (h0 : p 0) (h1 : p 1) (h2 : p 2) (h3 : p 3) (h4 : p 4) (h5 : p 5) (h6 : p 6) (h7 : p 7) : ∀ i, i < 8 → p i := by
  intro i h
  match i, h with
  | 0, _ => exact h0
  | 1, _ => exact h1
  | 2, _ => exact h2
  | 3, _ => exact h3
  | 4, _ => exact h4
  | 5, _ => exact h5
  | 6, _ => exact h6
  | 7, _ => exact h7
  | n + 8, h => omega
namespace FT
def empty : FT := ⟨RV.none, RV.none, RV.none, RV.none, RV.none, RV.none, RV.none, RV.none, RH.none⟩
theorem row_empty (i : Nat) : empty.row i = RV.none := by
  match i with
  | 0 => rfl
  | 1 => rfl
  | 2 => rfl
  | 3 => rfl
  | 4 => rfl
  | 5 => rfl
  | 6 => rfl
  | 7 => rfl
  | n + 8 => rfl
noncomputable def get (T : FT) (t : Nat) : Value :=
  if Nat.blt t 64 then (T.row (t / 8)).row (t % 8)
  else if Nat.blt t 576 then ((T.hi.row ((t - 64) / 64)).row ((t - 64) / 8 % 8)).row (t % 8)
  else (T.hi.more.get t).getD undef
noncomputable def set (T : FT) (v : Value) (t : Nat) : FT :=
  if Nat.blt t 64 then T.put ((T.row (t / 8)).put v (t % 8)) (t / 8)
  else ⟨T.c0, T.c1, T.c2, T.c3, T.c4, T.c5, T.c6, T.c7,
    if Nat.blt t 576 then T.hi.put ((T.hi.row ((t - 64) / 64)).put (((T.hi.row ((t - 64) / 64)).row ((t - 64) / 8 % 8)).put v (t % 8)) ((t - 64) / 8 % 8)) ((t - 64) / 64)
    else ⟨T.hi.c0, T.hi.c1, T.hi.c2, T.hi.c3, T.hi.c4, T.hi.c5, T.hi.c6, T.hi.c7, T.hi.more.set v t⟩⟩
theorem get_empty (t : Nat) : empty.get t = undef := by
  unfold get
  split
  · rw [row_empty, RV.row_none]
  · split
    · show ((RH.none.row _).row _).row _ = undef
      rw [RH.row_none, RS.row_none, RV.row_none]
    · rfl
theorem row_hi (T : FT) (h : RH) (i : Nat) : (⟨T.c0, T.c1, T.c2, T.c3, T.c4, T.c5, T.c6, T.c7, h⟩ : FT).row i = T.row i := by
  match i with
  | 0 => rfl
  | 1 => rfl
  | 2 => rfl
  | 3 => rfl
  | 4 => rfl
  | 5 => rfl
  | 6 => rfl
  | 7 => rfl
  | n + 8 => rfl
theorem _root_.Go.Ag.RH.row_more (h : RH) (m : Tr Value) (i : Nat) : (⟨h.c0, h.c1, h.c2, h.c3, h.c4, h.c5, h.c6, h.c7, m⟩ : RH).row i = h.row i := by
  match i with
  | 0 => rfl
  | 1 => rfl
  | 2 => rfl
  | 3 => rfl
  | 4 => rfl
  | 5 => rfl
  | 6 => rfl
  | 7 => rfl
  | n + 8 => rfl
theorem get_set (T : FT) (v : Value) (t s : Nat) : (T.set v t).get s = if t = s then v else T.get s := by
  unfold set
  by_cases h : Nat.blt t 64 = true
  · have h' : t < 64 := Nat.blt_eq.mp h
    rw [if_pos h]
    unfold get
    by_cases hs : Nat.blt s 64 = true
    · have hs' : s < 64 := Nat.blt_eq.mp hs
      rw [if_pos hs, if_pos hs, FT.row_put _ _ _ (by omega)]
      by_cases e : t / 8 = s / 8
      · rw [if_pos e, RV.row_put _ _ _ (by omega), e]
        by_cases e' : t % 8 = s % 8
        · rw [if_pos e', if_pos (by omega)]
        · rw [if_neg e', if_neg (by omega)]
      · rw [if_neg e, if_neg (by intro e'; rw [e'] at e; exact e rfl)]
    · have hne : ¬ t = s := by intro e; subst e; exact hs h
      rw [if_neg hs, if_neg hs, hi_put, if_neg hne]
  · rw [if_neg h]
    unfold get
    by_cases hs : Nat.blt s 64 = true
    · have hne : ¬ t = s := by intro e; subst e; exact h hs
      rw [if_pos hs, if_pos hs, row_hi, if_neg hne]
    · rw [if_neg hs, if_neg hs]
      simp only
      have h1 : ¬ t < 64 := fun x => h (Nat.blt_eq.mpr x)
      have h2 : ¬ s < 64 := fun x => hs (Nat.blt_eq.mpr x)
      by_cases g : Nat.blt t 576 = true
      · have g' : t < 576 := Nat.blt_eq.mp g
        rw [if_pos g]
        by_cases gs : Nat.blt s 576 = true
        · have gs' : s < 576 := Nat.blt_eq.mp gs
          rw [if_pos gs, if_pos gs, RH.row_put _ _ _ (by omega)]
          by_cases e : (t - 64) / 64 = (s - 64) / 64
          · rw [if_pos e, RS.row_put _ _ _ (by omega), e]
            by_cases e1 : (t - 64) / 8 % 8 = (s - 64) / 8 % 8
            · rw [if_pos e1, RV.row_put _ _ _ (by omega), e1]
              by_cases e2 : t % 8 = s % 8
              · rw [if_pos e2, if_pos (by omega)]
              · rw [if_neg e2, if_neg (by omega)]
            · rw [if_neg e1, if_neg (by intro e'; rw [e'] at e1; exact e1 rfl)]
          · rw [if_neg e, if_neg (by intro e'; rw [e'] at e; exact e rfl)]
        · have hne : ¬ t = s := by intro e; subst e; exact gs g
          rw [if_neg gs, if_neg gs, RH.more_put, if_neg hne]
      · rw [if_neg g]
        by_cases gs : Nat.blt s 576 = true
        · have hne : ¬ t = s := by intro e; subst e; exact g gs
          rw [if_pos gs, if_pos gs, RH.row_more, if_neg hne]
        · rw [if_neg gs, if_neg gs]
          simp only
          rw [Tr.get_set]
          split <;> rfl
noncomputable def setL (T : FT) : Nat → List Value → FT
  | _, [] => T
  | i, v :: vs => setL (T.set v i) (i + 1) vs
theorem get_setL : ∀ (vs : List Value) (T : FT) (i t : Nat), (T.setL i vs).get t = if i ≤ t ∧ t < i + vs.length then (vs[t - i]?).getD undef else T.get t := by
  intro vs
  induction vs with
  | nil => intro T i t; rw [if_neg (by rintro ⟨h1, h2⟩; exact absurd h2 (by simpa using h1))]; rfl
  | cons v vs ih =>
    intro T i t
    show ((T.set v i).setL (i + 1) vs).get t = _
    rw [ih, get_set]
    by_cases e : i = t
    · subst e
      rw [if_neg (by omega), if_pos rfl, if_pos (by simp)]
      simp
    · by_cases h : i + 1 ≤ t ∧ t < i + 1 + vs.length
      · rw [if_pos h, if_pos (by simp; omega)]
        obtain ⟨k, hk⟩ : ∃ k, t - i = k + 1 := ⟨t - i - 1, by omega⟩
        have : t - (i + 1) = k := by omega
        rw [hk, this]; simp
      · rw [if_neg h, if_neg e, if_neg (by simp only [List.length_cons]; omega)]
end FT
end Go.Ag
namespace Go.Ag
def unk : Nat := 4611686018427387904
structure Env where
  t : FT
  n : Nat
noncomputable def Env.get (E : Env) (i : Nat) : Value := E.t.get i
noncomputable def Env.put (E : Env) (d : Option Tmp) (v : Value) : Option Env :=
  match d with
  | none => some E
  | some d => if Nat.blt d E.n then some ⟨E.t.set v d, E.n⟩ else none
noncomputable def Env.eval (E : Env) : Operand → Value
  | .tmp t => E.get t
  | .const v => v
  | .global g => .pointer (some ⟨g, 0, none⟩)
  | .func f => .func (.func f) #[] #[]
structure ALoop where
  state : LoopState
  pending : Option Code
  env : Env
  params : List Tmp
  assign : Code
  body : Code
inductive AObj where
  | cells (cs : Tr Value) (d : List Value) (n es root own top : Nat)
  | ro (cs : Tr Value) (n root : Nat)
  | map (es : List (Value × Value))
  | strIter (s : ByteArray) (pos : Nat)
  | loop (l : ALoop)
structure AState where
  heap : Tr AObj
  size : Nat
noncomputable def AState.get (A : AState) (b : Nat) : Option AObj := A.heap.get b
noncomputable def AState.put (A : AState) (b : Nat) (o : AObj) : AState := ⟨A.heap.set o b, A.size⟩
noncomputable def AState.push (A : AState) (o : AObj) : AState := ⟨A.heap.set o A.size, A.size + 1⟩
def plain1 : Value → Bool
  | .bool _ | .int _ _ | .float _ _ | .string _ | .pointer none | .map none | .chan none | .nilFunc | .nilIface => true
  | .slice none 0 0 => true
  | .func (.func _) f c => f.toList.isEmpty && c.toList.isEmpty
  | _ => false
def plainV : Value → Bool
  | .agg cs => cs.toList.all plain1
  | .tuple cs => cs.toList.all plain1
  | .iface _ v => plain1 v
  | v => plain1 v
noncomputable def cellAt (cs : Tr Value) (d : List Value) (i : Nat) : Option Value :=
  match cs.get i with
  | some v => some v
  | none => d[i % d.length]?
noncomputable def readN (cs : Tr Value) (d : List Value) : Nat → Nat → Option (List Value)
  | _, 0 => some []
  | off, n + 1 => (cellAt cs d off).bind fun v => (readN cs d (off + 1) n).bind fun vs => some (v :: vs)
noncomputable def writeL (cs : Tr Value) : Nat → List Value → Tr Value
  | _, [] => cs
  | off, v :: vs => writeL (cs.set v off) (off + 1) vs
def oneCell : Value → Bool
  | .agg _ | .tuple _ => false
  | _ => true
noncomputable def AState.ownOf (A : AState) (root : Nat) : Option Nat :=
  match A.get root with
  | some (.cells _ _ _ _ _ own _) => some own
  | _ => none
noncomputable def AState.isOpen (A : AState) (b root own : Nat) : Bool :=
  if Nat.beq root b then Nat.beq own 0 || Nat.beq own (b + 1)
  else match A.ownOf root with
    | some own => Nat.beq own 0 || Nat.beq own (b + 1)
    | none => false
structure Blk where
  cs : Tr Value
  d : List Value
  n : Nat
  es : Nat
  root : Nat
  top : Nat
noncomputable def AState.blk (A : AState) (b : Nat) : Option Blk :=
  match A.get b with
  | some (.cells cs d n es root own top) => if A.isOpen b root own then some ⟨cs, d, n, es, root, top⟩ else none
  | _ => none
noncomputable def AState.blkR (A : AState) (b : Nat) : Option (Tr Value × List Value × Nat) :=
  match A.get b with
  | some (.cells cs d n _ root own _) => if A.isOpen b root own then some (cs, d, n) else none
  | some (.ro cs n _) => some (cs, [], n)
  | _ => none
noncomputable def AState.readAt (A : AState) (b off n : Nat) : Option (List Value) :=
  (A.blkR b).bind fun k => if Nat.ble (off + n) k.2.2 then readN k.1 k.2.1 off n else none
noncomputable def AState.write (A : AState) (b off : Nat) (vs : List Value) : Option AState :=
  match A.get b with
  | some (.cells cs d n es root own top) =>
    if Nat.ble (off + vs.length) n && A.isOpen b root own then
      if Nat.beq root b then
        some (A.put b (.cells (writeL cs off vs) d n es root (if Nat.beq top b then own else b + 1) top))
      else
        match A.get root with
        | some (.cells rcs rd rn res rroot _ rtop) =>
          if Nat.beq rroot root then some ((A.put b (.cells (writeL cs off vs) d n es root own top)).put root (.cells rcs rd rn res rroot (b + 1) rtop)) else none
        | _ => none
    else none
  | _ => none
noncomputable def AState.fresh (A : AState) (cs : Tr Value) (d : List Value) (n es : Nat) : AState :=
  A.push (.cells cs d n es A.size 0 A.size)
def pureRun (s : Sem Value) : Option Value := match s with | .pure v => some v | _ => none
def isAggD : TypeDesc → Bool
  | .struct _ | .array _ _ => true
  | _ => false
def partA (P : Program) (t : TypeId) (cs : List Value) (off : Nat) : Option Value :=
  (P.underlying t).bind fun u => (P.info? t).bind fun i =>
    if isAggD u then (if Nat.ble (off + i.size) cs.length then some (.agg ((cs.drop off).take i.size).toArray) else none) else cs[off]?
def eqFields (eq : TypeId → Value → Value → Option Bool) (P : Program) (xs ys : List Value) : List Field → Option Bool
  | [] => some true
  | f :: fs =>
    if f.name = "_" then eqFields eq P xs ys fs else
    (partA P f.type xs f.offset).bind fun x => (partA P f.type ys f.offset).bind fun y => (eq f.type x y).bind fun b =>
      if b then eqFields eq P xs ys fs else some false
def eqItems (eq : TypeId → Value → Value → Option Bool) (P : Program) (e : TypeId) (c : Nat) (xs ys : List Value) : List Nat → Option Bool
  | [] => some true
  | i :: is => (partA P e xs (i * c)).bind fun x => (partA P e ys (i * c)).bind fun y => (eq e x y).bind fun b => if b then eqItems eq P e c xs ys is else some false
def aeq (P : Program) : Nat → TypeId → Value → Value → Option Bool
  | 0, _, _, _ => none
  | d + 1, t, x, y =>
    (P.underlying t).bind fun u =>
    match u, x, y with
    | .bool, .bool a, .bool b => some (a == b)
    | .int _, .int k a, .int k' b => if k = k' then some (a == b) else none
    | .string, .string a, .string b => some (a == b)
    | .pointer _, .pointer none, .pointer b => some b.isNone
    | .pointer _, .pointer (some _), .pointer none => some false
    | .interface _, .nilIface, .nilIface => some true
    | .interface _, .nilIface, .iface _ _ => some false
    | .interface _, .iface _ _, .nilIface => some false
    | .interface _, .iface tx vx, .iface ty vy =>
      if tx ≠ ty then some false else (P.info? tx).bind fun i => if i.comparable then aeq P d tx vx vy else none
    | .struct fields, .agg xs, .agg ys => if P.stoodInHeld t then none else eqFields (aeq P d) P xs.toList ys.toList fields.toList
    | .array n e, .agg xs, .agg ys => (P.info? e).bind fun i => eqItems (aeq P d) P e i.size xs.toList ys.toList (List.range n)
    | .slice _, .slice none _ _, .slice b _ _ => some b.isNone
    | .slice _, .slice (some _) _ _, .slice none _ _ => some false
    | .map _ _, .map none, .map b => some b.isNone
    | .map _ _, .map (some _), .map none => some false
    | .func _ _ _, .nilFunc, .nilFunc => some true
    | .func _ _ _, .nilFunc, .func _ _ _ => some false
    | .func _ _ _, .func _ _ _, .nilFunc => some false
    | _, _, _ => none
def isConstO : Operand → Bool
  | .const _ => true
  | _ => false
def eqGuardA (P : Program) (t : TypeId) (x y : Operand) (a b : Value) : Bool :=
  match a, b with
  | .nilIface, .nilIface => isConstO x || isConstO y || (match P.underlying t with | some (.interface ms) => ms.isEmpty | some _ => true | none => false)
  | .agg _, .agg _ => !P.eqGuardType P.depth t
  | _, _ => true
def aeqOp (P : Program) (op : BinOp) (t : TypeId) (x y : Operand) (a b : Value) : Option Value :=
  match op with
  | .eql => if eqGuardA P t x y a b then (aeq P Op.maxDepth t a b).map .bool else none
  | .neq => if eqGuardA P t x y a b then (aeq P Op.maxDepth t a b).map fun r => .bool (!r) else none
  | _ => none
def abin (P : Program) (op : BinOp) (t : TypeId) (x y : Operand) (a b : Value) : Option Value :=
  match a with
  | .int k n => (match b with | .int k' n' => pureRun (binOp op t (.int k n) (.int k' n')) | _ => none)
  | .string s => (match b with | .string s' => pureRun (binOp op t (.string s) (.string s')) | _ => none)
  | .float _ _ => none
  | .complex _ _ _ => none
  | a => aeqOp P op t x y a b
def aunary (op : UnOp) (x : Value) : Option Value :=
  match x with
  | .int _ _ | .bool _ => pureRun (Op.unary op x)
  | _ => none
def isU8 (P : Program) (e : TypeId) : Bool :=
  match P.underlying e with
  | some (.int .u8) => true
  | _ => false
def aconv (P : Program) (src dst : TypeId) (x : Value) : Option Value :=
  (P.underlying src).bind fun _ => (P.underlying dst).bind fun d =>
  match d, x with
  | .int k, .int _ n => some (.int k (k.wrap n))
  | .string, .int _ n => some (.string (Utf8.encode n))
  | .string, .string s => some (.string s)
  | _, _ => none
def spliceL (cells v : List Value) (off : Nat) : List Value := cells.take off ++ v ++ cells.drop (off + v.length)
def fillL (place : Nat → Option (Nat × Nat)) : List Value → List (Nat × Value) → Option (List Value)
  | cells, [] => some cells
  | cells, (i, v) :: rest =>
    match place i with
    | none => none
    | some (off, size) => if v.cells.size = size ∧ off + v.cells.size ≤ cells.length then fillL place (spliceL cells v.cells.toList off) rest else none
def fieldPlaces (P : Program) : List Field → Option (List (Nat × Nat))
  | [] => some []
  | f :: fs => (P.info? f.type).bind fun i => (fieldPlaces P fs).bind fun r => some ((f.offset, i.size) :: r)
def abuild (P : Program) (t : TypeId) (parts : List (Nat × Value)) : Option Value :=
  (P.info? t).bind fun i => i.zero.bind fun z => (P.underlying t).bind fun u =>
  if z.cells.toList.all plain1 then
    match u with
    | .struct fields => (fieldPlaces P fields.toList).bind fun pl => (fillL (pl[·]?) z.cells.toList parts).map fun cs => .agg cs.toArray
    | .array _ elem => (P.info? elem).bind fun e => (fillL (fun i => some (i * e.size, e.size)) z.cells.toList parts).map fun cs => .agg cs.toArray
    | _ => none
  else none
def afield (P : Program) (t : TypeId) (x : Value) (field : Nat) : Option Value :=
  match P.underlying t, x with
  | some (.struct fields), .agg cs => (fields[field]?).bind fun f => partA P f.type cs.toList f.offset
  | _, _ => none
def afieldAddr (P : Program) (t : TypeId) (x : Value) (field : Nat) : Option Value :=
  match P.underlying t, x with
  | some (.struct fields), .pointer (some ⟨b, off, none⟩) => (fields[field]?).bind fun f => (P.info? f.type).bind fun i =>
      if i.size = 0 then none else some (.pointer (some ⟨b, off + f.offset, none⟩))
  | _, _ => none
def aindexAddr (P : Program) (t : TypeId) (x ix : Value) : Option Value :=
  match P.underlying t, x, ix with
  | some (.array len elem), .pointer (some ⟨b, off, none⟩), .int _ i =>
    (P.info? elem).bind fun e => if 0 ≤ i ∧ i < len then some (.pointer (some ⟨b, off + i.toNat * e.size, none⟩)) else none
  | some (.slice elem), .slice (some ⟨b, off, none⟩) len _, .int _ i =>
    (P.info? elem).bind fun e => if 0 ≤ i ∧ i < len then some (.pointer (some ⟨b, off + i.toNat * e.size, none⟩)) else none
  | _, _, _ => none
def aindex (P : Program) (t : TypeId) (x ix : Value) : Option Value :=
  match P.underlying t, x, ix with
  | some (.array len elem), .agg cs, .int _ i =>
    (P.info? elem).bind fun e => if 0 ≤ i ∧ i < len then partA P elem cs.toList (i.toNat * e.size) else none
  | some .string, .string s, .int _ i => if 0 ≤ i then (s.data.toList[i.toNat]?).map fun b => .int .u8 b.toNat else none
  | _, _, _ => none
def aextract (x : Value) (ix : Nat) : Option Value :=
  match x with
  | .tuple vs => vs.toList[ix]?
  | _ => none
def intIn : Option Value → Nat → Option Nat
  | some (.int _ i), y => if 0 ≤ i ∧ i ≤ y then some i.toNat else none
  | _, _ => none
def abounds (len cap : Nat) (low high max : Option Value) : Option (Nat × Nat × Nat) :=
  (match max with | some _ => intIn max cap | none => some cap).bind fun m =>
  (match high, max with | some _, some _ => intIn high m | some _, none => intIn high cap | none, none => some len | none, some _ => none).bind fun h =>
  (match low with | some _ => intIn low h | none => some 0).bind fun l => some (l, h, m)
noncomputable def aslice0 (P : Program) (A : AState) (t : TypeId) (x : Value) (low high max : Option Value) : Option Value :=
  match P.underlying t, x with
  | some .string, .string s => if max.isSome then none else (abounds s.size s.size low high none).bind fun (l, h, _) => some (.string (s.extract l h))
  | some (.slice elem), .slice none 0 0 => (P.info? elem).bind fun _ => (abounds 0 0 low high max).bind fun _ => some (.slice none 0 0)
  | some (.slice elem), .slice (some ⟨0, 0, some 0⟩) 0 0 => (P.info? elem).bind fun _ => (abounds 0 0 low high max).bind fun _ => some (.slice (some ⟨0, 0, some 0⟩) 0 0)
  | some (.slice elem), .slice (some ⟨b, off, none⟩) len cap => (P.info? elem).bind fun e =>
    if Nat.beq cap unk then
      -- the capacity isn't known: it is at least 'len', and all that the block is known to have
      (A.blk b).bind fun k =>
      if Nat.beq k.es e.size && Nat.blt 0 e.size && Nat.ble off k.n then
        (abounds len (Nat.max len ((k.n - off) / e.size)) low high max).bind fun (l, h, m) =>
          if Nat.blt h unk && Nat.blt m unk then
            match max with
            | some _ => some (.slice (some ⟨b, off + l * e.size, none⟩) (h - l) (m - l))
            | none => some (.slice (some ⟨b, off + l * e.size, none⟩) (h - l) unk)
          else none
      else none
    else
      if Nat.blt cap unk then (abounds len cap low high max).bind fun (l, h, m) => some (.slice (some ⟨b, off + l * e.size, none⟩) (h - l) (m - l)) else none
  | some (.array n elem), .pointer (some ⟨b, off, none⟩) => (P.info? elem).bind fun e =>
    if Nat.blt n unk then (abounds n n low high max).bind fun (l, h, m) => some (.slice (some ⟨b, off + l * e.size, none⟩) (h - l) (m - l)) else none
  | _, _ => none
noncomputable def roEs (cs : Tr Value) (n : Nat) : Option Nat := match cs.get n with | some (.int .u64 e) => some e.toNat | _ => none
noncomputable def roSlice (P : Program) (A : AState) (t : TypeId) (x : Value) (low high : Option Value) : Option Value :=
  match P.underlying t, x with
  | some (.slice elem), .slice (some ⟨b, off, none⟩) len cap => (P.info? elem).bind fun e =>
    if Nat.beq cap unk then
      match A.get b with
      | some (.ro cs n _) => (roEs cs n).bind fun es => if Nat.beq es e.size && Nat.blt 0 e.size then
          (abounds len len low high none).bind fun (l, h, _) => if Nat.blt h unk then some (.slice (some ⟨b, off + l * e.size, none⟩) (h - l) unk) else none
        else none
      | _ => none
    else none
  | _, _ => none
noncomputable def aslice (P : Program) (A : AState) (t : TypeId) (x : Value) (low high max : Option Value) : Option Value :=
  match aslice0 P A t x low high max with
  | some v => some v
  | none => match max with | none => roSlice P A t x low high | some _ => none
noncomputable def aload (P : Program) (A : AState) (t : TypeId) (x : Value) : Option Value :=
  match x with
  | .pointer (some ⟨b, off, none⟩) => (P.underlying t).bind fun u => (P.info? t).bind fun i => (A.blkR b).bind fun k =>
    if isAggD u then (if Nat.ble (off + i.size) k.2.2 then (readN k.1 k.2.1 off i.size).map fun cs => .agg cs.toArray else none)
    else if Nat.blt off k.2.2 then cellAt k.1 k.2.1 off else none
  | _ => none
def toBytes : List Value → Option (List UInt8)
  | [] => some []
  | .int .u8 n :: vs => (toBytes vs).map fun r => UInt8.ofNat n.toNat :: r
  | _ :: _ => none
noncomputable def aconvRead (P : Program) (A : AState) (src dst : TypeId) (x : Value) : Option Value :=
  match P.underlying src, P.underlying dst, x with
  | some (.slice e), some .string, .slice none 0 0 => if isU8 P e then some (.string .empty) else none
  | some (.slice e), some .string, .slice (some ⟨0, 0, some 0⟩) 0 0 => if isU8 P e then some (.string .empty) else none
  | some (.slice e), some (.slice _), .slice (some a) n c => if src = dst ∧ isU8 P e = true ∧ a.spot.isNone = true ∧ (A.blk a.block).isSome = true then some (.slice (some a) n c) else none
  | some (.slice e), some .string, .slice (some ⟨b, off, none⟩) len _ =>
    if isU8 P e then (A.readAt b off len).bind fun cs => (toBytes cs).map fun l => .string ⟨l.toArray⟩ else none
  | _, _, _ => none
def findA (P : Program) (kt : TypeId) (key : Value) : List (Value × Value) → Nat → Option (Option (Nat × Value))
  | [], _ => some none
  | (k, v) :: es, i => (aeq P Op.maxDepth kt key k).bind fun b => if b then some (some (i, v)) else findA P kt key es (i + 1)
def keyKind (P : Program) (kt : TypeId) : Bool :=
  match P.underlying kt with
  | some (.int _) | some .string => true
  | _ => false
noncomputable def alookup (P : Program) (A : AState) (t : TypeId) (x key : Value) (commaOk : Bool) : Option Value :=
  match P.underlying t with
  | some (.map kt elem) =>
    if keyKind P kt then
      (match x with
        | .map none => some []
        | .map (some r) => (match A.get r with | some (.map es) => some es | _ => none)
        | _ => none).bind fun es =>
      (findA P kt key es 0).bind fun r =>
      (match r with
        | some (_, v) => some (v, true)
        | none => (P.info? elem).bind fun i => i.zero.bind fun z => if plainV z then some (z, false) else none).bind fun (v, ok) =>
      some (if commaOk then .tuple #[v, .bool ok] else v)
    else none
  | _ => none
noncomputable def amapUpdate (P : Program) (A : AState) (t : TypeId) (m key v : Value) : Option AState :=
  match P.underlying t, m with
  | some (.map kt _), .map (some r) =>
    if keyKind P kt then
      match A.get r with
      | some (.map es) => (findA P kt key es 0).bind fun f =>
        match f with
        | some (i, _) => some (A.put r (.map (es.set i (key, v))))
        | none => some (A.put r (.map (es ++ [(key, v)])))
      | _ => none
    else none
  | _, _ => none
noncomputable def alen (P : Program) (A : AState) (t : TypeId) (x : Value) : Option Value :=
  match P.underlying t, x with
  | some .string, .string s => some (goInt s.size)
  | some (.array n _), _ => some (goInt n)
  | some (.slice _), .slice _ n _ => some (goInt n)
  | some (.map _ _), .map none => some (goInt 0)
  | some (.map _ _), .map (some r) => (match A.get r with | some (.map es) => some (goInt es.length) | _ => none)
  | some (.pointer a), _ => (match P.underlying a with | some (.array n _) => some (goInt n) | _ => none)
  | _, _ => none
noncomputable def aalloc (P : Program) (A : AState) (t : TypeId) : Option (Value × AState) :=
  (P.info? t).bind fun i => i.zero.bind fun z =>
    if z.cells.toList.all plain1 then some (.pointer (some ⟨A.size, 0, none⟩), A.fresh .nil z.cells.toList z.cells.size 0) else none
noncomputable def abox (A : AState) (v : Value) : Value × AState :=
  (.pointer (some ⟨A.size, 0, none⟩), A.fresh (writeL .nil 0 v.cells.toList) [] v.cells.size 0)
noncomputable def abuildSlice (P : Program) (A : AState) (t : TypeId) (len : Nat) (parts : List (Nat × Value)) : Option (Value × AState) :=
  match P.underlying t with
  | some (.slice elem) => (P.info? elem).bind fun e =>
    if len * e.size > 16777216 || Nat.ble unk len then none else
    (if len * e.size = 0 then some [] else e.zero.bind fun z => if z.cells.toList.all plain1 && Nat.beq z.cells.size e.size then some z.cells.toList else none).bind fun z =>
    (fillL (fun i => some (i * e.size, e.size)) ((List.range (len * e.size)).map fun i => (z[i % z.length]?).getD undef) parts).bind fun cs =>
    some (.slice (some ⟨A.size, 0, none⟩) len len, A.fresh (writeL .nil 0 cs) [] cs.length e.size)
  | _ => none
noncomputable def amakeSlice (P : Program) (A : AState) (t : TypeId) (len cap : Value) : Option (Value × AState) :=
  match P.underlying t, len, cap with
  | some (.slice elem), .int _ l0, .int _ c0 => (P.info? elem).bind fun e =>
    let l := IntKind.i64.wrap l0
    let c := IntKind.i64.wrap c0
    if 0 ≤ l ∧ l ≤ c ∧ e.bytes * c ≤ 281474976710656 ∧ c < unk then
      let n := c.toNat * e.size
      if n = 0 then some (.slice (some ⟨A.size, 0, none⟩) l.toNat c.toNat, A.fresh .nil [] 0 e.size)
      else e.zero.bind fun z =>
        if z.cells.toList.all plain1 && Nat.blt 0 z.cells.size then
          some (.slice (some ⟨A.size, 0, none⟩) l.toNat c.toNat, A.fresh .nil z.cells.toList n e.size)
        else none
    else none
  | _, _, _ => none
noncomputable def amakeMap (A : AState) (t : Option Value) : Option (Value × AState) :=
  match t with
  | none => some (.map (some A.size), A.push (.map []))
  | some _ => none
noncomputable def astore (P : Program) (A : AState) (t : TypeId) (p v : Value) : Option AState :=
  match p with
  | .pointer (some ⟨b, off, none⟩) => (P.info? t).bind fun i =>
    if Nat.beq v.cells.size i.size && v.cells.toList.all oneCell then A.write b off v.cells.toList else none
  | _ => none
noncomputable def firstCellsA (A : AState) (size n : Nat) : Value → Option (List Value)
  | .slice none 0 0 => if n = 0 then some [] else none
  | .slice (some ⟨0, 0, some 0⟩) 0 0 => if n = 0 then some [] else none
  | .slice (some ⟨b, off, none⟩) len _ => if Nat.ble n len then (if n = 0 then some [] else A.readAt b off (n * size)) else none
  | .string s => some (((s.data.toList).take n).map fun b => .int .u8 b.toNat)
  | _ => none
def lenOfA : Value → Option Nat
  | .slice _ n _ => some n
  | .string s => some s.size
  | _ => none
def addKind : TypeDesc → Option Bool
  | .int _ => some true
  | .slice _ => some false
  | .string => some false
  | _ => none
noncomputable def appended (A : AState) (zeros : Bool) (e : TypeInfo) (z : List Value) (x : Value) : Option (Nat × List Value) :=
  if zeros then
    match x with
    | .int _ l0 =>
      let l := IntKind.i64.wrap l0
      if 0 ≤ l ∧ l * e.bytes ≤ 281474976710656 ∧ z.all plain1 then some (l.toNat, (List.replicate l.toNat z).flatten) else none
    | _ => none
  else (lenOfA x).bind fun n => (firstCellsA A e.size n x).map fun new => (n, new)
noncomputable def AState.grown (A : AState) (cells : List Value) (es : Nat) (fam : Option (Nat × Bool)) : Option (Nat × AState) :=
  match fam with
  | none => some (A.size, A.fresh (writeL .nil 0 cells) [] cells.length es)
  | some (root, keep) =>
    match A.get root with
    | some (.cells rcs rd rn res rroot rown _) =>
      if Nat.beq rroot root then
        some (A.size, (A.put root (.cells rcs rd rn res rroot (if keep then rown else A.size + 1) A.size)).push (.cells (writeL .nil 0 cells) [] cells.length es root 0 0))
      else none
    | _ => none
noncomputable def aappend (P : Program) (A : AState) (argTypes : List TypeId) (args : List Value) : Option (Value × AState) :=
  match argTypes, args with
  | [st, xt], [s, x] =>
    match P.underlying st, P.underlying xt with
    | some (.slice elem), some xd =>
      (P.info? elem).bind fun e => e.zero.bind fun z => (addKind xd).bind fun zeros => (appended A zeros e z.cells.toList x).bind fun (n, new) =>
      if Nat.blt 0 e.size && Nat.beq z.cells.size e.size && Nat.beq new.length (n * e.size) && new.all oneCell then
        match s with
        | .slice none 0 0 =>
          if n = 0 then some (.slice none 0 0, A)
          else if (2 * n + 1000) * e.bytes ≤ 281474976710656 ∧ n < 2147483648 then
            (A.grown new e.size none).bind fun (id, A') => some (.slice (some ⟨id, 0, none⟩) n unk, A')
          else none
        | .slice (some ⟨b, off, none⟩) len cap =>
          (A.blk b).bind fun k =>
          let need := len + n
          if n = 0 then some (.slice (some ⟨b, off, none⟩) len cap, A) else
          if Nat.beq cap unk then
            if Nat.beq k.es e.size then
              if Nat.ble (off + need * e.size) k.n then (A.write b (off + len * e.size) new).bind fun A' => some (.slice (some ⟨b, off, none⟩) need unk, A')
              else if (2 * need + 1000) * e.bytes ≤ 281474976710656 ∧ need < 2147483648 ∧ off + len * e.size ≤ k.n then
                (readN k.cs k.d off (len * e.size)).bind fun old =>
                (A.ownOf k.root).bind fun own => (A.get k.root).bind fun ro =>
                (A.grown (old ++ new) e.size (some (k.root, Nat.beq own 0 && Nat.beq (off + len * e.size) k.n && (match ro with | .cells _ _ _ _ _ _ top => Nat.beq top b | _ => false)))).bind fun (id, A') =>
                some (.slice (some ⟨id, 0, none⟩) need unk, A')
              else none
            else none
          else if Nat.ble need cap then (A.write b (off + len * e.size) new).bind fun A' => some (.slice (some ⟨b, off, none⟩) need cap, A')
          else if (2 * need + 1000) * e.bytes ≤ 281474976710656 ∧ need < 2147483648 ∧ off + len * e.size ≤ k.n then
            (readN k.cs k.d off (len * e.size)).bind fun old =>
            (A.grown (old ++ new) e.size none).bind fun (id, A') => some (.slice (some ⟨id, 0, none⟩) need unk, A')
          else none
        | _ => none
      else none
    | _, _ => none
  | _, _ => none
noncomputable def acopy (P : Program) (A : AState) (argTypes : List TypeId) (args : List Value) : Option (Value × AState) :=
  match argTypes, args with
  | st :: _, [dst, x] =>
    match P.underlying st, dst with
    | some (.slice elem), .slice base dlen _ => (P.info? elem).bind fun e => (lenOfA x).bind fun xl =>
      let n := Nat.min xl dlen
      (firstCellsA A e.size n x).bind fun cs =>
      if cs.all oneCell then
        if n = 0 then some (goInt n, A) else
        match base with
        | some ⟨b, off, none⟩ => (A.write b off cs).bind fun A' => some (goInt n, A')
        | _ => none
      else none
    | _, _ => none
  | _, _ => none
noncomputable def aclear (P : Program) (A : AState) (argTypes : List TypeId) (args : List Value) : Option (Value × AState) :=
  match argTypes, args with
  | [st], [x] =>
    match P.underlying st, x with
    | some (.slice elem), .slice base n _ =>
      if n = 0 then some (.tuple #[], A) else
      match base with
      | some ⟨b, off, none⟩ => (P.info? elem).bind fun e => e.zero.bind fun z =>
        if z.cells.toList.all plain1 then
          (A.write b off ((List.replicate n z.cells.toList).flatten)).map fun A' => (.tuple #[], A')
        else none
      | _ => none
    | _, _ => none
  | _, _ => none
noncomputable def arange (P : Program) (A : AState) (t : TypeId) (x : Value) : Option (Value × AState) :=
  match P.underlying t, x with
  | some .string, .string s => some (.pointer (some ⟨A.size, 0, none⟩), A.push (.strIter s 0))
  | _, _ => none
noncomputable def anext (A : AState) (x : Value) (isString : Bool) : Option (Value × AState) :=
  match x, isString with
  | .pointer (some ⟨r, 0, none⟩), true =>
    match A.get r with
    | some (.strIter s pos) =>
      if pos < s.size then some (.tuple #[.bool true, goInt pos, .int .i32 (Utf8.decode s pos).1], A.put r (.strIter s (pos + (Utf8.decode s pos).2)))
      else some (.tuple #[.bool false], A)
    | _ => none
  | _, _ => none
def aminmax (isMax : Bool) : List Value → Option Value
  | [.int k x, .int _ y] => some (.int k (if isMax then (if y > x then y else x) else (if y < x then y else x)))
  | _ => none
def stringCells (s : ByteArray) : List Value := s.data.toList.map fun b => .int .u8 b.toNat
noncomputable def abytes (P : Program) (A : AState) (src dst : TypeId) (x : Value) : Option (Value × AState) :=
  match P.underlying src, P.underlying dst, x with
  | some _, some (.slice e), .string s =>
    if isU8 P e && Nat.blt s.size 2147483648 then
      some (.slice (some ⟨A.size, 0, none⟩) s.size unk, A.fresh (writeL .nil 0 (stringCells s)) [] s.size 1)
    else none
  | _, _, _ => none
def atypeAssert (P : Program) (x : Value) (asserted : TypeId) : Option Value :=
  match P.underlying asserted with
  | some (.interface _) => none
  | some _ =>
    (match x with
      | .nilIface => some none
      | .iface t v => some (if t = asserted then some v else none)
      | _ => none).bind fun r =>
    match r with
    | some v => some (.tuple #[v, .bool true])
    | none => (P.info? asserted).bind fun i => i.zero.bind fun z => if plainV z then some (.tuple #[z, .bool false]) else none
  | none => none
def aPure (P : Program) (ρ : Operand → Value) (o : Oper) : Option Value :=
  match o.op with
  | .move x | .assign x => some (ρ x)
  | .pick c a b => match ρ c with | .bool t => some (if t then ρ a else ρ b) | _ => none
  | .build t parts => abuild P t (parts.toList.map fun (i, x) => (i, ρ x))
  | .nilCheck x => match ρ x with | .pointer (some a) => some (.pointer (some a)) | .func (.func f) a b => some (.func (.func f) a b) | .func (.yield f) a b => some (.func (.yield f) a b) | _ => none
  | .binOp op t x y _ => abin P op t x y (ρ x) (ρ y)
  | .unOp op _ x => aunary op (ρ x)
  | .convert src dst x => aconv P src dst (ρ x)
  | .makeInterface t x => match P.underlying t with | some (.interface _) => none | some _ => some (.iface t (ρ x)) | none => none
  | .makeFunc fn first captured => match fn with | .func _ => some (.func fn (first.toList.map ρ).toArray (captured.toList.map ρ).toArray) | _ => none
  | .fieldAddr t x f => afieldAddr P t (ρ x) f
  | .field t x f => afield P t (ρ x) f
  | .indexAddr t x ix => aindexAddr P t (ρ x) (ρ ix)
  | .index t x ix => aindex P t (ρ x) (ρ ix)
  | .extract x ix => aextract (ρ x) ix
  | .typeAssert x _ asserted true => atypeAssert P (ρ x) asserted
  | .call { callee := .builtin b, args, .. } =>
    match b with
    | .max => aminmax true (args.toList.map ρ)
    | .min => aminmax false (args.toList.map ρ)
    | _ => none
  | _ => none
noncomputable def aRead (P : Program) (ρ : Operand → Value) (o : Oper) (A : AState) : Option Value :=
  match o.op with
  | .load t a => aload P A t (ρ a)
  | .lookup t x key ok => alookup P A t (ρ x) (ρ key) ok
  | .slice t x lo hi mx => aslice P A t (ρ x) (lo.map ρ) (hi.map ρ) (mx.map ρ)
  | .convert src dst x => aconvRead P A src dst (ρ x)
  | .call { callee := .builtin .len, args, argTypes } => match args.toList, argTypes.toList with | [x], t :: _ => alen P A t (ρ x) | _, _ => none
  | _ => none
noncomputable def aMake (P : Program) (ρ : Operand → Value) (o : Oper) (A : AState) : Option (Value × AState) :=
  match o.op with
  | .alloc t => aalloc P A t
  | .box _ x => some (abox A (ρ x))
  | .buildSlice t len parts => abuildSlice P A t len (parts.toList.map fun (i, x) => (i, ρ x))
  | .makeSlice t l c => amakeSlice P A t (ρ l) (ρ c)
  | .makeMap _ r => amakeMap A (r.map ρ)
  | .range t x => arange P A t (ρ x)
  | .convert src dst x => abytes P A src dst (ρ x)
  | _ => none
noncomputable def aWrite (P : Program) (ρ : Operand → Value) (o : Oper) (A : AState) : Option (Value × AState) :=
  match o.op with
  | .store t p x => (astore P A t (ρ p) (ρ x)).map fun A' => (undef, A')
  | .mapUpdate t m k x | .insert t m k x => (amapUpdate P A t (ρ m) (ρ k) (ρ x)).map fun A' => (undef, A')
  | .call { callee := .builtin .append, args, argTypes } => aappend P A argTypes.toList (args.toList.map ρ)
  | .call { callee := .builtin .copy, args, argTypes } => acopy P A argTypes.toList (args.toList.map ρ)
  | .call { callee := .builtin .clear, args, argTypes } => aclear P A argTypes.toList (args.toList.map ρ)
  | .next x isString => anext A (ρ x) isString
  | _ => none
inductive Kind where
  | pure | read | make | write | call | no
  deriving DecidableEq
def kindOf (P : Program) (o : Oper) : Kind :=
  match o.op with
  | .move _ | .assign _ | .pick .. | .build .. | .nilCheck _ | .binOp .. | .unOp .. | .makeInterface .. | .makeFunc .. | .fieldAddr .. | .field .. | .indexAddr .. | .index .. | .extract .. | .typeAssert .. => .pure
  | .convert src dst _ =>
    match P.underlying src, P.underlying dst with
    | some (.slice _), some .string => .read
    | some (.slice _), some (.slice _) => .read
    | some .string, some (.slice _) => .make
    | _, _ => .pure
  | .load .. | .lookup .. | .slice .. => .read
  | .alloc _ | .box .. | .buildSlice .. | .makeSlice .. | .makeMap .. | .range .. => .make
  | .store .. | .mapUpdate .. | .insert .. | .next .. => .write
  | .call { callee := .builtin b, .. } =>
    match b with
    | .max | .min => .pure
    | .len => .read
    | .append | .copy | .clear => .write
    | _ => .no
  | .call { callee := .value _, .. } => .call
  | _ => .no
end Go.Ag
namespace Go.Ag
inductive AExit where
  | normal
  | exit (id : Nat)
  | ret
structure Fns where
  call : FuncId → List Value → AState → Option (Value × AState)
  round : Nat → List Value → AState → Option (Value × AState)
  loop : Code → Env → AState → Option (AExit × Env × AState)
def callV (F : Fns) (f : Value) (args : List Value) (A : AState) : Option (Value × AState) :=
  match f with
  | .func (.func g) first captured => F.call g (first.toList ++ args ++ captured.toList) A
  | .func (.yield l) first _ => F.round l (first.toList ++ args) A
  | _ => none
noncomputable def yieldedA (ops : List Oper) (E : Env) (j : Nat) : Option Bool :=
  match (ops[j]?).bind (·.dst) with
  | some t => match E.get t with
    | .bool b => some b
    | _ => none
  | none => none
noncomputable def wantedA (ops : List Oper) (E : Env) (o : Oper) : Bool := Region.wanted o (yieldedA ops E)
noncomputable def aCall (F : Fns) (ρ : Operand → Value) (o : Oper) (A : AState) : Option (Value × AState) :=
  match o.op with
  | .call { callee := .value f, args, .. } => callV F (ρ f) (args.toList.map ρ) A
  | _ => none
def opdOk (P : Program) : Operand → Bool
  | .const v => plainV v
  | .global g => Nat.blt g P.globals.size
  | _ => true
def operOk (P : Program) (o : Oper) : Bool := o.op.operands.toList.all (opdOk P)
noncomputable def runOp (P : Program) (F : Fns) (E : Env) (o : Oper) (A : AState) : Option (Value × AState) :=
  match kindOf P o with
  | .pure => (aPure P E.eval o).map (·, A)
  | .read => (aRead P E.eval o A).map (·, A)
  | .make => aMake P E.eval o A
  | .write => aWrite P E.eval o A
  | .call => aCall F E.eval o A
  | .no => none
noncomputable def runOps (P : Program) (F : Fns) (ops : List Oper) : List Oper → Env → AState → Option (Env × AState)
  | [], E, A => some (E, A)
  | o :: rest, E, A =>
    if wantedA ops E o then
      if operOk P o then (runOp P F E o A).bind fun (v, A') => (E.put o.dst v).bind fun E' => runOps P F ops rest E' A' else none
    else (E.put o.dst undef).bind fun E' => runOps P F ops rest E' A
def preds (o : Oper) : List Nat := o.after.toList.filterMap fun e => if Region.binds .any e then some e.on else none
def ancs (ops : List Oper) : List Nat :=
  ops.foldl (fun acc o => acc ++ [(preds o).foldl (fun s e => s ||| 2 ^ e ||| (acc[e]?).getD 0) 0]) []
def isEff (P : Program) (o : Oper) : Bool :=
  match kindOf P o with
  | .write | .call | .no => true
  | _ => false
def isStore (o : Oper) : Bool := match o.op with | .store .. => true | _ => false
structure Plan where
  chain : List (Nat × Nat)
  last : List Nat
def countEffs (m : Nat) : List Nat → Nat
  | [] => 0
  | u :: us => if m.testBit u then countEffs m us + 1 else countEffs m us
def lastOf (P : Program) (ops : List Oper) (T : List Nat) (effs : List Nat) : List Nat :=
  effs.filter fun u => (match ops[u]? with | some o => isStore o | none => false) &&
    effs.any fun v => !(Nat.beq u v) && !(((T[u]?).getD 0).testBit v) && !(((T[v]?).getD 0).testBit u)
def emit (T : List Nat) (n : Nat) (effs : List Nat) (i : Nat) : Nat × Nat := (i, countEffs ((T[i]?).getD 0) effs)
def orderGo (T : List Nat) (n : Nat) (all : List Nat) (effs : List Nat) : List Nat → Nat → List (Nat × Nat) → List (Nat × Nat)
  | [], seen, acc => acc ++ (all.filter fun i => !(seen.testBit i)).map (emit T n effs)
  | u :: us, seen, acc =>
    let m := (T[u]?).getD 0
    let new := all.filter fun i => m.testBit i && !(seen.testBit i)
    orderGo T n all effs us (seen ||| m ||| 2 ^ u) (acc ++ new.map (emit T n effs) ++ [emit T n effs u])
def planOf (P : Program) (ops : List Oper) : Plan :=
  let T := ancs ops
  let all := List.range ops.length
  let effs := all.filter fun i => match ops[i]? with | some o => isEff P o | none => false
  let last := lastOf P ops T effs
  let chainEffs := effs.filter fun u => !(last.any fun v => Nat.beq u v)
  let rest := all.filter fun u => !(last.any fun v => Nat.beq u v)
  ⟨orderGo T ops.length rest chainEffs chainEffs 0 [], last⟩
def veq1 : Value → Value → Bool
  | .bool a, .bool b => a == b
  | .int k a, .int l b => decide (k = l) && decide (a = b)
  | .string a, .string b => decide (a = b)
  | .pointer a, .pointer b => decide (a = b)
  | .slice a n c, .slice b m d => decide (a = b) && Nat.beq n m && Nat.beq c d
  | .map a, .map b => decide (a = b)
  | .nilFunc, .nilFunc => true
  | .nilIface, .nilIface => true
  | _, _ => false
def veqL : List Value → List Value → Bool
  | [], [] => true
  | x :: xs, y :: ys => veq1 x y && veqL xs ys
  | _, _ => false
def veq : Value → Value → Bool
  | .agg a, .agg b => veqL a.toList b.toList
  | .tuple a, .tuple b => veqL a.toList b.toList
  | .iface t a, .iface u b => Nat.beq t u && veq1 a b
  | a, b => veq1 a b
noncomputable def readVers (P : Program) (ρ : Operand → Value) (o : Oper) : List AState → Option Value
  | [] => none
  | [A] => aRead P ρ o A
  | A :: As => (aRead P ρ o A).bind fun v => (readVers P ρ o As).bind fun w => if veq v w then some v else none
noncomputable def runChain (P : Program) (F : Fns) (ops : List Oper) : List (Nat × Nat) → Env → AState → List AState → Option (Env × AState)
  | [], E, A, _ => some (E, A)
  | (i, a) :: rest, E, A, vers =>
    (ops[i]?).bind fun o =>
    if wantedA ops E o then
      match kindOf P o with
      | .pure => (aPure P E.eval o).bind fun v => (E.put o.dst v).bind fun E' => runChain P F ops rest E' A vers
      | .read => (readVers P E.eval o (vers.take (vers.length - a))).bind fun v => (E.put o.dst v).bind fun E' => runChain P F ops rest E' A vers
      | .make => (aMake P E.eval o A).bind fun (v, A') => (E.put o.dst v).bind fun E' => runChain P F ops rest E' A' vers
      | .write => (aWrite P E.eval o A).bind fun (v, A') => (E.put o.dst v).bind fun E' => runChain P F ops rest E' A' (A' :: vers)
      | .call => (aCall F E.eval o A).bind fun (v, A') => (E.put o.dst v).bind fun E' => runChain P F ops rest E' A' (A' :: vers)
      | .no => none
    else (E.put o.dst undef).bind fun E' => runChain P F ops rest E' A (if isEff P o then A :: vers else vers)
structure Spot where
  b : Nat
  off : Nat
  n : Nat
  root : Nat
noncomputable def rootA (A : AState) (b : Nat) : Option Nat :=
  match A.get b with
  | some (.cells _ _ _ _ root _ _) => some root
  | _ => none
noncomputable def spotOf (P : Program) (A : AState) (ρ : Operand → Value) (o : Oper) : Option Spot :=
  match o.op with
  | .store t p _ => match ρ p with
    | .pointer (some ⟨b, off, none⟩) => (P.info? t).bind fun i => (rootA A b).map fun r => ⟨b, off, i.size, r⟩
    | _ => none
  | _ => none
def apart (x y : Spot) : Bool := if Nat.beq x.b y.b then Nat.ble (x.off + x.n) y.off || Nat.ble (y.off + y.n) x.off else !(Nat.beq x.root y.root)
noncomputable def stW (P : Program) (ops : List Oper) (E : Env) (i : Nat) (A : AState) : Option AState :=
  (ops[i]?).bind fun o => match o.op with
    | .store t p x => astore P A t (E.eval p) (E.eval x)
    | _ => none
noncomputable def runLast (P : Program) (ops : List Oper) (E : Env) (A0 : AState) : List Nat → List Spot → AState → Option AState
  | [], _, A => some A
  | i :: rest, spots, A =>
    (ops[i]?).bind fun o =>
    if wantedA ops E o then
      (spotOf P A0 E.eval o).bind fun s => if spots.all (apart s) then (stW P ops E i A).bind fun A' => runLast P ops E A0 rest (s :: spots) A' else none
    else none
def looks (ops : List Oper) (o : Oper) : List Tmp :=
  (o.op.operands.toList.filterMap fun | .tmp t => some t | _ => none) ++ (match o.guard with | some (g, _) => ((ops[g]?).bind (·.dst)).toList | none => [])
def opAt (ops : List Oper) (ch : List (Nat × Nat)) (p : Nat) : Option (Nat × Nat × Oper) := (ch[p]?).bind fun x => (ops[x.1]?).map fun o => (x.1, x.2, o)
def isIn (i : Nat) : List Nat → Bool
  | [] => false
  | j :: js => Nat.beq i j || isIn i js
def nodupB : List Nat → Bool
  | [] => true
  | i :: is => !(isIn i is) && nodupB is
def effL (P : Program) (ops : List Oper) (ch : List (Nat × Nat)) (p : Nat) : Bool :=
  match opAt ops ch p with
  | some (_, _, o) => isEff P o
  | none => false
def ecL (P : Program) (ops : List Oper) (ch : List (Nat × Nat)) : Nat → Nat
  | 0 => 0
  | p + 1 => ecL P ops ch p + (if effL P ops ch p then 1 else 0)
def ancB (T : List Nat) (i j : Nat) : Bool := ((T[i]?).getD 0).testBit j
def isPure : Kind → Bool
  | .pure => true
  | _ => false
def isRead : Kind → Bool
  | .read => true
  | _ => false
def aheadB (ops : List Oper) (ch : List (Nat × Nat)) (p e : Nat) : Bool := (List.range ch.length).any fun q => Nat.blt q p && (match opAt ops ch q with | some (k, _, _) => Nat.beq k e | none => false)
def pairB (P : Program) (ops : List Oper) (T : List Nat) (p i : Nat) (o : Oper) (q j : Nat) (o' : Oper) : Bool :=
  (Nat.beq p q || !(Nat.beq i j)) &&
  ((match o.dst, o'.dst with | some t, some t' => Nat.beq p q || !(Nat.beq t t') | _, _ => true) &&
  ((match o'.dst with | none => true | some t => !(isIn t (looks ops o)) || ((Nat.blt q p && ancB T i j) || (Nat.beq q p || (Nat.blt p q && ancB T j i)))) &&
  (!(isEff P o) || (!(Nat.blt q p) || ancB T i j))))
def chainB (P : Program) (ops : List Oper) (T : List Nat) (ch : List (Nat × Nat)) (last : List Nat) (p : Nat) : Bool :=
  match opAt ops ch p with
  | none => false
  | some (i, a, o) =>
    operOk P o && (!(isIn i last) && ((preds o).all (aheadB ops ch p) &&
    ((List.range ch.length).all (fun q => match opAt ops ch q with | none => false | some (j, _, o') => pairB P ops T p i o q j o') &&
    (!(isRead (kindOf P o)) || (Nat.beq a 0 || (List.range ch.length).any fun e => match opAt ops ch e with
      | some (j, _, o') => Nat.blt e p && (isEff P o' && (ancB T i j && Nat.ble a (ecL P ops ch e + 1)))
      | none => false)))))
def lastB (P : Program) (ops : List Oper) (T : List Nat) (ch : List (Nat × Nat)) (i : Nat) : Bool :=
  match ops[i]? with
  | none => false
  | some o => operOk P o && (isStore o && (o.dst.isNone && ((preds o).all (aheadB ops ch ch.length) &&
    (List.range ch.length).all fun p => match opAt ops ch p with
      | none => false
      | some (j, _, o') => (isPure (kindOf P o') || ancB T i j) && (match o'.dst with | none => true | some t => !(isIn t (looks ops o)) || ancB T i j))))
def planB (P : Program) (ops : List Oper) (pl : Plan) : Bool :=
  let T := ancs ops
  (List.range ops.length).all (fun i => aheadB ops pl.chain pl.chain.length i || isIn i pl.last) &&
  ((List.range pl.chain.length).all (chainB P ops T pl.chain pl.last) && (nodupB pl.last && pl.last.all (lastB P ops T pl.chain)))
noncomputable def runDraw (P : Program) (F : Fns) (ops : List Oper) (E : Env) (A : AState) : Option (Env × AState) :=
  if planB P ops (planOf P ops) then (runChain P F ops (planOf P ops).chain E A [A]).bind fun (E', A') => (runLast P ops E' A' (planOf P ops).last [] A').map fun A2 => (E', A2)
  else none
noncomputable def stepC (P : Program) (F : Fns) : Code → Env → AState → Option (AExit × Env × AState)
  | .skip, E, A => some (.normal, E, A)
  | .label _, E, A => some (.normal, E, A)
  | .region _ ops draw, E, A => (if draw then runDraw P F ops.toList E A else runOps P F ops.toList ops.toList E A).map fun (E', A') => (.normal, E', A')
  | .seq a b, E, A => (stepC P F a E A).bind fun r => match r with
    | (.normal, E', A') => stepC P F b E' A'
    | r => some r
  | .cond c a b, E, A => match E.eval c with
    | .bool t => if t then stepC P F a E A else stepC P F b E A
    | _ => none
  | .block id b, E, A => (stepC P F b E A).map fun r => match r with
    | (.exit id', E', A') => if id' = id then (.normal, E', A') else (.exit id', E', A')
    | r => r
  | .loop b, E, A => F.loop b E A
  | .exit id, E, A => some (.exit id, E, A)
  | .ret, E, A => some (.ret, E, A)
  | .scope b, E, A => stepC P F b E A
  | .rangeFunc f params assign body, E, A =>
    if !opdOk P f then none else
    (callV F (E.eval f) [.func (.yield A.size) #[] #[]] (A.push (.loop ⟨.ready, none, E, params.toList, assign, body⟩))).bind fun (_, A2) =>
      match A2.get A.size with
      | some (.loop L) =>
        if L.state = .busy then none else
        match L.pending with
        | none => some (.normal, E, A2.put A.size (.loop { L with state := .exhausted }))
        | some .ret => some (.ret, E, A2.put A.size (.loop { L with state := .exhausted }))
        | some (.exit id) => some (.exit id, E, A2.put A.size (.loop { L with state := .exhausted }))
        | _ => none
      | _ => none
  | _, _, _ => none
noncomputable def setAll (E : Env) : List Tmp → List Value → Option Env
  | [], [] => some E
  | t :: ts, v :: vs => (E.put (some t) v).bind fun E' => setAll E' ts vs
  | _, _ => none
noncomputable def resultOf (P : Program) (E : Env) (A : AState) : ResultVar → Option Value
  | .tmp t => some (E.get t)
  | .cell a t => aload P A t (E.get a)
noncomputable def resultsOf (P : Program) (E : Env) (A : AState) : List ResultVar → Option (List Value)
  | [] => some []
  | r :: rs => (resultOf P E A r).bind fun v => (resultsOf P E A rs).bind fun vs => some (v :: vs)
def oneOrTuple : List Value → Value
  | [v] => v
  | vs => .tuple vs.toArray
noncomputable def callBody (P : Program) (F : Fns) (f : FuncId) (args : List Value) (A : AState) : Option (Value × AState) :=
  (P.funcs[f]?).bind fun fn => if fn.name == "runtime.NumGoroutine" then none else fn.body.bind fun c =>
    (stepC P F c ⟨FT.empty.setL 0 args, args.length + (fn.ntmps - args.length)⟩ A).bind fun r => match r with
    | (.normal, E, A') => (resultsOf P E A' fn.results.toList).map fun vs => (oneOrTuple vs, A')
    | (.ret, E, A') => (resultsOf P E A' fn.results.toList).map fun vs => (oneOrTuple vs, A')
    | _ => none
noncomputable def endRoundA (A : AState) (l : Nat) (jump : Option Code) : Option (Value × AState) :=
  match A.get l with
  | some (.loop L) => some (.bool jump.isNone, A.put l (.loop { L with state := if jump.isNone then .ready else .done, pending := jump }))
  | _ => none
noncomputable def roundBody (P : Program) (F : Fns) (l : Nat) (args : List Value) (A : AState) : Option (Value × AState) :=
  match A.get l with
  | some (.loop L) => (setAll L.env L.params args).bind fun E => (stepC P F L.assign E A).bind fun r => match r with
    | (.normal, E1, A1) => (match A1.get l with
      | some (.loop L1) =>
        if L1.state = .ready then
          (stepC P F L.body E1 (A1.put l (.loop { L1 with state := .busy }))).bind fun r => match r with
          | (.normal, _, A2) => endRoundA A2 l none
          | (.ret, _, A2) => endRoundA A2 l (some .ret)
          | (.exit id, _, A2) => endRoundA A2 l (some (.exit id))
        else none
      | _ => none)
    | _ => none
  | _ => none
noncomputable def run (P : Program) : Nat → Fns
  | 0 => ⟨fun _ _ _ => none, fun _ _ _ => none, fun _ _ _ => none⟩
  | n + 1 =>
    ⟨callBody P (run P n), roundBody P (run P n),
     fun c E A => (stepC P (run P n) c E A).bind fun r => match r with
      | (.normal, E', A') => (run P n).loop c E' A'
      | r => some r⟩
end Go.Ag
namespace Go.Ag
structure BInfo where
  blk : Nat
  off : Nat
  room : Nat
  es : Nat
  sz : Nat
abbrev Ren := Nat → Option BInfo
mutual
inductive VRel (ρ : Ren) : Value → Value → Prop
  | bool (b : Bool) : VRel ρ (.bool b) (.bool b)
  | int (k : IntKind) (n : Int) : VRel ρ (.int k n) (.int k n)
  | float (k : FloatKind) (n : Nat) : VRel ρ (.float k n) (.float k n)
  | string (s : ByteArray) : VRel ρ (.string s) (.string s)
  | ptrNil : VRel ρ (.pointer none) (.pointer none)
  | ptr {b o : Nat} {i : BInfo} (h : ρ b = some i) : VRel ρ (.pointer (some ⟨b, o, none⟩)) (.pointer (some ⟨i.blk, i.off + o, none⟩))
  | sliceNil : VRel ρ (.slice none 0 0) (.slice none 0 0)
  | sliceEx {b o o' n k : Nat} {i : BInfo} (h : ρ b = some i) (hk : k < unk) (hn : n ≤ k) (ho : k ≠ 0 → o' = i.off + o) :
      VRel ρ (.slice (some ⟨b, o, none⟩) n k) (.slice (some ⟨i.blk, o', none⟩) n k)
  | sliceUn {b o o' n c : Nat} {i : BInfo} (h : ρ b = some i) (hn : n ≤ c) (ho : c ≠ 0 → o' = i.off + o) (hs : i.sz ≤ o + c * i.es) (hr : i.off + o + c * i.es ≤ i.room) :
      VRel ρ (.slice (some ⟨b, o, none⟩) n unk) (.slice (some ⟨i.blk, o', none⟩) n c)
  | sliceZ {a : Addr} : VRel ρ (.slice (some ⟨0, 0, some 0⟩) 0 0) (.slice (some a) 0 0)
  | mapNil : VRel ρ (.map none) (.map none)
  | map {b : Nat} {i : BInfo} (h : ρ b = some i) : VRel ρ (.map (some b)) (.map (some i.blk))
  | chanNil : VRel ρ (.chan none) (.chan none)
  | func {f : FuncId} {xs ys xs' ys' : Array Value} (h1 : VRels ρ xs.toList xs'.toList) (h2 : VRels ρ ys.toList ys'.toList) : VRel ρ (.func (.func f) xs ys) (.func (.func f) xs' ys')
  | yield {b : Nat} {i : BInfo} {xs ys xs' ys' : Array Value} (h : ρ b = some i) (h1 : VRels ρ xs.toList xs'.toList) (h2 : VRels ρ ys.toList ys'.toList) :
      VRel ρ (.func (.yield b) xs ys) (.func (.yield i.blk) xs' ys')
  | nilFunc : VRel ρ .nilFunc .nilFunc
  | nilIface : VRel ρ .nilIface .nilIface
  | iface {t : TypeId} {v v' : Value} (h : VRel ρ v v') : VRel ρ (.iface t v) (.iface t v')
  | agg {xs xs' : Array Value} (h : VRels ρ xs.toList xs'.toList) : VRel ρ (.agg xs) (.agg xs')
  | tuple {xs xs' : Array Value} (h : VRels ρ xs.toList xs'.toList) : VRel ρ (.tuple xs) (.tuple xs')
inductive VRels (ρ : Ren) : List Value → List Value → Prop
  | nil : VRels ρ [] []
  | cons {x y : Value} {xs ys : List Value} (h : VRel ρ x y) (hs : VRels ρ xs ys) : VRels ρ (x :: xs) (y :: ys)
end
def Ren.le (ρ ρ' : Ren) : Prop := ∀ b i, ρ b = some i → ρ' b = some i
theorem Ren.le_refl (ρ : Ren) : ρ.le ρ := fun _ _ h => h
theorem Ren.le.trans {ρ ρ' ρ'' : Ren} (h : ρ.le ρ') (h' : ρ'.le ρ'') : ρ.le ρ'' := fun b i e => h' b i (h b i e)
mutual
theorem VRel.mono {ρ ρ' : Ren} (hle : ρ.le ρ') {v v' : Value} : VRel ρ v v' → VRel ρ' v v'
  | .bool b => .bool b
  | .int k n => .int k n
  | .float k n => .float k n
  | .string s => .string s
  | .ptrNil => .ptrNil
  | .ptr h => .ptr (hle _ _ h)
  | .sliceNil => .sliceNil
  | .sliceEx h hk hn ho => .sliceEx (hle _ _ h) hk hn ho
  | .sliceUn h hn ho hs hr => .sliceUn (hle _ _ h) hn ho hs hr
  | .sliceZ => .sliceZ
  | .mapNil => .mapNil
  | .map h => .map (hle _ _ h)
  | .chanNil => .chanNil
  | .func h1 h2 => .func (VRels.mono hle h1) (VRels.mono hle h2)
  | .yield h h1 h2 => .yield (hle _ _ h) (VRels.mono hle h1) (VRels.mono hle h2)
  | .nilFunc => .nilFunc
  | .nilIface => .nilIface
  | .iface h => .iface (VRel.mono hle h)
  | .agg h => .agg (VRels.mono hle h)
  | .tuple h => .tuple (VRels.mono hle h)
theorem VRels.mono {ρ ρ' : Ren} (hle : ρ.le ρ') {vs vs' : List Value} : VRels ρ vs vs' → VRels ρ' vs vs'
  | .nil => .nil
  | .cons h hs => .cons (VRel.mono hle h) (VRels.mono hle hs)
end
namespace VRels
variable {ρ : Ren}
theorem length {xs ys : List Value} (h : VRels ρ xs ys) : xs.length = ys.length := by
  induction xs generalizing ys with
  | nil => cases h; rfl
  | cons x xs ih => cases h with | cons h hs => simp [ih hs]
theorem get {xs ys : List Value} (h : VRels ρ xs ys) {i : Nat} {x : Value} (hx : xs[i]? = some x) : ∃ y, ys[i]? = some y ∧ VRel ρ x y := by
  induction xs generalizing ys i with
  | nil => simp at hx
  | cons a xs ih =>
    cases h with
    | cons h hs =>
      cases i with
      | zero => simp at hx; subst hx; exact ⟨_, by simp, h⟩
      | succ i => simp at hx; obtain ⟨y, hy, hr⟩ := ih hs hx; exact ⟨y, by simpa using hy, hr⟩
theorem append {xs ys xs' ys' : List Value} (h : VRels ρ xs ys) (h' : VRels ρ xs' ys') : VRels ρ (xs ++ xs') (ys ++ ys') := by
  induction xs generalizing ys with
  | nil => cases h; exact h'
  | cons x xs ih => cases h with | cons h hs => exact .cons h (ih hs)
theorem take {xs ys : List Value} (h : VRels ρ xs ys) (n : Nat) : VRels ρ (xs.take n) (ys.take n) := by
  induction xs generalizing ys n with
  | nil => cases h; simp; exact .nil
  | cons x xs ih => cases h with | cons h hs => cases n with
    | zero => simp; exact .nil
    | succ n => simp; exact .cons h (ih hs n)
theorem drop {xs ys : List Value} (h : VRels ρ xs ys) (n : Nat) : VRels ρ (xs.drop n) (ys.drop n) := by
  induction xs generalizing ys n with
  | nil => cases h; simp; exact .nil
  | cons x xs ih => cases h with | cons h hs => cases n with
    | zero => simp; exact .cons h hs
    | succ n => simp; exact ih hs n
theorem map {α : Type} {f g : α → Value} (l : List α) (h : ∀ x ∈ l, VRel ρ (f x) (g x)) : VRels ρ (l.map f) (l.map g) := by
  induction l with
  | nil => exact .nil
  | cons x l ih => exact .cons (h x (by simp)) (ih fun y hy => h y (by simp [hy]))
theorem of_get {xs ys : List Value} (hl : xs.length = ys.length) (h : ∀ (i : Nat) x y, xs[i]? = some x → ys[i]? = some y → VRel ρ x y) : VRels ρ xs ys := by
  induction xs generalizing ys with
  | nil => cases ys with | nil => exact .nil | cons y ys => simp at hl
  | cons x xs ih =>
    cases ys with
    | nil => simp at hl
    | cons y ys => exact .cons (h 0 x y (by simp) (by simp)) (ih (by simpa using hl) fun i a b ha hb => h (i + 1) a b (by simpa using ha) (by simpa using hb))
theorem set {xs ys : List Value} (h : VRels ρ xs ys) (i : Nat) {x y : Value} (hx : VRel ρ x y) : VRels ρ (xs.set i x) (ys.set i y) := by
  induction xs generalizing ys i with
  | nil => cases h; simp; exact .nil
  | cons a xs ih => cases h with | cons h hs => cases i with
    | zero => simp; exact .cons hx hs
    | succ i => simp; exact .cons h (ih hs i)
end VRels
theorem VRel.plain1 {ρ : Ren} {v : Value} (h : plain1 v = true) : VRel ρ v v := by
  unfold Ag.plain1 at h
  split at h <;> first
    | exact .bool _
    | exact .int _ _
    | exact .float _ _
    | exact .string _
    | exact .ptrNil
    | exact .mapNil
    | exact .chanNil
    | exact .nilFunc
    | exact .nilIface
    | exact .sliceNil
    | skip
  · rename_i f xs ys
    simp only [Bool.and_eq_true, List.isEmpty_iff] at h
    exact .func (by rw [h.1]; exact .nil) (by rw [h.2]; exact .nil)
  · cases h
theorem VRels.plain {ρ : Ren} {vs : List Value} (h : vs.all Ag.plain1 = true) : VRels ρ vs vs := by
  induction vs with
  | nil => exact .nil
  | cons v vs ih => simp only [List.all_cons, Bool.and_eq_true] at h; exact .cons (.plain1 h.1) (ih h.2)
theorem VRel.plain {ρ : Ren} {v : Value} (h : plainV v = true) : VRel ρ v v := by
  unfold plainV at h
  split at h
  · exact .agg (.plain h)
  · exact .tuple (.plain h)
  · exact .iface (.plain1 h)
  · exact .plain1 h
theorem VRel.undef {ρ : Ren} : VRel ρ Go.undef Go.undef := .tuple .nil
theorem VRel.cells {ρ : Ren} {v v' : Value} (h : VRel ρ v v') : VRels ρ v.cells.toList v'.cells.toList := by
  have one : ∀ a b, VRel ρ a b → VRels ρ (#[a] : Array Value).toList (#[b] : Array Value).toList := fun a b h => .cons h .nil
  cases h with
  | agg h => exact h
  | tuple h => exact one _ _ (.tuple h)
  | bool b => exact one _ _ (.bool b)
  | int k n => exact one _ _ (.int k n)
  | float k n => exact one _ _ (.float k n)
  | string s => exact one _ _ (.string s)
  | ptrNil => exact one _ _ .ptrNil
  | ptr h => exact one _ _ (.ptr h)
  | sliceNil => exact one _ _ .sliceNil
  | sliceEx h hk hn ho => exact one _ _ (.sliceEx h hk hn ho)
  | sliceUn h hn ho hs hr => exact one _ _ (.sliceUn h hn ho hs hr)
  | sliceZ => exact one _ _ .sliceZ
  | mapNil => exact one _ _ .mapNil
  | map h => exact one _ _ (.map h)
  | chanNil => exact one _ _ .chanNil
  | func h1 h2 => exact one _ _ (.func h1 h2)
  | yield h h1 h2 => exact one _ _ (.yield h h1 h2)
  | nilFunc => exact one _ _ .nilFunc
  | nilIface => exact one _ _ .nilIface
  | iface h => exact one _ _ (.iface h)
theorem VRel.oneCell {ρ : Ren} {v v' : Value} (h : VRel ρ v v') : Ag.oneCell v = v'.oneCell' := by
  cases h <;> rfl
structure ERel (ρ : Ren) (E : Env) (tmps : Array Value) : Prop where
  size : tmps.size = E.n
  get : ∀ t, VRel ρ (E.get t) (tmps.getD t undef)
theorem ERel.mono {ρ ρ' : Ren} (hle : ρ.le ρ') {E : Env} {tmps : Array Value} (h : ERel ρ E tmps) : ERel ρ' E tmps :=
  ⟨h.size, fun t => (h.get t).mono hle⟩
def MRel (ρ : Ren) (es : List (Value × Value)) (es' : List MapEntry) : Prop :=
  VRels ρ (es.map (·.1)) (es'.map (·.key)) ∧ VRels ρ (es.map (·.2)) (es'.map (·.val))
def Thawed (fz : Nat × Nat) (room : Nat) : Prop := fz.1 = fz.2 ∨ room ≤ fz.1
theorem Thawed.at {fz : Nat × Nat} {room : Nat} (h : Thawed fz room) (o : Nat) (ho : o < room) : ¬ (fz.1 ≤ o ∧ o < fz.2) := by
  rcases h with h | h <;> omega
inductive ORel (ρ : Ren) (A : AState) (w : World) (b : Nat) (i : BInfo) : AObj → Prop
  | cells {cs : Tr Value} {d : List Value} {n es root own top : Nat} (c : Array Value) (el : TypeId) (fz : Nat × Nat)
      (ho : w.heap[i.blk]? = some (.cells c el fz)) (hroom : c.size = i.room) (hsz : i.sz = n) (hes : i.es = es) (hin : i.off + n ≤ i.room) (hfz : Thawed fz i.room) (h0 : es = 0 → i.off = 0)
      (hc : A.isOpen b root own = true → ∀ j, j < n → ∃ v v', cellAt cs d j = some v ∧ c[i.off + j]? = some v' ∧ VRel ρ v v') :
      ORel ρ A w b i (.cells cs d n es root own top)
  | ro {cs : Tr Value} {n root : Nat} (c : Array Value) (el : TypeId) (fz : Nat × Nat)
      (ho : w.heap[i.blk]? = some (.cells c el fz)) (hroom : c.size = i.room) (hsz : i.sz = n) (hin : i.off + n ≤ i.room)
      (hc : ∀ j, j < n → ∃ v v', cellAt cs [] j = some v ∧ c[i.off + j]? = some v' ∧ VRel ρ v v') (hes : ∀ e, roEs cs n = some e → i.es = e) :
      ORel ρ A w b i (.ro cs n root)
  | map {es : List (Value × Value)} (es' : Array MapEntry) (clock : Nat) (ho : w.heap[i.blk]? = some (.map es' clock)) (hm : MRel ρ es es'.toList) (hst : MapKept.Stamped es' clock) : ORel ρ A w b i (.map es)
  | strIter {s : ByteArray} {pos : Nat} (ho : w.heap[i.blk]? = some (.stringIter s pos)) (h0 : i.off = 0) : ORel ρ A w b i (.strIter s pos)
  | loop {L : ALoop} (R : Loop) (ho : w.heap[i.blk]? = some (.loop R)) (hs : R.state = L.state) (hp : R.pending = L.pending) (he : ERel ρ L.env R.tmps) (hps : R.params.toList = L.params)
      (ha : R.assign = L.assign) (hb : R.body = L.body) : ORel ρ A w b i (.loop L)
def famOf (b : Nat) : AObj → Nat
  | .cells _ _ _ _ root _ _ => root
  | .ro _ _ root => root
  | _ => b
def AObj.isRo : AObj → Bool
  | .ro _ _ _ => true
  | _ => false
structure Sim (P : Program) (ρ : Ren) (τ : Nat → Option Nat) (A : AState) (w : World) : Prop where
  obj : ∀ b o, A.get b = some o → ∃ i, ρ b = some i ∧ i.blk < w.heap.size ∧ τ i.blk = some (famOf b o) ∧ ORel ρ A w b i o
  root : ∀ b o, A.get b = some o → ∃ o', A.get (famOf b o) = some o' ∧ famOf (famOf b o) o' = famOf b o
  top : ∀ b cs d n es root own top, A.get b = some (.cells cs d n es root own top) →
    ∀ rcs rd rn res rtop, A.get root = some (.cells rcs rd rn res root 0 rtop) →
      ∃ ot i j, A.get rtop = some ot ∧ famOf rtop ot = root ∧ ρ b = some i ∧ ρ rtop = some j ∧ (i.blk = j.blk → i.off + i.sz ≤ j.off + j.sz)
  solo : ∀ b o, A.get b = some o → ∀ cs d n es root own, A.get (famOf b o) = some (.cells cs d n es root own (famOf b o)) → b = famOf b o
  ro : ∀ b o, A.get b = some o → (famOf b o = P.globals.size ↔ o.isRo = true)
  fresh : ∀ b, A.size ≤ b → A.get b = none
  terr : ∀ r f, τ r = some f → ∃ o, A.get f = some o
  glob : ∀ g, g < P.globals.size → ∃ i, ρ g = some i ∧ i.blk = g ∧ i.off = 0
  globs : P.globals.size < A.size
theorem Sim.roNot {P : Program} {ρ : Ren} {τ : Nat → Option Nat} {A : AState} {w : World} (S : Sim P ρ τ A w) {b b2 : Nat} {o o2 : AObj} (h : A.get b = some o) (h2 : A.get b2 = some o2) (ho : o.isRo = true) (ho2 : o2.isRo = false) : famOf b o ≠ famOf b2 o2 := by
  intro e
  have h1 := (S.ro b o h).2 ho
  rw [e] at h1
  rw [(S.ro b2 o2 h2).1 h1] at ho2
  cases ho2
structure Frm (τ : Nat → Option Nat) (w w' : World) : Prop where
  size : w.heap.size ≤ w'.heap.size
  keep : ∀ r, r < w.heap.size → τ r = none → w'.heap[r]? = w.heap[r]?
  os : w'.os = w.os
  out : w'.output = w.output
  tape : w'.tape = w.tape
theorem Frm.refl (τ : Nat → Option Nat) (w : World) : Frm τ w w := ⟨Nat.le_refl _, fun _ _ _ => rfl, rfl, rfl, rfl⟩
end Go.Ag
namespace Go.Ag
theorem get_push (A : AState) (o : AObj) (b : Nat) : (A.push o).get b = if A.size = b then some o else A.get b := by
  unfold AState.push AState.get; exact Tr.get_set _ _ _ _
theorem get_put (A : AState) (c : Nat) (o : AObj) (b : Nat) : (A.put c o).get b = if c = b then some o else A.get b := by
  unfold AState.put AState.get; exact Tr.get_set _ _ _ _
theorem size_push (A : AState) (o : AObj) : (A.push o).size = A.size + 1 := rfl
theorem size_put (A : AState) (c : Nat) (o : AObj) : (A.put c o).size = A.size := rfl
theorem readN_some {cs : Tr Value} {d : List Value} : ∀ {n off : Nat} {vs : List Value}, readN cs d off n = some vs →
    vs.length = n ∧ ∀ j, j < n → vs[j]? = cellAt cs d (off + j) := by
  intro n
  induction n with
  | zero => intro off vs h; simp [readN] at h; subst h; exact ⟨rfl, fun j hj => by omega⟩
  | succ n ih =>
    intro off vs h
    simp only [readN, Option.bind_eq_some_iff] at h
    obtain ⟨v, hv, vs', hvs, h⟩ := h
    simp at h; subst h
    obtain ⟨hl, hg⟩ := ih hvs
    refine ⟨by simp [hl], fun j hj => ?_⟩
    cases j with
    | zero => simp [hv]
    | succ j => simp; rw [hg j (by omega)]; congr 1; omega
theorem cellAt_writeL {d : List Value} : ∀ (vs : List Value) (cs : Tr Value) (off j : Nat),
    cellAt (writeL cs off vs) d j = if off ≤ j ∧ j < off + vs.length then vs[j - off]? else cellAt cs d j := by
  intro vs
  induction vs with
  | nil => intro cs off j; simp [writeL]; omega
  | cons v vs ih =>
    intro cs off j
    simp only [writeL, ih]
    by_cases h1 : off + 1 ≤ j ∧ j < off + 1 + vs.length
    · rw [if_pos h1, if_pos ⟨by omega, by simp; omega⟩]
      rw [show j - off = (j - (off + 1)) + 1 by omega]; simp
    · rw [if_neg h1]
      unfold cellAt
      rw [Tr.get_set]
      by_cases h2 : off = j
      · subst h2; simp
      · rw [if_neg h2, if_neg (by simp; omega)]
theorem cellAt_list (d : List Value) (vs : List Value) (j : Nat) (h : j < vs.length) : cellAt (writeL .nil 0 vs) d j = vs[j]? := by
  rw [cellAt_writeL, if_pos ⟨by omega, by omega⟩]; simp
def setL (c : Array Value) : Nat → List Value → Array Value
  | _, [] => c
  | o, v :: vs => setL (c.setIfInBounds o v) (o + 1) vs
theorem setL_size : ∀ (vs : List Value) (c : Array Value) (o : Nat), (setL c o vs).size = c.size := by
  intro vs
  induction vs with
  | nil => intro c o; rfl
  | cons v vs ih => intro c o; simp [setL, ih]
theorem setL_get : ∀ (vs : List Value) (c : Array Value) (o j : Nat), j < c.size →
    (setL c o vs)[j]? = if o ≤ j ∧ j < o + vs.length then vs[j - o]? else c[j]? := by
  intro vs
  induction vs with
  | nil => intro c o j h; simp [setL]; omega
  | cons v vs ih =>
    intro c o j h
    simp only [setL]
    rw [ih _ _ _ (by simpa using h)]
    by_cases h1 : o + 1 ≤ j ∧ j < o + 1 + vs.length
    · rw [if_pos h1, if_pos ⟨by omega, by simp; omega⟩]
      rw [show j - o = (j - (o + 1)) + 1 by omega]; simp
    · rw [if_neg h1]
      by_cases h2 : o = j
      · subst h2; simp [h]
      · rw [if_neg (by simp; omega)]; simp [h2]
theorem setCell_heap {w : World} {r : Nat} {c : Array Value} {el : TypeId} {fz : Nat × Nat} (h : w.heap[r]? = some (.cells c el fz)) (o : Nat) (v : Value) :
    (∀ r', (w.setCell ⟨r, o, none⟩ v).heap[r']? = if r = r' then some (.cells (c.setIfInBounds o v) el fz) else w.heap[r']?) ∧
    (w.setCell ⟨r, o, none⟩ v).heap.size = w.heap.size := by
  constructor
  · intro r'
    simp only [World.setCell, Array.getElem?_modify]
    by_cases e : r = r'
    · subst e; simp [h]
    · simp [e]
  · simp [World.setCell]
theorem setCells_heap (r : Nat) (el : TypeId) (fz : Nat × Nat) : ∀ (vs : List Value) (o : Nat) (w : World) (c : Array Value), w.heap[r]? = some (.cells c el fz) →
    (∀ r', (w.setCells r o vs).heap[r']? = if r = r' then some (.cells (setL c o vs) el fz) else w.heap[r']?) ∧
    (w.setCells r o vs).heap.size = w.heap.size ∧ (w.setCells r o vs).os = w.os ∧ (w.setCells r o vs).output = w.output ∧ (w.setCells r o vs).tape = w.tape := by
  intro vs
  induction vs with
  | nil =>
    intro o w c h
    refine ⟨fun r' => ?_, rfl, rfl, rfl, rfl⟩
    simp only [World.setCells, setL]
    split
    · rename_i e; subst e; exact h
    · rfl
  | cons v vs ih =>
    intro o w c h
    obtain ⟨h1, h2⟩ := setCell_heap h o v
    have h0 : (w.setCell ⟨r, o, none⟩ v).heap[r]? = some (.cells (c.setIfInBounds o v) el fz) := by rw [h1]; simp
    obtain ⟨g1, g2, g3, g4, g5⟩ := ih (o + 1) (w.setCell ⟨r, o, none⟩ v) _ h0
    refine ⟨fun r' => ?_, ?_, ?_, ?_, ?_⟩
    · simp only [World.setCells, setL, g1, h1]
      split <;> rfl
    · simp only [World.setCells, g2, h2]
    · simp only [World.setCells, g3]; rfl
    · simp only [World.setCells, g4]; rfl
    · simp only [World.setCells, g5]; rfl
theorem cell?_of {w : World} {r : Nat} {c : Array Value} {el : TypeId} {fz : Nat × Nat} (h : w.heap[r]? = some (.cells c el fz)) (o : Nat) :
    w.cell? ⟨r, o, none⟩ = c[o]? := by simp [World.cell?, h]
theorem frozen?_of {w : World} {r : Nat} {c : Array Value} {el : TypeId} {fz : Nat × Nat} (h : w.heap[r]? = some (.cells c el fz)) (o : Nat) :
    w.frozen? ⟨r, o, none⟩ = (decide (fz.1 ≤ o) && decide (o < fz.2)) := by simp [World.frozen?, h]
section
variable {P : Program} {ρ : Ren} {τ : Nat → Option Nat} {A : AState} {w : World}
structure BlkRel (ρ : Ren) (τ : Nat → Option Nat) (w : World) (b : Nat) (k : Blk) (i : BInfo) (c : Array Value) (el : TypeId) (fz : Nat × Nat) : Prop where
  ren : ρ b = some i
  lt : i.blk < w.heap.size
  terr : τ i.blk = some k.root
  row : w.heap[i.blk]? = some (.cells c el fz)
  room : c.size = i.room
  sz : i.sz = k.n
  es : i.es = k.es
  fits : i.off + k.n ≤ i.room
  thaw : Thawed fz i.room
  cell : ∀ j, j < k.n → ∃ v v', cellAt k.cs k.d j = some v ∧ c[i.off + j]? = some v' ∧ VRel ρ v v'
theorem Sim.blk (S : Sim P ρ τ A w) {b : Nat} {k : Blk} (h : A.blk b = some k) : ∃ i c el fz, BlkRel ρ τ w b k i c el fz := by
  unfold AState.blk at h
  split at h
  · rename_i cs d n es root own top hg
    split at h
    · rename_i ho
      simp at h; subst h
      obtain ⟨i, h1, h2, h3, h4⟩ := S.obj _ _ hg
      cases h4 with
      | cells c el fz h5 hroom hsz hes hin hfz _ hc => exact ⟨i, c, el, fz, h1, h2, h3, h5, hroom, hsz, hes, hin, hfz, hc ho⟩
    · cases h
  · cases h
structure BlkRelR (ρ : Ren) (w : World) (b : Nat) (k : Tr Value × List Value × Nat) (i : BInfo) (c : Array Value) (el : TypeId) (fz : Nat × Nat) : Prop where
  ren : ρ b = some i
  lt : i.blk < w.heap.size
  row : w.heap[i.blk]? = some (.cells c el fz)
  room : c.size = i.room
  fits : i.off + k.2.2 ≤ i.room
  cell : ∀ j, j < k.2.2 → ∃ v v', cellAt k.1 k.2.1 j = some v ∧ c[i.off + j]? = some v' ∧ VRel ρ v v'
theorem BlkRel.toR {b : Nat} {k : Blk} {i : BInfo} {c : Array Value} {el : TypeId} {fz : Nat × Nat} (B : BlkRel ρ τ w b k i c el fz) : BlkRelR ρ w b (k.cs, k.d, k.n) i c el fz :=
  ⟨B.ren, B.lt, B.row, B.room, B.fits, B.cell⟩
theorem Sim.blkR (S : Sim P ρ τ A w) {b : Nat} {k : Tr Value × List Value × Nat} (h : A.blkR b = some k) : ∃ i c el fz, BlkRelR ρ w b k i c el fz := by
  unfold AState.blkR at h
  split at h
  · rename_i cs d n es root own top hg
    split at h
    · rename_i ho
      simp at h; subst h
      obtain ⟨i, h1, h2, h3, h4⟩ := S.obj _ _ hg
      cases h4 with
      | cells c el fz h5 hroom hsz hes hin hfz _ hc => exact ⟨i, c, el, fz, h1, h2, h5, hroom, hin, hc ho⟩
    · cases h
  · rename_i cs n root hg
    simp at h; subst h
    obtain ⟨i, h1, h2, h3, h4⟩ := S.obj _ _ hg
    cases h4 with
    | ro c el fz h5 hroom hsz hin hc _ => exact ⟨i, c, el, fz, h1, h2, h5, hroom, hin, hc⟩
  · cases h
theorem BlkRelR.read {b : Nat} {k : Tr Value × List Value × Nat} {i : BInfo} {c : Array Value} {el : TypeId} {fz : Nat × Nat} (B : BlkRelR ρ w b k i c el fz) {off n : Nat} {vs : List Value}
    (h : readN k.1 k.2.1 off n = some vs) (hn : off + n ≤ k.2.2) :
    ∃ vs', VRels ρ vs vs' ∧ vs'.length = n ∧ ∀ j v, vs'[j]? = some v → w.cell? ⟨i.blk, i.off + off + j, none⟩ = some v := by
  obtain ⟨hl, hg⟩ := readN_some h
  have hc : ∀ j, j < n → ∃ v v', vs[j]? = some v ∧ c[i.off + off + j]? = some v' ∧ VRel ρ v v' := by
    intro j hj
    obtain ⟨v, v', h1, h2, h3⟩ := B.cell (off + j) (by omega)
    exact ⟨v, v', by rw [hg j hj, h1], by rw [← h2]; congr 1; omega, h3⟩
  refine ⟨(List.range n).map fun j => (c[i.off + off + j]?).getD undef, ?_, by simp, ?_⟩
  · refine .of_get (by simp [hl]) fun j x y hx hy => ?_
    have hj : j < n := by
      have := (List.getElem?_eq_some_iff.1 hx).1; omega
    obtain ⟨v, v', h1, h2, h3⟩ := hc j hj
    rw [h1] at hx
    simp [hj, h2] at hy
    simp at hx
    subst hx; subst hy; exact h3
  · intro j v hv
    have hj : j < n := by
      have := (List.getElem?_eq_some_iff.1 hv).1; simpa using this
    obtain ⟨v1, v', h1, h2, h3⟩ := hc j hj
    simp [hj, h2] at hv
    subst hv
    rw [cell?_of B.row, h2]
theorem BlkRel.read {b : Nat} {k : Blk} {i : BInfo} {c : Array Value} {el : TypeId} {fz : Nat × Nat} (B : BlkRel ρ τ w b k i c el fz) {off n : Nat} {vs : List Value}
    (h : readN k.cs k.d off n = some vs) (hn : off + n ≤ k.n) :
    ∃ vs', VRels ρ vs vs' ∧ vs'.length = n ∧ ∀ j v, vs'[j]? = some v → w.cell? ⟨i.blk, i.off + off + j, none⟩ = some v := B.toR.read h hn
theorem Sim.readAt (S : Sim P ρ τ A w) {b off n : Nat} {vs : List Value} (h : A.readAt b off n = some vs) :
    ∃ i vs', ρ b = some i ∧ VRels ρ vs vs' ∧ vs.length = n ∧ ∀ j v, vs'[j]? = some v → w.cell? ⟨i.blk, i.off + off + j, none⟩ = some v := by
  unfold AState.readAt at h
  simp only [Option.bind_eq_some_iff] at h
  obtain ⟨k, hk, h⟩ := h
  split at h
  · rename_i hle
    obtain ⟨i, c, el, fz, B⟩ := S.blkR hk
    obtain ⟨vs', h1, h2, h3⟩ := B.read h (by simpa using hle)
    exact ⟨i, vs', B.ren, h1, (readN_some h).1, h3⟩
  · cases h
end
end Go.Ag
namespace Go.Ag
structure Ext (P : Program) (ρ : Ren) (τ : Nat → Option Nat) (A : AState) (w : World) (ρ' : Ren) (τ' : Nat → Option Nat) (A' : AState) (w' : World) : Prop where
  le : ρ.le ρ'
  same : ∀ b, (b < A.size ∨ A'.size ≤ b) → ρ' b = ρ b
  size : A.size ≤ A'.size
  frm : Frm τ w w'
  told : ∀ r, r < w.heap.size → τ' r = τ r ∨ τ' r = none
  loops : ∀ (r : Nat) (R : Loop), w.heap[r]? = some (Obj.loop R) → ∃ R' : Loop, w'.heap[r]? = some (Obj.loop R')
  ro : ∀ r, r < w.heap.size → τ r = some P.globals.size → w'.heap[r]? = w.heap[r]?
  sim : Sim P ρ' τ' A' w'
theorem Ext.refl {P : Program} {ρ : Ren} {τ : Nat → Option Nat} {A : AState} {w : World} (S : Sim P ρ τ A w) : Ext P ρ τ A w ρ τ A w :=
  ⟨Ren.le_refl _, fun _ _ => rfl, Nat.le_refl _, Frm.refl _ _, fun _ _ => .inl rfl, fun _ R h => ⟨R, h⟩, fun _ _ _ => rfl, S⟩
theorem Ext.trans {P : Program} {ρ ρ' ρ'' : Ren} {τ τ' τ'' : Nat → Option Nat} {A A' A'' : AState} {w w' w'' : World}
    (h : Ext P ρ τ A w ρ' τ' A' w') (h' : Ext P ρ' τ' A' w' ρ'' τ'' A'' w'') : Ext P ρ τ A w ρ'' τ'' A'' w'' where
  le := h.le.trans h'.le
  same b hb := by
    have := h.size; have := h'.size
    rw [h'.same b (by omega), h.same b (by omega)]
  size := Nat.le_trans h.size h'.size
  frm := ⟨Nat.le_trans h.frm.size h'.frm.size,
    fun r hr ht => by rw [h'.frm.keep r (Nat.lt_of_lt_of_le hr h.frm.size) ((h.told r hr).elim (fun e => e.trans ht) id), h.frm.keep r hr ht],
    h'.frm.os.trans h.frm.os, h'.frm.out.trans h.frm.out, h'.frm.tape.trans h.frm.tape⟩
  told r hr := (h'.told r (Nat.lt_of_lt_of_le hr h.frm.size)).elim (fun e => (h.told r hr).imp (fun e' => e.trans e') (fun e' => e.trans e')) .inr
  loops r R hr := by
    obtain ⟨R1, h1⟩ := h.loops r R hr
    exact h'.loops r R1 h1
  ro r hr ht := by
    rw [(h.told r hr).elim (fun e => h'.ro r (Nat.lt_of_lt_of_le hr h.frm.size) (e.trans ht)) (fun e => h'.frm.keep r (Nat.lt_of_lt_of_le hr h.frm.size) e), h.ro r hr ht]
  sim := h'.sim
theorem isOpen_root (A : AState) (b own : Nat) : A.isOpen b b own = (Nat.beq own 0 || Nat.beq own (b + 1)) := by
  unfold AState.isOpen; simp
theorem isOpen_other (A : AState) {b root : Nat} (own : Nat) (h : root ≠ b) : A.isOpen b root own = match A.ownOf root with | some own => Nat.beq own 0 || Nat.beq own (b + 1) | none => false := by
  unfold AState.isOpen; rw [if_neg (by simpa using h)] <;> rfl
theorem shutB {a b : Nat} (h : a ≠ b) : (Nat.beq (a + 1) 0 || Nat.beq (a + 1) (b + 1)) = false := by
  rw [Bool.or_eq_false_iff]
  refine ⟨rfl, ?_⟩
  cases hb : Nat.beq (a + 1) (b + 1) with
  | false => rfl
  | true => have := Nat.eq_of_beq_eq_true hb; omega
theorem ORel.keep {ρ : Ren} {A A' : AState} {w w' : World} {b : Nat} {i : BInfo} {o : AObj} (h : ORel ρ A w b i o) (hh : w'.heap[i.blk]? = w.heap[i.blk]?)
    (ha : ∀ cs d n es root own top, o = .cells cs d n es root own top → A'.isOpen b root own = true → A.isOpen b root own = true) : ORel ρ A' w' b i o := by
  cases h with
  | cells c el fz ho hroom hsz hes hin hfz h0 hc => exact .cells c el fz (by rw [hh]; exact ho) hroom hsz hes hin hfz h0 (fun hop => hc (ha _ _ _ _ _ _ _ rfl hop))
  | ro c el fz ho hroom hsz hin hc hes => exact .ro c el fz (by rw [hh]; exact ho) hroom hsz hin hc hes
  | map es' clock ho hm hst => exact .map es' clock (by rw [hh]; exact ho) hm hst
  | strIter ho h0 => exact .strIter (by rw [hh]; exact ho) h0
  | loop R ho hs hp he hps ha' hb => exact .loop R (by rw [hh]; exact ho) hs hp he hps ha' hb
theorem ORel.shut {ρ : Ren} {A A' : AState} {w w' : World} {b : Nat} {i : BInfo} {cs cs' : Tr Value} {d d' : List Value} {n es root own top own' top' : Nat}
    (h : ORel ρ A w b i (.cells cs d n es root own top)) {c c' : Array Value} {el : TypeId} {fz : Nat × Nat} (h0 : w.heap[i.blk]? = some (.cells c el fz)) (h1 : w'.heap[i.blk]? = some (.cells c' el fz)) (hs : c'.size = c.size)
    (hno : A'.isOpen b root own' = false) : ORel ρ A' w' b i (.cells cs' d' n es root own' top') := by
  cases h with
  | cells c2 el2 fz2 ho hroom hsz hes hin hfz hz0 hc =>
    rw [h0] at ho
    cases ho
    exact .cells c' el fz h1 (by rw [hs]; exact hroom) hsz hes hin hfz hz0 (fun hop => by rw [hno] at hop; cases hop)
theorem world_eq_keep {w w' : World} {r : Nat} {o : Obj} (hg : ∀ r', w'.heap[r']? = if r = r' then some o else w.heap[r']?) {r' : Nat} (h : r ≠ r') : w'.heap[r']? = w.heap[r']? := by
  rw [hg, if_neg h]
section
variable {P : Program} {ρ : Ren} {τ : Nat → Option Nat} {A A' : AState} {w : World}
theorem Sim.write (S : Sim P ρ τ A w) {b off : Nat} {vs vs' : List Value} (h : A.write b off vs = some A') (hv : VRels ρ vs vs') :
    ∃ i, ρ b = some i ∧ (∀ j, j < vs'.length → (w.cell? ⟨i.blk, i.off + off + j, none⟩).isSome = true) ∧ (∀ j, j < vs'.length → w.frozen? ⟨i.blk, i.off + off + j, none⟩ = false) ∧
      Ext P ρ τ A w ρ τ A' (w.setCells i.blk (i.off + off) vs') := by
  have hlen := hv.length
  unfold AState.write at h
  split at h
  case h_2 => cases h
  rename_i cs d n es root own top hg
  split at h
  case isFalse => cases h
  rename_i hcond
  simp only [Bool.and_eq_true, Nat.ble_eq] at hcond
  obtain ⟨hfit, hopen⟩ := hcond
  obtain ⟨i, hri, hlt, hterr, hor⟩ := S.obj _ _ hg
  have hor0 := hor
  cases hor with
  | cells c el fz ho hroom hsz hes hin hfz h0 hc =>
  have hcell := hc hopen
  obtain ⟨g1, g2, g3, g4, g5⟩ := setCells_heap i.blk el fz vs' (i.off + off) w c ho
  have hsl := setL_size vs' c (i.off + off)
  refine ⟨i, hri, fun j hj => ?_, fun j hj => ?_, ?_⟩
  · rw [cell?_of ho]; simp [Array.getElem?_eq_getElem (show i.off + off + j < c.size by omega)]
  · rw [frozen?_of ho]
    have := hfz.at (i.off + off + j) (by omega)
    simp only [Bool.and_eq_false_iff, decide_eq_false_iff_not]
    by_cases h1 : fz.1 ≤ i.off + off + j
    · right; intro h2; exact this ⟨h1, h2⟩
    · left; exact h1
  -- the new row
  have hnew : ∀ (A2 : AState) own2 top2, ORel ρ A2 (w.setCells i.blk (i.off + off) vs') b i (.cells (writeL cs off vs) d n es root own2 top2) := by
    intro A2 own2 top2
    refine .cells (setL c (i.off + off) vs') el fz (by rw [g1]; simp) (by rw [hsl]; exact hroom) hsz hes hin hfz h0 (fun _ j hj => ?_)
    obtain ⟨v, v', h1, h2, h3⟩ := hcell j hj
    rw [cellAt_writeL, setL_get _ _ _ _ (by omega)]
    by_cases hr : off ≤ j ∧ j < off + vs.length
    · rw [if_pos hr, if_pos (by omega)]
      obtain ⟨y, hy, hrel⟩ := hv.get (List.getElem?_eq_getElem (show j - off < vs.length by omega))
      exact ⟨_, y, List.getElem?_eq_getElem _, by rw [← hy]; congr 1; omega, hrel⟩
    · rw [if_neg hr, if_neg (by omega)]
      exact ⟨v, v', h1, h2, h3⟩
  have hloops : ∀ (r : Nat) (R : Loop), w.heap[r]? = some (Obj.loop R) → ∃ R' : Loop, (w.setCells i.blk (i.off + off) vs').heap[r]? = some (Obj.loop R') := fun r R hR => ⟨R, by
    rw [world_eq_keep g1 (by intro e; subst e; rw [ho] at hR; cases hR)]; exact hR⟩
  have hroR : ∀ r, r < w.heap.size → τ r = some P.globals.size → (w.setCells i.blk (i.off + off) vs').heap[r]? = w.heap[r]? := fun r _ ht => by
    refine world_eq_keep g1 ?_
    intro e; subst e
    rw [hterr] at ht
    have := (S.ro _ _ hg).1 (Option.some.inj ht)
    cases this
  have hfrm : Frm τ w (w.setCells i.blk (i.off + off) vs') := ⟨by rw [g2]; exact Nat.le_refl _, fun r hr ht => world_eq_keep g1 (by intro e; subst e; rw [hterr] at ht; cases ht), g3, g4, g5⟩
  split at h
  · -- the block is the first of its family
    rename_i hrb
    have hrb' : root = b := by simpa using hrb
    subst hrb'
    cases h
    have hget : ∀ b2, b2 ≠ root → (A.put root (.cells (writeL cs off vs) d n es root (if Nat.beq top root then own else root + 1) top)).get b2 = A.get b2 := fun b2 hb => by
      rw [get_put, if_neg (Ne.symm hb)]
    have hgetb : (A.put root (.cells (writeL cs off vs) d n es root (if Nat.beq top root then own else root + 1) top)).get root = some (.cells (writeL cs off vs) d n es root (if Nat.beq top root then own else root + 1) top) := by
      rw [get_put, if_pos rfl]
    refine ⟨Ren.le_refl _, fun _ _ => rfl, Nat.le_refl _, hfrm, fun _ _ => .inl rfl, hloops, hroR, ?_⟩
    -- the families: the same
    have hfam : ∀ b2 o2, (A.put root (.cells (writeL cs off vs) d n es root (if Nat.beq top root then own else root + 1) top)).get b2 = some o2 → ∃ o3, A.get b2 = some o3 ∧ famOf b2 o3 = famOf b2 o2 := by
      intro b2 o2 h2
      by_cases e : b2 = root
      · subst e; rw [hgetb] at h2; cases h2; exact ⟨_, hg, rfl⟩
      · rw [hget b2 e] at h2; exact ⟨o2, h2, rfl⟩
    have hfam' : ∀ b2 o3, A.get b2 = some o3 → ∃ o2, (A.put root (.cells (writeL cs off vs) d n es root (if Nat.beq top root then own else root + 1) top)).get b2 = some o2 ∧ famOf b2 o2 = famOf b2 o3 := by
      intro b2 o3 h3
      by_cases e : b2 = root
      · subst e; rw [hg] at h3; cases h3; exact ⟨_, hgetb, rfl⟩
      · exact ⟨o3, by rw [hget b2 e]; exact h3, rfl⟩
    have hown : ∀ r, (A.put root (.cells (writeL cs off vs) d n es root (if Nat.beq top root then own else root + 1) top)).ownOf r = if r = root then some (if Nat.beq top root then own else root + 1) else A.ownOf r := by
      intro r
      unfold AState.ownOf
      by_cases e : r = root
      · subst e; rw [hgetb]; simp
      · rw [hget r e, if_neg e]
    have hro' : ∀ b2 o2, (A.put root (.cells (writeL cs off vs) d n es root (if Nat.beq top root then own else root + 1) top)).get b2 = some o2 → (famOf b2 o2 = P.globals.size ↔ o2.isRo = true) := fun b2 o2 h2 => by
      by_cases e : b2 = root
      · subst e; rw [hgetb] at h2; cases h2; have := S.ro _ _ hg; exact this
      · rw [hget b2 e] at h2; exact S.ro _ _ h2
    refine ⟨fun b2 o2 h2 => ?_, fun b2 o2 h2 => ?_, ?_, ?_, hro', fun b2 hb => ?_, fun r f hf => ?_, S.glob, S.globs⟩
    · by_cases e : b2 = root
      · subst e; rw [hgetb] at h2; cases h2
        exact ⟨i, hri, by rw [g2]; exact hlt, hterr, hnew _ _ _⟩
      · rw [hget b2 e] at h2
        obtain ⟨i2, a1, a2, a3, a4⟩ := S.obj _ _ h2
        refine ⟨i2, a1, by rw [g2]; exact a2, a3, ?_⟩
        by_cases eb : i.blk = i2.blk
        · -- in the very row: another of the family
          rw [← eb, hterr] at a3
          have hf : famOf b2 o2 = root := by simpa [famOf] using a3.symm
          cases o2 with
          | cells cs2 d2 n2 es2 root2 own2 top2 =>
            have : root2 = root := hf
            subst this
            by_cases et : top = root2
            · exact absurd (S.solo _ _ h2 _ _ _ _ _ _ (by rw [hf, hg, et])) (by rw [hf]; exact e)
            · refine a4.shut (A' := _) (w' := _) (by rw [← eb]; exact ho) (by rw [← eb, g1, if_pos rfl]) hsl ?_
              rw [isOpen_other _ _ (Ne.symm e), hown, if_pos rfl, if_neg (by simpa using et)]
              exact shutB (Ne.symm e)
          | ro cs2 n2 root2 => exact absurd hf (S.roNot h2 hg rfl rfl)
          | map es => exact absurd hf e
          | strIter s p => exact absurd hf e
          | loop l => exact absurd hf e
        · refine a4.keep (world_eq_keep g1 eb) fun cs2 d2 n2 es2 root2 own2 top2 eo hop => ?_
          by_cases er : root2 = b2
          · subst er; rw [isOpen_root] at hop ⊢; exact hop
          · rw [isOpen_other _ _ er] at hop ⊢
            rw [hown] at hop
            by_cases er2 : root2 = root
            · subst er2
              rw [if_pos rfl] at hop
              by_cases et : top = root2
              · rw [if_pos (by simpa using et)] at hop
                have : A.ownOf root2 = some own := by unfold AState.ownOf; rw [hg]
                rw [this]; exact hop
              · rw [if_neg (by simpa using et)] at hop
                have := hop.symm.trans (shutB (Ne.symm e)); cases this
            · rw [if_neg er2] at hop; exact hop
    · obtain ⟨o3, h3, e3⟩ := hfam _ _ h2
      obtain ⟨o4, h4, e4⟩ := S.root _ _ h3
      obtain ⟨o5, h5, e5⟩ := hfam' _ _ h4
      rw [e3] at h5 e4 e5
      exact ⟨o5, h5, e5.trans e4⟩
    · intro b2 cs2 d2 n2 es2 root2 own2 top2 h2 rcs rd rn res rtop hr
      by_cases er : root2 = root
      · subst er
        rw [hgetb] at hr
        injection hr with hr
        injection hr with _ _ _ _ _ hz htop
        subst htop
        -- own is 0: the family has one alone, or none wrote
        by_cases et : top = root2
        · -- alone
          have hb2 : b2 = root2 := by
            obtain ⟨o3, h3, e3⟩ := hfam _ _ h2
            have : famOf b2 o3 = root2 := e3
            have := S.solo _ _ h3 cs d n es root2 own (by rw [this, hg, et])
            rw [this]; assumption
          subst hb2
          rw [hgetb] at h2
          cases h2
          subst et
          exact ⟨_, i, i, hgetb, rfl, hri, hri, fun _ => Nat.le_refl _⟩
        · rw [if_neg (by simpa using et)] at hz; omega
      · rw [hget _ er] at hr
        have hb2 : b2 ≠ root := by
          intro e; subst e; rw [hgetb] at h2; cases h2; exact er rfl
        rw [hget _ hb2] at h2
        obtain ⟨ot, i1, j1, k1, k2, k3, k4, k5⟩ := S.top _ _ _ _ _ _ _ _ h2 _ _ _ _ _ hr
        obtain ⟨o5, h5, e5⟩ := hfam' _ _ k1
        exact ⟨o5, i1, j1, h5, e5.trans k2, k3, k4, k5⟩
    · intro b2 o2 h2 cs2 d2 n2 es2 root2 own2 hr
      obtain ⟨o3, h3, e3⟩ := hfam _ _ h2
      rw [← e3] at hr ⊢
      by_cases er : famOf b2 o3 = root
      · rw [er] at hr ⊢
        rw [hgetb] at hr
        cases hr
        have := S.solo _ _ h3 cs d n es root own (by rw [er, hg])
        rw [er] at this; exact this
      · rw [hget _ er] at hr
        exact S.solo _ _ h3 _ _ _ _ _ _ hr
    · have hb' : A.size ≤ b2 := hb
      have := S.fresh b2 hb'
      rw [hget b2 (by intro e; subst e; rw [hg] at this; cases this)]; exact this
    · obtain ⟨o3, h3⟩ := S.terr r f hf
      obtain ⟨o5, h5, _⟩ := hfam' _ _ h3
      exact ⟨o5, h5⟩
  · -- another block of the family
    rename_i hrb
    have hrb' : root ≠ b := by simpa using hrb
    split at h
    case h_2 => cases h
    rename_i rcs rd rn res rroot rown rtop hgr
    split at h
    case isFalse => cases h
    rename_i hrr
    have hrr' : rroot = root := by simpa using hrr
    subst hrr'
    cases h
    generalize hA' : (A.put b (.cells (writeL cs off vs) d n es rroot own top)).put rroot (.cells rcs rd rn res rroot (b + 1) rtop) = A' at *
    have hget : ∀ b2, b2 ≠ b → b2 ≠ rroot → A'.get b2 = A.get b2 := fun b2 h1 h2 => by
      rw [← hA', get_put, if_neg (Ne.symm h2), get_put, if_neg (Ne.symm h1)]
    have hgetb : A'.get b = some (.cells (writeL cs off vs) d n es rroot own top) := by
      rw [← hA', get_put, if_neg hrb', get_put, if_pos rfl]
    have hgetr : A'.get rroot = some (.cells rcs rd rn res rroot (b + 1) rtop) := by rw [← hA', get_put, if_pos rfl]
    have hsize0 : A'.size = A.size := by rw [← hA']; rfl
    refine ⟨Ren.le_refl _, fun _ _ => rfl, Nat.le_of_eq hsize0.symm, hfrm, fun _ _ => .inl rfl, hloops, hroR, ?_⟩
    have hro' : ∀ b2 o2, A'.get b2 = some o2 → (famOf b2 o2 = P.globals.size ↔ o2.isRo = true) := fun b2 o2 h2 => by
      by_cases e : b2 = b
      · subst e; rw [hgetb] at h2; cases h2; have := S.ro _ _ hg; exact this
      · by_cases e' : b2 = rroot
        · subst e'; rw [hgetr] at h2; cases h2; have := S.ro _ _ hgr; exact this
        · rw [hget b2 e e'] at h2; exact S.ro _ _ h2
    have hfam : ∀ b2 o2, A'.get b2 = some o2 → ∃ o3, A.get b2 = some o3 ∧ famOf b2 o3 = famOf b2 o2 := by
      intro b2 o2 h2
      by_cases e : b2 = b
      · subst e; rw [hgetb] at h2; cases h2; exact ⟨_, hg, rfl⟩
      · by_cases e' : b2 = rroot
        · subst e'; rw [hgetr] at h2; cases h2; exact ⟨_, hgr, rfl⟩
        · rw [hget b2 e e'] at h2; exact ⟨o2, h2, rfl⟩
    have hfam' : ∀ b2 o3, A.get b2 = some o3 → ∃ o2, A'.get b2 = some o2 ∧ famOf b2 o2 = famOf b2 o3 := by
      intro b2 o3 h3
      by_cases e : b2 = b
      · subst e; rw [hg] at h3; cases h3; exact ⟨_, hgetb, rfl⟩
      · by_cases e' : b2 = rroot
        · subst e'; rw [hgr] at h3; cases h3; exact ⟨_, hgetr, rfl⟩
        · exact ⟨o3, by rw [hget b2 e e']; exact h3, rfl⟩
    have hown : ∀ r, r ≠ b → r ≠ rroot → A'.ownOf r = A.ownOf r := by
      intro r h1 h2
      unfold AState.ownOf
      rw [hget r h1 h2]
    have hownr : A'.ownOf rroot = some (b + 1) := by unfold AState.ownOf; rw [hgetr]
    have hsize : A'.size = A.size := by rw [← hA']; rfl
    refine ⟨fun b2 o2 h2 => ?_, fun b2 o2 h2 => ?_, ?_, ?_, hro', fun b2 hb => ?_, fun r f hf => ?_, S.glob, by rw [hsize]; exact S.globs⟩
    · by_cases e : b2 = b
      · subst e; rw [hgetb] at h2; cases h2
        exact ⟨i, hri, by rw [g2]; exact hlt, hterr, hnew _ _ _⟩
      · by_cases e' : b2 = rroot
        · subst e'
          rw [hgetr] at h2; cases h2
          obtain ⟨i2, a1, a2, a3, a4⟩ := S.obj _ _ hgr
          have hno : A'.isOpen b2 b2 (b + 1) = false := by rw [isOpen_root]; exact shutB (Ne.symm e)
          refine ⟨i2, a1, by rw [g2]; exact a2, a3, ?_⟩
          by_cases eb : i.blk = i2.blk
          · exact a4.shut (by rw [← eb]; exact ho) (by rw [← eb, g1, if_pos rfl]) hsl hno
          · cases a4 with
            | cells c2 el2 fz2 ho2 hroom2 hsz2 hes2 hin2 hfz2 hz2 hc2 =>
              exact .cells c2 el2 fz2 (by rw [world_eq_keep g1 eb]; exact ho2) hroom2 hsz2 hes2 hin2 hfz2 hz2 (fun hop => by rw [hno] at hop; cases hop)
        · rw [hget b2 e e'] at h2
          obtain ⟨i2, a1, a2, a3, a4⟩ := S.obj _ _ h2
          refine ⟨i2, a1, by rw [g2]; exact a2, a3, ?_⟩
          by_cases eb : i.blk = i2.blk
          · rw [← eb, hterr] at a3
            have hf : famOf b2 o2 = rroot := by simpa [famOf] using a3.symm
            cases o2 with
            | cells cs2 d2 n2 es2 root2 own2 top2 =>
              have : root2 = rroot := hf
              subst this
              refine a4.shut (by rw [← eb]; exact ho) (by rw [← eb, g1, if_pos rfl]) hsl ?_
              rw [isOpen_other _ _ (Ne.symm e'), hownr]
              exact shutB (Ne.symm e)
            | ro cs2 n2 root2 => exact absurd hf (S.roNot h2 hgr rfl rfl)
            | map es => exact absurd hf e'
            | strIter s p => exact absurd hf e'
            | loop l => exact absurd hf e'
          · refine a4.keep (world_eq_keep g1 eb) fun cs2 d2 n2 es2 root2 own2 top2 eo hop => ?_
            by_cases er : root2 = b2
            · subst er; rw [isOpen_root] at hop ⊢; exact hop
            · rw [isOpen_other _ _ er] at hop ⊢
              by_cases er2 : root2 = rroot
              · subst er2
                rw [hownr] at hop
                have := hop.symm.trans (shutB (Ne.symm e)); cases this
              · by_cases er3 : root2 = b
                · -- b is no first of a family
                  subst er3
                  subst eo
                  obtain ⟨o4, h4, e4⟩ := S.root _ _ h2
                  have h4' : A.get root2 = some o4 := h4
                  rw [hg] at h4'
                  cases h4'
                  exact absurd e4 hrb'
                · rw [hown _ er3 er2] at hop; exact hop
    · obtain ⟨o3, h3, e3⟩ := hfam _ _ h2
      obtain ⟨o4, h4, e4⟩ := S.root _ _ h3
      obtain ⟨o5, h5, e5⟩ := hfam' _ _ h4
      rw [e3] at h5 e4 e5
      exact ⟨o5, h5, e5.trans e4⟩
    · intro b2 cs2 d2 n2 es2 root2 own2 top2 h2 rcs2 rd2 rn2 res2 rtop2 hr
      by_cases er : root2 = rroot
      · subst er
        rw [hgetr] at hr
        cases hr
      · obtain ⟨o3, h3, e3⟩ := hfam _ _ h2
        have hb2 : b2 ≠ b := by
          intro e; subst e; rw [hgetb] at h2; cases h2; exact er rfl
        have hb3 : b2 ≠ rroot := by
          intro e; subst e; rw [hgetr] at h2; cases h2; exact er rfl
        rw [hget _ hb2 hb3] at h2
        have er3 : root2 ≠ b := by
          intro e; subst e
          obtain ⟨o4, h4, e4⟩ := S.root _ _ h2
          have h4' : A.get root2 = some o4 := h4
          rw [hg] at h4'
          cases h4'
          exact absurd e4 hrb'
        rw [hget _ er3 er] at hr
        obtain ⟨ot, i1, j1, k1, k2, k3, k4, k5⟩ := S.top _ _ _ _ _ _ _ _ h2 _ _ _ _ _ hr
        obtain ⟨o5, h5, e5⟩ := hfam' _ _ k1
        exact ⟨o5, i1, j1, h5, e5.trans k2, k3, k4, k5⟩
    · intro b2 o2 h2 cs2 d2 n2 es2 root2 own2 hr
      obtain ⟨o3, h3, e3⟩ := hfam _ _ h2
      rw [← e3] at hr ⊢
      by_cases er : famOf b2 o3 = rroot
      · rw [er] at hr ⊢
        rw [hgetr] at hr
        cases hr
        have := S.solo _ _ h3 _ _ _ _ _ _ (by rw [er]; exact hgr)
        rw [er] at this; exact this
      · by_cases er3 : famOf b2 o3 = b
        · obtain ⟨o4, h4, e4⟩ := S.root _ _ h3
          rw [er3, hg] at h4
          cases h4
          rw [er3] at e4
          exact absurd e4 hrb'
        · rw [hget _ er3 er] at hr
          exact S.solo _ _ h3 _ _ _ _ _ _ hr
    · rw [hsize] at hb
      have := S.fresh b2 hb
      rw [hget b2 (by intro e; subst e; rw [hg] at this; cases this) (by intro e; subst e; rw [hgr] at this; cases this)]; exact this
    · obtain ⟨o3, h3⟩ := S.terr r f hf
      obtain ⟨o5, h5, _⟩ := hfam' _ _ h3
      exact ⟨o5, h5⟩
end
end Go.Ag
namespace Go.Ag
def Ren.upd (ρ : Ren) (b : Nat) (i : BInfo) : Ren := fun c => if c = b then some i else ρ c
def tup (τ : Nat → Option Nat) (r f : Nat) : Nat → Option Nat := fun q => if q = r then some f else τ q
theorem Ren.upd_same (ρ : Ren) (b : Nat) (i : BInfo) : ρ.upd b i b = some i := by simp [Ren.upd]
theorem Ren.upd_other (ρ : Ren) {b c : Nat} (i : BInfo) (h : c ≠ b) : ρ.upd b i c = ρ c := by simp [Ren.upd, h]
theorem Ren.le_upd {ρ : Ren} {b : Nat} (i : BInfo) (h : ρ b = none) : ρ.le (ρ.upd b i) := fun c j hc => by
  rw [Ren.upd_other _ _ (by intro e; subst e; rw [h] at hc; cases hc)]; exact hc
theorem MRel.mono {ρ ρ' : Ren} (hle : ρ.le ρ') {es : List (Value × Value)} {es' : List MapEntry} (h : MRel ρ es es') : MRel ρ' es es' :=
  ⟨h.1.mono hle, h.2.mono hle⟩
theorem ORel.mono {ρ ρ' : Ren} (hle : ρ.le ρ') {A : AState} {w : World} {b : Nat} {i : BInfo} {o : AObj} (h : ORel ρ A w b i o) : ORel ρ' A w b i o := by
  cases h with
  | cells c el fz ho hroom hsz hes hin hfz h0 hc =>
    exact .cells c el fz ho hroom hsz hes hin hfz h0 (fun hop j hj => let ⟨v, v', a, b, c⟩ := hc hop j hj; ⟨v, v', a, b, c.mono hle⟩)
  | ro c el fz ho hroom hsz hin hc hes =>
    exact .ro c el fz ho hroom hsz hin (fun j hj => let ⟨v, v', a, b, c⟩ := hc j hj; ⟨v, v', a, b, c.mono hle⟩) hes
  | map es' clock ho hm hst => exact .map es' clock ho (hm.mono hle) hst
  | strIter ho h0 => exact .strIter ho h0
  | loop R ho hs hp he hps ha' hb => exact .loop R ho hs hp (he.mono hle) hps ha' hb
def newShape (b : Nat) : AObj → Prop
  | .cells _ _ _ _ root own top => root = b ∧ own = 0 ∧ top = b
  | .ro _ _ _ => False
  | _ => True
theorem newShape.fam {b : Nat} {o : AObj} (h : newShape b o) : famOf b o = b := by
  cases o <;> simp_all [newShape, famOf]
theorem newShape.ro {b g : Nat} {o : AObj} (h : newShape b o) (hb : g < b) : famOf b o = g ↔ o.isRo = true := by
  rw [h.fam]
  cases o <;> simp_all [newShape, AObj.isRo] <;> omega
section
variable {P : Program} {ρ : Ren} {τ : Nat → Option Nat} {A A' : AState} {w w' : World}
theorem heap_push {ob : Obj} (hh : w'.heap = w.heap.push ob) (r : Nat) : w'.heap[r]? = if r = w.heap.size then some ob else w.heap[r]? := by
  rw [hh, Array.getElem?_push]
theorem Sim.push (S : Sim P ρ τ A w) {o : AObj} {ob : Obj} {i : BInfo} (hh : w'.heap = w.heap.push ob) (hos : w'.os = w.os) (hout : w'.output = w.output) (htape : w'.tape = w.tape)
    (hi : i.blk = w.heap.size) (hn : newShape A.size o) (hfree : ρ A.size = none)
    (hr : ORel (ρ.upd A.size i) (A.push o) w' A.size i o) : Ext P ρ τ A w (ρ.upd A.size i) (tup τ w.heap.size A.size) (A.push o) w' := by
  have hle := Ren.le_upd i hfree
  have hold : ∀ b o2, A.get b = some o2 → b ≠ A.size ∧ b < A.size := by
    intro b o2 h
    have : b < A.size := by
      rcases Nat.lt_or_ge b A.size with h1 | h1
      · exact h1
      · rw [S.fresh b h1] at h; cases h
    exact ⟨by omega, this⟩
  have hget : ∀ b, b ≠ A.size → (A.push o).get b = A.get b := fun b hb => by rw [get_push, if_neg (Ne.symm hb)]
  have hgets : (A.push o).get A.size = some o := by rw [get_push, if_pos rfl]
  have hfam := hn.fam
  have hget' : ∀ b o2, A.get b = some o2 → (A.push o).get b = some o2 := fun b o2 h => by rw [hget b (hold b o2 h).1]; exact h
  refine ⟨hle, fun b hb => ?_, by simp [size_push], ⟨by rw [hh]; simp, fun r hr ht => by rw [heap_push hh, if_neg (by omega)], hos, hout, htape⟩, fun r hr => .inl (by unfold tup; rw [if_neg (by omega)]), fun r R hR => ⟨R, by rw [heap_push hh, if_neg (by have := (Array.getElem?_eq_some_iff.1 hR).1; omega)]; exact hR⟩, fun r hr _ => by rw [heap_push hh, if_neg (by omega)], ?_⟩
  · rw [size_push] at hb; exact Ren.upd_other _ _ (by omega)
  have hro' : ∀ b o2, (A.push o).get b = some o2 → (famOf b o2 = P.globals.size ↔ o2.isRo = true) := fun b o2 h2 => by
    by_cases e : b = A.size
    · subst e; rw [hgets] at h2; cases h2
      exact hn.ro S.globs
    · rw [hget b e] at h2
      exact S.ro _ _ h2
  refine ⟨fun b o2 h2 => ?_, fun b o2 h2 => ?_, ?_, ?_, hro', fun b hb => ?_, fun r f hf => ?_, fun g hg => ?_, Nat.lt_of_lt_of_le S.globs (by simp [size_push])⟩
  · by_cases e : b = A.size
    · subst e; rw [hgets] at h2; cases h2
      exact ⟨i, Ren.upd_same _ _ _, by rw [hh]; simp; omega, by unfold tup; rw [if_pos hi, hfam], hr⟩
    · rw [hget b e] at h2
      obtain ⟨i2, a1, a2, a3, a4⟩ := S.obj _ _ h2
      refine ⟨i2, by rw [Ren.upd_other _ _ e]; exact a1, by rw [hh]; simp; omega, by unfold tup; rw [if_neg (by omega)]; exact a3, ?_⟩
      refine (a4.mono hle).keep (by rw [heap_push hh, if_neg (by omega)]) fun cs2 d2 n2 es2 root2 own2 top2 eo hop => ?_
      by_cases er : root2 = b
      · subst er; rw [isOpen_root] at hop ⊢; exact hop
      · rw [isOpen_other _ _ er] at hop ⊢
        subst eo
        obtain ⟨o4, h4, _⟩ := S.root _ _ h2
        have hne : root2 ≠ A.size := (hold root2 o4 h4).1
        have : (A.push o).ownOf root2 = A.ownOf root2 := by unfold AState.ownOf; rw [hget _ hne]
        rw [this] at hop; exact hop
  · by_cases e : b = A.size
    · subst e; rw [hgets] at h2; cases h2
      exact ⟨_, by rw [hfam]; exact hgets, by rw [hfam, hfam]⟩
    · rw [hget b e] at h2
      obtain ⟨o4, h4, e4⟩ := S.root _ _ h2
      exact ⟨o4, hget' _ _ h4, e4⟩
  · intro b cs d n es root own top h2 rcs rd rn res rtop hro
    by_cases e : b = A.size
    · subst e; rw [hgets] at h2; cases h2
      obtain ⟨rfl, rfl, rfl⟩ := hn
      rw [hgets] at hro
      cases hro
      exact ⟨_, i, i, hgets, rfl, Ren.upd_same _ _ _, Ren.upd_same _ _ _, fun _ => Nat.le_refl _⟩
    · rw [hget b e] at h2
      obtain ⟨o4, h4, e4⟩ := S.root _ _ h2
      have hne : root ≠ A.size := (hold _ o4 h4).1
      rw [hget _ hne] at hro
      obtain ⟨ot, i1, j1, k1, k2, k3, k4, k5⟩ := S.top _ _ _ _ _ _ _ _ h2 _ _ _ _ _ hro
      exact ⟨ot, i1, j1, hget' _ _ k1, k2, hle _ _ k3, hle _ _ k4, k5⟩
  · intro b o2 h2 cs d n es root own hro
    by_cases e : b = A.size
    · subst e; rw [hgets] at h2; cases h2; exact hfam.symm
    · rw [hget b e] at h2
      obtain ⟨o4, h4, e4⟩ := S.root _ _ h2
      rw [hget _ (hold _ o4 h4).1] at hro
      exact S.solo _ _ h2 _ _ _ _ _ _ hro
  · rw [size_push] at hb
    rw [hget b (by omega)]; exact S.fresh b (by omega)
  · unfold tup at hf
    split at hf
    · cases hf; exact ⟨_, hgets⟩
    · obtain ⟨o3, h3⟩ := S.terr r f hf
      exact ⟨o3, hget' _ _ h3⟩
  · obtain ⟨j, h1, h2, h3⟩ := S.glob g hg
    exact ⟨j, hle _ _ h1, h2, h3⟩
theorem Sim.fresh' (S : Sim P ρ τ A w) {cs : Tr Value} {d : List Value} {n es : Nat} {c : Array Value} {el : TypeId} {fz : Nat × Nat} (hh : w'.heap = w.heap.push (.cells c el fz)) (hfz : Thawed fz c.size) (hos : w'.os = w.os) (hout : w'.output = w.output)
    (htape : w'.tape = w.tape) (hfree : ρ A.size = none) (hn : n ≤ c.size)
    (hc : ∀ j, j < n → ∃ v v', cellAt cs d j = some v ∧ c[j]? = some v' ∧ VRel ρ v v') :
    Ext P ρ τ A w (ρ.upd A.size ⟨w.heap.size, 0, c.size, es, n⟩) (tup τ w.heap.size A.size) (A.fresh cs d n es) w' := by
  refine S.push hh hos hout htape rfl ⟨rfl, rfl, rfl⟩ hfree ?_
  refine .cells c el fz (by rw [heap_push hh, if_pos rfl]) rfl rfl rfl (by simp; exact hn) hfz (fun _ => rfl) (fun _ j hj => ?_)
  obtain ⟨v, v', a, b, r⟩ := hc j hj
  exact ⟨v, v', a, by simpa using b, r.mono (Ren.le_upd _ hfree)⟩
theorem Sim.putObj (S : Sim P ρ τ A w) {b : Nat} {o o' : AObj} {ob : Obj} {i : BInfo} (hg : A.get b = some o) (hi : ρ b = some i) (hh : w'.heap = w.heap.setIfInBounds i.blk ob) (hos : w'.os = w.os) (hout : w'.output = w.output)
    (htape : w'.tape = w.tape) (ho : ∀ cs d n es root own top, o ≠ .cells cs d n es root own top) (ho' : ∀ cs d n es root own top, o' ≠ .cells cs d n es root own top)
    (hno : ∀ cs n root, o ≠ .ro cs n root) (hno' : ∀ cs n root, o' ≠ .ro cs n root)
    (hk : ∀ R, w.heap[i.blk]? = some (Obj.loop R) → ∃ R', ob = Obj.loop R')
    (hr : ORel ρ (A.put b o') w' b i o') : Ext P ρ τ A w ρ τ (A.put b o') w' := by
  obtain ⟨i', h1, h2, h3, h4⟩ := S.obj _ _ hg
  rw [hi] at h1
  cases h1
  have hf : famOf b o = b := by cases o <;> first | rfl | exact absurd rfl (ho _ _ _ _ _ _ _) | exact absurd rfl (hno _ _ _)
  have hf' : famOf b o' = b := by cases o' <;> first | rfl | exact absurd rfl (ho' _ _ _ _ _ _ _) | exact absurd rfl (hno' _ _ _)
  have hget : ∀ b2, b2 ≠ b → (A.put b o').get b2 = A.get b2 := fun b2 hb => by rw [get_put, if_neg (Ne.symm hb)]
  have hgetb : (A.put b o').get b = some o' := by rw [get_put, if_pos rfl]
  have hheap : ∀ r, r ≠ i.blk → w'.heap[r]? = w.heap[r]? := fun r hr => by rw [hh, Array.getElem?_setIfInBounds, if_neg (Ne.symm hr)]
  have hfam : ∀ b2 o2, (A.put b o').get b2 = some o2 → ∃ o3, A.get b2 = some o3 ∧ famOf b2 o3 = famOf b2 o2 := by
    intro b2 o2 h2
    by_cases e : b2 = b
    · subst e; rw [hgetb] at h2; cases h2; exact ⟨_, hg, by rw [hf, hf']⟩
    · rw [hget b2 e] at h2; exact ⟨o2, h2, rfl⟩
  have hfam' : ∀ b2 o3, A.get b2 = some o3 → ∃ o2, (A.put b o').get b2 = some o2 ∧ famOf b2 o2 = famOf b2 o3 := by
    intro b2 o3 q3
    by_cases e : b2 = b
    · subst e; rw [hg] at q3; cases q3; exact ⟨_, hgetb, by rw [hf, hf']⟩
    · exact ⟨o3, by rw [hget b2 e]; exact q3, rfl⟩
  have hcell : ∀ b2 cs d n es root own top, A.get b2 = some (.cells cs d n es root own top) → (A.put b o').get b2 = some (.cells cs d n es root own top) := by
    intro b2 cs d n es root own top h
    rw [hget b2 (by intro e; subst e; rw [hg] at h; cases h; exact ho _ _ _ _ _ _ _ rfl)]; exact h
  have hcell' : ∀ b2 cs d n es root own top, (A.put b o').get b2 = some (.cells cs d n es root own top) → A.get b2 = some (.cells cs d n es root own top) := by
    intro b2 cs d n es root own top h
    rw [hget b2 (by intro e; subst e; rw [hgetb] at h; cases h; exact ho' _ _ _ _ _ _ _ rfl)] at h; exact h
  have hir : o.isRo = false := by cases o <;> first | rfl | exact absurd rfl (hno _ _ _)
  have hir' : o'.isRo = false := by cases o' <;> first | rfl | exact absurd rfl (hno' _ _ _)
  have hro' : ∀ b2 o2, (A.put b o').get b2 = some o2 → (famOf b2 o2 = P.globals.size ↔ o2.isRo = true) := by
    intro b2 o2 h
    by_cases e : b2 = b
    · subst e; rw [hgetb] at h; cases h
      have := S.ro _ _ hg
      rw [hf, hir] at this
      rw [hf', hir']; exact this
    · rw [hget b2 e] at h; exact S.ro _ _ h
  have hown : ∀ r, (A.put b o').ownOf r = A.ownOf r := by
    intro r
    by_cases e : r = b
    · subst e; unfold AState.ownOf; rw [hgetb, hg]
      cases o <;> cases o' <;> first | rfl | exact absurd rfl (ho _ _ _ _ _ _ _) | exact absurd rfl (ho' _ _ _ _ _ _ _)
    · unfold AState.ownOf; rw [hget r e]
  refine ⟨Ren.le_refl _, fun _ _ => rfl, Nat.le_refl _, ⟨by rw [hh]; simp, fun r hr ht => hheap r (by intro e; subst e; rw [h3] at ht; cases ht), hos, hout, htape⟩, fun _ _ => .inl rfl, fun r R hR => ?_, fun r hr ht => hheap r (by
      intro e; subst e
      rw [h3] at ht
      have := (S.ro _ _ hg).1 (Option.some.inj ht)
      rw [hir] at this; cases this), ?_⟩
  · by_cases e : r = i.blk
    · subst e
      obtain ⟨R', rfl⟩ := hk R hR
      exact ⟨R', by rw [hh]; simp [h2]⟩
    · exact ⟨R, by rw [hheap r e]; exact hR⟩
  refine ⟨fun b2 o2 g2 => ?_, fun b2 o2 g2 => ?_, ?_, ?_, hro', fun b2 hb => ?_, fun r f hf => ?_, S.glob, S.globs⟩
  · by_cases e : b2 = b
    · subst e; rw [hgetb] at g2; cases g2
      exact ⟨i, hi, by rw [hh]; simpa using h2, by rw [h3, hf, hf'], hr⟩
    · rw [hget b2 e] at g2
      obtain ⟨i2, a1, a2, a3, a4⟩ := S.obj _ _ g2
      have hne : i2.blk ≠ i.blk := by
        intro eb
        rw [eb, h3, hf] at a3
        have hfe : famOf b2 o2 = b := by simpa using a3.symm
        cases o2 with
        | cells cs2 d2 n2 es2 root2 own2 top2 =>
          have : root2 = b := hfe
          subst this
          obtain ⟨o4, k1, k2⟩ := S.root _ _ g2
          rw [show famOf b2 (AObj.cells cs2 d2 n2 es2 root2 own2 top2) = root2 from rfl, hg] at k1
          -- the first of a family of cells: only cells have another family than themselves, but the first need not be cells; it is b
          cases a4 with
          | cells c el fz ho2 _ _ _ _ _ _ _ =>
            rw [eb] at ho2
            cases h4 with
            | cells => exact ho _ _ _ _ _ _ _ rfl
            | ro => exact hno _ _ _ rfl
            | map es' clock h5 _ => rw [h5] at ho2; cases ho2
            | strIter h5 _ => rw [h5] at ho2; cases ho2
            | loop R h5 => rw [h5] at ho2; cases ho2
        | ro cs2 n2 root2 => exact absurd (hfe.trans hf.symm) (S.roNot g2 hg rfl hir)
        | map es => exact e hfe
        | strIter s p => exact e hfe
        | loop l => exact e hfe
      refine ⟨i2, a1, by rw [hh]; simpa using a2, a3, a4.keep (hheap _ hne) fun cs2 d2 n2 es2 root2 own2 top2 eo hop => ?_⟩
      by_cases er : root2 = b2
      · subst er; rw [isOpen_root] at hop ⊢; exact hop
      · rw [isOpen_other _ _ er] at hop ⊢; rw [hown] at hop; exact hop
  · obtain ⟨o3, g3, e3⟩ := hfam _ _ g2
    obtain ⟨o4, g4, e4⟩ := S.root _ _ g3
    obtain ⟨o5, g5, e5⟩ := hfam' _ _ g4
    rw [e3] at g5 e4 e5
    exact ⟨o5, g5, e5.trans e4⟩
  · intro b2 cs d n es root own top g2 rcs rd rn res rtop hro
    obtain ⟨ot, i1, j1, k1, k2, k3, k4, k5⟩ := S.top _ _ _ _ _ _ _ _ (hcell' _ _ _ _ _ _ _ _ g2) _ _ _ _ _ (hcell' _ _ _ _ _ _ _ _ hro)
    obtain ⟨o5, g5, e5⟩ := hfam' _ _ k1
    exact ⟨o5, i1, j1, g5, e5.trans k2, k3, k4, k5⟩
  · intro b2 o2 g2 cs d n es root own hro
    obtain ⟨o3, g3, e3⟩ := hfam _ _ g2
    rw [← e3] at hro ⊢
    exact S.solo _ _ g3 _ _ _ _ _ _ (hcell' _ _ _ _ _ _ _ _ hro)
  · have := S.fresh b2 hb
    rw [hget b2 (by intro e; subst e; rw [hg] at this; cases this)]; exact this
  · obtain ⟨o3, g3⟩ := S.terr r f hf
    obtain ⟨o5, g5, _⟩ := hfam' _ _ g3
    exact ⟨o5, g5⟩
end
end Go.Ag
namespace Go.Ag
section
variable {P : Program} {ρ : Ren} {τ : Nat → Option Nat} {A A' : AState} {w w' : World}
theorem Sim.grow (S : Sim P ρ τ A w) {root rown rtop rn res : Nat} {rcs : Tr Value} {rd : List Value} (hgr : A.get root = some (.cells rcs rd rn res root rown rtop))
    {keep : Bool} (hkeep : keep = true → rown = 0) {ncs : Tr Value} {n es : Nat} {j : BInfo} (hfree : ρ A.size = none) (hjs : j.sz = n) (hje : j.es = es) (hes0 : es = 0 → j.off = 0)
    (hA' : A' = (A.put root (.cells rcs rd rn res root (if keep then rown else A.size + 1) A.size)).push (.cells ncs [] n es root 0 0))
    (hfrm : Frm τ w w') (hj : j.blk < w'.heap.size) (hjt : j.blk < w.heap.size → τ j.blk = some root)
    {c0 : Array Value} {el0 : TypeId} {fz0 : Nat × Nat} (hcells0 : j.blk < w.heap.size → w.heap[j.blk]? = some (.cells c0 el0 fz0))
    (hheap : ∀ r, r < w.heap.size → r ≠ j.blk → w'.heap[r]? = w.heap[r]?)
    {c2 : Array Value} {el2 : TypeId} {fz2 : Nat × Nat} (hrow2 : w'.heap[j.blk]? = some (.cells c2 el2 fz2)) (hroom : c2.size = j.room) (hthaw : Thawed fz2 j.room) (hfit : j.off + n ≤ j.room)
    (hc : ∀ q, q < n → ∃ v v', cellAt ncs [] q = some v ∧ c2[j.off + q]? = some v' ∧ VRel ρ v v')
    {E : Nat} (hE : E ≤ j.off + n)
    (hold : keep = true → ∀ b2 o2 i2, A.get b2 = some o2 → famOf b2 o2 = root → ρ b2 = some i2 → i2.blk = j.blk → i2.off + i2.sz ≤ E)
    (hrow : ∀ c el fz, w.heap[j.blk]? = some (.cells c el fz) → c2.size = c.size ∧ el2 = el ∧ fz2 = fz ∧ ∀ q, q < E → c2[q]? = c[q]?) :
    Ext P ρ τ A w (ρ.upd A.size j) (tup τ j.blk root) A' w' := by
  have hloops : ∀ (r : Nat) (R : Loop), w.heap[r]? = some (Obj.loop R) → ∃ R' : Loop, w'.heap[r]? = some (Obj.loop R') := fun r R hR => by
    by_cases e : r = j.blk
    · subst e
      have hlt := (Array.getElem?_eq_some_iff.1 hR).1
      exact absurd hR (by rw [hcells0 hlt]; simp)
    · exact ⟨R, by rw [hheap r (Array.getElem?_eq_some_iff.1 hR).1 e]; exact hR⟩
  have hle := Ren.le_upd j hfree
  have hlt : ∀ b o2, A.get b = some o2 → b < A.size := by
    intro b o2 h
    rcases Nat.lt_or_ge b A.size with h1 | h1
    · exact h1
    · rw [S.fresh b h1] at h; cases h
  have hrlt := hlt _ _ hgr
  have hget : ∀ b, b ≠ A.size → b ≠ root → A'.get b = A.get b := fun b h1 h2 => by
    rw [hA', get_push, size_put, if_neg (Ne.symm h1), get_put, if_neg (Ne.symm h2)]
  have hgetr : A'.get root = some (.cells rcs rd rn res root (if keep then rown else A.size + 1) A.size) := by
    rw [hA', get_push, size_put, if_neg (by omega), get_put, if_pos rfl]
  have hgetn : A'.get A.size = some (.cells ncs [] n es root 0 0) := by rw [hA', get_push, size_put, if_pos rfl]
  have hsize : A'.size = A.size + 1 := by rw [hA']; rfl
  have hfam' : ∀ b2 o3, A.get b2 = some o3 → ∃ o2, A'.get b2 = some o2 ∧ famOf b2 o2 = famOf b2 o3 := by
    intro b2 o3 h3
    by_cases e : b2 = root
    · subst e; rw [hgr] at h3; cases h3; exact ⟨_, hgetr, rfl⟩
    · exact ⟨o3, by rw [hget b2 (by have := hlt _ _ h3; omega) e]; exact h3, rfl⟩
  have hfam : ∀ b2 o2, b2 ≠ A.size → A'.get b2 = some o2 → ∃ o3, A.get b2 = some o3 ∧ famOf b2 o3 = famOf b2 o2 := by
    intro b2 o2 hn h2
    by_cases e : b2 = root
    · subst e; rw [hgetr] at h2; cases h2; exact ⟨_, hgr, rfl⟩
    · rw [hget b2 hn e] at h2; exact ⟨o2, h2, rfl⟩
  have hownr : A'.ownOf root = some (if keep then rown else A.size + 1) := by unfold AState.ownOf; rw [hgetr]
  have hown : ∀ r, r ≠ A.size → r ≠ root → A'.ownOf r = A.ownOf r := by
    intro r h1 h2; unfold AState.ownOf; rw [hget r h1 h2]
  have hownA : A.ownOf root = some rown := by unfold AState.ownOf; rw [hgr]
  -- the old blocks of the family
  have hfamily : ∀ (b2 : Nat) (i2 : BInfo) (cs2 cs3 : Tr Value) (d2 : List Value) (n2 es2 own2 own3 top2 top3 : Nat), b2 ≠ A.size → A.get b2 = some (.cells cs2 d2 n2 es2 root own2 top2) → ρ b2 = some i2 → i2.blk < w.heap.size →
      ORel ρ A w b2 i2 (.cells cs2 d2 n2 es2 root own2 top2) → cs3 = cs2 → (keep = true → A.isOpen b2 root own2 = true) → (keep = false → A'.isOpen b2 root own3 = false) →
      ORel (ρ.upd A.size j) A' w' b2 i2 (.cells cs3 d2 n2 es2 root own3 top3) := by
    intro b2 i2 cs2 cs3 d2 n2 es2 own2 own3 top2 top3 hne hg2 hr2 hl2 hor e3 hk1 hk2
    subst e3
    cases hor with
    | cells c el fz ho hroom2 hsz hes hin hfz h0 hcc =>
      by_cases eb : i2.blk = j.blk
      · rw [eb] at ho
        obtain ⟨q1, q2, q3, q4⟩ := hrow _ _ _ ho
        subst q2 q3
        refine .cells c2 el2 fz2 (by rw [eb]; exact hrow2) (by rw [q1]; exact hroom2) hsz hes hin hfz h0 (fun hop q hq => ?_)
        cases hkk : keep with
        | false => rw [hk2 hkk] at hop; cases hop
        | true =>
          obtain ⟨v, v', a1, a2, a3⟩ := hcc (hk1 hkk) q hq
          have := hold hkk _ _ _ hg2 rfl hr2 eb
          exact ⟨v, v', a1, by rw [q4 _ (by omega)]; exact a2, a3.mono hle⟩
      · refine .cells c el fz (by rw [hheap _ hl2 eb]; exact ho) hroom2 hsz hes hin hfz h0 (fun hop q hq => ?_)
        cases hkk : keep with
        | false => rw [hk2 hkk] at hop; cases hop
        | true =>
          obtain ⟨v, v', a1, a2, a3⟩ := hcc (hk1 hkk) q hq
          exact ⟨v, v', a1, a2, a3.mono hle⟩
  have hro' : ∀ b2 o2, A'.get b2 = some o2 → (famOf b2 o2 = P.globals.size ↔ o2.isRo = true) := fun b2 o2 h2 => by
    by_cases e : b2 = A.size
    · subst e; rw [hgetn] at h2; cases h2; have := S.ro _ _ hgr; exact this
    · by_cases e' : b2 = root
      · subst e'; rw [hgetr] at h2; cases h2; have := S.ro _ _ hgr; exact this
      · rw [hget b2 e e'] at h2; exact S.ro _ _ h2
  have hroR : ∀ r, r < w.heap.size → τ r = some P.globals.size → w'.heap[r]? = w.heap[r]? := fun r hr ht => hheap r hr (by
    intro e; subst e
    rw [hjt hr] at ht
    have := (S.ro _ _ hgr).1 (Option.some.inj ht)
    cases this)
  refine ⟨hle, fun b hb => Ren.upd_other _ _ (by rw [hsize] at hb; omega), by rw [hsize]; omega, hfrm, fun r hr => .inl ?_, hloops, hroR, ?_⟩
  · unfold tup; split
    · rename_i e; subst e; exact (hjt hr).symm
    · rfl
  refine ⟨fun b2 o2 h2 => ?_, fun b2 o2 h2 => ?_, ?_, ?_, hro', fun b2 hb => ?_, fun r f hf => ?_, fun g hg => ?_, by rw [hsize]; exact Nat.lt_of_lt_of_le S.globs (by omega)⟩
  · by_cases e : b2 = A.size
    · subst e; rw [hgetn] at h2; cases h2
      refine ⟨j, Ren.upd_same _ _ _, hj, by unfold tup; rw [if_pos rfl]; rfl, ?_⟩
      exact .cells c2 el2 fz2 hrow2 hroom hjs hje hfit hthaw hes0 (fun _ q hq => by
        obtain ⟨v, v', a1, a2, a3⟩ := hc q hq
        exact ⟨v, v', a1, a2, a3.mono hle⟩)
    · by_cases er : b2 = root
      · subst er; rw [hgetr] at h2; cases h2
        obtain ⟨i2, a1, a2, a3, a4⟩ := S.obj _ _ hgr
        refine ⟨i2, by rw [Ren.upd_other _ _ e]; exact a1, Nat.lt_of_lt_of_le a2 hfrm.size, ?_, ?_⟩
        · unfold tup; split
          · rfl
          · exact a3
        · refine hfamily b2 i2 rcs rcs rd rn res rown _ rtop A.size e hgr a1 a2 a4 rfl (fun hk => ?_) (fun hk => ?_)
          · rw [isOpen_root, hkeep hk]; rfl
          · rw [isOpen_root, hk]; exact shutB (by omega)
      · rw [hget b2 e er] at h2
        obtain ⟨i2, a1, a2, a3, a4⟩ := S.obj _ _ h2
        refine ⟨i2, by rw [Ren.upd_other _ _ e]; exact a1, Nat.lt_of_lt_of_le a2 hfrm.size, ?_, ?_⟩
        · unfold tup; split
          · rename_i eb
            rw [← hjt (by omega), ← eb]; exact a3
          · exact a3
        · by_cases ef : famOf b2 o2 = root
          · cases o2 with
            | cells cs2 d2 n2 es2 root2 own2 top2 =>
              have : root2 = root := ef
              subst this
              refine hfamily b2 i2 cs2 cs2 d2 n2 es2 own2 own2 top2 top2 e h2 a1 a2 a4 rfl (fun hk => ?_) (fun hk => ?_)
              · rw [isOpen_other _ _ (Ne.symm er), hownA, hkeep hk]; rfl
              · rw [isOpen_other _ _ (Ne.symm er), hownr, hk]; exact shutB (Ne.symm e)
            | ro cs2 n2 root2 => exact absurd ef (S.roNot h2 hgr rfl rfl)
            | map es => exact absurd ef er
            | strIter s p => exact absurd ef er
            | loop l => exact absurd ef er
          · have eb : i2.blk ≠ j.blk := by
              intro eb
              rw [eb, hjt (by omega)] at a3
              exact ef (by simpa using a3.symm)
            refine (a4.mono hle).keep (hheap _ a2 eb) fun cs2 d2 n2 es2 root2 own2 top2 eo hop => ?_
            by_cases er2 : root2 = b2
            · subst er2; rw [isOpen_root] at hop ⊢; exact hop
            · rw [isOpen_other _ _ er2] at hop ⊢
              subst eo
              obtain ⟨o4, k1, _⟩ := S.root _ _ h2
              rw [hown root2 (by have := hlt _ _ k1; exact Nat.ne_of_lt this) ef] at hop
              exact hop
  · by_cases e : b2 = A.size
    · subst e; rw [hgetn] at h2; cases h2
      exact ⟨_, hgetr, rfl⟩
    · obtain ⟨o3, h3, e3⟩ := hfam _ _ e h2
      obtain ⟨o4, h4, e4⟩ := S.root _ _ h3
      obtain ⟨o5, h5, e5⟩ := hfam' _ _ h4
      rw [e3] at h5 e4 e5
      exact ⟨o5, h5, e5.trans e4⟩
  · intro b2 cs d nn ees root2 own top h2 rcs2 rd2 rn2 res2 rtop2 hro
    by_cases er : root2 = root
    · subst er
      rw [hgetr] at hro
      injection hro with hro
      injection hro with _ _ _ _ _ hz htop
      subst htop
      have hk : keep = true := by
        cases keep with
        | true => rfl
        | false => simp at hz
      by_cases e : b2 = A.size
      · subst e
        exact ⟨_, j, j, hgetn, rfl, Ren.upd_same _ _ _, Ren.upd_same _ _ _, fun _ => Nat.le_refl _⟩
      · obtain ⟨o3, h3, e3⟩ := hfam _ _ e h2
        obtain ⟨i2, a1, a2, a3, a4⟩ := S.obj _ _ h3
        refine ⟨_, i2, j, hgetn, rfl, hle _ _ a1, Ren.upd_same _ _ _, fun eb => ?_⟩
        have := hold hk b2 o3 i2 h3 e3 a1 eb
        omega
    · by_cases e : b2 = A.size
      · subst e; rw [hgetn] at h2; cases h2; exact absurd rfl er
      · have hb2r : b2 ≠ root := by intro e'; subst e'; rw [hgetr] at h2; cases h2; exact er rfl
        rw [hget b2 e hb2r] at h2
        obtain ⟨o4, h4, e4⟩ := S.root _ _ h2
        have hr2 : root2 ≠ A.size := by have := hlt _ _ h4; exact Nat.ne_of_lt this
        rw [hget _ hr2 er] at hro
        obtain ⟨ot, i1, j1, k1, k2, k3, k4, k5⟩ := S.top _ _ _ _ _ _ _ _ h2 _ _ _ _ _ hro
        obtain ⟨o5, g5, e5⟩ := hfam' _ _ k1
        exact ⟨o5, i1, j1, g5, e5.trans k2, hle _ _ k3, hle _ _ k4, k5⟩
  · intro b2 o2 h2 cs d nn ees root2 own hro
    by_cases e : b2 = A.size
    · subst e; rw [hgetn] at h2; cases h2
      have h5 : A'.get root = some (.cells cs d nn ees root2 own root) := hro
      rw [hgetr] at h5; injection h5 with h5; injection h5 with _ _ _ _ _ _ h6
    · obtain ⟨o3, h3, e3⟩ := hfam _ _ e h2
      rw [← e3] at hro ⊢
      obtain ⟨o4, h4, e4⟩ := S.root _ _ h3
      by_cases er : famOf b2 o3 = root
      · rw [er] at hro ⊢
        rw [hgetr] at hro
        injection hro with hro
        injection hro with _ _ _ _ _ _ h6
        omega
      · rw [hget _ (by have := hlt _ _ h4; omega) er] at hro
        exact S.solo _ _ h3 _ _ _ _ _ _ hro
  · rw [hsize] at hb
    rw [hget b2 (by omega) (by omega)]; exact S.fresh b2 (by omega)
  · unfold tup at hf
    split at hf
    · cases hf; exact ⟨_, hgetr⟩
    · obtain ⟨o3, h3⟩ := S.terr r f hf
      obtain ⟨o5, h5, _⟩ := hfam' _ _ h3
      exact ⟨o5, h5⟩
  · obtain ⟨i2, h1, h2, h3⟩ := S.glob g hg
    exact ⟨i2, hle _ _ h1, h2, h3⟩
end
end Go.Ag
namespace Go.Ag
section
variable {P : Program} {ρ : Ren} {τ : Nat → Option Nat} {A : AState} {w : World}
theorem pureRun_some {s : Sem Value} {v : Value} (h : pureRun s = some v) : s = .pure v := by
  unfold pureRun at h
  split at h
  · cases h; rfl
  · cases h
theorem run_info {t : TypeId} {i : TypeInfo} (h : P.info? t = some i) (w : World) : (typeInfo t).run P w = .ok i w := by
  simp [typeInfo, h]
theorem run_size {t : TypeId} {i : TypeInfo} (h : P.info? t = some i) (w : World) : (sizeOf t).run P w = .ok i.size w := by
  simp [sizeOf, run_info h]
theorem run_isAgg {t : TypeId} {d : TypeDesc} (h : P.underlying t = some d) (w : World) : (isAgg t).run P w = .ok (isAggD d) w := by
  unfold isAgg
  rw [Sem.run_bind, run_underlying h]
  cases d <;> rfl
theorem run_zero {t : TypeId} {i : TypeInfo} {z : Value} (h : P.info? t = some i) (hz : i.zero = some z) (w : World) : (zeroValue t).run P w = .ok z w := by
  simp [zeroValue, run_info h, hz]
theorem partA_run {t : TypeId} {cs : List Value} {cs' : Array Value} {off : Nat} {v : Value} (h : partA P t cs off = some v) (hr : VRels ρ cs cs'.toList) (w : World) :
    ∃ v', (part t cs' off).run P w = .ok v' w ∧ VRel ρ v v' := by
  unfold partA at h
  simp only [Option.bind_eq_some_iff] at h
  obtain ⟨u, hu, i, hi, h⟩ := h
  split at h
  · rename_i ha
    split at h
    · rename_i hle
      simp at h; subst h
      refine ⟨.agg (cs'.extract off (off + i.size)), ?_, .agg ?_⟩
      · simp only [part, Sem.run_bind, run_isAgg hu, Result.andThen_ok, ha, if_true, run_size hi, Sem.run_pure]
      · simp only [Array.toList_extract, List.extract_eq_take_drop, Nat.add_sub_cancel_left]
        exact (hr.drop off).take i.size
    · cases h
  · rename_i ha
    obtain ⟨y, hy, hrel⟩ := hr.get h
    refine ⟨y, ?_, hrel⟩
    have hy' : cs'[off]? = some y := by rw [← hy]; simp
    simp only [part, Sem.run_bind, run_isAgg hu, Result.andThen_ok, ha, Bool.false_eq_true, if_false, hy', Sem.run_pure]
set_option maxHeartbeats 2000000 in
theorem aeq_run : ∀ (d : Nat) {t : TypeId} {x y x' y' : Value} {r : Bool}, aeq P d t x y = some r → VRel ρ x x' → VRel ρ y y' → ∀ w, (Op.equalIn d t x' y').run P w = .ok r w := by
  intro d
  induction d with
  | zero => intro t x y x' y' r h; simp [aeq] at h
  | succ d ih =>
    intro t x y x' y' r h hx hy w
    simp only [aeq, Option.bind_eq_some_iff] at h
    obtain ⟨u, hu, h⟩ := h
    have hur := run_underlying hu
    split at h
    · cases hx; cases hy; cases h; simp [Op.equalIn, hur]
    · cases hx; cases hy
      split at h
      · rename_i e; subst e; cases h; simp [Op.equalIn, hur]
      · cases h
    · cases hx; cases hy; cases h; simp [Op.equalIn, hur]
    · cases hx; cases hy <;> (cases h; simp [Op.equalIn, hur])
    · cases hx; cases hy; cases h; simp [Op.equalIn, hur]
    · cases hx; cases hy; cases h; simp [Op.equalIn, hur]
    · cases hx; cases hy; cases h; simp [Op.equalIn, hur]
    · cases hx; cases hy; cases h; simp [Op.equalIn, hur]
    · rename_i tx vx ty vy
      cases hx with
      | iface hx =>
      cases hy with
      | iface hy =>
      split at h
      · rename_i e
        cases h
        simp [Op.equalIn, hur, e]
      · rename_i e
        simp only [Option.bind_eq_some_iff] at h
        obtain ⟨i, hi, h⟩ := h
        split at h
        · rename_i hc
          have e' : tx = ty := by simpa using e
          subst e'
          have := ih h hx hy w
          simp [Op.equalIn, hur, run_info hi, hc, this]
        · cases h
    · rename_i fields xs ys
      cases hx with
      | agg hx =>
      cases hy with
      | agg hy =>
      split at h
      · cases h
      · rename_i hs
        rename_i xs' ys'
        have hf : P.fieldsOf t = fields := by simp [Program.fieldsOf, hu]
        rw [run_equalIn_struct w d t xs' ys' (by rw [hf]; exact hu) (by simpa using hs), hf]
        clear hf hur hu
        generalize fields.toList = fs at h
        induction fs with
        | nil => simp only [eqFields] at h; cases h; simp [Op.eqFields]
        | cons f fs ihf =>
          simp only [eqFields] at h
          split at h
          · rename_i e
            rw [Op.eqFields, if_neg (by simpa using e)]
            exact ihf h
          · rename_i e
            simp only [Option.bind_eq_some_iff] at h
            obtain ⟨a, ha, b, hb, r', hr', h⟩ := h
            obtain ⟨a', ha', hra⟩ := partA_run ha hx w
            obtain ⟨b', hb', hrb⟩ := partA_run hb hy w
            have he := ih hr' hra hrb w
            rw [Op.eqFields, if_pos (by simpa using e)]
            simp only [Sem.run_bind, ha', hb', he, Result.andThen_ok]
            cases r' with
            | false => simp at h; subst h; simp
            | true => simp at h; simpa using ihf h
    · rename_i n e xs ys
      cases hx with
      | agg hx =>
      cases hy with
      | agg hy =>
      rename_i xs' ys'
      obtain ⟨i, hi, h⟩ := Option.bind_eq_some_iff.1 h
      have hc : i.size = P.cellsOf e := by simp [Program.cellsOf, hi]
      rw [run_equalIn_array w d xs' ys' hu hi, ← hc]
      clear hur hu
      generalize List.range n = is at h
      induction is with
      | nil => simp only [eqItems] at h; cases h; simp [Op.eqItems]
      | cons j is ihf =>
        simp only [eqItems, Option.bind_eq_some_iff] at h
        obtain ⟨a, ha, b, hb, r', hr', h⟩ := h
        obtain ⟨a', ha', hra⟩ := partA_run ha hx w
        obtain ⟨b', hb', hrb⟩ := partA_run hb hy w
        have he := ih hr' hra hrb w
        rw [Op.eqItems]
        simp only [Sem.run_bind, ha', hb', he, Result.andThen_ok]
        cases r' with
        | false => simp at h; subst h; simp
        | true => simp at h; simpa using ihf h
    · cases hx
      cases hy <;> (cases h; simp only [Op.equalIn, Sem.run_bind, hur, Result.andThen_ok]; rfl)
    · cases hy
      cases hx <;> (cases h; simp only [Op.equalIn, Sem.run_bind, hur, Result.andThen_ok]; rfl)
    · cases hx
      cases hy <;> (cases h; simp only [Op.equalIn, Sem.run_bind, hur, Result.andThen_ok]; rfl)
    · cases hx; cases hy; cases h; simp only [Op.equalIn, Sem.run_bind, hur, Result.andThen_ok]; rfl
    · cases hx; cases hy; cases h; simp only [Op.equalIn, Sem.run_bind, hur, Result.andThen_ok]; rfl
    · cases hx
      cases hy <;> (cases h; simp only [Op.equalIn, Sem.run_bind, hur, Result.andThen_ok]; rfl)
    · cases hy
      cases hx <;> (cases h; simp only [Op.equalIn, Sem.run_bind, hur, Result.andThen_ok]; rfl)
    · cases h
def guardNil : TypeDesc → Bool
  | .interface ms => !ms.isEmpty
  | _ => false
theorem eqGuardIn_nil {t : TypeId} {u : TypeDesc} (hu : P.underlying t = some u) (d : Nat) (w : World) :
    (Op.eqGuardIn (d + 1) t .nilIface .nilIface).run P w = .ok (guardNil u) w := by
  simp only [Op.eqGuardIn, Sem.run_bind, run_underlying hu, Result.andThen_ok]
  cases u <;> rfl
theorem eqGuard_nils {t : TypeId} (h : (match P.underlying t with | some (.interface ms) => ms.isEmpty | some _ => true | none => false) = true) (w : World) (u : Unsupported) :
    (do if ← Op.eqGuardIn Op.maxDepth t .nilIface .nilIface then unsupported u : Sem Unit).run P w = .ok () w := by
  cases hu : P.underlying t with
  | none => rw [hu] at h; cases h
  | some d =>
    rw [hu] at h
    have hr := eqGuardIn_nil hu 9999 w
    have hz : guardNil d = false := by cases d <;> first | rfl | (simpa [guardNil] using h)
    rw [hz] at hr
    simp only [Sem.run_bind, show (Op.maxDepth : Nat) = 9999 + 1 from rfl, hr, Result.andThen_ok, Bool.false_eq_true, if_false, Sem.run_pure]
theorem eqGuard_eql {t : TypeId} {x y : Operand} {a b a' b' : Value} (h : eqGuardA P t x y a b = true) (ha : VRel ρ a a') (hb : VRel ρ b b') (w : World) :
    (eqGuard .eql t x y a' b').run P w = .ok () w := by
  unfold eqGuard
  simp only [Bool.not_true, Bool.false_eq_true, if_false]
  split
  · cases ha; cases hb
    simp only [eqGuardA] at h
    cases x with
    | const v => rfl
    | tmp _ => cases y with
      | const v => rfl
      | tmp _ => exact eqGuard_nils h w _
      | global _ => exact eqGuard_nils h w _
      | func _ => exact eqGuard_nils h w _
    | global _ => cases y with
      | const v => rfl
      | tmp _ => exact eqGuard_nils h w _
      | global _ => exact eqGuard_nils h w _
      | func _ => exact eqGuard_nils h w _
    | func _ => cases y with
      | const v => rfl
      | tmp _ => exact eqGuard_nils h w _
      | global _ => exact eqGuard_nils h w _
      | func _ => exact eqGuard_nils h w _
  · cases ha
    cases hb
    have h' : P.eqGuardType P.depth t = false := by simpa [eqGuardA] using h
    simp [h']
  · rfl
theorem eqGuard_run {op : BinOp} {t : TypeId} {x y : Operand} {a b a' b' : Value} (h : eqGuardA P t x y a b = true) (ha : VRel ρ a a') (hb : VRel ρ b b') (w : World) :
    (eqGuard op t x y a' b').run P w = .ok () w := by
  cases op
  case eql => exact eqGuard_eql h ha hb w
  case neq => exact eqGuard_eql (P := P) (t := t) (x := x) (y := y) h ha hb w
  all_goals rfl
theorem binOp_int_plain {op : BinOp} {t : TypeId} {k k' : IntKind} {a b : Int} {v : Value} (h : binOp op t (.int k a) (.int k' b) = .pure v) : plain1 v = true := by
  cases op <;> simp only [binOp, Op.shift, Op.intArith, Op.intDiv, Op.intBits, Op.intCmp] at h <;> (repeat' split at h) <;> first | (cases h; rfl) | (cases h; done)
theorem binOp_string_plain {op : BinOp} {t : TypeId} {a b : ByteArray} {v : Value} (h : binOp op t (.string a) (.string b) = .pure v) : plain1 v = true := by
  cases op <;> simp only [binOp, Op.stringOp] at h <;> (repeat' split at h) <;> first | (cases h; rfl) | (cases h; done)
theorem aeqOp_run {op : BinOp} {t : TypeId} {x y : Operand} {a b a' b' v : Value} (h : aeqOp P op t x y a b = some v) (ha : VRel ρ a a') (hb : VRel ρ b b') (w : World)
    (h1 : binOp .eql t a' b' = (do pure (.bool (← Op.equal t a' b')) : Sem Value)) (h2 : binOp .neq t a' b' = (do pure (.bool (!(← Op.equal t a' b'))) : Sem Value)) :
    ∃ v', (do eqGuard op t x y a' b'; binOp op t a' b' : Sem Value).run P w = .ok v' w ∧ VRel ρ v v' := by
  unfold aeqOp at h
  split at h
  · split at h
    · rename_i hg
      simp only [Option.map_eq_some_iff] at h
      obtain ⟨r, hr, rfl⟩ := h
      have he := aeq_run _ hr ha hb w
      refine ⟨.bool r, ?_, .bool r⟩
      rw [Sem.run_bind, eqGuard_run hg ha hb, Result.andThen_ok, h1]
      simp only [Sem.run_bind, Op.equal, he, Result.andThen_ok, Sem.run_pure]
    · cases h
  · split at h
    · rename_i hg
      simp only [Option.map_eq_some_iff] at h
      obtain ⟨r, hr, rfl⟩ := h
      have he := aeq_run _ hr ha hb w
      refine ⟨.bool (!r), ?_, .bool _⟩
      rw [Sem.run_bind, eqGuard_run hg ha hb, Result.andThen_ok, h2]
      simp only [Sem.run_bind, Op.equal, he, Result.andThen_ok, Sem.run_pure]
    · cases h
  · cases h
theorem abin_run {op : BinOp} {t : TypeId} {x y : Operand} {a b a' b' v : Value} (h : abin P op t x y a b = some v) (ha : VRel ρ a a') (hb : VRel ρ b b') (w : World) :
    ∃ v', (do eqGuard op t x y a' b'; binOp op t a' b' : Sem Value).run P w = .ok v' w ∧ VRel ρ v v' := by
  cases ha
  case int k n =>
    cases hb
    case int k' n' =>
      have hp := pureRun_some h
      have hg := eqGuard_run (P := P) (ρ := ρ) (op := op) (t := t) (x := x) (y := y) rfl (.int k n) (.int k' n') w
      exact ⟨v, by rw [Sem.run_bind, hg, Result.andThen_ok, hp]; rfl, .plain1 (binOp_int_plain hp)⟩
    all_goals cases h
  case string s =>
    cases hb
    case string s' =>
      have hp := pureRun_some h
      have hg := eqGuard_run (P := P) (ρ := ρ) (op := op) (t := t) (x := x) (y := y) rfl (.string s) (.string s') w
      exact ⟨v, by rw [Sem.run_bind, hg, Result.andThen_ok, hp]; rfl, .plain1 (binOp_string_plain hp)⟩
    all_goals cases h
  case float => cases h
  case bool b => exact aeqOp_run h (.bool b) hb w rfl rfl
  case ptrNil => exact aeqOp_run h .ptrNil hb w rfl rfl
  case ptr h' => exact aeqOp_run h (.ptr h') hb w rfl rfl
  case sliceNil => exact aeqOp_run h .sliceNil hb w rfl rfl
  case sliceEx h1 h2 h3 h4 => exact aeqOp_run h (.sliceEx h1 h2 h3 h4) hb w rfl rfl
  case sliceZ => exact aeqOp_run h .sliceZ hb w rfl rfl
  case sliceUn h1 h2 h3 h4 h5 => exact aeqOp_run h (.sliceUn h1 h2 h3 h4 h5) hb w rfl rfl
  case mapNil => exact aeqOp_run h .mapNil hb w rfl rfl
  case map h' => exact aeqOp_run h (.map h') hb w rfl rfl
  case chanNil => exact aeqOp_run h .chanNil hb w rfl rfl
  case func h1 h2 => exact aeqOp_run h (.func h1 h2) hb w rfl rfl
  case yield h1 h2 h3 => exact aeqOp_run h (.yield h1 h2 h3) hb w rfl rfl
  case nilFunc => exact aeqOp_run h .nilFunc hb w rfl rfl
  case nilIface => exact aeqOp_run h .nilIface hb w rfl rfl
  case iface h' => exact aeqOp_run h (.iface h') hb w rfl rfl
  case agg h' => exact aeqOp_run h (.agg h') hb w rfl rfl
  case tuple h' => exact aeqOp_run h (.tuple h') hb w rfl rfl
end
end Go.Ag
namespace Go.Ag
section
variable {P : Program} {ρ : Ren} {τ : Nat → Option Nat} {A : AState} {w : World}
theorem aunary_run {op : UnOp} {x x' v : Value} (h : aunary op x = some v) (hx : VRel ρ x x') (w : World) :
    ∃ v', (Op.unary op x').run P w = .ok v' w ∧ VRel ρ v v' := by
  unfold aunary at h
  split at h
  · cases hx
    have hp := pureRun_some h
    refine ⟨v, by rw [hp]; rfl, .plain1 ?_⟩
    cases op <;> simp only [Op.unary, Op.intArith, Op.intBits] at hp <;> first | (cases hp; rfl) | (cases hp; done)
  · cases hx
    have hp := pureRun_some h
    refine ⟨v, by rw [hp]; rfl, .plain1 ?_⟩
    cases op <;> simp only [Op.unary] at hp <;> first | (cases hp; rfl) | (cases hp; done)
  · cases h
theorem foldl_setL (off : Nat) : ∀ (vs : List Value) (k : Nat) (cs : Array Value),
    (vs.zipIdx k).foldl (fun cs (x : Value × Nat) => cs.setIfInBounds (off + x.2) x.1) cs = setL cs (off + k) vs := by
  intro vs
  induction vs with
  | nil => intro k cs; rfl
  | cons v vs ih => intro k cs; simp only [List.zipIdx_cons, List.foldl_cons, setL]; rw [ih]; rfl
theorem setL_toList {cs : Array Value} {off : Nat} {vs : List Value} (h : off + vs.length ≤ cs.size) : (setL cs off vs).toList = spliceL cs.toList vs off := by
  apply List.ext_getElem?
  intro j
  unfold spliceL
  by_cases hj : j < cs.size
  · have h1 := setL_get vs cs off j hj
    rw [Array.getElem?_toList, h1]
    by_cases h2 : off ≤ j ∧ j < off + vs.length
    · rw [if_pos h2, List.append_assoc, List.getElem?_append_right (by simp; omega), List.getElem?_append_left (by simp; omega)]
      congr 1; simp; omega
    · rw [if_neg h2]
      by_cases h3 : j < off
      · rw [List.append_assoc, List.getElem?_append_left (by simp; omega), List.getElem?_take_of_lt h3]; simp
      · rw [List.getElem?_append_right (by simp; omega), List.getElem?_drop, ← Array.getElem?_toList]
        congr 1; simp; omega
  · rw [List.getElem?_eq_none (by simp [setL_size]; omega), List.getElem?_eq_none (by simp; omega)]
theorem fill_rel {place : Nat → Option (Nat × Nat)} : ∀ {parts parts' : List (Nat × Value)} {cells cs : List Value} {cells' : Array Value}, fillL place cells parts = some cs → VRels ρ cells cells'.toList →
    parts.map (·.1) = parts'.map (·.1) → VRels ρ (parts.map (·.2)) (parts'.map (·.2)) → ∃ cs', Instr.fill place cells' parts' = some cs' ∧ VRels ρ cs cs'.toList := by
  intro parts
  induction parts with
  | nil =>
    intro parts' cells cs cells' h hc h1 h2
    simp [fillL] at h; subst h
    cases parts' with
    | nil => exact ⟨cells', rfl, hc⟩
    | cons p ps => simp at h1
  | cons p ps ih =>
    intro parts' cells cs cells' h hc h1 h2
    obtain ⟨i, v⟩ := p
    cases parts' with
    | nil => simp at h1
    | cons p' ps' =>
      obtain ⟨i', v'⟩ := p'
      simp at h1
      obtain ⟨rfl, h1⟩ := h1
      simp only [List.map_cons] at h2
      cases h2 with
      | cons hv h2 =>
      have hcells := hv.cells
      have hlen := hcells.length
      have hcl := hc.length
      simp only [Array.length_toList] at hlen hcl
      simp only [fillL] at h
      cases hp : place i with
      | none => simp [hp] at h
      | some q =>
        obtain ⟨off, size⟩ := q
        simp only [hp] at h
        split at h
        · rename_i hcond
          have hspl : VRels ρ (spliceL cells v.cells.toList off) (setL cells' off v'.cells.toList).toList := by
            rw [setL_toList (by simp; omega)]
            unfold spliceL
            rw [hcells.length]
            exact ((hc.take off).append hcells).append (hc.drop _)
          obtain ⟨cs', hf, hr⟩ := ih h hspl h1 h2
          refine ⟨cs', ?_, hr⟩
          simp only [Instr.fill, hp]
          rw [if_neg (by simp; omega)]
          rw [← hf]
          congr 1
          rw [← Array.foldl_toList, Array.toList_zipIdx]
          exact foldl_setL off _ 0 _
        · cases h
theorem fieldPlaces_mapM : ∀ {fs : List Field} {pl : List (Nat × Nat)}, fieldPlaces P fs = some pl → fs.mapM (fun f => (P.info? f.type).map fun i => (f.offset, i.size)) = some pl := by
  intro fs
  induction fs with
  | nil => intro pl h; simp [fieldPlaces] at h; subst h; simp
  | cons f fs ih =>
    intro pl h
    simp only [fieldPlaces, Option.bind_eq_some_iff] at h
    obtain ⟨i, hi, r, hr, h⟩ := h
    simp at h; subst h
    simp [List.mapM_cons, hi, ih hr]
theorem abuild_run {t : TypeId} {parts : List (Nat × Value)} {parts' : Array (Nat × Value)} {v : Value} (h : abuild P t parts = some v) (h1 : parts.map (·.1) = parts'.toList.map (·.1))
    (h2 : VRels ρ (parts.map (·.2)) (parts'.toList.map (·.2))) (w : World) : ∃ v', (Instr.build t parts').run P w = .ok v' w ∧ VRel ρ v v' := by
  unfold abuild at h
  simp only [Option.bind_eq_some_iff] at h
  obtain ⟨i, hi, z, hz, u, hu, h⟩ := h
  split at h
  · rename_i hpl
    have hzr : VRels ρ z.cells.toList z.cells.toList := .plain hpl
    split at h
    · rename_i fields
      simp only [Option.bind_eq_some_iff, Option.map_eq_some_iff] at h
      obtain ⟨pl, hplaces, cs, hf, rfl⟩ := h
      obtain ⟨cs', hf', hr⟩ := fill_rel hf hzr h1 h2
      refine ⟨.agg cs', run_build w t parts' cs' ?_, .agg hr⟩
      simp only [Program.built, hi, hu, hz, fieldPlaces_mapM hplaces]
      simpa using hf'
    · rename_i n elem
      simp only [Option.bind_eq_some_iff, Option.map_eq_some_iff] at h
      obtain ⟨e, he, cs, hf, rfl⟩ := h
      obtain ⟨cs', hf', hr⟩ := fill_rel hf hzr h1 h2
      refine ⟨.agg cs', run_build w t parts' cs' ?_, .agg hr⟩
      simp only [Program.built, hi, hu, hz, he]
      exact hf'
    · cases h
  · cases h
theorem afield_run {t : TypeId} {x x' v : Value} {f : Nat} (h : afield P t x f = some v) (hx : VRel ρ x x') (w : World) :
    ∃ v', (Instr.field t x' f).run P w = .ok v' w ∧ VRel ρ v v' := by
  unfold afield at h
  split at h
  · rename_i fields cs hu
    cases hx with
    | agg hx =>
    simp only [Option.bind_eq_some_iff] at h
    obtain ⟨fd, hfd, h⟩ := h
    obtain ⟨v', hr, hv⟩ := partA_run h hx w
    refine ⟨v', ?_, hv⟩
    simp [Instr.field, Sem.run_bind, run_underlying hu, hfd, asAgg, hr]
  · cases h
theorem afieldAddr_run {t : TypeId} {x x' v : Value} {f : Nat} (h : afieldAddr P t x f = some v) (hx : VRel ρ x x') (w : World) :
    ∃ v', (Instr.fieldAt t x' f).run P w = .ok v' w ∧ VRel ρ v v' := by
  unfold afieldAddr at h
  split at h
  · rename_i fields b off hu
    cases hx with
    | ptr hb =>
    simp only [Option.bind_eq_some_iff] at h
    obtain ⟨fd, hfd, i, hi, h⟩ := h
    split at h
    · cases h
    · rename_i hs
      cases h
      rename_i j
      refine ⟨.pointer (some ⟨j.blk, j.off + (off + fd.offset), none⟩), ?_, .ptr hb⟩
      have hadd : (⟨j.blk, j.off + off, none⟩ : Addr).add fd.offset = ⟨j.blk, j.off + (off + fd.offset), none⟩ := by
        rw [← Nat.add_assoc]; unfold Addr.add; split <;> simp_all
      simp [Instr.fieldAt, Sem.run_bind, run_underlying hu, hfd, Instr.sureAddr, fieldPlace, run_size hi, hs, hadd]
  · cases h
theorem add_addr (b o n : Nat) : (⟨b, o, none⟩ : Addr).add n = ⟨b, o + n, none⟩ := by
  unfold Addr.add; split <;> simp_all
theorem aindexAddr_run {t : TypeId} {x x' ix ix' v : Value} (h : aindexAddr P t x ix = some v) (hx : VRel ρ x x') (hix : VRel ρ ix ix') (w : World) :
    ∃ v', (Instr.indexAt t x' ix').run P w = .ok v' w ∧ VRel ρ v v' := by
  unfold aindexAddr at h
  split at h
  · rename_i len elem b off k i hu
    cases hx with
    | ptr hb =>
    cases hix
    simp only [Option.bind_eq_some_iff] at h
    obtain ⟨e, he, h⟩ := h
    split at h
    · rename_i hin
      cases h
      rename_i j
      refine ⟨.pointer (some ⟨j.blk, j.off + (off + i.toNat * e.size), none⟩), ?_, .ptr hb⟩
      simp only [Instr.indexAt, asIntOf, Sem.run_bind, Sem.run_pure, Result.andThen_ok, run_underlying hu, Instr.sureAddr]
      simp [hin, run_size he, add_addr, Nat.add_assoc]
    · cases h
  · rename_i elem b off len cap k i hu
    cases hix
    simp only [Option.bind_eq_some_iff] at h
    obtain ⟨e, he, h⟩ := h
    split at h
    · rename_i hin
      cases h
      cases hx with
      | sliceEx hb hk hn ho =>
        rename_i o' j
        have ho' := ho (by omega)
        subst ho'
        refine ⟨.pointer (some ⟨j.blk, j.off + (off + i.toNat * e.size), none⟩), ?_, .ptr hb⟩
        simp only [Instr.indexAt, asIntOf, Sem.run_bind, Sem.run_pure, Result.andThen_ok, run_underlying hu]
        simp [hin, run_size he, add_addr, Nat.add_assoc]
      | sliceUn hb hn ho hs hr =>
        rename_i o' c j
        have ho' := ho (by omega)
        subst ho'
        refine ⟨.pointer (some ⟨j.blk, j.off + (off + i.toNat * e.size), none⟩), ?_, .ptr hb⟩
        simp only [Instr.indexAt, asIntOf, Sem.run_bind, Sem.run_pure, Result.andThen_ok, run_underlying hu]
        simp [hin, run_size he, add_addr, Nat.add_assoc]
    · cases h
  · cases h
theorem aindex_run {t : TypeId} {x x' ix ix' v : Value} (h : aindex P t x ix = some v) (hx : VRel ρ x x') (hix : VRel ρ ix ix') (w : World) :
    ∃ v', (Instr.index t x' ix').run P w = .ok v' w ∧ VRel ρ v v' := by
  unfold aindex at h
  split at h
  · rename_i len elem cs k i hu
    cases hx with
    | agg hx =>
    cases hix
    simp only [Option.bind_eq_some_iff] at h
    obtain ⟨e, he, h⟩ := h
    split at h
    · rename_i hin
      obtain ⟨v', hr, hv⟩ := partA_run h hx w
      refine ⟨v', ?_, hv⟩
      simp only [Instr.index, asIntOf, Sem.run_bind, Sem.run_pure, Result.andThen_ok, run_underlying hu]
      simp [hin, run_size he, hr]
    · cases h
  · rename_i s k i hu
    cases hx; cases hix
    split at h
    · rename_i hin
      simp only [Option.map_eq_some_iff] at h
      obtain ⟨b, hb, rfl⟩ := h
      refine ⟨_, ?_, .int _ _⟩
      have hb' : s[i.toNat]? = some b := by
        rw [← hb]
        rw [Array.getElem?_toList]
        rfl
      simp only [Instr.index, asIntOf, Sem.run_bind, Sem.run_pure, Result.andThen_ok, run_underlying hu]
      rw [if_pos hin, hb']
      rfl
    · cases h
  · cases h
theorem aextract_run {x x' v : Value} {i : Nat} (h : aextract x i = some v) (hx : VRel ρ x x') (w : World) :
    ∃ v', (Instr.extract x' i).run P w = .ok v' w ∧ VRel ρ v v' := by
  unfold aextract at h
  split at h
  · cases hx with
    | tuple hx =>
    rename_i vs vs'
    obtain ⟨y, hy, hr⟩ := hx.get h
    refine ⟨y, ?_, hr⟩
    have : vs'[i]? = some y := by rw [← hy]; simp
    simp [Instr.extract, this]
  · cases h
theorem atypeAssert_run {x x' v : Value} {xt t : TypeId} (h : atypeAssert P x t = some v) (hx : VRel ρ x x') (w : World) :
    ∃ v', (Instr.typeAssert x' xt t true).run P w = .ok v' w ∧ VRel ρ v v' := by
  unfold atypeAssert at h
  split at h
  · cases h
  · rename_i u hno hu
    have hur := run_underlying hu w
    simp only [Option.bind_eq_some_iff] at h
    obtain ⟨r, hr, h⟩ := h
    have hfail : ∀ (hr : r = none), ∃ z i, P.info? t = some i ∧ i.zero = some z ∧ plainV z = true ∧ v = .tuple #[z, .bool false] := by
      intro hr; subst hr
      simp only [Option.bind_eq_some_iff] at h
      obtain ⟨i, hi, z, hz, h⟩ := h
      split at h
      · rename_i hp; cases h; exact ⟨z, i, hi, hz, hp, rfl⟩
      · cases h
    split at hr
    · cases hx
      cases hr
      obtain ⟨z, i, hi, hz, hp, rfl⟩ := hfail rfl
      refine ⟨.tuple #[z, .bool false], ?_, .tuple (.cons (.plain hp) (.cons (.bool _) .nil))⟩
      unfold Instr.typeAssert
      simp only [Sem.run_bind, hur, Result.andThen_ok]
      cases u <;> first | exact absurd hu (hno _) | simp [run_zero hi hz]
    · rename_i s y
      cases hx with
      | iface hx =>
      simp at hr
      by_cases e : s = t
      · subst e
        simp at hr
        subst hr
        cases h
        rename_i y'
        refine ⟨.tuple #[y', .bool true], ?_, .tuple (.cons hx (.cons (.bool _) .nil))⟩
        unfold Instr.typeAssert
        simp only [Sem.run_bind, hur, Result.andThen_ok]
        cases u <;> first | exact absurd hu (hno _) | simp
      · rw [if_neg e] at hr
        obtain ⟨z, i, hi, hz, hp, rfl⟩ := hfail hr.symm
        refine ⟨.tuple #[z, .bool false], ?_, .tuple (.cons (.plain hp) (.cons (.bool _) .nil))⟩
        unfold Instr.typeAssert
        simp only [Sem.run_bind, hur, Result.andThen_ok]
        cases u <;> first | exact absurd hu (hno _) | simp [run_zero hi hz, e]
    · cases hr
  · cases h
theorem aminmax_run {isMax : Bool} {xs : List Value} {xs' : Array Value} {v : Value} {ts : Array TypeId} {t : TypeId} (h : aminmax isMax xs = some v) (hx : VRels ρ xs xs'.toList) (w : World) :
    ∃ v', ((if isMax then Builtin.max_ ts t xs' else Builtin.min_ ts t xs')).run P w = .ok v' w ∧ VRel ρ v v' := by
  unfold aminmax at h
  split at h
  · cases h
    generalize he : xs'.toList = l at hx
    cases hx with
    | cons h1 hx => cases hx with
      | cons h2 hx => cases hx with
        | nil =>
          cases h1; cases h2
          refine ⟨_, ?_, .int _ _⟩
          cases isMax
          · simp only [Bool.false_eq_true, if_false, Builtin.min_, he]
            simp [Builtin.min2]
          · simp only [if_true, Builtin.max_, he]
            simp [Builtin.max2]
  · cases h
end
end Go.Ag
namespace Go.Ag
section
variable {P : Program} {ρ : Ren} {τ : Nat → Option Nat} {A : AState} {w : World}
theorem aload_run (S : Sim P ρ τ A w) {t : TypeId} {x x' v : Value} (h : aload P A t x = some v) (hx : VRel ρ x x') :
    ∃ v', (Instr.loadAt t x').run P w = .ok v' w ∧ VRel ρ v v' := by
  unfold aload at h
  split at h
  · rename_i b off
    cases hx with
    | ptr hb =>
    rename_i j
    simp only [Option.bind_eq_some_iff] at h
    obtain ⟨u, hu, i, hi, k, hk, h⟩ := h
    obtain ⟨i', c, el, fz, B⟩ := S.blkR hk
    have : i' = j := by have := B.ren; rw [hb] at this; exact (Option.some.inj this).symm
    subst this
    split at h
    · rename_i ha
      split at h
      · rename_i hle
        simp only [Option.map_eq_some_iff] at h
        obtain ⟨cs, hcs, rfl⟩ := h
        obtain ⟨vs', h1, h2, h3⟩ := B.read hcs (by simpa using hle)
        have hl := run_loadCells_list (P := P) w ⟨i'.blk, i'.off + off, none⟩ vs' (fun q v hv => by rw [add_addr]; exact h3 q v hv)
        rw [h2] at hl
        refine ⟨.agg vs'.toArray, ?_, .agg (by simpa using h1)⟩
        simp only [Instr.loadAt, Instr.sureAddr, loadVar, Sem.run_bind, Sem.run_pure, Result.andThen_ok, run_isAgg hu, ha, if_true, run_size hi, hl]
      · cases h
    · rename_i ha
      split at h
      · rename_i hlt
        have hlt' : off < k.2.2 := by have := hlt; simp [Nat.blt] at this; omega
        obtain ⟨v1, v2, h1, h2, h3⟩ := B.cell off hlt'
        rw [h] at h1
        cases h1
        refine ⟨v2, ?_, h3⟩
        have hc : w.cell? ⟨i'.blk, i'.off + off, none⟩ = some v2 := by rw [cell?_of B.row, h2]
        simp only [Instr.loadAt, Instr.sureAddr, loadVar, Sem.run_bind, Sem.run_pure, Result.andThen_ok, run_isAgg hu, ha, Bool.false_eq_true, if_false, run_load, hc]
      · cases h
  · cases h
theorem isU8_iff {e : TypeId} (h : isU8 P e = true) : P.underlying e = some (.int .u8) := by
  unfold isU8 at h
  split at h
  · assumption
  · cases h
theorem toBytes_some : ∀ {vs : List Value} {l : List UInt8}, toBytes vs = some l → ∃ ns : List Int, vs = ns.map (Value.int .u8) ∧ l = ns.map fun n => UInt8.ofNat n.toNat := by
  intro vs
  induction vs with
  | nil => intro l h; simp [toBytes] at h; subst h; exact ⟨[], rfl, rfl⟩
  | cons v vs ih =>
    intro l h
    unfold toBytes at h
    split at h
    · rename_i e; cases e
    · rename_i n vs2 e
      cases e
      simp only [Option.map_eq_some_iff] at h
      obtain ⟨r, hr, rfl⟩ := h
      obtain ⟨ns, rfl, rfl⟩ := ih hr
      exact ⟨n :: ns, rfl, rfl⟩
    · cases h
theorem foldl_push : ∀ (ns : List Int) (s : ByteArray), ns.foldl (fun r n => r.push (UInt8.ofNat n.toNat)) s = ⟨(s.data.toList ++ ns.map fun n => UInt8.ofNat n.toNat).toArray⟩ := by
  intro ns
  induction ns with
  | nil => intro s; simp
  | cons n ns ih => intro s; simp only [List.foldl_cons, ih]; congr 1; simp [ByteArray.push]
theorem vrels_ints : ∀ {ns : List Int} {vs' : List Value}, VRels ρ (ns.map (Value.int .u8)) vs' → vs' = ns.map (Value.int .u8) := by
  intro ns
  induction ns with
  | nil => intro vs' h; cases h; rfl
  | cons n ns ih => intro vs' h; cases h with | cons h1 h2 => cases h1; rw [ih h2]; rfl
inductive OptRel (ρ : Ren) : Option Value → Option Value → Prop
  | none : OptRel ρ none none
  | some {v v' : Value} (h : VRel ρ v v') : OptRel ρ (some v) (some v')
theorem intIn_run {x x' : Option Value} {y n : Nat} (h : intIn x y = some n) (hx : OptRel ρ x x') : n ≤ y ∧ ∃ v', x' = some v' ∧ ∀ (C : Nat) (code : BoundsCode) (w : World), y ≤ C → (Instr.sliceBound v' C code).run P w = .ok n w := by
  unfold intIn at h
  split at h
  · rename_i k i
    cases hx with
    | some hx =>
    cases hx
    split at h
    · rename_i hin
      cases h
      refine ⟨by omega, _, rfl, fun C code w hC => ?_⟩
      simp only [Instr.sliceBound, asIntOf, Sem.run_bind, Sem.run_pure, Result.andThen_ok]
      rw [if_pos (by omega)]
      rfl
    · cases h
  · cases h
theorem abounds_run {len K C : Nat} {low high max low' high' max' : Option Value} {l h m : Nat} (hb : abounds len K low high max = some (l, h, m))
    (hl : OptRel ρ low low') (hh : OptRel ρ high high') (hm : OptRel ρ max max') (hK : K ≤ C) (isSlice : Bool) (w : World) :
    (Instr.sliceBounds isSlice len C low' high' max').run P w = .ok (l, h, if max.isSome then m else C) w ∧ l ≤ h ∧ (high.isSome = true → h ≤ K) ∧ (high = none → h = len ∧ max = none) ∧ (max.isSome = true → m ≤ K ∧ h ≤ m) ∧ (max = none → m = K) := by
  unfold abounds at hb
  simp only [Option.bind_eq_some_iff] at hb
  obtain ⟨m1, hm1, h1, hh1, l1, hl1, hb⟩ := hb
  cases hb
  cases hl with
  | none =>
    cases hl1
    cases hm with
    | none =>
      cases hm1
      cases hh with
      | none =>
        cases hh1
        refine ⟨?_, Nat.zero_le _, by simp, fun _ => ⟨rfl, rfl⟩, by simp, fun _ => rfl⟩
        simp [Instr.sliceBounds, Sem.run_bind]
      | some hv =>
        obtain ⟨a1, v', a2, a3⟩ := intIn_run (P := P) hh1 (.some hv)
        cases a2
        refine ⟨?_, Nat.zero_le _, fun _ => a1, by simp, by simp, fun _ => rfl⟩
        simp [Instr.sliceBounds, Sem.run_bind, a3 C _ _ hK]
    | some hmv =>
      obtain ⟨b1, vm, b2, b3⟩ := intIn_run (P := P) hm1 (.some hmv)
      cases b2
      cases hh with
      | none => cases hh1
      | some hv =>
        obtain ⟨a1, v', a2, a3⟩ := intIn_run (P := P) hh1 (.some hv)
        cases a2
        refine ⟨?_, Nat.zero_le _, fun _ => Nat.le_trans a1 b1, by simp, fun _ => ⟨b1, a1⟩, by simp⟩
        simp [Instr.sliceBounds, Sem.run_bind, b3 C _ _ hK, a3 _ _ _ (Nat.le_refl _)]
  | some hlv =>
    obtain ⟨c1, vl, c2, c3⟩ := intIn_run (P := P) hl1 (.some hlv)
    cases c2
    cases hm with
    | none =>
      cases hm1
      cases hh with
      | none =>
        cases hh1
        refine ⟨?_, c1, by simp, fun _ => ⟨rfl, rfl⟩, by simp, fun _ => rfl⟩
        simp [Instr.sliceBounds, Sem.run_bind, c3 _ _ _ (Nat.le_refl _)]
      | some hv =>
        obtain ⟨a1, v', a2, a3⟩ := intIn_run (P := P) hh1 (.some hv)
        cases a2
        refine ⟨?_, c1, fun _ => a1, by simp, by simp, fun _ => rfl⟩
        simp [Instr.sliceBounds, Sem.run_bind, a3 C _ _ hK, c3 _ _ _ (Nat.le_refl _)]
    | some hmv =>
      obtain ⟨b1, vm, b2, b3⟩ := intIn_run (P := P) hm1 (.some hmv)
      cases b2
      cases hh with
      | none => cases hh1
      | some hv =>
        obtain ⟨a1, v', a2, a3⟩ := intIn_run (P := P) hh1 (.some hv)
        cases a2
        refine ⟨?_, c1, fun _ => Nat.le_trans a1 b1, by simp, fun _ => ⟨b1, a1⟩, by simp⟩
        simp [Instr.sliceBounds, Sem.run_bind, b3 C _ _ hK, a3 _ _ _ (Nat.le_refl _), c3 _ _ _ (Nat.le_refl _)]
theorem aslice0_run (S : Sim P ρ τ A w) {t : TypeId} {x x' v : Value} {low high max low' high' max' : Option Value} (h : aslice0 P A t x low high max = some v) (hx : VRel ρ x x')
    (hl : OptRel ρ low low') (hh : OptRel ρ high high') (hm : OptRel ρ max max') :
    ∃ v', (Instr.sliceAt t x' low' high' max').run P w = .ok v' w ∧ VRel ρ v v' := by
  unfold aslice0 at h
  split at h
  · -- a text
    rename_i s hu
    cases hx
    split at h
    · cases h
    · rename_i hmx
      cases hm with
      | some _ => simp at hmx
      | none =>
      simp only [Option.bind_eq_some_iff] at h
      obtain ⟨⟨l, hi, m⟩, hb, h⟩ := h
      cases h
      obtain ⟨r, _⟩ := abounds_run (P := P) hb hl hh .none (Nat.le_refl _) false w
      refine ⟨_, ?_, .string _⟩
      simp only [Instr.sliceAt, Sem.run_bind, run_underlying hu, Result.andThen_ok]
      simp only [Instr.slice, Sem.run_bind, run_underlying hu, Result.andThen_ok, Option.isSome_none, Bool.false_eq_true, if_false, r, Sem.run_pure]
  · -- nil
    rename_i e hu
    cases hx
    simp only [Option.bind_eq_some_iff] at h
    obtain ⟨ei, hei, ⟨l, hi, m⟩, hb, h⟩ := h
    cases h
    obtain ⟨r, r1, r2, r3, r4, r5⟩ := abounds_run (P := P) hb hl hh hm (Nat.le_refl _) true w
    have hz : l = 0 ∧ hi = 0 := by
      cases hh' : high with
      | none => have := (r3 hh').1; omega
      | some _ => have := r2 (by simp [hh']); omega
    have hz2 : (if max.isSome then m else 0) = 0 := by
      split
      · rename_i e; have := (r4 e).1; omega
      · rfl
    rw [hz2, hz.1, hz.2] at r
    refine ⟨.slice none 0 0, ?_, .sliceNil⟩
    simp only [Instr.sliceAt, Sem.run_bind, run_underlying hu, Result.andThen_ok]
    simp only [Instr.slice, Sem.run_bind, run_underlying hu, Result.andThen_ok, r, run_size hei, Sem.run_pure]
    rfl
  · -- a slice without room
    rename_i e hu
    cases hx with
    | sliceZ =>
    rename_i a
    simp only [Option.bind_eq_some_iff] at h
    obtain ⟨ei, hei, ⟨l, hi, m⟩, hb, h⟩ := h
    cases h
    obtain ⟨r, r1, r2, r3, r4, r5⟩ := abounds_run (P := P) hb hl hh hm (Nat.le_refl _) true w
    have hz : l = 0 ∧ hi = 0 := by
      cases hh' : high with
      | none => have := (r3 hh').1; omega
      | some _ => have := r2 (by simp [hh']); omega
    have hz2 : (if max.isSome then m else 0) = 0 := by
      split
      · rename_i e; have := (r4 e).1; omega
      · rfl
    rw [hz2, hz.1, hz.2] at r
    refine ⟨.slice (some a) 0 0, ?_, .sliceZ⟩
    simp only [Instr.sliceAt, Sem.run_bind, run_underlying hu, Result.andThen_ok]
    simp only [Instr.slice, Sem.run_bind, run_underlying hu, Result.andThen_ok, r, run_size hei, Sem.run_pure, Option.map_some]
    rfl
  · -- a slice
    rename_i elem b off len cap hu
    simp only [Option.bind_eq_some_iff] at h
    obtain ⟨e, he, h⟩ := h
    split at h
    · -- the capacity isn't known
      rename_i hcap
      have hcap' : cap = unk := by simpa using hcap
      subst hcap'
      simp only [Option.bind_eq_some_iff] at h
      obtain ⟨k, hk, h⟩ := h
      split at h
      case isFalse => cases h
      rename_i hcond
      simp only [Bool.and_eq_true, Nat.ble_eq] at hcond
      obtain ⟨⟨hes, hpos⟩, hoff⟩ := hcond
      have hpos' : 0 < e.size := by have := hpos; simp [Nat.blt] at this; omega
      simp only [Option.bind_eq_some_iff] at h
      obtain ⟨⟨l, hi, m⟩, hb, h⟩ := h
      simp only at h
      split at h
      case isFalse => cases h
      rename_i hlt
      have hlt' : hi < unk ∧ m < unk := by have := hlt; simp [Nat.blt] at this; omega
      obtain ⟨i, c, el, fz, B⟩ := S.blk hk
      cases hx with
      | sliceEx _ hk' _ _ => exact absurd hk' (Nat.lt_irrefl _)
      | sliceUn hb' hn ho hs hr =>
      rename_i o' c' j
      have hij : j = i := by have := B.ren; rw [hb'] at this; exact Option.some.inj this
      subst hij
      have hse : j.es = e.size := B.es.trans (Nat.eq_of_beq_eq_true hes)
      have hsz : j.sz = k.n := B.sz
      rw [hse] at hs hr
      -- what is known of the capacity is so
      have hK : Nat.max len ((k.n - off) / e.size) ≤ c' := by
        refine Nat.max_le.2 ⟨hn, ?_⟩
        have : k.n - off ≤ c' * e.size := by omega
        exact Nat.div_le_of_le_mul (by rw [Nat.mul_comm]; exact this)
      obtain ⟨r, r1, r2, r3, r4, r5⟩ := abounds_run (P := P) hb hl hh hm hK true w
      have hhi : hi ≤ c' := by
        cases hh' : high with
        | none => have := (r3 hh').1; omega
        | some _ => exact Nat.le_trans (r2 (by simp [hh'])) hK
      have hrun : ∀ M, (if max.isSome then m else c') = M → (Instr.sliceAt t (.slice (some ⟨j.blk, o', none⟩) len c') low' high' max').run P w =
          .ok (.slice (some (if M = l then ⟨j.blk, o', none⟩ else ⟨j.blk, o' + l * e.size, none⟩)) (hi - l) (M - l)) w := by
        intro M hM
        rw [hM] at r
        simp only [Instr.sliceAt, Sem.run_bind, run_underlying hu, Result.andThen_ok]
        simp only [Instr.slice, Sem.run_bind, run_underlying hu, Result.andThen_ok, r, run_size he, Sem.run_pure, Option.map_some, add_addr]
        split <;> rfl
      cases hmx : max with
      | none =>
        rw [hmx] at h
        simp at h
        subst h
        refine ⟨_, hrun c' (by rw [hmx]; rfl), ?_⟩
        have haddr : ∃ o2, (if c' = l then (⟨j.blk, o', none⟩ : Addr) else ⟨j.blk, o' + l * e.size, none⟩) = ⟨j.blk, o2, none⟩ ∧ (c' - l ≠ 0 → o2 = j.off + (off + l * e.size)) := by
          by_cases el : c' = l
          · exact ⟨o', by rw [if_pos el], fun hne => by omega⟩
          · refine ⟨o' + l * e.size, by rw [if_neg el], fun hne => ?_⟩
            rw [ho (by omega)]; omega
        obtain ⟨o2, e2, e3⟩ := haddr
        rw [e2]
        have hmul : l * e.size + (c' - l) * e.size = c' * e.size := by rw [← Nat.add_mul, Nat.add_sub_cancel' (Nat.le_trans r1 hhi)]
        exact .sliceUn hb' (by omega) e3 (by rw [hse]; omega) (by rw [hse]; omega)
      | some mv =>
        rw [hmx] at h
        simp at h
        subst h
        have hm4 := r4 (by simp [hmx])
        refine ⟨_, hrun m (by rw [hmx]; rfl), ?_⟩
        have haddr : ∃ o2, (if m = l then (⟨j.blk, o', none⟩ : Addr) else ⟨j.blk, o' + l * e.size, none⟩) = ⟨j.blk, o2, none⟩ ∧ (m - l ≠ 0 → o2 = j.off + (off + l * e.size)) := by
          by_cases el : m = l
          · exact ⟨o', by rw [if_pos el], fun hne => by omega⟩
          · refine ⟨o' + l * e.size, by rw [if_neg el], fun hne => ?_⟩
            rw [ho (by omega)]; omega
        obtain ⟨o2, e2, e3⟩ := haddr
        rw [e2]
        exact .sliceEx hb' (by omega) (by omega) e3
    · -- the capacity is known
      rename_i hcap
      split at h
      case isFalse => cases h
      rename_i hlt
      have hlt' : cap < unk := by have := hlt; simp [Nat.blt] at this; omega
      simp only [Option.bind_eq_some_iff] at h
      obtain ⟨⟨l, hi, m⟩, hb, h⟩ := h
      simp only [Option.some.injEq] at h
      subst h
      cases hx with
      | sliceUn _ _ _ _ _ => exact absurd hlt' (Nat.lt_irrefl _)
      | sliceEx hb' hk' hn ho =>
      rename_i o' j
      obtain ⟨r, r1, r2, r3, r4, r5⟩ := abounds_run (P := P) hb hl hh hm (Nat.le_refl _) true w
      have hm2 : (if max.isSome then m else cap) = m := by
        cases hmx : max with
        | none => simp; exact (r5 hmx).symm
        | some _ => simp
      rw [hm2] at r
      have hhi : hi ≤ m ∧ m ≤ cap := by
        cases hmx : max with
        | none =>
          have hmc := r5 hmx
          cases hh' : high with
          | none => have := (r3 hh').1; omega
          | some _ => have := r2 (by simp [hh']); omega
        | some _ => have := r4 (by simp [hmx]); omega
      have hrun : (Instr.sliceAt t (.slice (some ⟨j.blk, o', none⟩) len cap) low' high' max').run P w =
          .ok (.slice (some (if m = l then ⟨j.blk, o', none⟩ else ⟨j.blk, o' + l * e.size, none⟩)) (hi - l) (m - l)) w := by
        simp only [Instr.sliceAt, Sem.run_bind, run_underlying hu, Result.andThen_ok]
        simp only [Instr.slice, Sem.run_bind, run_underlying hu, Result.andThen_ok, r, run_size he, Sem.run_pure, Option.map_some, add_addr]
        split <;> rfl
      have haddr : ∃ o2, (if m = l then (⟨j.blk, o', none⟩ : Addr) else ⟨j.blk, o' + l * e.size, none⟩) = ⟨j.blk, o2, none⟩ ∧ (m - l ≠ 0 → o2 = j.off + (off + l * e.size)) := by
        by_cases el : m = l
        · exact ⟨o', by rw [if_pos el], fun hne => by omega⟩
        · refine ⟨o' + l * e.size, by rw [if_neg el], fun hne => ?_⟩
          rw [ho (by omega)]; omega
      obtain ⟨o2, e2, e3⟩ := haddr
      rw [e2] at hrun
      exact ⟨_, hrun, .sliceEx hb' (by omega) (by omega) e3⟩
  · -- an array's address
    rename_i n elem b off hu
    cases hx with
    | ptr hb' =>
    rename_i j
    simp only [Option.bind_eq_some_iff] at h
    obtain ⟨e, he, h⟩ := h
    split at h
    case isFalse => cases h
    rename_i hlt
    have hlt' : n < unk := by have := hlt; simp [Nat.blt] at this; omega
    simp only [Option.bind_eq_some_iff] at h
    obtain ⟨⟨l, hi, m⟩, hb, h⟩ := h
    simp only [Option.some.injEq] at h
    subst h
    obtain ⟨r, r1, r2, r3, r4, r5⟩ := abounds_run (P := P) hb hl hh hm (Nat.le_refl _) false w
    have hm2 : (if max.isSome then m else n) = m := by
      cases hmx : max with
      | none => simp; exact (r5 hmx).symm
      | some _ => simp
    rw [hm2] at r
    have hhi : hi ≤ m ∧ m ≤ n := by
      cases hmx : max with
      | none =>
        have hmc := r5 hmx
        cases hh' : high with
        | none => have := (r3 hh').1; omega
        | some _ => have := r2 (by simp [hh']); omega
      | some _ => have := r4 (by simp [hmx]); omega
    have hrun : (Instr.sliceAt t (.pointer (some ⟨j.blk, j.off + off, none⟩)) low' high' max').run P w =
        .ok (.slice (some (if m = l then ⟨j.blk, j.off + off, none⟩ else ⟨j.blk, j.off + off + l * e.size, none⟩)) (hi - l) (m - l)) w := by
      simp only [Instr.sliceAt, Instr.sureAddr, Sem.run_bind, run_underlying hu, Result.andThen_ok, Sem.run_pure, r, run_size he, add_addr]
    have haddr : ∃ o2, (if m = l then (⟨j.blk, j.off + off, none⟩ : Addr) else ⟨j.blk, j.off + off + l * e.size, none⟩) = ⟨j.blk, o2, none⟩ ∧ (m - l ≠ 0 → o2 = j.off + (off + l * e.size)) := by
      by_cases el : m = l
      · exact ⟨_, by rw [if_pos el], fun hne => by omega⟩
      · exact ⟨_, by rw [if_neg el], fun hne => by omega⟩
    obtain ⟨o2, e2, e3⟩ := haddr
    rw [e2] at hrun
    exact ⟨_, hrun, .sliceEx hb' (by omega) (by omega) e3⟩
  · cases h
theorem roSlice_run (S : Sim P ρ τ A w) {t : TypeId} {x x' v : Value} {low high low' high' : Option Value} (h : roSlice P A t x low high = some v) (hx : VRel ρ x x')
    (hl : OptRel ρ low low') (hh : OptRel ρ high high') :
    ∃ v', (Instr.sliceAt t x' low' high' none).run P w = .ok v' w ∧ VRel ρ v v' := by
  unfold roSlice at h
  split at h
  case h_2 => cases h
  rename_i elem b off len cap hu
  obtain ⟨e, he, h1⟩ := Option.bind_eq_some_iff.1 h
  clear h
  have h := h1
  clear h1
  by_cases hcap : Nat.beq cap unk = true
  case neg => rw [if_neg hcap] at h; cases h
  rw [if_pos hcap] at h
  have hcap' : cap = unk := Nat.eq_of_beq_eq_true hcap
  subst hcap'
  clear hcap
  obtain ⟨cs, n, root, hg⟩ : ∃ cs n root, A.get b = some (.ro cs n root) := by
    cases hg : A.get b with
    | none => rw [hg] at h; cases h
    | some o =>
      rw [hg] at h
      cases o with
      | ro cs n root => exact ⟨cs, n, root, rfl⟩
      | cells _ _ _ _ _ _ _ => cases h
      | map _ => cases h
      | strIter _ _ => cases h
      | loop _ => cases h
  rw [hg] at h
  obtain ⟨es, hes, h⟩ := Option.bind_eq_some_iff.1 h
  split at h
  case isFalse => cases h
  rename_i hcond
  simp only [Bool.and_eq_true] at hcond
  have hesz : es = e.size := Nat.eq_of_beq_eq_true hcond.1
  obtain ⟨⟨l, hi, m⟩, hb, h⟩ := Option.bind_eq_some_iff.1 h
  simp only at h
  split at h
  case isFalse => cases h
  cases h
  obtain ⟨i, h1, h2, h3, h4⟩ := S.obj _ _ hg
  cases h4 with
  | ro c el fz hro hroom hsz hin hc hes' =>
  have hse : i.es = e.size := (hes' _ hes).trans hesz
  cases hx with
  | sliceEx _ hk' _ _ => exact absurd hk' (Nat.lt_irrefl _)
  | sliceUn hb' hn ho hs hr =>
  rename_i o' c' j
  obtain rfl := Option.some.inj (hb'.symm.trans h1)
  rw [hse] at hs hr
  obtain ⟨r, r1, r2, r3, r4, r5⟩ := abounds_run (P := P) hb hl hh .none hn true w
  have hhi : hi ≤ c' := by
    cases hh' : high with
    | none => have := (r3 hh').1; omega
    | some _ => exact Nat.le_trans (r2 (by simp [hh'])) hn
  have hrun : (Instr.sliceAt t (.slice (some ⟨j.blk, o', none⟩) len c') low' high' none).run P w =
      .ok (.slice (some (if c' = l then ⟨j.blk, o', none⟩ else ⟨j.blk, o' + l * e.size, none⟩)) (hi - l) (c' - l)) w := by
    simp only [Option.isSome_none, Bool.false_eq_true, if_false] at r
    simp only [Instr.sliceAt, Sem.run_bind, run_underlying hu, Result.andThen_ok]
    simp only [Instr.slice, Sem.run_bind, run_underlying hu, Result.andThen_ok, r, run_size he, Sem.run_pure, Option.map_some, add_addr]
    split <;> rfl
  refine ⟨_, hrun, ?_⟩
  have haddr : ∃ o2, (if c' = l then (⟨j.blk, o', none⟩ : Addr) else ⟨j.blk, o' + l * e.size, none⟩) = ⟨j.blk, o2, none⟩ ∧ (c' - l ≠ 0 → o2 = j.off + (off + l * e.size)) := by
    by_cases el : c' = l
    · exact ⟨o', by rw [if_pos el], fun hne => by omega⟩
    · refine ⟨o' + l * e.size, by rw [if_neg el], fun hne => ?_⟩
      rw [ho (by omega)]; omega
  obtain ⟨o2, e2, e3⟩ := haddr
  rw [e2]
  have hmul : l * e.size + (c' - l) * e.size = c' * e.size := by rw [← Nat.add_mul, Nat.add_sub_cancel' (Nat.le_trans r1 hhi)]
  exact .sliceUn hb' (by omega) e3 (by rw [hse]; omega) (by rw [hse]; omega)
theorem aslice_run (S : Sim P ρ τ A w) {t : TypeId} {x x' v : Value} {low high max low' high' max' : Option Value} (h : aslice P A t x low high max = some v) (hx : VRel ρ x x')
    (hl : OptRel ρ low low') (hh : OptRel ρ high high') (hm : OptRel ρ max max') :
    ∃ v', (Instr.sliceAt t x' low' high' max').run P w = .ok v' w ∧ VRel ρ v v' := by
  unfold aslice at h
  split at h
  · rename_i v0 h0
    cases h
    exact aslice0_run S h0 hx hl hh hm
  · split at h
    · cases hm
      exact roSlice_run S h hx hl hh
    · cases h
theorem keyKind_iff {kt : TypeId} (h : keyKind P kt = true) : (∃ k, P.underlying kt = some (.int k)) ∨ P.underlying kt = some .string := by
  unfold keyKind at h
  split at h
  · exact .inl ⟨_, by assumption⟩
  · exact .inr (by assumption)
  · cases h
theorem aeq_now' {kt : TypeId} {u : TypeDesc} (hu : P.underlying kt = some u) (hk : (∃ k, u = .int k) ∨ u = .string) {x y x' y' : Value} {b : Bool} {d : Nat} (h : aeq P (d + 1) kt x y = some b)
    (hx : VRel ρ x x') (hy : VRel ρ y y') : Instr.sameNow u x' y' = some b := by
  simp only [aeq, hu, Option.bind_some] at h
  rcases hk with ⟨k, rfl⟩ | rfl
  · cases hx <;> (try (cases h; done))
    cases hy <;> (try (cases h; done))
    exact h
  · cases hx <;> (try (cases h; done))
    cases hy <;> (try (cases h; done))
    exact h
theorem aeq_now {kt : TypeId} {u : TypeDesc} (hu : P.underlying kt = some u) (hk : (∃ k, u = .int k) ∨ u = .string) {x y x' y' : Value} {b : Bool} (h : aeq P Op.maxDepth kt x y = some b)
    (hx : VRel ρ x x') (hy : VRel ρ y y') : Instr.sameNow u x' y' = some b :=
  aeq_now' (d := 9999) hu hk h hx hy
inductive FoundRel (ρ : Ren) : Option (Nat × Value) → Option (Nat × Value) → Prop
  | none : FoundRel ρ none none
  | some {i : Nat} {v v' : Value} (h : VRel ρ v v') : FoundRel ρ (some (i, v)) (some (i, v'))
theorem findA_now {kt : TypeId} {u : TypeDesc} (hu : P.underlying kt = some u) (hk : (∃ k, u = .int k) ∨ u = .string) {key key' : Value} (hkey : VRel ρ key key') :
    ∀ {es : List (Value × Value)} {es' : List MapEntry} {i : Nat} {r : Option (Nat × Value)}, findA P kt key es i = some r → MRel ρ es es' →
      ∃ r', Instr.findNow u key' es' i = some r' ∧ FoundRel ρ r r' ∧ (∀ j v, r = some (j, v) → i ≤ j ∧ j - i < es.length) := by
  intro es
  induction es with
  | nil =>
    intro es' i r h hm
    simp [findA] at h; subst h
    cases es' with
    | nil => exact ⟨none, rfl, .none, fun _ _ h => by cases h⟩
    | cons e es' => have := hm.1.length; simp at this
  | cons e es ih =>
    intro es' i r h hm
    obtain ⟨k, v⟩ := e
    cases es' with
    | nil => have := hm.1.length; simp at this
    | cons e' es' =>
      obtain ⟨hm1, hm2⟩ := hm
      simp only [List.map_cons] at hm1 hm2
      cases hm1 with
      | cons hk1 hm1 =>
      cases hm2 with
      | cons hv1 hm2 =>
      simp only [findA, Option.bind_eq_some_iff] at h
      obtain ⟨b, hb, h⟩ := h
      have hs := aeq_now hu hk hb hkey hk1
      cases b with
      | true =>
        simp at h; subst h
        exact ⟨_, by simp only [Instr.findNow, hs], .some hv1, fun j v hj => by cases hj; exact ⟨Nat.le_refl _, by simp⟩⟩
      | false =>
        simp at h
        obtain ⟨r', h1, h2, h3⟩ := ih h ⟨hm1, hm2⟩
        exact ⟨r', by simp only [Instr.findNow, hs]; exact h1, h2, fun j v hj => by have := h3 j v hj; simp; omega⟩
theorem checkKey_run {kt : TypeId} {u : TypeDesc} (hu : P.underlying kt = some u) (hk : (∃ k, u = .int k) ∨ u = .string) (e : Bool) (n : Nat) (v : Value) (w : World) :
    (Instr.checkKey e (n + 1) kt v).run P w = .ok () w := by
  unfold Instr.checkKey
  simp only [Sem.run_bind, run_underlying hu, Result.andThen_ok]
  rcases hk with ⟨k, rfl⟩ | rfl <;> rfl
theorem Sim.mapAt (S : Sim P ρ τ A w) {b : Nat} {es : List (Value × Value)} (h : A.get b = some (.map es)) :
    ∃ i es' clock, ρ b = some i ∧ w.heap[i.blk]? = some (.map es' clock) ∧ MRel ρ es es'.toList := by
  obtain ⟨i, h1, _, _, h4⟩ := S.obj _ _ h
  cases h4 with
  | map es' clock ho hm _ => exact ⟨i, es', clock, h1, ho, hm⟩
theorem Sim.mapAt' (S : Sim P ρ τ A w) {b : Nat} {es : List (Value × Value)} (h : A.get b = some (.map es)) :
    ∃ i es' clock, ρ b = some i ∧ w.heap[i.blk]? = some (.map es' clock) ∧ MRel ρ es es'.toList ∧ MapKept.Stamped es' clock := by
  obtain ⟨i, h1, _, _, h4⟩ := S.obj _ _ h
  cases h4 with
  | map es' clock ho hm hst => exact ⟨i, es', clock, h1, ho, hm, hst⟩
theorem run_getObj_map {r : Nat} {es : Array MapEntry} {clock : Nat} (h : w.heap[r]? = some (.map es clock)) : (getObj r).run P w = .ok (.map es clock) w := by
  simp [getObj, Sem.run, h]
theorem findKey_run {kt : TypeId} {u : TypeDesc} (hu : P.underlying kt = some u) {key : Value} {es : List MapEntry} {r : Option (Nat × Value)} (h : Instr.findNow u key es 0 = some r) (w : World) :
    (Instr.findKey kt key es).run P w = .ok r w := by
  simp [Instr.findKey, Sem.run_bind, run_underlying hu, h]
theorem lookup_tail {kt elem : TypeId} {u : TypeDesc} (hku : P.underlying kt = some u) (hk : (∃ k, u = .int k) ∨ u = .string) {key : Value} {es : Array MapEntry} {r : Option (Nat × Value)}
    (hr : Instr.findNow u key es.toList 0 = some r) (ok : Bool) {z : Value} (hz : r = none → ∃ i, P.info? elem = some i ∧ i.zero = some z) {zz : Value × Bool} (hzz : zz = (r.map fun x => (x.2, true)).getD (z, false)) (w : World) :
    (do
      Instr.checkKey es.isEmpty 10000 kt key
      let (v, ok') ← match ← Instr.findKey kt key es.toList with
        | some (_, v) => pure (v, true)
        | none => do pure (← zeroValue elem, false)
      pure (if ok then .tuple #[v, .bool ok'] else v) : Sem Value).run P w = .ok (if ok then .tuple #[zz.1, .bool zz.2] else zz.1) w := by
  simp only [Sem.run_bind]
  rw [checkKey_run hku hk _ 9999]
  simp only [Result.andThen_ok, findKey_run hku hr]
  cases r with
  | none =>
    obtain ⟨i, hi, hzi⟩ := hz rfl
    subst hzz
    simp only [Sem.run_bind, run_zero hi hzi, Result.andThen_ok, Sem.run_pure]
    rfl
  | some x =>
    obtain ⟨j, v⟩ := x
    subst hzz
    simp only [Sem.run_pure, Result.andThen_ok]
    rfl
theorem alookup_run (S : Sim P ρ τ A w) {t : TypeId} {x x' key key' v : Value} {ok : Bool} (h : alookup P A t x key ok = some v) (hx : VRel ρ x x') (hkey : VRel ρ key key') :
    ∃ v', (Instr.lookup t x' key' ok).run P w = .ok v' w ∧ VRel ρ v v' := by
  unfold alookup at h
  split at h
  · rename_i kt elem hu
    split at h
    case isFalse => cases h
    rename_i hkk
    have hkk' := keyKind_iff hkk
    obtain ⟨u, hku, hk⟩ : ∃ u, P.underlying kt = some u ∧ ((∃ k, u = .int k) ∨ u = .string) := by
      rcases hkk' with ⟨k, hk⟩ | hk
      · exact ⟨_, hk, .inl ⟨k, rfl⟩⟩
      · exact ⟨_, hk, .inr rfl⟩
    simp only [Option.bind_eq_some_iff] at h
    obtain ⟨es, hes, r, hr, ⟨v0, ok0⟩, hv0, h⟩ := h
    simp only [Option.some.injEq] at h
    -- the entries
    have hent : ∃ es' : Array MapEntry, MRel ρ es es'.toList ∧ ∀ (r' : Option (Nat × Value)) (z : Value) (zz : Value × Bool), Instr.findNow u key' es'.toList 0 = some r' → (r' = none → ∃ i, P.info? elem = some i ∧ i.zero = some z) →
        zz = (r'.map fun x => (x.2, true)).getD (z, false) → (Instr.lookup t x' key' ok).run P w = .ok (if ok then .tuple #[zz.1, .bool zz.2] else zz.1) w := by
      split at hes
      · cases hx; cases hes
        refine ⟨#[], ⟨.nil, .nil⟩, fun r' z zz hr' hz hzz => ?_⟩
        have := lookup_tail hku hk hr' ok hz hzz w
        unfold Instr.lookup
        simp only [Sem.run_bind, run_underlying hu, Result.andThen_ok, Sem.run_pure] at this ⊢
        exact this
      · split at hes
        · rename_i r0 es0 hg
          cases hes
          cases hx with
          | map hb =>
          obtain ⟨i, es', clock, h1, h2, h3⟩ := S.mapAt hg
          rw [hb] at h1; cases h1
          refine ⟨es', h3, fun r' z zz hr' hz hzz => ?_⟩
          have := lookup_tail hku hk hr' ok hz hzz w
          unfold Instr.lookup
          simp only [Sem.run_bind, run_underlying hu, Result.andThen_ok, Sem.run_pure, run_getObj_map h2] at this ⊢
          exact this
        · cases hes
      · cases hes
    obtain ⟨es', hm, hent⟩ := hent
    obtain ⟨r', hr', hf, _⟩ := findA_now hku hk hkey hr hm
    cases hf with
    | none =>
      simp only [Option.bind_eq_some_iff] at hv0
      obtain ⟨i, hi, z, hz, hv0⟩ := hv0
      split at hv0
      · rename_i hp
        simp only [Option.some.injEq, Prod.mk.injEq] at hv0
        obtain ⟨rfl, rfl⟩ := hv0
        refine ⟨_, hent none z (z, false) hr' (fun _ => ⟨i, hi, hz⟩) rfl, ?_⟩
        subst h
        cases ok
        · exact .plain hp
        · exact .tuple (.cons (.plain hp) (.cons (.bool _) .nil))
      · cases hv0
    | some hv =>
      cases hv0
      refine ⟨_, hent _ undef (_, true) hr' (fun e => by cases e) rfl, ?_⟩
      subst h
      cases ok
      · exact hv
      · exact .tuple (.cons hv (.cons (.bool _) .nil))
  · cases h
theorem alen_run (S : Sim P ρ τ A w) {t : TypeId} {x x' v : Value} (h : alen P A t x = some v) (hx : VRel ρ x x') (ts : List TypeId) (ty : TypeId) (xs : List Value) :
    ∃ v', (Builtin.len_ (t :: ts).toArray ty (x' :: xs).toArray).run P w = .ok v' w ∧ VRel ρ v v' := by
  unfold alen at h
  split at h
  · rename_i s hu
    cases hx; cases h
    exact ⟨goInt _, by simp [Builtin.len_, Sem.run_bind, run_underlying hu], .int _ _⟩
  · rename_i n e hu
    cases h
    exact ⟨goInt _, by simp [Builtin.len_, Sem.run_bind, run_underlying hu], .int _ _⟩
  · rename_i e a n c hu
    cases h
    cases hx with
    | sliceNil => exact ⟨goInt _, by simp [Builtin.len_, Sem.run_bind, run_underlying hu], .int _ _⟩
    | sliceZ => exact ⟨goInt _, by simp [Builtin.len_, Sem.run_bind, run_underlying hu], .int _ _⟩
    | sliceEx _ _ _ _ => exact ⟨goInt _, by simp [Builtin.len_, Sem.run_bind, run_underlying hu], .int _ _⟩
    | sliceUn _ _ _ _ _ => exact ⟨goInt _, by simp [Builtin.len_, Sem.run_bind, run_underlying hu], .int _ _⟩
  · rename_i hu
    cases hx; cases h
    exact ⟨goInt _, by simp [Builtin.len_, Sem.run_bind, run_underlying hu], .int _ _⟩
  · rename_i k e r hu
    cases hx with
    | map hb =>
    split at h
    · rename_i es hg
      cases h
      obtain ⟨i, es', clock, h1, h2, h3⟩ := S.mapAt hg
      rw [hb] at h1; cases h1
      have hl : es.length = es'.size := by have := h3.1.length; simpa using this
      refine ⟨goInt es'.size, by simp [Builtin.len_, Sem.run_bind, run_underlying hu, run_getObj_map h2], ?_⟩
      rw [hl]; exact .int _ _
    · cases h
  · rename_i a hu
    split at h
    · rename_i n e ha
      cases h
      refine ⟨goInt n, ?_, .int _ _⟩
      simp [Builtin.len_, Sem.run_bind, run_underlying hu, run_underlying ha]
    · cases h
  · cases h
end
end Go.Ag
namespace Go.Ag
section
variable {P : Program} {ρ : Ren} {τ : Nat → Option Nat} {A A' : AState} {w : World}
def Gives (P : Program) (ρ : Ren) (τ : Nat → Option Nat) (A : AState) (w : World) (s : Sem Value) (v : Value) (A' : AState) : Prop :=
  ∃ v' w' ρ' τ', s.run P w = .ok v' w' ∧ VRel ρ' v v' ∧ Ext P ρ τ A w ρ' τ' A' w'
theorem thaw0 {n : Nat} : Thawed (0, 0) n := .inl rfl
theorem cellAt_nil (d : List Value) (j : Nat) : cellAt .nil d j = d[j % d.length]? := rfl
theorem aalloc_run (S : Sim P ρ τ A w) {t : TypeId} {v : Value} (h : aalloc P A t = some (v, A')) (hfree : ρ A.size = none) :
    Gives P ρ τ A w (Instr.alloc t true (.tuple #[])) v A' := by
  unfold aalloc at h
  simp only [Option.bind_eq_some_iff] at h
  obtain ⟨i, hi, z, hz, h⟩ := h
  split at h
  case isFalse => cases h
  rename_i hp
  simp only [Option.some.injEq, Prod.mk.injEq] at h
  obtain ⟨rfl, rfl⟩ := h
  have hpl : VRels ρ z.cells.toList z.cells.toList := .plain hp
  have hrun : (Instr.alloc t true (.tuple #[])).run P w = .ok (.pointer (some ⟨w.heap.size, 0, none⟩)) { w with heap := w.heap.push (.cells z.cells t) } := by
    simp [Instr.alloc, Sem.run_bind, run_zero hi hz, newVar, newRow]
  have hext := S.fresh' (cs := .nil) (d := z.cells.toList) (n := z.cells.size) (es := 0) (c := z.cells) (el := t) (fz := (0, 0))
    (w' := { w with heap := w.heap.push (.cells z.cells t) }) rfl thaw0 rfl rfl rfl hfree (Nat.le_refl _) (fun j hj => by
      have hj' : j < z.cells.toList.length := by simpa using hj
      obtain ⟨y, hy, hr⟩ := hpl.get (List.getElem?_eq_getElem hj')
      refine ⟨_, y, ?_, by simpa using hy, hr⟩
      rw [cellAt_nil, Nat.mod_eq_of_lt hj', List.getElem?_eq_getElem hj'])
  refine ⟨_, _, _, _, hrun, ?_, hext⟩
  have := VRel.ptr (ρ := ρ.upd A.size ⟨w.heap.size, 0, z.cells.size, 0, z.cells.size⟩) (o := 0) (Ren.upd_same _ _ _)
  simpa using this
theorem abox_run (S : Sim P ρ τ A w) {t : TypeId} {x x' : Value} (hx : VRel ρ x x') (hfree : ρ A.size = none) :
    Gives P ρ τ A w (Instr.box t x') (abox A x).1 (abox A x).2 := by
  have hc := hx.cells
  have hl := hc.length
  simp only [Array.length_toList] at hl
  have hrun : (Instr.box t x').run P w = .ok (.pointer (some ⟨w.heap.size, 0, none⟩)) { w with heap := w.heap.push (.cells x'.cells t) } := by
    simp [Instr.box, Sem.run_bind, newVar, newRow]
  have hext := S.fresh' (cs := writeL .nil 0 x.cells.toList) (d := []) (n := x.cells.size) (es := 0) (c := x'.cells) (el := t) (fz := (0, 0))
    (w' := { w with heap := w.heap.push (.cells x'.cells t) }) rfl thaw0 rfl rfl rfl hfree (by omega) (fun j hj => by
      have hj' : j < x.cells.toList.length := by simpa using hj
      obtain ⟨y, hy, hr⟩ := hc.get (List.getElem?_eq_getElem hj')
      exact ⟨_, y, by rw [cellAt_list _ _ _ hj', List.getElem?_eq_getElem hj'], by simpa using hy, hr⟩)
  refine ⟨_, _, _, _, hrun, ?_, hext⟩
  have := VRel.ptr (ρ := ρ.upd A.size ⟨w.heap.size, 0, x'.cells.size, 0, x.cells.size⟩) (o := 0) (Ren.upd_same _ _ _)
  simpa [abox] using this
theorem abuildSlice_run (S : Sim P ρ τ A w) {t : TypeId} {len : Nat} {parts : List (Nat × Value)} {parts' : Array (Nat × Value)} {v : Value} (h : abuildSlice P A t len parts = some (v, A'))
    (h1 : parts.map (·.1) = parts'.toList.map (·.1)) (h2 : VRels ρ (parts.map (·.2)) (parts'.toList.map (·.2))) (hfree : ρ A.size = none) :
    Gives P ρ τ A w (Instr.buildSlice t len parts') v A' := by
  unfold abuildSlice at h
  split at h
  case h_2 => cases h
  rename_i elem hu
  simp only [Option.bind_eq_some_iff] at h
  obtain ⟨e, he, h⟩ := h
  split at h
  · cases h
  rename_i hsz
  simp only [Bool.or_eq_true, decide_eq_true_eq, Nat.ble_eq, not_or] at hsz
  simp only [Option.bind_eq_some_iff] at h
  obtain ⟨z, hz, cs, hcs, h⟩ := h
  simp only [Option.some.injEq, Prod.mk.injEq] at h
  obtain ⟨rfl, rfl⟩ := h
  -- the zeros
  obtain ⟨zero, hzrun, hinit⟩ : ∃ zero : Array Value, ((if len * e.size = 0 then pure #[] else do pure (← zeroValue elem).cells : Sem (Array Value)).run P w = .ok zero w) ∧
      VRels ρ ((List.range (len * e.size)).map fun i => (z[i % z.length]?).getD undef) ((Array.range (len * e.size)).map (zero[· % zero.size]!)).toList := by
    by_cases h0 : len * e.size = 0
    · refine ⟨#[], by rw [if_pos h0]; rfl, ?_⟩
      rw [h0]; simp; exact .nil
    · rw [if_neg h0] at hz
      simp only [Option.bind_eq_some_iff] at hz
      obtain ⟨zv, hzv, hz⟩ := hz
      split at hz
      case isFalse => cases hz
      rename_i hp
      simp only [Bool.and_eq_true] at hp
      cases hz
      have hzs : zv.cells.size = e.size := Nat.eq_of_beq_eq_true hp.2
      have hepos : 0 < e.size := Nat.pos_of_ne_zero (by intro e0; rw [e0] at h0; simp at h0)
      refine ⟨zv.cells, by rw [if_neg h0]; simp [Sem.run_bind, run_zero he hzv], ?_⟩
      have hpl : VRels ρ zv.cells.toList zv.cells.toList := .plain hp.1
      refine .of_get (by simp) fun j x y hx hy => ?_
      have hj : j < len * e.size := by have := (List.getElem?_eq_some_iff.1 hx).1; simpa using this
      have hm : j % zv.cells.size < zv.cells.size := Nat.mod_lt _ (by omega)
      obtain ⟨q, hq, hr⟩ := hpl.get (List.getElem?_eq_getElem (show j % zv.cells.size < zv.cells.toList.length by simpa using hm))
      have hq' : zv.cells[j % zv.cells.size] = q := by simpa [hm] using hq
      simp [hj, hm] at hx hy
      subst hx; subst hy
      rw [← hq'] at hr
      simpa using hr
  obtain ⟨cs', hf', hr⟩ := fill_rel hcs hinit h1 h2
  have hl := hr.length
  simp only [Array.length_toList] at hl
  have hrun : (Instr.buildSlice t len parts').run P w = .ok (.slice (some ⟨w.heap.size, 0, none⟩) len len) { w with heap := w.heap.push (.cells cs' elem) } := by
    simp only [Instr.buildSlice, Sem.run_bind, run_underlying hu, Result.andThen_ok, run_size he]
    rw [if_neg (by omega)]
    have hz' := hzrun
    by_cases h0 : len * e.size = 0
    · rw [if_pos h0] at hz' ⊢
      simp only [Sem.run_pure, Result.ok.injEq, and_true] at hz'
      subst hz'
      simp only [Sem.run_bind, Sem.run_pure, Result.andThen_ok]
      rw [hf']
      simp [newRow]
    · rw [if_neg h0] at hz' ⊢
      simp only [Sem.run_bind] at hz' ⊢
      cases hzz : (zeroValue elem).run P w with
      | halt x w2 => rw [hzz] at hz'; cases hz'
      | ok zv w2 =>
        rw [hzz] at hz'
        simp only [Result.andThen_ok, Sem.run_pure, Result.ok.injEq] at hz'
        obtain ⟨rfl, rfl⟩ := hz'
        simp only [Result.andThen_ok, Sem.run_pure]
        rw [hf']
        simp [newRow]
  have hext := S.fresh' (cs := writeL .nil 0 cs) (d := []) (n := cs.length) (es := e.size) (c := cs') (el := elem) (fz := (0, 0))
    (w' := { w with heap := w.heap.push (.cells cs' elem) }) rfl thaw0 rfl rfl rfl hfree (by omega) (fun j hj => by
      obtain ⟨y, hy, hrr⟩ := hr.get (List.getElem?_eq_getElem hj)
      exact ⟨_, y, by rw [cellAt_list _ _ _ hj, List.getElem?_eq_getElem hj], by simpa using hy, hrr⟩)
  refine ⟨_, _, _, _, hrun, ?_, hext⟩
  exact .sliceEx (Ren.upd_same _ _ _) (by omega) (Nat.le_refl _) (fun _ => rfl)
theorem amakeSlice_run (S : Sim P ρ τ A w) {t : TypeId} {l l' c c' v : Value} (h : amakeSlice P A t l c = some (v, A')) (hl : VRel ρ l l') (hc : VRel ρ c c') (hfree : ρ A.size = none) :
    Gives P ρ τ A w (Instr.makeSlice t l' c') v A' := by
  unfold amakeSlice at h
  split at h
  case h_2 => cases h
  rename_i elem kl l0 kc c0 hu
  cases hl; cases hc
  simp only [Option.bind_eq_some_iff] at h
  obtain ⟨e, he, h⟩ := h
  split at h
  case isFalse => cases h
  rename_i hcond
  obtain ⟨g1, g2, g3, g4⟩ := hcond
  -- the cells
  obtain ⟨zero, d, hzrun, hv, hA, hcells⟩ : ∃ (zero : Array Value) (d : List Value), ((if (IntKind.i64.wrap c0).toNat * e.size = 0 then pure #[] else do pure (← zeroValue elem).cells : Sem (Array Value)).run P w = .ok zero w) ∧
      v = .slice (some ⟨A.size, 0, none⟩) (IntKind.i64.wrap l0).toNat (IntKind.i64.wrap c0).toNat ∧ A' = A.fresh .nil d ((IntKind.i64.wrap c0).toNat * e.size) e.size ∧
      ∀ j, j < (IntKind.i64.wrap c0).toNat * e.size → ∃ x y, cellAt .nil d j = some x ∧ ((Array.range ((IntKind.i64.wrap c0).toNat * e.size)).map (zero[· % zero.size]!))[j]? = some y ∧ VRel ρ x y := by
    split at h
    · rename_i h0
      simp only [Option.some.injEq, Prod.mk.injEq] at h
      obtain ⟨rfl, rfl⟩ := h
      exact ⟨#[], [], by rw [if_pos h0]; rfl, rfl, by rw [h0], fun j hj => by omega⟩
    · rename_i h0
      simp only [Option.bind_eq_some_iff] at h
      obtain ⟨z, hz, h⟩ := h
      split at h
      case isFalse => cases h
      rename_i hp
      simp only [Bool.and_eq_true] at hp
      simp only [Option.some.injEq, Prod.mk.injEq] at h
      obtain ⟨rfl, rfl⟩ := h
      have hpos : 0 < z.cells.size := by have := hp.2; simp [Nat.blt] at this; omega
      refine ⟨z.cells, z.cells.toList, by rw [if_neg h0]; simp [Sem.run_bind, run_zero he hz], rfl, rfl, fun j hj => ?_⟩
      have hpl : VRels ρ z.cells.toList z.cells.toList := .plain hp.1
      have hm : j % z.cells.size < z.cells.size := Nat.mod_lt _ hpos
      obtain ⟨q, hq, hr⟩ := hpl.get (List.getElem?_eq_getElem (show j % z.cells.size < z.cells.toList.length by simpa using hm))
      refine ⟨_, q, by rw [cellAt_nil]; simp only [Array.length_toList]; exact List.getElem?_eq_getElem (by simpa using hm), ?_, hr⟩
      have hq' : z.cells[j % z.cells.size] = q := by simpa [hm] using hq
      simp [hj, hm, hq']
  subst hv hA
  have hrun : (Instr.makeSlice t (.int kl l0) (.int kc c0)).run P w = .ok (.slice (some ⟨w.heap.size, 0, none⟩) (IntKind.i64.wrap l0).toNat (IntKind.i64.wrap c0).toNat)
      { w with heap := w.heap.push (.cells ((Array.range ((IntKind.i64.wrap c0).toNat * e.size)).map (zero[· % zero.size]!)) elem) } := by
    have htl : ((IntKind.i64.wrap c0 < 0 : Bool) || decide (e.bytes * IntKind.i64.wrap c0 > 2 ^ 48) || decide (IntKind.i64.wrap l0 < 0) || decide (IntKind.i64.wrap l0 > IntKind.i64.wrap c0)) = false := by
      simp only [Bool.or_eq_false_iff, decide_eq_false_iff_not]
      refine ⟨⟨⟨by omega, ?_⟩, by omega⟩, by omega⟩
      have : (2 : Int) ^ 48 = 281474976710656 := by decide
      omega
    simp only [Instr.makeSlice, asInt, asIntOf, Sem.run_bind, run_underlying hu, Result.andThen_ok, Sem.run_pure, run_info he]
    rw [if_neg (by rw [htl]; simp)]
    simp only [Sem.run_bind, run_askRoom, Result.andThen_ok, run_size he, Sem.run_pure]
    by_cases h0 : (IntKind.i64.wrap c0).toNat * e.size = 0
    · rw [if_pos h0] at hzrun ⊢
      simp only [Sem.run_pure, Result.ok.injEq, and_true] at hzrun
      subst hzrun
      simp [newRow]
    · rw [if_neg h0] at hzrun ⊢
      simp only [Sem.run_bind] at hzrun ⊢
      cases hzz : (zeroValue elem).run P w with
      | halt x w2 => rw [hzz] at hzrun; cases hzrun
      | ok zv w2 =>
        rw [hzz] at hzrun
        simp only [Result.andThen_ok, Sem.run_pure, Result.ok.injEq] at hzrun
        obtain ⟨rfl, rfl⟩ := hzrun
        simp [newRow]
  have hext := S.fresh' (cs := .nil) (d := d) (n := (IntKind.i64.wrap c0).toNat * e.size) (es := e.size) (c := (Array.range ((IntKind.i64.wrap c0).toNat * e.size)).map (zero[· % zero.size]!)) (el := elem) (fz := (0, 0))
    (w' := { w with heap := w.heap.push (.cells ((Array.range ((IntKind.i64.wrap c0).toNat * e.size)).map (zero[· % zero.size]!)) elem) }) rfl thaw0 rfl rfl rfl hfree (by simp) hcells
  refine ⟨_, _, _, _, hrun, ?_, hext⟩
  exact .sliceEx (Ren.upd_same _ _ _) (by omega) (by omega) (fun _ => rfl)
theorem amakeMap_run (S : Sim P ρ τ A w) {t : TypeId} {r r' : Option Value} {v : Value} (h : amakeMap A r = some (v, A')) (hr : OptRel ρ r r') (hfree : ρ A.size = none) :
    Gives P ρ τ A w (Instr.makeMap t r') v A' := by
  unfold amakeMap at h
  split at h
  case h_2 => cases h
  cases hr
  simp only [Option.some.injEq, Prod.mk.injEq] at h
  obtain ⟨rfl, rfl⟩ := h
  have hrun : (Instr.makeMap t none).run P w = .ok (.map (some w.heap.size)) { w with heap := w.heap.push (.map #[] 0) } := by
    simp [Instr.makeMap, Sem.run_bind]
  have hext := S.push (o := .map []) (ob := .map #[] 0) (i := ⟨w.heap.size, 0, 0, 0, 0⟩) (w' := { w with heap := w.heap.push (.map #[] 0) }) rfl rfl rfl rfl rfl trivial hfree
    (.map #[] 0 (by simp) ⟨.nil, .nil⟩ (MapKept.stamped_empty 0))
  exact ⟨_, _, _, _, hrun, .map (Ren.upd_same _ _ _), hext⟩
theorem arange_run (S : Sim P ρ τ A w) {t : TypeId} {x x' v : Value} (h : arange P A t x = some (v, A')) (hx : VRel ρ x x') (hfree : ρ A.size = none) :
    Gives P ρ τ A w (Instr.range t x') v A' := by
  unfold arange at h
  split at h
  case h_2 => cases h
  rename_i s hu
  cases hx
  simp only [Option.some.injEq, Prod.mk.injEq] at h
  obtain ⟨rfl, rfl⟩ := h
  have hrun : (Instr.range t (.string s)).run P w = .ok (.pointer (some ⟨w.heap.size, 0, none⟩)) { w with heap := w.heap.push (.stringIter s 0) } := by
    simp [Instr.range, Sem.run_bind, run_underlying hu]
  have hext := S.push (o := .strIter s 0) (ob := .stringIter s 0) (i := ⟨w.heap.size, 0, 0, 0, 0⟩) (w' := { w with heap := w.heap.push (.stringIter s 0) }) rfl rfl rfl rfl rfl trivial hfree
    (.strIter (by simp) rfl)
  refine ⟨_, _, _, _, hrun, ?_, hext⟩
  have := VRel.ptr (ρ := ρ.upd A.size ⟨w.heap.size, 0, 0, 0, 0⟩) (o := 0) (Ren.upd_same _ _ _)
  simpa using this
theorem abytes_run (S : Sim P ρ τ A w) {src dst : TypeId} {x x' v : Value} (h : abytes P A src dst x = some (v, A')) (hx : VRel ρ x x') (hfree : ρ A.size = none) :
    Gives P ρ τ A w (convert src dst x') v A' := by
  unfold abytes at h
  split at h
  case h_2 => cases h
  rename_i us e s hs hd
  cases hx
  split at h
  case isFalse => cases h
  rename_i hcond
  simp only [Bool.and_eq_true] at hcond
  have he := isU8_iff hcond.1
  have hsz : s.size < 2147483648 := by have := hcond.2; simp [Nat.blt] at this; omega
  simp only [Option.some.injEq, Prod.mk.injEq] at h
  obtain ⟨rfl, rfl⟩ := h
  have hge : s.size ≤ grownCap w s.size 0 e := by simp [grownCap, Question.cut]
  have hcs : (Lib.bytesCells w e s).size = grownCap w s.size 0 e := by
    have : s.data.size = s.size := rfl
    simp [Lib.bytesCells]; omega
  have hheap : (Lib.bytesWorld w e s).heap = w.heap.push (.cells (Lib.bytesCells w e s) e ((Lib.bytesCells w e s).size, (Lib.bytesCells w e s).size + 1)) := by
    apply Array.ext_getElem?
    intro j
    rw [Array.getElem?_push]
    by_cases hj : j = w.heap.size
    · rw [if_pos hj, hj, Lib.bytesWorld_at_new]
    · rw [if_neg hj]
      by_cases hl : j < w.heap.size
      · exact Lib.bytesWorld_at_old w e s j hl
      · rw [Array.getElem?_eq_none (by rw [Lib.bytesWorld_size]; omega), Array.getElem?_eq_none (by omega)]
  have hrun := Lib.run_convert_string_bytes (P := P) w src dst e s hs hd he
  have hext := S.fresh' (cs := writeL .nil 0 (stringCells s)) (d := []) (n := s.size) (es := 1) hheap (.inr (Nat.le_refl _)) rfl rfl rfl hfree (by rw [hcs]; exact hge) (fun j hj => by
      have hlen : (stringCells s).length = s.size := by simp [stringCells]
      have hj' : j < (stringCells s).length := by omega
      refine ⟨.int .u8 (s.data[j]'(by exact hj)).toNat, .int .u8 (s.data[j]'(by exact hj)).toNat, ?_, ?_, .int _ _⟩
      · rw [cellAt_list _ _ _ hj', List.getElem?_eq_getElem hj']
        simp [stringCells]
      · rw [Lib.bytesCells, Array.getElem?_append_left (by simpa using hj)]
        have : j < s.data.size := hj
        rw [Array.getElem?_map, Array.getElem?_eq_getElem this]
        rfl)
  refine ⟨_, _, _, _, hrun, ?_, hext⟩
  exact .sliceUn (Ren.upd_same _ _ _) hge (fun _ => rfl) (by simp; exact hge) (by simp [hcs])
end
end Go.Ag
namespace Go.Ag
section
variable {P : Program} {ρ : Ren} {τ : Nat → Option Nat} {A A' : AState} {w : World}
theorem one_all {vs : List Value} (h : vs.all Ag.oneCell = true) {vs' : List Value} (hv : VRels ρ vs vs') : ∀ v ∈ vs', v.oneCell' = true := by
  induction vs generalizing vs' with
  | nil => cases hv; intro v hv; cases hv
  | cons x xs ih =>
    simp only [List.all_cons, Bool.and_eq_true] at h
    cases hv with
    | cons h1 h2 =>
      intro v hv
      cases hv with
      | head => rw [← h1.oneCell]; exact h.1
      | tail _ hm => exact ih h.2 h2 v hm
theorem astore_run (S : Sim P ρ τ A w) {t : TypeId} {p p' x x' : Value} (h : astore P A t p x = some A') (hp : VRel ρ p p') (hx : VRel ρ x x') :
    ∃ w', (Instr.storeAt t p' x').run P w = .ok () w' ∧ Ext P ρ τ A w ρ τ A' w' := by
  unfold astore at h
  split at h
  case h_2 => cases h
  rename_i b off
  cases hp with
  | ptr hb =>
  rename_i j
  simp only [Option.bind_eq_some_iff] at h
  obtain ⟨i, hi, h⟩ := h
  split at h
  case isFalse => cases h
  rename_i hcond
  simp only [Bool.and_eq_true] at hcond
  have hsz : x.cells.size = i.size := Nat.eq_of_beq_eq_true hcond.1
  have hcells := hx.cells
  have hl := hcells.length
  simp only [Array.length_toList] at hl
  obtain ⟨i2, h1, h2, h3, h4⟩ := S.write h hcells
  rw [hb] at h1; cases h1
  have hone := one_all hcond.2 hcells
  have hst := run_storeCells_cells (P := P) j.blk (j.off + off) x'.cells.toList 0 w (by simpa using h2) (by simpa using h3) hone
  simp only [Nat.add_zero] at hst
  refine ⟨_, ?_, h4⟩
  simp only [Instr.storeAt, Instr.sureAddr, storeVar, Sem.run_bind, Sem.run_pure, Result.andThen_ok, run_size hi]
  rw [if_neg (by omega)]
  exact hst
theorem bytes_eq {a b : ByteArray} (h : (a == b) = true) : a = b := by
  rw [beq_toListBytes] at h
  have h' : a.toList = b.toList := by simpa using h
  rw [ByteArray.toList_eq, ByteArray.toList_eq] at h'
  obtain ⟨⟨x⟩⟩ := a
  obtain ⟨⟨y⟩⟩ := b
  simp at h'
  rw [h']
theorem bytes_refl (a : ByteArray) : (a == a) = true := by rw [beq_toListBytes]; simp
theorem keyThatStays_same {k : IntKind} {n m : Int} (h : n = m) (w : World) : (Instr.keyThatStays (.int k n) (.int k m)).run P w = .ok (.int k m) w := by
  subst h
  simp [Instr.keyThatStays, Instr.sameBits]
theorem keyThatStays_string {s t : ByteArray} (h : s = t) (w : World) : (Instr.keyThatStays (.string s) (.string t)).run P w = .ok (.string t) w := by
  subst h
  simp [Instr.keyThatStays, Instr.sameBits, bytes_refl]
theorem anext_run (S : Sim P ρ τ A w) {x x' v : Value} {isString : Bool} {t : TypeId} (h : anext A x isString = some (v, A')) (hx : VRel ρ x x') :
    Gives P ρ τ A w (Instr.next x' isString t) v A' := by
  unfold anext at h
  split at h
  case h_2 => cases h
  rename_i r
  cases hx with
  | ptr hb =>
  rename_i j
  split at h
  case h_2 => cases h
  rename_i s pos hg
  obtain ⟨i, h1, h2, h3, h4⟩ := S.obj _ _ hg
  rw [hb] at h1; cases h1
  cases h4 with
  | strIter ho h0 =>
  have hget : (getObj j.blk).run P w = .ok (.stringIter s pos) w := by simp [getObj, Sem.run, ho]
  split at h
  · rename_i hlt
    simp only [Option.some.injEq, Prod.mk.injEq] at h
    obtain ⟨rfl, rfl⟩ := h
    have hset : (setObj j.blk (.stringIter s (pos + (Utf8.decode s pos).2))).run P w = .ok () { w with heap := w.heap.setIfInBounds j.blk (.stringIter s (pos + (Utf8.decode s pos).2)) } := by
      simp [setObj, Sem.run, ho]
    have hrun : (Instr.next (.pointer (some ⟨j.blk, j.off + 0, none⟩)) true t).run P w = .ok (.tuple #[.bool true, goInt pos, .int .i32 (Utf8.decode s pos).1])
        { w with heap := w.heap.setIfInBounds j.blk (.stringIter s (pos + (Utf8.decode s pos).2)) } := by
      rw [h0]
      simp [Instr.next, Sem.run_bind, hget, hlt, hset]
    have hext := S.putObj (o' := .strIter s (pos + (Utf8.decode s pos).2)) (ob := .stringIter s (pos + (Utf8.decode s pos).2)) (w' := { w with heap := w.heap.setIfInBounds j.blk (.stringIter s (pos + (Utf8.decode s pos).2)) })
      hg hb rfl rfl rfl rfl (by intros; simp) (by intros; simp) (by intros; simp) (by intros; simp) (fun R hR => by rw [ho] at hR; cases hR) (.strIter (by simp [h2]) h0)
    exact ⟨_, _, _, _, hrun, .tuple (.cons (.bool _) (.cons (.int _ _) (.cons (.int _ _) .nil))), hext⟩
  · rename_i hlt
    simp only [Option.some.injEq, Prod.mk.injEq] at h
    obtain ⟨rfl, rfl⟩ := h
    refine ⟨.tuple #[.bool false], w, ρ, τ, ?_, .tuple (.cons (.bool _) .nil), .refl S⟩
    rw [h0]
    simp [Instr.next, Sem.run_bind, hget, hlt]
theorem VRels.snoc_map {es : List (Value × Value)} {es' : List MapEntry} (h : MRel ρ es es') {k k' v v' : Value} (hk : VRel ρ k k') (hv : VRel ρ v v') (born : Nat) :
    MRel ρ (es ++ [(k, v)]) (es' ++ [{ key := k', val := v', born }]) := by
  obtain ⟨h1, h2⟩ := h
  refine ⟨?_, ?_⟩
  · simp only [List.map_append, List.map_cons, List.map_nil]; exact h1.append (.cons hk .nil)
  · simp only [List.map_append, List.map_cons, List.map_nil]; exact h2.append (.cons hv .nil)
theorem sameNow_eq {u : TypeDesc} {x y : Value} (h : Instr.sameNow u x y = some true) : (∃ k n, x = .int k n ∧ y = .int k n) ∨ (∃ s, x = .string s ∧ y = .string s) ∨ (∃ b, x = .bool b ∧ y = .bool b) := by
  unfold Instr.sameNow at h
  split at h
  · split at h
    · rename_i e; subst e; simp at h; subst h; exact .inl ⟨_, _, rfl, rfl⟩
    · cases h
  · simp only [Option.some.injEq] at h; have := bytes_eq h; subst this; exact .inr (.inl ⟨_, rfl, rfl⟩)
  · simp at h; subst h; exact .inr (.inr ⟨_, rfl, rfl⟩)
  · cases h
theorem sameNow_self {u : TypeDesc} (hk : (∃ k, u = .int k) ∨ u = .string) {x : Value} {b : Bool} (h : Instr.sameNow u x x = some b) : b = true := by
  rcases hk with ⟨k, rfl⟩ | rfl <;> cases x <;> simp [Instr.sameNow] at h <;> first | exact h.symm | exact h | (rw [bytes_refl] at h; exact h.symm)
theorem sameNow_key {u : TypeDesc} (hk : (∃ k, u = .int k) ∨ u = .string) {x y : Value} (h : Instr.sameNow u x y = some true) : x = y := by
  rcases hk with ⟨k, rfl⟩ | rfl <;> cases x <;> cases y <;> simp [Instr.sameNow] at h <;> first | (rw [bytes_eq h]) | simp_all
theorem findNow_other {u : TypeDesc} (hk : (∃ k, u = .int k) ∨ u = .string) {key : Value} : ∀ {es : List MapEntry} {i : Nat}, Instr.findNow u key es i = some none → ∀ x ∈ es, x.key ≠ key := by
  intro es
  induction es with
  | nil => intro i _ x hx; cases hx
  | cons e es ih =>
    intro i h x hx
    simp only [Instr.findNow] at h
    split at h
    · cases h
    · rename_i hs
      rcases List.mem_cons.1 hx with rfl | hx
      · intro e0; rw [← e0] at hs; cases sameNow_self hk hs
      · exact ih h x hx
    · cases h
theorem findNow_at {u : TypeDesc} {key : Value} : ∀ {es : List MapEntry} {i j : Nat} {v : Value}, Instr.findNow u key es i = some (some (j, v)) → ∃ e, i ≤ j ∧ es[j - i]? = some e ∧ Instr.sameNow u key e.key = some true := by
  intro es
  induction es with
  | nil => intro i j v h; simp [Instr.findNow] at h
  | cons e es ih =>
    intro i j v h
    simp only [Instr.findNow] at h
    split at h
    · rename_i hs
      simp at h
      obtain ⟨rfl, _⟩ := h
      exact ⟨e, Nat.le_refl _, by simp, hs⟩
    · obtain ⟨e', h1, h2, h3⟩ := ih h
      refine ⟨e', by omega, ?_, h3⟩
      rw [show j - i = (j - (i + 1)) + 1 by omega]; simpa using h2
    · cases h
theorem amapUpdate_run (S : Sim P ρ τ A w) {t : TypeId} {m m' key key' v v' : Value} (h : amapUpdate P A t m key v = some A') (hm : VRel ρ m m') (hkey : VRel ρ key key') (hv : VRel ρ v v') :
    ∃ w', (Instr.mapUpdate t m' key' v').run P w = .ok () w' ∧ Ext P ρ τ A w ρ τ A' w' := by
  unfold amapUpdate at h
  split at h
  case h_2 => cases h
  rename_i kt elem r hu
  cases hm with
  | map hb =>
  rename_i i0
  split at h
  case isFalse => cases h
  rename_i hkk
  obtain ⟨u, hku, hk⟩ : ∃ u, P.underlying kt = some u ∧ ((∃ k, u = .int k) ∨ u = .string) := by
    rcases keyKind_iff hkk with ⟨k, hk⟩ | hk
    · exact ⟨_, hk, .inl ⟨k, rfl⟩⟩
    · exact ⟨_, hk, .inr rfl⟩
  split at h
  case h_2 => cases h
  rename_i es hg
  simp only [Option.bind_eq_some_iff] at h
  obtain ⟨f, hf, h⟩ := h
  obtain ⟨i, es', clock, h1, h2, h3, hst⟩ := S.mapAt' hg
  obtain rfl : i0 = i := Option.some.inj (hb.symm.trans h1)
  obtain ⟨f', hf', hfr, hfi⟩ := findA_now hku hk hkey hf h3
  have hlt : i0.blk < w.heap.size := (Array.getElem?_eq_some_iff.1 h2).1
  have hset : ∀ o, (setObj i0.blk o).run P w = .ok () { w with heap := w.heap.setIfInBounds i0.blk o } := fun o => by simp [setObj, Sem.run, h2]
  cases hfr with
  | none =>
    simp only [Option.some.injEq] at h
    subst h
    refine ⟨{ w with heap := w.heap.setIfInBounds i0.blk (.map (es'.push { key := key', val := v', born := clock }) (clock + 1)) }, ?_, ?_⟩
    · unfold Instr.mapUpdate
      simp only [Sem.run_bind, run_underlying hu, Result.andThen_ok, run_getObj_map h2]
      rw [checkKey_run hku hk _ 9999]
      simp only [Result.andThen_ok, findKey_run hku hf', hset]
    · refine S.putObj (o' := .map (es ++ [(key, v)])) hg hb rfl rfl rfl rfl (by intros; simp) (by intros; simp) (by intros; simp) (by intros; simp) (fun R hR => by rw [h2] at hR; cases hR) (.map (es'.push { key := key', val := v', born := clock }) (clock + 1) (by simp [hlt]) ?_ (MapKept.stamped_push hst (findNow_other hk hf')))
      simp only [Array.toList_push]
      exact VRels.snoc_map h3 hkey hv clock
  | some hvv =>
    rename_i j v0 v0'
    simp only [Option.some.injEq] at h
    subst h
    obtain ⟨e, _, he, hs⟩ := findNow_at hf'
    simp only [Nat.sub_zero] at he
    have he' : es'[j]? = some e := by simpa using he
    have hstay : (Instr.keyThatStays e.key key').run P w = .ok key' w := by
      rcases sameNow_eq hs with ⟨k, n, e1, e2⟩ | ⟨s, e1, e2⟩ | ⟨b, e1, e2⟩
      · rw [e1, e2]; exact keyThatStays_same rfl w
      · rw [e1, e2]; exact keyThatStays_string rfl w
      · rw [e1, e2]; simp [Instr.keyThatStays, Instr.sameBits]
    refine ⟨{ w with heap := w.heap.setIfInBounds i0.blk (.map (es'.modify j fun e => { e with key := key', val := v' }) clock) }, ?_, ?_⟩
    · unfold Instr.mapUpdate
      simp only [Sem.run_bind, run_underlying hu, Result.andThen_ok, run_getObj_map h2]
      rw [checkKey_run hku hk _ 9999]
      simp only [Result.andThen_ok, findKey_run hku hf', he', Option.map_some, Option.getD_some, Sem.run_bind, hstay, hset]
    · refine S.putObj (o' := .map (es.set j (key, v))) hg hb rfl rfl rfl rfl (by intros; simp) (by intros; simp) (by intros; simp) (by intros; simp) (fun R hR => by rw [h2] at hR; cases hR) (.map (es'.modify j fun e => { e with key := key', val := v' }) clock (by simp [hlt]) ?_ (MapKept.stamped_modify hst _ _ (fun _ _ => rfl) (fun e0 _ he0 => by rw [he'] at he0; cases he0; exact sameNow_key hk hs)))
      obtain ⟨m1, m2⟩ := h3
      have hmod : (es'.modify j fun e => { e with key := key', val := v' }).toList = es'.toList.set j { e with key := key', val := v' } := by
        apply List.ext_getElem?
        intro q
        rw [Array.getElem?_toList, Array.getElem?_modify, List.getElem?_set]
        by_cases eq : j = q
        · subst eq
          obtain ⟨hjl, hje⟩ := Array.getElem?_eq_some_iff.1 he'
          simp [hjl, hje]
        · simp [eq]
      refine ⟨?_, ?_⟩
      · rw [hmod, List.map_set, List.map_set]; exact m1.set j hkey
      · rw [hmod, List.map_set, List.map_set]; exact m2.set j hv
end
end Go.Ag
namespace Go.Ag
section
variable {P : Program} {ρ : Ren} {τ : Nat → Option Nat} {A A' : AState} {w : World}
theorem firstCells_run (S : Sim P ρ τ A w) {size n : Nat} {x x' : Value} {cs : List Value} (h : firstCellsA A size n x = some cs) (hx : VRel ρ x x') :
    ∃ cs' : Array Value, VRels ρ cs cs'.toList ∧ ∀ w2, w2.heap = w.heap → (Builtin.firstCells size n x').run P w2 = .ok cs' w2 := by
  unfold firstCellsA at h
  split at h
  · cases hx
    split at h
    · cases h
      exact ⟨#[], .nil, fun w2 _ => by simp [Builtin.firstCells]⟩
    · cases h
  · cases hx with
    | sliceZ =>
    split at h
    · rename_i h0
      cases h
      subst h0
      exact ⟨#[], .nil, fun w2 _ => by simp [Builtin.firstCells, loadCells, loadCellsFrom]⟩
    · cases h
  · rename_i b off len cap
    split at h
    case isFalse => cases h
    rename_i hle
    split at h
    · rename_i h0
      cases h
      subst h0
      refine ⟨#[], .nil, fun w2 _ => ?_⟩
      cases hx <;> simp [Builtin.firstCells, loadCells, loadCellsFrom]
    · rename_i h0
      obtain ⟨i, vs', h1, h2, h3, h4⟩ := S.readAt h
      refine ⟨vs'.toArray, by simpa using h2, fun w2 hw => ?_⟩
      have hl : vs'.length = n * size := by rw [← h2.length, h3]
      have main : ∀ o', o' = i.off + off → (loadCells ⟨i.blk, o', none⟩ (n * size)).run P w2 = .ok vs'.toArray w2 := by
        intro o' ho
        subst ho
        rw [← hl]
        refine run_loadCells_list (P := P) w2 _ vs' (fun q v hv => ?_)
        rw [add_addr]
        have := h4 q v hv
        unfold World.cell? at this ⊢
        rw [hw]; exact this
      simp only [Nat.ble_eq] at hle
      cases hx with
      | sliceEx hb hk hn ho =>
        rw [h1] at hb; cases hb
        simpa [Builtin.firstCells] using main _ (ho (by omega))
      | sliceUn hb hn ho hs hr =>
        rw [h1] at hb; cases hb
        simpa [Builtin.firstCells] using main _ (ho (by omega))
  · rename_i s
    cases hx
    cases h
    refine ⟨(s.extract 0 n).data.map fun b => .int .u8 b.toNat, ?_, fun w2 _ => by simp [Builtin.firstCells]⟩
    have : (s.extract 0 n).data.toList = s.data.toList.take n := by
      simp [ByteArray.extract, ByteArray.copySlice]
    rw [Array.toList_map, this]
    exact VRels.map _ fun x _ => .int _ _
  · cases h
theorem lenOf_run {x x' : Value} {n : Nat} (h : lenOfA x = some n) (hx : VRel ρ x x') (w : World) : (Builtin.lenOf x').run P w = .ok n w := by
  unfold lenOfA at h
  split at h
  · cases h; cases hx <;> rfl
  · cases h; cases hx; rfl
  · cases h
structure Appends (P : Program) (w : World) (st xt elem : TypeId) (e : TypeInfo) (z : Value) (x' : Value) (n : Nat) (new' : Array Value) : Prop where
  fits : ∀ (base : Option Addr) (sLen sCap : Nat) (ty : TypeId) (w2 : World), sLen + n ≤ sCap → (match base with | some a => (storeCells (a.add (sLen * e.size)) new'.toList).run P w | none => .ok () w) = .ok () w2 →
      (Builtin.append_ #[st, xt] ty #[.slice base sLen sCap, x']).run P w = .ok (.slice base (sLen + n) sCap) w2
  grows : ∀ (base : Option Addr) (sLen sCap : Nat) (ty : TypeId) (old' : Array Value), sCap < sLen + n → ((sLen + n : Nat) : Int) ≤ 9223372036854775807 → Builtin.nextslicecap (sLen + n) sCap * e.bytes ≤ 281474976710656 →
      (∀ w2, w2.heap = w.heap → (Builtin.firstCells e.size sLen (.slice base sLen sCap)).run P w2 = .ok old' w2) →
      (Builtin.append_ #[st, xt] ty #[.slice base sLen sCap, x']).run P w = .ok (.slice (some ⟨w.heap.size, 0, none⟩) (sLen + n) (grownCap w (sLen + n) sCap elem))
        (w.drew.alloc (.cells (old' ++ new' ++ Builtin.zeroCells z.cells (grownCap w (sLen + n) sCap elem - (sLen + n))) elem))
theorem appends_plain {st xt elem : TypeId} {e : TypeInfo} {z : Value} (ht : P.underlying st = some (.slice elem)) {xd : TypeDesc} (hxt : P.underlying xt = some xd) (hx : addKind xd = some false)
    (hi : P.info? elem = some e) (hz : e.zero = some z) {x' : Value} {n : Nat} {new' : Array Value} (hl : ∀ w, (Builtin.lenOf x').run P w = .ok n w)
    (hf : ∀ w2, w2.heap = w.heap → (Builtin.firstCells e.size n x').run P w2 = .ok new' w2) : Appends P w st xt elem e z x' n new' := by
  have hxd : (∃ q, xd = .slice q) ∨ xd = .string := by
    cases xd <;> simp [addKind] at hx ⊢
  refine ⟨fun base sLen sCap ty w2 hfit hst => ?_, fun base sLen sCap ty old' hg h63 h48 hold => ?_⟩
  · rcases hxd with ⟨q, rfl⟩ | rfl
    · cases base with
      | none => simp at hst; subst hst; simp [Builtin.append_, run_underlying ht, run_underlying hxt, run_size hi, hl, hfit, hf w rfl]
      | some a => simp at hst; simp [Builtin.append_, run_underlying ht, run_underlying hxt, run_size hi, hl, hfit, hf w rfl, hst]
    · cases base with
      | none => simp at hst; subst hst; simp [Builtin.append_, run_underlying ht, run_underlying hxt, run_size hi, hl, hfit, hf w rfl]
      | some a => simp at hst; simp [Builtin.append_, run_underlying ht, run_underlying hxt, run_size hi, hl, hfit, hf w rfl, hst]
  · have hn : ¬ (sLen + n ≤ sCap) := by omega
    have h63' : ¬ (9223372036854775807 < ((sLen : Int) + (n : Int))) := by omega
    have h48' : ¬ (281474976710656 < Builtin.nextslicecap (sLen + n) sCap * e.bytes) := by omega
    have hf2 := hf w.drew rfl
    have ho2 := hold w.drew rfl
    rcases hxd with ⟨q, rfl⟩ | rfl
    · simp [Builtin.append_, run_underlying ht, run_underlying hxt, sizeOf, typeInfo, zeroValue, hi, hz, hl, hn, h63', h48', Question.forced, hf2, ho2, newRow, grownCap]
    · simp [Builtin.append_, run_underlying ht, run_underlying hxt, sizeOf, typeInfo, zeroValue, hi, hz, hl, hn, h63', h48', Question.forced, hf2, ho2, newRow, grownCap]
theorem replicate_get (l : List Value) : ∀ (n i : Nat), i < n * l.length → ((List.replicate n l).flatten)[i]? = l[i % l.length]? := by
  intro n
  induction n with
  | zero => intro i h; omega
  | succ n ih =>
    intro i h
    rw [List.replicate_succ, List.flatten_cons]
    by_cases hi : i < l.length
    · rw [List.getElem?_append_left hi, Nat.mod_eq_of_lt hi]
    · rw [List.getElem?_append_right (by omega), ih _ (by rw [Nat.add_mul] at h; omega)]
      congr 1
      exact (Nat.mod_eq_sub_mod (by omega)).symm
theorem replicate_length (l : List Value) (n : Nat) : ((List.replicate n l).flatten).length = n * l.length := by
  simp
theorem zeroCells_rel {z : Value} (h : z.cells.toList.all plain1 = true) (n : Nat) : VRels ρ ((List.replicate n z.cells.toList).flatten) (Builtin.zeroCells z.cells n).toList := by
  have hp : VRels ρ z.cells.toList z.cells.toList := .plain h
  refine .of_get (by simp [Builtin.zeroCells]) fun i x y hx hy => ?_
  have hi : i < n * z.cells.toList.length := by
    have := (List.getElem?_eq_some_iff.1 hx).1; rwa [replicate_length] at this
  rw [replicate_get _ _ _ hi] at hx
  have hi' : i < n * z.cells.size := by simpa using hi
  have hpos : 0 < z.cells.size := by
    rcases Nat.eq_zero_or_pos z.cells.size with h0 | h0
    · rw [h0] at hi'; omega
    · exact h0
  have hm : i % z.cells.size < z.cells.size := Nat.mod_lt _ hpos
  obtain ⟨q, hq, hr⟩ := hp.get hx
  have e1 : z.cells[i % z.cells.size] = q := by simpa [hm] using hq
  simp [Builtin.zeroCells, hi', hm] at hy
  rw [← hy, e1]; exact hr
theorem appends_zeros {st xt elem : TypeId} {e : TypeInfo} {z : Value} (ht : P.underlying st = some (.slice elem)) {k0 : IntKind} (hxt : P.underlying xt = some (.int k0))
    (hi : P.info? elem = some e) (hz : e.zero = some z) {k : IntKind} {l0 : Int} (h0 : 0 ≤ IntKind.i64.wrap l0) (h48 : IntKind.i64.wrap l0 * e.bytes ≤ 281474976710656) (hpos : 0 < e.size) :
    Appends P w st xt elem e z (.int k l0) (IntKind.i64.wrap l0).toNat (if (IntKind.i64.wrap l0).toNat * e.size = 0 then #[] else Builtin.zeroCells z.cells (IntKind.i64.wrap l0).toNat) := by
  have g1 : ¬ (IntKind.i64.wrap l0 < 0) := by omega
  have g2 : ¬ (281474976710656 < IntKind.i64.wrap l0 * (e.bytes : Int)) := by omega
  generalize hl : IntKind.i64.wrap l0 = l at *
  refine ⟨fun base sLen sCap ty w2 hfit hst => ?_, fun base sLen sCap ty old' hg h63 h48 hold => ?_⟩
  · by_cases hn : l.toNat * e.size = 0
    · rw [if_pos hn] at hst
      have hw2 : w2 = w := by cases base <;> simp [storeCells] at hst <;> exact hst.symm
      subst hw2
      have hn' : l.toNat = 0 ∨ e.size = 0 := Nat.mul_eq_zero.1 hn
      cases base <;> simp [Builtin.append_, run_underlying ht, run_underlying hxt, sizeOf, typeInfo, hi, asInt, asIntOf, hl, g1, g2, hfit, hn, storeCells, hn']
    · rw [if_neg hn] at hst
      have hn' : ¬ (l.toNat = 0 ∨ e.size = 0) := fun h => hn (Nat.mul_eq_zero.2 h)
      cases base with
      | none => simp at hst; subst hst; simp [Builtin.append_, run_underlying ht, run_underlying hxt, sizeOf, typeInfo, zeroValue, hi, hz, asInt, asIntOf, hl, g1, g2, hfit, hn, hn']
      | some a => simp at hst; simp [Builtin.append_, run_underlying ht, run_underlying hxt, sizeOf, typeInfo, zeroValue, hi, hz, asInt, asIntOf, hl, g1, g2, hfit, hn, hn', hst]
  · have hnn : ¬ (sLen + l.toNat ≤ sCap) := by omega
    have h63' : ¬ (9223372036854775807 < ((sLen : Int) + (l.toNat : Int))) := by omega
    have h48' : ¬ (281474976710656 < Builtin.nextslicecap (sLen + l.toNat) sCap * e.bytes) := by omega
    have ho2 := hold w.drew rfl
    by_cases hn : l.toNat * e.size = 0
    · have hn' : l.toNat = 0 ∨ e.size = 0 := Nat.mul_eq_zero.1 hn
      simp only [Int.toNat_of_nonneg h0] at h63'
      simp [Builtin.append_, run_underlying ht, run_underlying hxt, sizeOf, typeInfo, zeroValue, hi, hz, asInt, asIntOf, hl, g1, g2, hnn, h63', h48', Question.forced, ho2, newRow, grownCap, hn, hn', Int.toNat_of_nonneg h0]
      exact fun hh => absurd hh (by omega)
    · have hn' : ¬ (l.toNat = 0 ∨ e.size = 0) := fun h => hn (Nat.mul_eq_zero.2 h)
      simp only [Int.toNat_of_nonneg h0] at h63'
      simp [Builtin.append_, run_underlying ht, run_underlying hxt, sizeOf, typeInfo, zeroValue, hi, hz, asInt, asIntOf, hl, g1, g2, hnn, h63', h48', Question.forced, ho2, newRow, grownCap, hn, hn', Int.toNat_of_nonneg h0]
      exact fun hh => absurd hh (by omega)
theorem zeroCells_size {z : Value} {n m : Nat} (h : z.cells.size = m) : (Builtin.zeroCells z.cells n).size = n * m := by
  simp [Builtin.zeroCells, h]
theorem append_in (S : Sim P ρ τ A w) {st xt elem : TypeId} {e : TypeInfo} {z : Value} {x' : Value} {n : Nat} {new : List Value} {new' : Array Value} (ap : Appends P w st xt elem e z x' n new')
    (hnew : VRels ρ new new'.toList) (hone : new.all Ag.oneCell = true) {b off len : Nat} (hw : A.write b (off + len * e.size) new = some A') {i : BInfo} (hb : ρ b = some i) {c : Nat} (hfit : len + n ≤ c) (ty : TypeId) :
    ∃ w', (Builtin.append_ #[st, xt] ty #[.slice (some ⟨i.blk, i.off + off, none⟩) len c, x']).run P w = .ok (.slice (some ⟨i.blk, i.off + off, none⟩) (len + n) c) w' ∧ Ext P ρ τ A w ρ τ A' w' := by
  obtain ⟨i2, h1, h2, h3, h4⟩ := S.write hw hnew
  rw [hb] at h1; cases h1
  have hst := run_storeCells_cells (P := P) i.blk (i.off + off + len * e.size) new'.toList 0 w (fun j hj => by have := h2 j hj; rwa [show i.off + (off + len * e.size) + j = i.off + off + len * e.size + 0 + j by omega] at this)
    (fun j hj => by have := h3 j hj; rwa [show i.off + (off + len * e.size) + j = i.off + off + len * e.size + 0 + j by omega] at this) (one_all hone hnew)
  refine ⟨_, ap.fits (some ⟨i.blk, i.off + off, none⟩) len c ty _ hfit (by simp only [add_addr]; exact hst), ?_⟩
  rw [show i.off + off + len * e.size + 0 = i.off + (off + len * e.size) by omega]
  exact h4
theorem append_new (S : Sim P ρ τ A w) {st xt elem : TypeId} {e : TypeInfo} {z : Value} {x' : Value} {n : Nat} {new : List Value} {new' : Array Value} (ap : Appends P w st xt elem e z x' n new')
    (hnew : VRels ρ new new'.toList) (hln : new.length = n * e.size) (hz : z.cells.size = e.size) (base : Option Addr) (len c : Nat) {old : List Value} {old' : Array Value} (hold : VRels ρ old old'.toList) (hlo : old.length = len * e.size)
    (hrold : ∀ w2, w2.heap = w.heap → (Builtin.firstCells e.size len (.slice base len c)).run P w2 = .ok old' w2) (hg : c < len + n) (hb1 : (2 * (len + n) + 1000) * e.bytes ≤ 281474976710656) (hb2 : len + n < 2147483648)
    (hfree : ρ A.size = none) (ty : TypeId) :
    Gives P ρ τ A w (Builtin.append_ #[st, xt] ty #[.slice base len c, x']) (.slice (some ⟨A.size, 0, none⟩) (len + n) unk) (A.fresh (writeL .nil 0 (old ++ new)) [] (old ++ new).length e.size) := by
  have hcap : Builtin.nextslicecap (len + n) c * e.bytes ≤ 281474976710656 := by
    have h1 := nextslicecap_le hg
    have : Builtin.nextslicecap (len + n) c * e.bytes ≤ (2 * (len + n) + 1000) * e.bytes := Nat.mul_le_mul (by omega) (Nat.le_refl _)
    omega
  have hrun := ap.grows base len c ty old' hg (by omega) hcap hrold
  have hge : len + n ≤ grownCap w (len + n) c elem := by simp [grownCap, Question.cut]
  have hcells := hold.append hnew
  have hl : (old ++ new).length = (len + n) * e.size := by rw [List.length_append, hlo, hln, Nat.add_mul]
  have hl' : (old' ++ new').toList.length = (len + n) * e.size := by rw [Array.toList_append, ← hcells.length, hl]
  have hsize : (old' ++ new' ++ Builtin.zeroCells z.cells (grownCap w (len + n) c elem - (len + n))).size = grownCap w (len + n) c elem * e.size := by
    rw [Array.size_append, zeroCells_size hz]
    have : (old' ++ new').size = (len + n) * e.size := by simpa using hl'
    rw [this, ← Nat.add_mul]; congr 1; omega
  have hext := S.fresh' (cs := writeL .nil 0 (old ++ new)) (d := []) (n := (old ++ new).length) (es := e.size) (c := old' ++ new' ++ Builtin.zeroCells z.cells (grownCap w (len + n) c elem - (len + n))) (el := elem) (fz := (0, 0))
    (w' := w.drew.alloc (.cells (old' ++ new' ++ Builtin.zeroCells z.cells (grownCap w (len + n) c elem - (len + n))) elem)) rfl thaw0 rfl rfl rfl hfree (by rw [hsize, hl]; exact Nat.mul_le_mul hge (Nat.le_refl _)) (fun j hj => by
      obtain ⟨y, hy, hr⟩ := hcells.get (List.getElem?_eq_getElem hj)
      refine ⟨_, y, by rw [cellAt_list _ _ _ hj, List.getElem?_eq_getElem hj], ?_, hr⟩
      rw [← Array.toList_append] at hy
      rw [Array.getElem?_append_left (by have : (old' ++ new').size = (len + n) * e.size := by simpa using hl'
                                         omega)]
      rw [← Array.getElem?_toList]; exact hy)
  refine ⟨_, _, _, _, hrun, ?_, hext⟩
  refine .sliceUn (Ren.upd_same _ _ _) hge (fun _ => rfl) ?_ ?_
  · simp only [Nat.zero_add]; rw [hl]; exact Nat.mul_le_mul hge (Nat.le_refl _)
  · simp only [Nat.zero_add]; rw [hsize]; exact Nat.le_refl _
end
end Go.Ag
