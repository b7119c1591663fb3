/-
  The walk through the disk's code, part 9: what its functions do to memory. Nothing is asked.
-/
import Derived.Test.YtlepbifmkleoeaaPl8
set_option linter.all false
namespace Go.Proofs.Ytlepbifmkleoeaa
open Go Go.Ag
set_option linter.unusedVariables false
set_option maxRecDepth 100000

/-- sorts of blocks -/
def kd : K → Nat
  | .cells (.int .u8 _ :: _) 0 => 1
  | .cells (.int .u8 _ :: _) 1 => 2
  | .cells (.pointer _ :: _) 1 => 3
  | .cells _ 2 => 4
  | .cells (.slice _ _ _ :: _) 0 => 5
  | .cells (.slice _ _ _ :: _) 1 => 6
  | _ => 0
theorem ne_kd {S : MS} {a b : Nat} {k k' : K} (h : S.m a = some k) (h' : S.m b = some k') (hk : kd k ≠ kd k') : a ≠ b := ne_m h h' (fun e => hk (by rw [e]))

structure Byt (c : List Value) : Prop where
  len : c.length = 256
  one : c.all oneCell = true
  bytes : ∃ bs, toBytes c = some bs
theorem toBytes_head {c : List Value} {bs : List UInt8} (h : toBytes c = some bs) (hl : c.length ≠ 0) : ∃ x r, c = .int .u8 x :: r := by
  cases c with
  | nil => simp at hl
  | cons v r =>
    unfold toBytes at h
    split at h
    · rename_i e; cases e
    · rename_i n vs e; cases e; exact ⟨_, _, rfl⟩
    · cases h
theorem Byt.kd0 {c : List Value} (h : Byt c) : kd (.cells c 0) = 1 := by
  obtain ⟨bs, hb⟩ := h.bytes
  obtain ⟨x, r, rfl⟩ := toBytes_head hb (by rw [h.len]; decide)
  rfl
theorem Byt.kd1 {c : List Value} (h : Byt c) : kd (.cells c 1) = 2 := by
  obtain ⟨bs, hb⟩ := h.bytes
  obtain ⟨x, r, rfl⟩ := toBytes_head hb (by rw [h.len]; decide)
  rfl
theorem toBytes_ints : ∀ (l : List Int), ∃ bs, toBytes (l.map (Value.int .u8)) = some bs := by
  intro l
  induction l with
  | nil => exact ⟨[], rfl⟩
  | cons x l ih => obtain ⟨bs, h⟩ := ih; exact ⟨_, by simp only [List.map_cons, toBytes, h, Option.map_some]; rfl⟩
theorem byt_ints (l : List Int) (h : l.length = 256) : Byt (l.map (Value.int .u8)) :=
  ⟨by simp [h], by rw [List.all_eq_true]; intro v hv; obtain ⟨x, _, rfl⟩ := List.mem_map.1 hv; rfl, toBytes_ints l⟩
theorem byt_blk (fill : Int) : Byt (blk fill 256) := by
  have : blk fill 256 = ((List.range 256).map fun (i : Nat) => (fill + (i : Int) % 7) % 256).map (Value.int .u8) := by unfold blk; rw [List.map_map]; rfl
  rw [this]
  exact byt_ints _ (by simp)
theorem byt_zero : Byt (List.replicate 256 (.int .u8 0)) := by
  have : List.replicate 256 (Value.int .u8 0) = (List.replicate 256 (0 : Int)).map (Value.int .u8) := by rw [List.map_replicate]
  rw [this]
  exact byt_ints _ (by simp)

theorem kd_ptr {l : List (Option Nat)} (h : 1 ≤ l.length) : kd (.cells (l.map pv) 1) = 3 := by
  cases l with
  | nil => simp at h
  | cons o l => cases o <;> rfl
theorem kd_disk (a : Option Addr) (n m : Nat) (b c : Value) (h : Int) (k : Bool) : kd (.cells (diskL (.slice a n m) b c h k) 0) = 5 := rfl
theorem kd_ws (l : List Value) : kd (.cells l 2) = 4 := by
  unfold kd; split <;> simp_all
/-- a slice of a whole block of bytes -/
def bsl (a : Nat) : Value := .slice (some ⟨a, 0, none⟩) 256 256
theorem kd_row {l : List Nat} (h : 1 ≤ l.length) : kd (.cells (l.map bsl) 1) = 6 := by
  cases l with
  | nil => simp at h
  | cons a l => rfl
def rsl (n r : Nat) : Value := .slice (some ⟨r, 0, none⟩) n unk
theorem kd_mom {l : List Nat} {n : Nat} (h : 1 ≤ l.length) : kd (.cells (l.map (rsl n)) 1) = 6 := by
  cases l with
  | nil => simp at h
  | cons a l => rfl

/-- blocks of some sorts stay -/
def Keeps (S S' : MS) (p : Nat → Prop) : Prop := ∀ x k, S.m x = some k → p (kd k) → S'.m x = S.m x
def KP (t : Nat) : Prop := t < 3 ∨ t = 6
theorem Keeps.of_old {S S' : MS} (wf : S.WF) (h : ∀ x, x < S.n → S'.m x = S.m x) (p : Nat → Prop) : Keeps S S' p := fun x k hk _ => h x (wf x k hk)
theorem Keeps.trans {S S' S'' : MS} {p : Nat → Prop} (h : Keeps S S' p) (h' : Keeps S' S'' p) : Keeps S S'' p := fun x k hk hp => by
  have h1 := h x k hk hp
  rw [h' x k (by rw [h1]; exact hk) hp, h1]

/-- a row of blocks of bytes -/
def RowIs (S : MS) (r : Nat) (c : List (List Value)) : Prop := ∃ al : List Nat, al.length = c.length ∧ S.m r = some (.cells (al.map bsl) 1) ∧ ∀ (k : Nat) a cc, al[k]? = some a → c[k]? = some cc → S.m a = some (.cells cc 1) ∧ Byt cc
theorem RowIs.keep {S S' : MS} {r : Nat} {c : List (List Value)} (h : RowIs S r c) (hr : S'.m r = S.m r) (hk : Keeps S S' (· = 2)) : RowIs S' r c := by
  obtain ⟨al, h1, h2, h3⟩ := h
  refine ⟨al, h1, by rw [hr]; exact h2, fun k a cc ha hc => ?_⟩
  obtain ⟨g1, g2⟩ := h3 k a cc ha hc
  exact ⟨by rw [hk a _ g1 g2.kd1]; exact g1, g2⟩
/-- what an array of the disk's holds -/
def CB (S : MS) (o : Option Nat) (cc : List Value) : Prop := Byt cc ∧ match o with | none => cc = List.replicate 256 (.int .u8 0) | some a => S.m a = some (.cells cc 0)
theorem CB.keep {S S' : MS} {o : Option Nat} {cc : List Value} (h : CB S o cc) (hk : Keeps S S' (· = 1)) : CB S' o cc := by
  obtain ⟨h1, h2⟩ := h
  refine ⟨h1, ?_⟩
  cases o with
  | none => exact h2
  | some a => simp only at h2 ⊢; rw [hk a _ h2 h1.kd0]; exact h2
theorem CB.cont {S : MS} {o : Option Nat} {cc : List Value} (h : CB S o cc) : Cont S o cc := by
  obtain ⟨h1, h2⟩ := h
  refine ⟨h1.len, h1.one, ?_⟩
  cases o with
  | none => exact h2
  | some a => exact h2

structure LInv (S : MS) (d : Nat) (D : DK) (n nowb momb : Nat) (rows : List Nat) (Mo : List (List (List Value))) : Prop where
  dk : IsD S d D
  dn : D.made.length = n
  h1 : 1 ≤ n
  h20 : n ≤ 20
  now : D.now = applyW D.made D.ws
  idx : ∀ w ∈ D.ws, w.1 < n
  ml : Mo.length = D.ws.length + 1
  rl : rows.length = Mo.length
  len : ∀ (j : Nat) c, Mo[j]? = some c → c.length = n
  arr : ∀ (j : Nat) c, Mo[j]? = some c → ∀ (k : Nat) cc o, c[k]? = some cc → (applyW D.made (D.ws.take j))[k]? = some o → CB S o cc
  mom : S.m momb = some (.cells (rows.map (rsl n)) 1)
  row : ∀ (j : Nat) r c, rows[j]? = some r → Mo[j]? = some c → RowIs S r c
  nw : ∀ c, Mo[D.ws.length]? = some c → RowIs S nowb c
  nm : nowb ≠ momb
  rn : ∀ r ∈ rows, r ≠ nowb ∧ r ≠ momb

theorem LInv.frame {S S' : MS} {d : Nat} {D D' : DK} {n nowb momb : Nat} {rows : List Nat} {Mo : List (List (List Value))} (h : LInv S d D n nowb momb rows Mo) (hd : IsD S' d D') (e1 : D'.made = D.made) (e2 : D'.now = D.now) (e3 : D'.ws = D.ws) (hk : Keeps S S' KP) : LInv S' d D' n nowb momb rows Mo := by
  have k1 : Keeps S S' (· = 1) := fun x k a b => hk x k a (.inl (by simp only at b; omega))
  have k2 : Keeps S S' (· = 2) := fun x k a b => hk x k a (.inl (by simp only at b; omega))
  have hrl : 1 ≤ rows.length := by rw [h.rl, h.ml]; omega
  have hrow : ∀ r c, RowIs S r c → c.length = n → RowIs S' r c := by
    intro r c hr hc
    obtain ⟨al, a1, a2, _⟩ := id hr
    exact hr.keep (hk r _ a2 (.inr (kd_row (by rw [a1, hc]; exact h.h1)))) k2
  refine ⟨hd, by rw [e1]; exact h.dn, h.h1, h.h20, by rw [e1, e2, e3]; exact h.now, by rw [e3]; exact h.idx, by rw [e3]; exact h.ml, h.rl, h.len, ?_, ?_, fun j r c hr hc => hrow r c (h.row j r c hr hc) (h.len j c hc), ?_, h.nm, h.rn⟩
  · rw [e1, e3]
    exact fun j c hc k cc o ho ha => (h.arr j c hc k cc o ho ha).keep k1
  · rw [hk momb _ h.mom (.inr (kd_mom hrl))]; exact h.mom
  · rw [e3]
    exact fun c hc => hrow _ c (h.nw c hc) (h.len _ c hc)

/-- what a write keeps -/
theorem keeps_write {S S' : MS} {d : Nat} {D : DK} (h : IsD S d D) (wf : S.WF) (h1 : 1 ≤ D.made.length) (hf : ∀ x, x < S.n → x ≠ d → x ≠ D.nb → (D.ws ≠ [] → x ≠ D.wb) → S'.m x = S.m x) : Keeps S S' KP := by
  intro x k hk hp
  refine hf x (wf x k hk) (ne_kd hk h.hd ?_) (ne_kd hk h.hn ?_) (fun hw => ne_kd hk (h.hw hw) ?_)
  · rw [kd_disk]; unfold KP at hp; omega
  · rw [kd_ptr (by rw [h.len]; exact h1)]; unfold KP at hp; omega
  · rw [kd_ws]; unfold KP at hp; omega
theorem keeps_disk {S S' : MS} {d : Nat} {D : DK} (h : IsD S d D) (hf : ∀ x, x ≠ d → S'.m x = S.m x) : Keeps S S' KP := by
  intro x k hk hp
  refine hf x (ne_kd hk h.hd ?_)
  rw [kd_disk]; unfold KP at hp; omega
end Go.Proofs.Ytlepbifmkleoeaa
