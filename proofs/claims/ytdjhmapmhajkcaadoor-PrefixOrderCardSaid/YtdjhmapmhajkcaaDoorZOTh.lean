/- Plain theory of bytes and texts for the address statements: pieces between a byte, octets, groups of sixteen bits. No program in sight. -/
import Derived.Test.YtdjhmapmhajkcaaDoorZOSm
import Derived.Lib.IndexMore
namespace Go.Proofs.YtdjhmapmhajkcaaDoor.Th
open Go.RowKit Go.Proofs.YtdjhmapmhajkcaaDoorW.PrintWords
abbrev By (s : ByteArray) : List UInt8 := s.data.toList
abbrev OfBy (l : List UInt8) : ByteArray := ⟨l.toArray⟩
theorem by_ofBy (l : List UInt8) : By (OfBy l) = l := by simp
theorem size_by (s : ByteArray) : s.size = (By s).length := (Array.length_toList ..).symm
theorem ofBy_by (s : ByteArray) : OfBy (By s) = s := by cases s; simp
theorem cons_at {s : ByteArray} {i : Nat} {c : UInt8} {l : List UInt8} (h : (By s).drop i = c :: l) : i < s.size ∧ bt s (i : Int) = (c.toNat : Int) ∧ (By s).drop (i + 1) = l := by
  have hlt : i < (By s).length := by
    have := congrArg List.length h
    simp only [List.length_drop, List.length_cons] at this
    omega
  have hsz : i < s.size := by rw [size_by]; exact hlt
  rw [List.drop_eq_getElem_cons hlt] at h
  obtain ⟨h1, h2⟩ := List.cons.inj h
  refine ⟨hsz, ?_, h2⟩
  have := bt_at s (i : Int) (by simpa using hsz)
  rw [← this, ← h1]
  rfl
theorem nil_at {s : ByteArray} {i : Nat} (h : (By s).drop i = []) : s.size ≤ i := by
  have := congrArg List.length h
  simp only [List.length_drop, List.length_nil] at this
  rw [size_by]; omega
theorem drop_len {s : ByteArray} {i : Nat} {l : List UInt8} (h : (By s).drop i = l) (hi : i ≤ s.size) : s.size = i + l.length := by
  have := congrArg List.length h
  simp only [List.length_drop] at this
  rw [size_by] at hi ⊢; omega
theorem u8_lt (c : UInt8) : c.toNat < 256 := c.toNat_lt
theorem u8_eq {c d : UInt8} : c = d ↔ c.toNat = d.toNat := ⟨fun h => h ▸ rfl, fun h => UInt8.toNat_inj.1 h⟩
def pieces (c : UInt8) : List UInt8 → List (List UInt8)
  | [] => [[]]
  | b :: l => if b = c then [] :: pieces c l else match pieces c l with
    | p :: ps => (b :: p) :: ps
    | [] => [[b]]
theorem pieces_ne (c : UInt8) (l : List UInt8) : pieces c l ≠ [] := by
  cases l with
  | nil => simp [pieces]
  | cons b l =>
    unfold pieces
    split
    · simp
    · split <;> simp
def ahead (p : List UInt8) : List (List UInt8) → List (List UInt8)
  | [] => [p]
  | q :: qs => (p ++ q) :: qs
theorem ahead_nil {ps : List (List UInt8)} (h : ps ≠ []) : ahead [] ps = ps := by cases ps <;> simp_all [ahead]
theorem ahead_ahead (p q : List UInt8) (ps : List (List UInt8)) : ahead p (ahead q ps) = ahead (p ++ q) ps := by cases ps <;> simp [ahead]
theorem pieces_cons_ne {c b : UInt8} (h : b ≠ c) (l : List UInt8) : pieces c (b :: l) = ahead [b] (pieces c l) := by
  rw [pieces, if_neg h]
  cases pieces c l <;> rfl
theorem pieces_cons_eq (c : UInt8) (l : List UInt8) : pieces c (c :: l) = [] :: pieces c l := by rw [pieces, if_pos rfl]
theorem pieces_append {c : UInt8} (p l : List UInt8) (h : c ∉ p) : pieces c (p ++ l) = ahead p (pieces c l) := by
  induction p with
  | nil => rw [List.nil_append, ahead_nil (pieces_ne _ _)]
  | cons b p ih =>
    have hb : b ≠ c := fun e => h (by rw [e]; exact List.mem_cons_self ..)
    rw [List.cons_append, pieces_cons_ne hb, ih (fun hm => h (List.mem_cons_of_mem _ hm)), ahead_ahead]; rfl
theorem pieces_none {c : UInt8} (p : List UInt8) (h : c ∉ p) : pieces c p = [p] := by
  have := pieces_append p [] h
  rw [List.append_nil] at this
  rw [this]; simp [pieces, ahead]
theorem pieces_one {c : UInt8} (p l : List UInt8) (h : c ∉ p) : pieces c (p ++ c :: l) = p :: pieces c l := by
  rw [pieces_append p _ h, pieces_cons_eq]; simp [ahead]
theorem first_piece (c : UInt8) (l : List UInt8) : (c ∉ l) ∨ ∃ p r, l = p ++ c :: r ∧ c ∉ p := by
  induction l with
  | nil => exact .inl (by simp)
  | cons b l ih =>
    by_cases hb : b = c
    · subst hb; exact .inr ⟨[], l, rfl, by simp⟩
    · rcases ih with h | ⟨p, r, rfl, hp⟩
      · exact .inl (by simp [Ne.symm hb, h])
      · exact .inr ⟨b :: p, r, rfl, by simp [Ne.symm hb, hp]⟩
theorem pieces_len (c : UInt8) (l : List UInt8) : (pieces c l).length ≤ l.length + 1 := by
  induction l with
  | nil => simp [pieces]
  | cons b l ih =>
    unfold pieces
    split
    · simp; omega
    · split
      · rename_i p ps e; rw [e] at ih; simp at ih ⊢; omega
      · simp
theorem index_one_none {c : UInt8} (l : List UInt8) (h : c ∉ l) : Go.Lib.index l [c] = -1 := by
  induction l with
  | nil => rfl
  | cons b l ih =>
    have hb : ¬ c = b := fun e => h (by rw [e]; exact List.mem_cons_self ..)
    rw [Go.Lib.index]
    have e1 : ([c].isPrefixOf (b :: l)) = false := by simp [List.isPrefixOf, hb]
    rw [e1, ih (fun hm => h (List.mem_cons_of_mem _ hm))]
    rfl
theorem index_one {c : UInt8} (p l : List UInt8) (h : c ∉ p) : Go.Lib.index (p ++ c :: l) [c] = p.length := by
  induction p with
  | nil => simp [Go.Lib.index, List.isPrefixOf]
  | cons b p ih =>
    have hb : ¬ c = b := fun e => h (by rw [e]; exact List.mem_cons_self ..)
    rw [List.cons_append, Go.Lib.index]
    have e1 : ([c].isPrefixOf (b :: (p ++ c :: l))) = false := by simp [List.isPrefixOf, hb]
    rw [e1, ih (fun hm => h (List.mem_cons_of_mem _ hm))]
    rw [if_neg (by decide), if_neg (by simp)]
    simp
theorem cut_none {c : UInt8} (l : List UInt8) (h : c ∉ l) : Go.Lib.cut l [c] = (l, [], false) := by
  unfold Go.Lib.cut
  rw [index_one_none l h]
  rfl
theorem cut_one {c : UInt8} (p l : List UInt8) (h : c ∉ p) : Go.Lib.cut (p ++ c :: l) [c] = (p, l, true) := by
  unfold Go.Lib.cut
  rw [index_one p l h, if_pos (by omega)]
  simp
theorem contains_one (c : UInt8) (l : List UInt8) : Go.Lib.contains l [c] = decide (c ∈ l) := by
  unfold Go.Lib.contains
  rcases first_piece c l with h | ⟨p, r, rfl, h⟩
  · rw [index_one_none l h]; simp [h]
  · rw [index_one p r h]; simp
def gapV : List UInt8 → Option (List UInt8 × List UInt8)
  | [] => none
  | [_] => none
  | a :: b :: l => if a = 58 ∧ b = 58 then some ([], l) else (gapV (b :: l)).map fun p => (a :: p.1, p.2)
theorem index_gap (l : List UInt8) : Go.Lib.index l [58, 58] = match gapV l with | some (p, _) => (p.length : Int) | none => -1 := by
  induction l with
  | nil => rfl
  | cons a l ih =>
    cases l with
    | nil => simp [gapV, Go.Lib.index, List.isPrefixOf]
    | cons b l =>
      rw [Go.Lib.index, gapV]
      by_cases h : a = 58 ∧ b = 58
      · obtain ⟨rfl, rfl⟩ := h
        simp [List.isPrefixOf]
      · rw [if_neg h]
        have e1 : ([58, 58].isPrefixOf (a :: b :: l)) = false := by
          simp [List.isPrefixOf]; intro h1 h2; exact h ⟨h1.symm, h2.symm⟩
        rw [e1, ih]
        cases gapV (b :: l) with
        | none => rfl
        | some p =>
          simp only [Option.map_some]
          rw [if_neg (by decide), if_neg (by simp)]
          simp
theorem gap_eq {l p q : List UInt8} (h : gapV l = some (p, q)) : l = p ++ 58 :: 58 :: q := by
  induction l generalizing p with
  | nil => simp [gapV] at h
  | cons a l ih =>
    cases l with
    | nil => simp [gapV] at h
    | cons b l =>
      rw [gapV] at h
      split at h
      · rename_i hc; cases h; rw [hc.1, hc.2]; rfl
      · obtain ⟨⟨p', q'⟩, hp, e⟩ := Option.map_eq_some_iff.1 h
        cases e
        rw [ih hp]; rfl
theorem cut_gap (l : List UInt8) : Go.Lib.cut l [58, 58] = match gapV l with | some (p, q) => (p, q, true) | none => (l, [], false) := by
  unfold Go.Lib.cut
  rw [index_gap]
  cases h : gapV l with
  | none => rfl
  | some x =>
    obtain ⟨p, q⟩ := x
    rw [if_pos (by simp)]
    have := gap_eq h
    subst this
    simp
def dval (n : Nat) : List UInt8 → Option Nat
  | [] => some n
  | c :: l => if 48 ≤ c.toNat ∧ c.toNat ≤ 57 then dval (10 * n + (c.toNat - 48)) l else none
def octV (l : List UInt8) : Option Nat :=
  if l.length < 1 ∨ 3 < l.length ∨ (1 < l.length ∧ l.head? = some 48) then none else
  match dval 0 l with
  | some n => if 255 < n then none else some n
  | none => none
theorem octV_lt {l : List UInt8} {n : Nat} (h : octV l = some n) : n < 256 := by
  unfold octV at h
  split at h
  · cases h
  · split at h
    · split at h
      · cases h
      · cases h; omega
    · cases h
theorem octV_len {l : List UInt8} {n : Nat} (h : octV l = some n) : l.length ≤ 3 := by
  unfold octV at h
  split at h
  · cases h
  · omega
def four : List (List UInt8) → Option Nat
  | [a, b, c, d] => match octV a, octV b, octV c, octV d with
    | some x, some y, some z, some u => some (((x * 256 + y) * 256 + z) * 256 + u)
    | _, _, _, _ => none
  | _ => none
def dotV (l : List UInt8) : Option Nat := four (pieces 46 l)
def hexd (c : UInt8) : Option Nat :=
  if 48 ≤ c.toNat ∧ c.toNat ≤ 57 then some (c.toNat - 48) else
  if 97 ≤ c.toNat ∧ c.toNat ≤ 102 then some (c.toNat - 87) else
  if 65 ≤ c.toNat ∧ c.toNat ≤ 70 then some (c.toNat - 55) else none
theorem hexd_lt {c : UInt8} {n : Nat} (h : hexd c = some n) : n < 16 := by
  unfold hexd at h
  repeat' split at h
  all_goals first | cases h; omega | cases h
def hval (n : Nat) : List UInt8 → Option Nat
  | [] => some n
  | c :: l => match hexd c with
    | some d => hval (16 * n + d) l
    | none => none
def grpV (l : List UInt8) : Option Nat := if l.length < 1 ∨ 4 < l.length then none else hval 0 l
theorem hval_lt {n m : Nat} {l : List UInt8} (h : hval n l = some m) : m < (n + 1) * 16 ^ l.length := by
  induction l generalizing n with
  | nil => simp [hval] at h; simp; omega
  | cons c l ih =>
    rw [hval] at h
    cases hd : hexd c with
    | none => rw [hd] at h; cases h
    | some d =>
      rw [hd] at h
      have := ih h
      have hd' := hexd_lt hd
      have : (16 * n + d + 1) * 16 ^ l.length ≤ (16 * (n + 1)) * 16 ^ l.length := Nat.mul_le_mul_right _ (by omega)
      rw [List.length_cons, Nat.pow_succ]
      calc m < _ := by assumption
        _ ≤ _ := this
        _ = _ := by rw [Nat.mul_comm 16 (n + 1), Nat.mul_assoc, Nat.mul_comm 16]
theorem grpV_lt {l : List UInt8} {n : Nat} (h : grpV l = some n) : n < 65536 := by
  unfold grpV at h
  split at h
  · cases h
  · have h1 := hval_lt h
    have : 16 ^ l.length ≤ 16 ^ 4 := Nat.pow_le_pow_right (by decide) (by omega)
    omega
theorem hval_dot {n : Nat} {l : List UInt8} (h : (46 : UInt8) ∈ l) : hval n l = none := by
  induction l generalizing n with
  | nil => cases h
  | cons c l ih =>
    rw [hval]
    rcases List.mem_cons.1 h with e | hm
    · rw [← e]; rfl
    · split
      · exact ih hm
      · rfl
theorem grpV_dot {l : List UInt8} (h : (46 : UInt8) ∈ l) : grpV l = none := by
  unfold grpV; split
  · rfl
  · exact hval_dot h
theorem dotV_nodot {l : List UInt8} (h : (46 : UInt8) ∉ l) : dotV l = none := by
  unfold dotV; rw [pieces_none l h]; rfl
def grps (last : Bool) : List (List UInt8) → Option (List Nat)
  | [] => some []
  | [p] => match (if last then dotV p else none) with
    | some v => some [v / 65536, v % 65536]
    | none => (grpV p).map fun n => [n]
  | p :: q :: ps => match grpV p, grps last (q :: ps) with
    | some n, some r => some (n :: r)
    | _, _ => none
def lstV (last : Bool) (l : List UInt8) : Option (List Nat) := if l = [] then some [] else grps last (pieces 58 l)
theorem dotV_lt {l : List UInt8} {n : Nat} (h : dotV l = some n) : n < 4294967296 := by
  unfold dotV four at h
  split at h
  · split at h
    · rename_i hx hy hz hu
      have := octV_lt hx; have := octV_lt hy; have := octV_lt hz; have := octV_lt hu
      cases h; omega
    · cases h
  · cases h
theorem grps_lt {last : Bool} {ps : List (List UInt8)} {g : List Nat} (h : grps last ps = some g) : ∀ n ∈ g, n < 65536 := by
  induction ps generalizing g with
  | nil => cases h; simp
  | cons p ps ih =>
    cases ps with
    | nil =>
      rw [grps] at h
      split at h
      · rename_i v hv
        cases h
        have : v < 4294967296 := by
          split at hv
          · exact dotV_lt hv
          · cases hv
        intro n hn
        rcases List.mem_cons.1 hn with e | hn
        · subst e; omega
        · rcases List.mem_cons.1 hn with e | hn
          · subst e; omega
          · cases hn
      · obtain ⟨n, hn, rfl⟩ := Option.map_eq_some_iff.1 h
        intro m hm
        have := grpV_lt hn
        simp at hm; omega
    | cons q ps =>
      rw [grps] at h
      split at h
      · rename_i n r hn hr
        cases h
        intro m hm
        rcases List.mem_cons.1 hm with e | hm
        · subst e; exact grpV_lt hn
        · exact ih hr m hm
      · cases h
theorem lstV_lt {last : Bool} {l : List UInt8} {g : List Nat} (h : lstV last l = some g) : ∀ n ∈ g, n < 65536 := by
  unfold lstV at h
  split at h
  · cases h; simp
  · exact grps_lt h
def sumlen : List (List UInt8) → Nat
  | [] => 0
  | p :: ps => p.length + 1 + sumlen ps
theorem pieces_sum (c : UInt8) (l : List UInt8) : sumlen (pieces c l) = l.length + 1 := by
  induction l with
  | nil => rfl
  | cons b l ih =>
    by_cases hb : b = c
    · subst hb; rw [pieces_cons_eq]; simp [sumlen, ih]; omega
    · rw [pieces_cons_ne hb]
      cases h : pieces c l with
      | nil => exact absurd h (pieces_ne _ _)
      | cons p ps => rw [h] at ih; simp [ahead, sumlen] at ih ⊢; omega
theorem dotV_len {l : List UInt8} {n : Nat} (h : dotV l = some n) : l.length ≤ 15 := by
  have hs := pieces_sum 46 l
  unfold dotV at h
  match hp : pieces 46 l, h with
  | [a, b, c, d], h =>
    rw [hp] at hs
    simp only [four] at h
    split at h
    · rename_i hx hy hz hu
      have := octV_len hx; have := octV_len hy; have := octV_len hz; have := octV_len hu
      simp [sumlen] at hs; omega
    · cases h
  | [], h => simp [four] at h
  | [_], h => simp [four] at h
  | [_, _], h => simp [four] at h
  | [_, _, _], h => simp [four] at h
  | _ :: _ :: _ :: _ :: _ :: _, h => simp [four] at h
def sixV (l : List UInt8) : Option (List Nat) :=
  match gapV l with
  | none => match lstV true l with
    | some g => if g.length = 8 then some g else none
    | none => none
  | some (p, q) => match lstV false p, lstV true q with
    | some a, some b => if 7 < a.length + b.length then none else some (a ++ List.replicate (8 - (a.length + b.length)) 0 ++ b)
    | _, _ => none
end Go.Proofs.YtdjhmapmhajkcaaDoor.Th
