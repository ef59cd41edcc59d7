/- What the address readers compute, last: the program's list, both readers of whole addresses, and that they agree. -/
import Derived.Test.YtamiaaeaehdahaaLb
import Derived.Test.YtamiaaeaehdahaaX2
import Derived.Test.YtamiaaeaehdahaaX3
import Derived.Test.YtamiaaeaehdahaaX4
import Derived.Test.YtamiaaeaehdahaaX5
import Derived.Test.YtamiaaeaehdahaaX6
import Derived.Test.YtamiaaeaehdahaaX7
import Derived.Test.YtamiaaeaehdahaaX9
import Derived.Test.YtamiaaeaehdahaaX10
import Derived.Test.YtamiaaeaehdahaaX11
import Derived.Test.YtamiaaeaehdahaaX12
namespace Go.Proofs.Ytamiaaeaehdahaa.Th
open Go.RowKit Go.Proofs.Ytamiaaeaehdahaa.X Go.Proofs.YtamiaaeaehdahaaW.PrintWords Go.Proofs.YtamiaaeaehdahaaW.PrintLast Go.Proofs.YtamiaaeaehdahaaW.PrintMore
set_option linter.unusedVariables false
set_option linter.unusedSimpArgs false

theorem cutf_none (s : ByteArray) (c : UInt8) (hs : s.size ≤ 2097152) (h : c ∉ By s) : strings_Cut.f s ⟨#[c]⟩ = some (s, ⟨#[]⟩, false) := by
  unfold strings_Cut.f
  rw [if_pos (by omega), show (⟨#[c]⟩ : ByteArray).data.toList = [c] from rfl, cut_none _ h]
theorem cutf_one (s : ByteArray) (c : UInt8) (p l : List UInt8) (hs : s.size ≤ 2097152) (hl : By s = p ++ c :: l) (h : c ∉ p) : strings_Cut.f s ⟨#[c]⟩ = some (OfBy p, OfBy l, true) := by
  unfold strings_Cut.f
  rw [if_pos (by omega), show (⟨#[c]⟩ : ByteArray).data.toList = [c] from rfl, show s.data.toList = By s from rfl, hl, cut_one _ _ h]
theorem contf (s : ByteArray) (c : UInt8) (hs : s.size ≤ 2097152) : strings_Contains.f s ⟨#[c]⟩ = some (decide (c ∈ By s)) := by
  unfold strings_Contains.f
  rw [if_pos (by omega), show (⟨#[c]⟩ : ByteArray).data.toList = [c] from rfl, contains_one]
theorem pgroup_p (p : List UInt8) : Ev (fun k => addr_group.f k (OfBy p)) (match grpV p with | some n => ((n : Int), true) | none => (0, false)) := by
  have := pgroup_f (OfBy p)
  rwa [by_ofBy] at this
/-- what the program's list may tell of a list that the document reads so -/
def tells (acc : List Nat) (r : List Int × Bool) : Option (List Nat) → Prop
  | none => r.2 = false
  | some g => (acc.length + g.length ≤ 8 → r = (ints (acc ++ g), true)) ∧ (r.2 = true → r = (ints (acc ++ g), true))
theorem tells_more {acc : List Nat} {n : Nat} {r : List Int × Bool} {o : Option (List Nat)} (h : tells (acc ++ [n]) r o) : tells acc r (o.map fun g => n :: g) := by
  cases o with
  | none => exact h
  | some g =>
    obtain ⟨h1, h2⟩ := h
    simp only [List.append_assoc, List.singleton_append, List.length_append, List.length_cons, List.length_nil] at h1 h2
    exact ⟨fun h => h1 (by simp only [List.length_cons] at h; omega), h2⟩
def join2 : Option Nat → Option (List Nat) → Option (List Nat)
  | some n, some g => some (n :: g)
  | _, _ => none
theorem grps_cons (last : Bool) (p q : List UInt8) (ps : List (List UInt8)) : grps last (p :: q :: ps) = join2 (grpV p) (grps last (q :: ps)) := by
  rw [grps]
  cases grpV p <;> cases grps last (q :: ps) <;> rfl
theorem plist_group (s2 one : ByteArray) (p : List UInt8) (hone : By one = p) (other more : Bool) (acc : List Nat) (ha : acc.length ≤ 8) (o : Option (List Nat))
    (hgo : ∀ n, grpV p = some n → acc.length < 8 → ∃ r, Ev (fun k => addr_list.l0 k s2 other (ints (acc ++ [n])) more) r ∧ tells (acc ++ [n]) r o) (hpos : ∀ g, o = some g → True) :
    ∃ r, Ev (fun k => addr_list.j1 k s2 other (ints acc) more one false) r ∧ tells acc r (join2 (grpV p) o) := by
  have key : ∀ r, Ev (fun k => (addr_group.f k one).bind fun bt113 => (if bt113.2 = true then (if ((ints acc).length : Int) = 8 then (some (([] : List Int), false)) else (if (ints acc).length < 17592186044416 then (addr_list.l0 k s2 other (ints acc ++ [bt113.1]) more) else (none))) else (some (([] : List Int), false)))) r →
      Ev (fun k => addr_list.j1 k s2 other (ints acc) more one false) r := by
    intro r h
    refine Ev.step (fun k => addr_list.j1.eq_2 _ _ _ _ _ _ _) ?_
    simp only [Bool.false_eq_true, if_false]
    exact h
  have hg := pgroup_f one
  rw [hone] at hg
  cases h : grpV p with
  | none =>
    rw [h] at hg
    refine ⟨([], false), key _ (Ev.bind hg ?_), rfl⟩
    simp only [Bool.false_eq_true, if_false]; exact Ev.now _
  | some n =>
    rw [h] at hg
    by_cases h8 : acc.length = 8
    · refine ⟨([], false), key _ (Ev.bind hg ?_), ?_⟩
      · simp only [if_true, ints_len, if_pos (show (acc.length : Int) = 8 by omega)]; exact Ev.now _
      · cases o with
        | none => rfl
        | some g => exact ⟨fun hle => by simp only [List.length_cons] at hle; omega, fun e => by cases e⟩
    · obtain ⟨r, hr, ht⟩ := hgo n h (by omega)
      refine ⟨r, key _ (Ev.bind hg ?_), ?_⟩
      · simp only [if_true, ints_len, if_neg (show ¬ (acc.length : Int) = 8 by omega), if_pos (show acc.length < 17592186044416 by omega)]
        simp only [ints, List.map_append, List.map_cons, List.map_nil] at hr ⊢
        exact hr
      · have := tells_more ht
        cases o with
        | none => exact this
        | some g => exact this
theorem plist_l0 (other : Bool) : ∀ (n : Nat) (s : ByteArray) (acc : List Nat), s.size ≤ n → s.size ≤ 2097152 → acc.length ≤ 8 →
    ∃ r, Ev (fun k => addr_list.l0 k s other (ints acc) true) r ∧ tells acc r (grps other (pieces 58 (By s)))
  | n, s, acc, hn, hs, ha => by
    have stop : ∀ (s2 : ByteArray) (m : Nat), acc.length < 8 → ∃ r, Ev (fun k => addr_list.l0 k s2 other (ints (acc ++ [m])) false) r ∧ tells (acc ++ [m]) r (some []) := by
      intro s2 m h8
      refine ⟨(ints (acc ++ [m]), true), ?_, ⟨fun _ => by rw [List.append_nil], fun _ => by rw [List.append_nil]⟩⟩
      refine Ev.step (fun k => addr_list.l0.eq_2 _ _ _ _ _) ?_
      simp only [Bool.false_eq_true, if_false]; exact Ev.now _
    rcases first_piece 58 (By s) with h | ⟨p, l, hl, h⟩
    · -- the last piece
      have hcut := cutf_none s 58 hs h
      rw [pieces_none _ h]
      have l0 : ∀ r, Ev (fun k => if other = true then (strings_Contains.f s (⟨#[46]⟩ : ByteArray)).bind fun t104 => (addr_list.j1 k (⟨#[]⟩ : ByteArray) other (ints acc) false s t104) else (addr_list.j1 k (⟨#[]⟩ : ByteArray) other (ints acc) false s false)) r →
          Ev (fun k => addr_list.l0 k s other (ints acc) true) r := by
        intro r hr
        refine Ev.step (fun k => addr_list.l0.eq_2 _ _ _ _ _) ?_
        simp only [if_true, hcut, Option.bind_some, Bool.false_eq_true, if_false]
        exact hr
      have plain : ∃ r, Ev (fun k => addr_list.j1 k (⟨#[]⟩ : ByteArray) other (ints acc) false s false) r ∧ tells acc r ((grpV (By s)).map fun n => [n]) := by
        obtain ⟨r, h1, h2⟩ := plist_group (⟨#[]⟩ : ByteArray) s (By s) rfl other false acc ha (some []) (fun m _ h8 => stop _ m h8) (fun _ _ => trivial)
        refine ⟨r, h1, ?_⟩
        cases hg : grpV (By s) with
        | none => rw [hg] at h2; exact h2
        | some m => rw [hg] at h2; exact h2
      cases other with
      | false =>
        obtain ⟨r, h1, h2⟩ := plain
        refine ⟨r, l0 r (by simp only [Bool.false_eq_true, if_false]; exact h1), ?_⟩
        rw [grps]; exact h2
      | true =>
        have hcont := contf s 46 hs
        by_cases h46 : (46 : UInt8) ∈ By s
        · rw [decide_eq_true h46] at hcont
          have hq := quad_f s hs
          rw [quadV_dotV] at hq
          have j1 : ∀ (v : Nat) (b : Bool), v < 4294967296 → Ev (fun k => addr_quad.f k s) ((v : Int), b) → Ev (fun k => addr_list.l0 k s true (ints acc) true) (ints (acc ++ [v / 65536, v % 65536]), b) := by
            intro v b hv hq
            refine l0 _ ?_
            simp only [if_true, hcont, Option.bind_some]
            refine Ev.step (fun k => addr_list.j1.eq_2 _ _ _ _ _ _ _) ?_
            simp only [if_true]
            refine Ev.bind hq ?_
            simp only [Option.bind_some, and16 v hv, List.length_cons, List.length_nil, if_pos (show (ints acc).length + (0 + 1 + 1) < 17592186044416 by rw [ints_len]; omega)]
            simp only [ints, List.map_append, List.map_cons, List.map_nil]
            rw [show ((v / 65536 : Nat) : Int) = (v : Int) / 65536 by omega]
            exact Ev.now _
          cases hd : dotV (By s) with
          | some v =>
            refine ⟨_, j1 v true (dotV_lt hd) (hq.1 v hd), ?_⟩
            simp only [grps, hd, if_true]
            exact ⟨fun _ => rfl, fun _ => rfl⟩
          | none =>
            obtain ⟨v, hv, hq⟩ := hq.2 hd
            refine ⟨_, j1 v false hv hq, ?_⟩
            simp only [grps, hd, if_true, grpV_dot h46, Option.map_none]
            rfl
        · rw [decide_eq_false h46] at hcont
          obtain ⟨r, h1, h2⟩ := plain
          refine ⟨r, l0 r (by simp only [if_true, hcont, Option.bind_some]; exact h1), ?_⟩
          simp only [grps, dotV_nodot h46, if_true]
          exact h2
    · have hcut := cutf_one s 58 p l hs hl h
      have hsz : s.size = p.length + (l.length + 1) := by rw [size_by, hl]; simp
      have hszl : (OfBy l).size = l.length := by rw [size_by, by_ofBy]
      rw [hl, pieces_one p l h]
      have l0 : ∀ r, Ev (fun k => addr_list.j1 k (OfBy l) other (ints acc) true (OfBy p) false) r → Ev (fun k => addr_list.l0 k s other (ints acc) true) r := by
        intro r hr
        refine Ev.step (fun k => addr_list.l0.eq_2 _ _ _ _ _) ?_
        simp only [if_true, hcut, Option.bind_some, ite_self]
        exact hr
      obtain ⟨q, qs, hqs⟩ : ∃ q qs, pieces 58 l = q :: qs := by
        cases hx : pieces 58 l with
        | nil => exact absurd hx (pieces_ne _ _)
        | cons q qs => exact ⟨q, qs, rfl⟩
      match n, hn with
      | 0, hn => omega
      | n + 1, hn =>
        obtain ⟨r, h1, h2⟩ := plist_group (OfBy l) (OfBy p) p (by_ofBy p) other true acc ha (grps other (pieces 58 l)) (fun m _ h8 => by
          have := plist_l0 other n (OfBy l) (acc ++ [m]) (by omega) (by omega) (by simp; omega)
          rwa [by_ofBy] at this) (fun _ _ => trivial)
        refine ⟨r, l0 r h1, ?_⟩
        rw [hqs] at h2 ⊢
        rw [grps_cons]
        exact h2
theorem plist_f (s : ByteArray) (hs : s.size ≤ 2097152) (other : Bool) : ∃ r, Ev (fun k => addr_list.f k s other) r ∧ tells [] r (lstV other (By s)) := by
  unfold addr_list.f lstV
  by_cases h : By s = []
  · have e : (s.toList != ([] : List UInt8)) = false := by rw [(empty_iff s).2 h]; rfl
    rw [if_pos h]
    refine ⟨([], true), ?_, ⟨fun _ => rfl, fun _ => rfl⟩⟩
    simp only [e]
    refine Ev.step (fun k => addr_list.l0.eq_2 _ _ _ _ _) ?_
    simp only [Bool.false_eq_true, if_false]; exact Ev.now _
  · have e : (s.toList != ([] : List UInt8)) = true := by
      rw [bne_iff_ne]; exact fun e => h ((empty_iff s).1 e)
    rw [if_neg h]
    simp only [e]
    exact plist_l0 other s.size s [] (Nat.le_refl _) hs (by simp)

/-! ### words out of groups -/
def PP : Nat → List Nat → Nat
  | _, [] => 0
  | i, n :: g => n * 2 ^ (112 - 16 * i) + PP (i + 1) g
theorem two112 (i : Nat) (h : i < 8) : 2 ^ (128 - 16 * i) = 65536 * 2 ^ (112 - 16 * i) := by
  rw [show 128 - 16 * i = 16 + (112 - 16 * i) by omega, Nat.pow_add]
theorem PP_lt (g : List Nat) (hg : ∀ n ∈ g, n < 65536) : ∀ i, i + g.length ≤ 8 → PP i g < 2 ^ (128 - 16 * i) := by
  induction g with
  | nil => intro i _; exact Nat.pow_pos (by decide)
  | cons n g ih =>
    intro i hi
    simp only [List.length_cons] at hi
    have h1 := ih (fun m hm => hg m (List.mem_cons_of_mem _ hm)) (i + 1) (by omega)
    have hn := hg n (List.mem_cons_self ..)
    rw [two112 i (by omega)]
    rw [show 128 - 16 * (i + 1) = 112 - 16 * i by omega] at h1
    rw [PP]
    have : (n + 1) * 2 ^ (112 - 16 * i) ≤ 65536 * 2 ^ (112 - 16 * i) := Nat.mul_le_mul_right _ (by omega)
    rw [Nat.succ_mul] at this
    omega
theorem PP_append (a b : List Nat) : ∀ i, PP i (a ++ b) = PP i a + PP (i + a.length) b := by
  induction a with
  | nil => intro i; simp [PP]
  | cons n a ih => intro i; simp only [List.cons_append, PP, ih, List.length_cons]; rw [show i + 1 + a.length = i + (a.length + 1) by omega]; omega
theorem PP_zeros (z : Nat) (b : List Nat) : ∀ i, PP i (List.replicate z 0 ++ b) = PP (i + z) b := by
  induction z with
  | zero => intro i; rfl
  | succ z ih => intro i; simp only [List.replicate_succ, List.cons_append, PP, ih, Nat.zero_mul, Nat.zero_add]; rw [show i + 1 + z = i + (z + 1) by omega]
theorem PP_mul (a : List Nat) : ∀ i, i + a.length ≤ 8 → ∃ q, PP i a = 2 ^ (128 - 16 * (i + a.length)) * q := by
  induction a with
  | nil => intro i _; exact ⟨0, rfl⟩
  | cons n a ih =>
    intro i hi
    simp only [List.length_cons] at hi ⊢
    obtain ⟨q, hq⟩ := ih (i + 1) (by omega)
    rw [PP, hq, show i + 1 + a.length = i + (a.length + 1) by omega]
    refine ⟨n * 2 ^ (112 - 16 * i - (128 - 16 * (i + (a.length + 1)))) + q, ?_⟩
    have hp : 2 ^ (112 - 16 * i) = 2 ^ (112 - 16 * i - (128 - 16 * (i + (a.length + 1)))) * 2 ^ (128 - 16 * (i + (a.length + 1))) := by
      rw [← Nat.pow_add]; congr 1; omega
    rw [hp]
    generalize 2 ^ (112 - 16 * i - (128 - 16 * (i + (a.length + 1)))) = B
    generalize 2 ^ (128 - 16 * (i + (a.length + 1))) = A
    rw [Nat.mul_add, Nat.mul_comm A (n * B), Nat.mul_assoc]
theorem or_add {e q b : Nat} (h : b < 2 ^ e) : (2 ^ e * q) ||| b = 2 ^ e * q + b := (Nat.two_pow_add_eq_or_of_lt h q).symm
theorem PP_lt128 (g : List Nat) (hg : ∀ n ∈ g, n < 65536) (i : Nat) (hi : i + g.length ≤ 8) : PP i g < 2 ^ 128 :=
  Nat.lt_of_lt_of_le (PP_lt g hg i hi) (Nat.pow_le_pow_right (by decide) (by omega))
/-- as the program's word: hi, lo -/
theorem pshl (v n : Nat) (hv : v < 2 ^ 128) (hn : n ≤ 127) : word_Shl.f (hi v) (lo v) (n : Int) = some (hi (sl v n), lo (sl v n)) := by
  unfold word_Shl.f
  by_cases h0 : n = 0
  · subst h0; rw [if_pos (by decide), sl_zero v hv]
  · rw [if_neg (by omega)]
    by_cases h64 : n < 64
    · have e : wrap64 (64 - (n : Int)) = ((64 - n : Nat) : Int) := by rw [w64 (by omega) (by omega)]; omega
      rw [if_pos (by omega), if_pos (by omega), e, if_pos (by omega), shl_hi v n (by omega) h64, shl_lo v n h64]
    · have e : wrap64 ((n : Int) - 64) = ((n - 64 : Nat) : Int) := by rw [w64 (by omega) (by omega)]; omega
      obtain ⟨h1, h2⟩ := shl_far v n (by omega) (by omega)
      rw [if_neg (by omega), if_pos (by omega), e, if_pos (by omega), h1, h2]
theorem rshl (v n : Nat) (hv : v < 2 ^ 128) (hn : n ≤ 127) : turnpikeref1_Shl.f (hi v) (lo v) (n : Int) = some (hi (sl v n), lo (sl v n)) := by
  unfold turnpikeref1_Shl.f
  by_cases h0 : n = 0
  · subst h0; rw [if_pos (by decide), sl_zero v hv]
  · rw [if_neg (by omega), if_neg (by omega)]
    by_cases h64 : n < 64
    · have e : wrap64 (64 - (n : Int)) = ((64 - n : Nat) : Int) := by rw [w64 (by omega) (by omega)]; omega
      rw [if_neg (by omega), if_pos (by omega), e, if_pos (by omega), shl_hi v n (by omega) h64, shl_lo v n h64]
    · have e : wrap64 ((n : Int) - 64) = ((n - 64 : Nat) : Int) := by rw [w64 (by omega) (by omega)]; omega
      obtain ⟨h1, h2⟩ := shl_far v n (by omega) (by omega)
      rw [if_pos (by omega), e, if_pos (by omega), h1, h2]
theorem por (u v : Nat) (hu : u < 2 ^ 128) (hv : v < 2 ^ 128) : word_Or.f (hi u) (lo u) (hi v) (lo v) = some (hi (u ||| v), lo (u ||| v)) := by
  unfold word_Or.f
  rw [or_hi u v hu hv, or_lo]
theorem hi0 {n : Nat} (h : n < 65536) : hi n = 0 := by
  unfold hi; rw [Nat.div_eq_of_lt (by rw [p64]; omega)]; rfl
theorem lo0 {n : Nat} (h : n < 65536) : lo n = (n : Int) := by
  unfold lo; rw [Nat.mod_eq_of_lt (by rw [p64]; omega)]
theorem rd_ints (g : List Nat) (i n : Nat) (r : List Nat) (h : g.drop i = n :: r) : i < g.length ∧ rd (ints g) (i : Int) = (n : Int) ∧ g.drop (i + 1) = r := by
  have hlt : i < g.length := by
    have := congrArg List.length h
    simp only [List.length_drop, List.length_cons] at this
    omega
  rw [List.drop_eq_getElem_cons hlt] at h
  refine ⟨hlt, ?_, (List.cons.inj h).2⟩
  unfold rd ints
  rw [Int.toNat_natCast, List.getD_eq_getElem?_getD, List.getElem?_map, List.getElem?_eq_getElem hlt]
  simp [(List.cons.inj h).1]
theorem laid_l0 (g : List Nat) (fr : Nat) (hf : fr + g.length ≤ 8) (hg : ∀ n ∈ g, n < 65536) : ∀ (r : List Nat) (i w : Nat), g.drop i = r → i ≤ g.length → (∃ q, w = 2 ^ (128 - 16 * (fr + i)) * q) → w + PP (fr + i) r < 2 ^ 128 →
    Ev (fun k => addr_laid.l0 k (fr : Int) (ints g) (g.length : Int) (i : Int) (hi w) (lo w)) (hi (w + PP (fr + i) r), lo (w + PP (fr + i) r))
  | [], i, w, hr, hi', hq, hlt => by
    have : g.length ≤ i := by
      have := congrArg List.length hr
      simp only [List.length_drop, List.length_nil] at this; omega
    refine Ev.step (fun k => addr_laid.l0.eq_2 _ _ _ _ _ _ _) ?_
    simp only [if_neg (show ¬ (i : Int) < (g.length : Int) by omega), PP, Nat.add_zero]
    exact Ev.now _
  | n :: r, i, w, hr, hi', hq, hlt => by
    obtain ⟨h1, h2, h3⟩ := rd_ints g i n r hr
    have hn : n < 65536 := hg n (by
      have : n ∈ g.drop i := by rw [hr]; exact List.mem_cons_self ..
      exact List.mem_of_mem_drop this)
    have e1 : wrap64 ((fr : Int) + (i : Int)) = ((fr + i : Nat) : Int) := by rw [w64 (by omega) (by omega)]; omega
    have e2 : wrap64 (16 * ((fr + i : Nat) : Int)) = ((16 * (fr + i) : Nat) : Int) := by rw [w64 (by omega) (by omega)]; omega
    have e3 : wrap64 (112 - ((16 * (fr + i) : Nat) : Int)) = ((112 - 16 * (fr + i) : Nat) : Int) := by rw [w64 (by omega) (by omega)]; omega
    have hA := two112 (fr + i) (by omega)
    have hterm : n * 2 ^ (112 - 16 * (fr + i)) < 2 ^ (128 - 16 * (fr + i)) := by
      rw [hA]; exact Nat.mul_lt_mul_of_pos_right hn (Nat.pow_pos (by decide))
    have h128 : n * 2 ^ (112 - 16 * (fr + i)) < 2 ^ 128 := Nat.lt_of_lt_of_le hterm (Nat.pow_le_pow_right (by decide) (by omega))
    have hsl : sl n (112 - 16 * (fr + i)) = n * 2 ^ (112 - 16 * (fr + i)) := by unfold sl; exact Nat.mod_eq_of_lt h128
    have hshl := pshl n (112 - 16 * (fr + i)) (Nat.lt_of_lt_of_le hn (by decide)) (by omega)
    rw [hi0 hn, lo0 hn, hsl] at hshl
    have hw : w < 2 ^ 128 := by omega
    have hor := por w (n * 2 ^ (112 - 16 * (fr + i))) hw h128
    obtain ⟨q, hq⟩ := hq
    have hadd : w ||| n * 2 ^ (112 - 16 * (fr + i)) = w + n * 2 ^ (112 - 16 * (fr + i)) := by rw [hq]; exact or_add hterm
    rw [hadd] at hor
    refine Ev.step (fun k => addr_laid.l0.eq_2 _ _ _ _ _ _ _) ?_
    simp only [if_pos (show (i : Int) < (g.length : Int) by omega), if_pos (show (0 : Int) ≤ (i : Int) by omega), ints_len, h2, e1, e2, e3, hshl, hor, Option.bind_some, wr1 (show i ≤ 1000000000 by omega)]
    have hlt' : w + n * 2 ^ (112 - 16 * (fr + i)) + PP (fr + (i + 1)) r < 2 ^ 128 := by
      rw [PP] at hlt
      rw [show fr + (i + 1) = fr + i + 1 by omega]; omega
    have := laid_l0 g fr hf hg r (i + 1) (w + n * 2 ^ (112 - 16 * (fr + i))) h3 (by omega) ⟨65536 * q + n, by
      rw [hq, hA, show 128 - 16 * (fr + (i + 1)) = 112 - 16 * (fr + i) by omega]
      generalize 2 ^ (112 - 16 * (fr + i)) = A
      rw [Nat.mul_add, Nat.mul_comm 65536 A, Nat.mul_assoc, Nat.mul_comm n A]⟩ hlt'
    rw [PP, ← Nat.add_assoc]
    exact this
theorem laid_f (g : List Nat) (fr : Nat) (hf : fr + g.length ≤ 8) (hg : ∀ n ∈ g, n < 65536) : Ev (fun k => addr_laid.f k (ints g) (fr : Int)) (hi (PP fr g), lo (PP fr g)) := by
  have := laid_l0 g fr hf hg g 0 0 rfl (by omega) ⟨0, rfl⟩ (by rw [Nat.zero_add]; exact PP_lt128 g hg fr hf)
  rw [Nat.zero_add, Nat.add_zero] at this
  unfold addr_laid.f
  rw [show hi 0 = 0 from rfl, show lo 0 = 0 from rfl, show ((0 : Nat) : Int) = 0 from rfl] at this
  simp only [ints_len]
  exact this

/-! ### the program's reader of the greater family -/
theorem grps_count {last : Bool} {ps : List (List UInt8)} {g : List Nat} (h : grps last ps = some g) : g.length ≤ ps.length + 1 := by
  induction ps generalizing g with
  | nil => cases h; simp
  | cons p ps ih =>
    cases ps with
    | nil =>
      rw [grps] at h
      split at h
      · cases h; simp
      · obtain ⟨n, hn, rfl⟩ := Option.map_eq_some_iff.1 h
        simp
    | cons q ps =>
      rw [grps] at h
      split at h
      · rename_i n r hn hr
        cases h
        have := ih hr
        simp only [List.length_cons] at *; omega
      · cases h
theorem lstV_count {last : Bool} {l : List UInt8} {g : List Nat} (h : lstV last l = some g) : g.length ≤ l.length + 2 := by
  unfold lstV at h
  split at h
  · cases h; simp
  · have := grps_count h
    have := pieces_len 58 l
    omega
def six_is (l : List UInt8) (r : Int × Int × Int) : Prop := match sixV l with
  | some g => r = (hi (PP 0 g), lo (PP 0 g), 0)
  | none => r = (0, 0, 12)
theorem cut_gap_f (s : ByteArray) (hs : s.size ≤ 2097152) : strings_Cut.f s ⟨#[58, 58]⟩ = match gapV (By s) with | some (p, q) => some (OfBy p, OfBy q, true) | none => some (s, ⟨#[]⟩, false) := by
  unfold strings_Cut.f
  rw [if_pos (by omega), show (⟨#[58, 58]⟩ : ByteArray).data.toList = [58, 58] from rfl, cut_gap]
  cases h : gapV (By s) with
  | none => rfl
  | some x => rfl
theorem gap_size {s : ByteArray} {p q : List UInt8} (h : gapV (By s) = some (p, q)) : s.size = p.length + (q.length + 2) := by
  rw [size_by, gap_eq h]; simp
theorem psix_f (s : ByteArray) (hs : s.size ≤ 2097152) : ∃ r, Ev (fun k => addr_six.f k s) r ∧ six_is (By s) r := by
  have hcut := cut_gap_f s hs
  unfold addr_six.f
  cases hg : gapV (By s) with
  | none =>
    rw [hg] at hcut
    obtain ⟨r, h1, h2⟩ := plist_f s hs true
    simp only [hcut, Option.bind_some, Bool.false_eq_true, if_false]
    unfold six_is sixV
    rw [hg]
    cases hl : lstV true (By s) with
    | none =>
      rw [hl] at h2
      refine ⟨(0, 0, 12), Ev.bind h1 ?_, by simp⟩
      simp only [if_neg (show ¬ r.2 = true by rw [show r.2 = false from h2]; decide)]; exact Ev.now _
    | some g =>
      rw [hl] at h2
      obtain ⟨h3, h4⟩ := h2
      simp only [List.nil_append, List.length_nil, Nat.zero_add] at h3 h4
      by_cases h8 : g.length = 8
      · have e := h3 (by omega)
        refine ⟨(hi (PP 0 g), lo (PP 0 g), 0), Ev.bind h1 ?_, by simp [h8]⟩
        rw [e]
        simp only [if_true, ints_len, if_pos (show (g.length : Int) = 8 by omega)]
        refine Ev.bind (a := (hi (PP 0 g), lo (PP 0 g))) (laid_f g 0 (by omega) (lstV_lt hl)) ?_
        exact Ev.now _
      · refine ⟨(0, 0, 12), Ev.bind h1 ?_, by simp [h8]⟩
        by_cases hr : r.2 = true
        · rw [h4 hr]
          simp only [if_true, ints_len, if_neg (show ¬ (g.length : Int) = 8 by omega)]; exact Ev.now _
        · simp only [if_neg hr]; exact Ev.now _
  | some x =>
    obtain ⟨p, q⟩ := x
    rw [hg] at hcut
    have hsz := gap_size hg
    have sp : (OfBy p).size = p.length := by rw [size_by, by_ofBy]
    have sq : (OfBy q).size = q.length := by rw [size_by, by_ofBy]
    obtain ⟨r, h1, h2⟩ := plist_f (OfBy p) (by omega) false
    obtain ⟨u, h3, h4⟩ := plist_f (OfBy q) (by omega) true
    rw [by_ofBy] at h2 h4
    simp only [hcut, Option.bind_some, if_true]
    unfold six_is sixV
    rw [hg]
    have bad : ∀ (a b : List Int), Ev (fun k => addr_six.j0 k a b true) (0, 0, 12) := by
      intro a b
      refine Ev.step (fun k => addr_six.j0.eq_2 _ _ _ _) ?_
      simp only [if_true]; exact Ev.now _
    simp only
    cases hp : lstV false p with
    | none =>
      rw [hp] at h2
      refine ⟨(0, 0, 12), Ev.bind h1 (Ev.bind h3 ?_), by simp⟩
      simp only [if_neg (show ¬ r.2 = true by rw [show r.2 = false from h2]; decide)]; exact bad _ _
    | some a =>
      rw [hp] at h2
      obtain ⟨h5, h6⟩ := h2
      simp only [List.nil_append, List.length_nil, Nat.zero_add] at h5 h6
      cases hq : lstV true q with
      | none =>
        rw [hq] at h4
        refine ⟨(0, 0, 12), Ev.bind h1 (Ev.bind h3 ?_), by simp⟩
        simp only [if_neg (show ¬ u.2 = true by rw [show u.2 = false from h4]; decide), ite_self]; exact bad _ _
      | some b =>
        rw [hq] at h4
        obtain ⟨h7, h8⟩ := h4
        simp only [List.nil_append, List.length_nil, Nat.zero_add] at h7 h8
        by_cases hlen : 7 < a.length + b.length
        · refine ⟨(0, 0, 12), Ev.bind h1 (Ev.bind h3 ?_), by simp [hlen]⟩
          by_cases hr : r.2 = true
          · by_cases hu : u.2 = true
            · have la := lstV_count hp
              have lb := lstV_count hq
              have e1 : wrap64 ((a.length : Int) + (b.length : Int)) = ((a.length + b.length : Nat) : Int) := by rw [w64 (by omega) (by omega)]; omega
              rw [h6 hr, h8 hu]
              simp only [if_true, ints_len, e1, decide_eq_true (show ((a.length + b.length : Nat) : Int) > 7 by omega)]; exact bad _ _
            · simp only [if_pos hr, if_neg hu]; exact bad _ _
          · simp only [if_neg hr]; exact bad _ _
        · have er := h5 (by omega)
          have eu := h7 (by omega)
          refine ⟨(hi (PP 0 (a ++ List.replicate (8 - (a.length + b.length)) 0 ++ b)), lo (PP 0 (a ++ List.replicate (8 - (a.length + b.length)) 0 ++ b)), 0), Ev.bind h1 (Ev.bind h3 ?_), by simp [hlen]⟩
          rw [er, eu]
          have e1 : wrap64 ((a.length : Int) + (b.length : Int)) = ((a.length + b.length : Nat) : Int) := by rw [w64 (by omega) (by omega)]; omega
          have e2 : wrap64 (8 - (b.length : Int)) = ((8 - b.length : Nat) : Int) := by rw [w64 (by omega) (by omega)]; omega
          simp only [if_true, ints_len, e1, decide_eq_false (show ¬ ((a.length + b.length : Nat) : Int) > 7 by omega), if_neg hlen]
          refine Ev.step (fun k => addr_six.j0.eq_2 _ _ _ _) ?_
          simp only [Bool.false_eq_true, if_false, ints_len, e2]
          have ha := PP_lt128 a (lstV_lt hp) 0 (by omega)
          have hb := PP_lt128 b (lstV_lt hq) (8 - b.length) (by omega)
          refine Ev.bind (a := (hi (PP 0 a), lo (PP 0 a))) (laid_f a 0 (by omega) (lstV_lt hp)) (Ev.bind (laid_f b (8 - b.length) (by omega) (lstV_lt hq)) ?_)
          obtain ⟨c, hc⟩ := PP_mul a 0 (by omega)
          have hlt : PP (8 - b.length) b < 2 ^ (128 - 16 * (0 + a.length)) :=
            Nat.lt_of_lt_of_le (PP_lt b (lstV_lt hq) (8 - b.length) (by omega)) (Nat.pow_le_pow_right (by decide) (by omega))
          have hsum : PP 0 a ||| PP (8 - b.length) b = PP 0 (a ++ List.replicate (8 - (a.length + b.length)) 0 ++ b) := by
            rw [List.append_assoc, PP_append, PP_zeros, Nat.zero_add, show a.length + (8 - (a.length + b.length)) = 8 - b.length by omega, hc]
            exact or_add hlt
          simp only [por _ _ ha hb, Option.bind_some, hsum]
          exact Ev.now _

/-! ### the document's reader -/
theorem rgap_l0 (s : ByteArray) (hs : s.size ≤ 2097152) : ∀ (l : List UInt8) (i : Nat), (By s).drop i = l → i ≤ s.size →
    Ev (fun k => turnpikeref2_gap.l0 k s (i : Int)) (match gapV l with | some (p, _) => ((i + p.length : Nat) : Int) | none => -1)
  | [], i, hl, hi => by
    have h1 := nil_at hl
    refine Ev.step (fun k => turnpikeref2_gap.l0.eq_2 _ _ _) ?_
    simp only [wr1 (show i ≤ 1000000000 by omega), if_neg (show ¬ ((i + 1 : Nat) : Int) < (s.size : Int) by omega), gapV]
    exact Ev.now _
  | [a], i, hl, hi => by
    have h1 := drop_len hl hi
    simp only [List.length_cons, List.length_nil] at h1
    refine Ev.step (fun k => turnpikeref2_gap.l0.eq_2 _ _ _) ?_
    simp only [wr1 (show i ≤ 1000000000 by omega), if_neg (show ¬ ((i + 1 : Nat) : Int) < (s.size : Int) by omega), gapV]
    exact Ev.now _
  | a :: b :: l, i, hl, hi => by
    obtain ⟨h1, h2, h3⟩ := cons_at hl
    obtain ⟨h4, h5, h6⟩ := cons_at h3
    have ih := rgap_l0 s hs (b :: l) (i + 1) h3 (by omega)
    have fin : ∀ r, gapV (a :: b :: l) = (gapV (b :: l)).map (fun p => (a :: p.1, p.2)) → (match gapV (b :: l) with | some (p, _) => ((i + 1 + p.length : Nat) : Int) | none => -1) = r → (match gapV (a :: b :: l) with | some (p, _) => ((i + p.length : Nat) : Int) | none => -1) = r := by
      intro r e1 e2
      rw [e1, ← e2]
      cases gapV (b :: l) with
      | none => rfl
      | some x => simp only [Option.map_some, List.length_cons]; congr 1; omega
    have e58 : ∀ c : UInt8, (c.toNat : Int) = 58 ↔ c = 58 := fun c => ⟨fun h => u8_eq.2 (by show c.toNat = 58; omega), fun h => by rw [h]; rfl⟩
    refine Ev.step (fun k => turnpikeref2_gap.l0.eq_2 _ _ _) ?_
    simp only [wr1 (show i ≤ 1000000000 by omega), if_pos (show ((i + 1 : Nat) : Int) < (s.size : Int) by omega), if_pos (show (0 : Int) ≤ (i : Int) by omega), if_pos (show (i : Int) < (s.size : Int) by omega), h2, h5, if_pos (show (0 : Int) ≤ ((i + 1 : Nat) : Int) by omega), e58]
    by_cases ha : a = 58
    · by_cases hb : b = 58
      · simp only [if_pos ha, if_pos hb]
        rw [gapV, if_pos ⟨ha, hb⟩]
        exact Ev.now _
      · simp only [if_pos ha, if_neg hb]
        rw [fin _ (by rw [gapV, if_neg (fun h => hb h.2)]) rfl]
        exact ih
    · simp only [if_neg ha]
      rw [fin _ (by rw [gapV, if_neg (fun h => ha h.1)]) rfl]
      exact ih
theorem rl1_l1 (g : List Nat) (h8 : g.length = 8) (hg : ∀ n ∈ g, n < 65536) : ∀ (r : List Nat) (i w : Nat), g.drop i = r → i ≤ 8 → w * 2 ^ (128 - 16 * i) + PP i r < 2 ^ 128 →
    Ev (fun k => turnpikeref2_Parse.l1 k (ints g) (i : Int) (hi w) (lo w)) (hi (w * 2 ^ (128 - 16 * i) + PP i r), lo (w * 2 ^ (128 - 16 * i) + PP i r), 0)
  | [], i, w, hr, hi8, hlt => by
    have : g.length ≤ i := by
      have := congrArg List.length hr
      simp only [List.length_drop, List.length_nil] at this; omega
    obtain rfl : i = 8 := by omega
    refine Ev.step (fun k => turnpikeref2_Parse.l1.eq_2 _ _ _ _ _) ?_
    simp only [if_neg (show ¬ ((8 : Nat) : Int) < 8 by decide), PP, Nat.add_zero, Nat.mul_one, show 128 - 16 * 8 = 0 from rfl, Nat.pow_zero]
    exact Ev.now _
  | n :: r, i, w, hr, hi8, hlt => by
    obtain ⟨h1, h2, h3⟩ := rd_ints g i n r hr
    have hn : n < 65536 := hg n (by
      have : n ∈ g.drop i := by rw [hr]; exact List.mem_cons_self ..
      exact List.mem_of_mem_drop this)
    have hA := two112 i (by omega)
    have hA1 : 1 ≤ 2 ^ (112 - 16 * i) := Nat.pow_pos (by decide)
    have hw : w * 65536 < 2 ^ 128 := by
      have : w * 65536 * 1 ≤ w * 65536 * 2 ^ (112 - 16 * i) := Nat.mul_le_mul_left _ hA1
      rw [hA, ← Nat.mul_assoc] at hlt
      omega
    have hw' : w < 2 ^ 128 := by omega
    have hsl : sl w 16 = w * 65536 := by unfold sl; exact Nat.mod_eq_of_lt hw
    have hshl := rshl w 16 hw' (by omega)
    rw [hsl] at hshl
    have hor : w * 65536 ||| n = w * 65536 + n := by
      have := or_add (e := 16) (q := w) (b := n) hn
      rw [show (2 : Nat) ^ 16 = 65536 from rfl, Nat.mul_comm] at this
      exact this
    have ehi : hi (w * 65536) = hi (w * 65536 + n) := by
      have e : w * 65536 / 2 ^ 64 = (w * 65536 + n) / 2 ^ 64 := by rw [p64]; omega
      unfold hi; rw [e]
    have elo : Go.bits .or .u64 (lo (w * 65536)) (IntKind.u64.wrap (n : Int)) = lo (w * 65536 + n) := by
      rw [u64w (by omega) (by omega), ← lo0 hn, or_lo, hor]
    refine Ev.step (fun k => turnpikeref2_Parse.l1.eq_2 _ _ _ _ _) ?_
    rw [show ((16 : Nat) : Int) = 16 from rfl] at hshl
    simp only [if_pos (show (i : Int) < 8 by omega), hshl, Option.bind_some, if_pos (show (0 : Int) ≤ (i : Int) by omega), ints_len, if_pos (show (i : Int) < (g.length : Int) by omega), h2, elo, wr1 (show i ≤ 1000000000 by omega)]
    rw [ehi]
    have e : w * 2 ^ (128 - 16 * i) + PP i (n :: r) = (w * 65536 + n) * 2 ^ (128 - 16 * (i + 1)) + PP (i + 1) r := by
      rw [PP, hA, show 128 - 16 * (i + 1) = 112 - 16 * i by omega, Nat.add_mul, Nat.mul_assoc, Nat.add_assoc]
    rw [e] at hlt ⊢
    exact rl1_l1 g h8 hg r (i + 1) (w * 65536 + n) h3 (by omega) hlt
theorem rj2 (g : List Nat) (h8 : g.length = 8) (hg : ∀ n ∈ g, n < 65536) : Ev (fun k => turnpikeref2_Parse.j2 k (ints g)) (hi (PP 0 g), lo (PP 0 g), 0) := by
  refine Ev.step (fun k => turnpikeref2_Parse.j2.eq_2 _ _) ?_
  have := rl1_l1 g h8 hg g 0 0 rfl (by omega) (by rw [Nat.zero_mul, Nat.zero_add]; exact PP_lt128 g hg 0 (by omega))
  rw [Nat.zero_mul, Nat.zero_add, show hi 0 = 0 from rfl, show lo 0 = 0 from rfl, show ((0 : Nat) : Int) = 0 from rfl] at this
  exact this
theorem rfill (a b : List Nat) (hab : a.length + b.length ≤ 8) (ha : ∀ n ∈ a, n < 65536) (hb : ∀ n ∈ b, n < 65536) : ∀ z, a.length + z + b.length = 8 → ∀ a', a' = a →
    Ev (fun k => turnpikeref2_Parse.l0 k (ints a') (ints b)) (hi (PP 0 (a ++ List.replicate z 0 ++ b)), lo (PP 0 (a ++ List.replicate z 0 ++ b)), 0) := by
  intro z
  induction z generalizing a with
  | zero =>
    intro hz a' e
    subst e
    have e1 : wrap64 ((a'.length : Int) + (b.length : Int)) = 8 := by rw [w64 (by omega) (by omega)]; omega
    refine Ev.step (fun k => turnpikeref2_Parse.l0.eq_2 _ _ _) ?_
    simp only [ints_len, e1, if_neg (show ¬ (8 : Int) < 8 by decide), if_pos (show a'.length + b.length < 17592186044416 by omega), List.replicate_zero, List.append_nil]
    have := rj2 (a' ++ b) (by simp; omega) (fun n hn => by rcases List.mem_append.1 hn with h | h; exact ha n h; exact hb n h)
    simp only [ints, List.map_append] at this ⊢
    exact this
  | succ z ih =>
    intro hz a' e
    subst e
    have e1 : wrap64 ((a'.length : Int) + (b.length : Int)) = ((a'.length + b.length : Nat) : Int) := by rw [w64 (by omega) (by omega)]; omega
    refine Ev.step (fun k => turnpikeref2_Parse.l0.eq_2 _ _ _) ?_
    simp only [ints_len, e1, if_pos (show ((a'.length + b.length : Nat) : Int) < 8 by omega), if_pos (show a'.length < 17592186044416 by omega)]
    have := ih (a' ++ [0]) (by simp; omega) (fun n hn => by rcases List.mem_append.1 hn with h | h; exact ha n h; simp at h; omega) (by simp; omega) (a' ++ [0]) rfl
    rw [List.append_assoc a' [0], List.singleton_append, ← List.replicate_succ] at this
    simp only [ints, List.map_append, List.map_cons, List.map_nil] at this ⊢
    exact this
theorem rsix (s : ByteArray) (hs : s.size ≤ 2097152) : ∃ r, Ev (fun k => (turnpikeref2_gap.f k s).bind fun t199 => (if t199 < 0 then ((turnpikeref2_groups.f k s true).bind fun bt200 => (if bt200.2 = true then (if (bt200.1.length : Int) = 8 then (turnpikeref2_Parse.j2 k bt200.1) else (some (0, 0, 12))) else (some (0, 0, 12)))) else (if 0 ≤ t199 then (if t199 ≤ (s.size : Int) then ((turnpikeref2_groups.f k (s.extract 0 (t199 : Int).toNat) false).bind fun bt204 => (if 0 ≤ (wrap64 (t199 + 2)) then (if (wrap64 (t199 + 2)) ≤ (s.size : Int) then ((turnpikeref2_groups.f k (s.extract ((wrap64 (t199 + 2)) : Int).toNat s.size) true).bind fun bt208 => (if bt204.2 = true then (if bt208.2 = true then (turnpikeref2_Parse.j0 k ([] : List Int) bt204.1 bt208.1 (decide ((wrap64 ((bt204.1.length : Int) + (bt208.1.length : Int))) > 7))) else (turnpikeref2_Parse.j0 k ([] : List Int) bt204.1 bt208.1 true)) else (turnpikeref2_Parse.j0 k ([] : List Int) bt204.1 bt208.1 true))) else (none)) else (none))) else (none)) else (none)))) r ∧ six_is (By s) r := by
  have hgap := rgap_l0 s hs (By s) 0 rfl (by omega)
  simp only [Nat.zero_add] at hgap
  have hgap' : Ev (fun k => turnpikeref2_gap.f k s) _ := hgap
  unfold six_is sixV
  cases hg : gapV (By s) with
  | none =>
    rw [hg] at hgap'
    have hgr := rgroups_f s hs true
    simp only
    cases hl : lstV true (By s) with
    | none =>
      rw [hl] at hgr
      refine ⟨(0, 0, 12), Ev.bind hgap' ?_, rfl⟩
      simp only [if_pos (show (-1 : Int) < 0 by decide)]
      refine Ev.bind hgr ?_
      simp only [Bool.false_eq_true, if_false]; exact Ev.now _
    | some g =>
      rw [hl] at hgr
      by_cases h8 : g.length = 8
      · refine ⟨(hi (PP 0 g), lo (PP 0 g), 0), Ev.bind hgap' ?_, by simp [h8]⟩
        simp only [if_pos (show (-1 : Int) < 0 by decide)]
        refine Ev.bind hgr ?_
        simp only [if_true, ints_len, if_pos (show (g.length : Int) = 8 by omega)]
        exact rj2 g h8 (lstV_lt hl)
      · refine ⟨(0, 0, 12), Ev.bind hgap' ?_, by simp [h8]⟩
        simp only [if_pos (show (-1 : Int) < 0 by decide)]
        refine Ev.bind hgr ?_
        simp only [if_true, ints_len, if_neg (show ¬ (g.length : Int) = 8 by omega)]; exact Ev.now _
  | some x =>
    obtain ⟨p, q⟩ := x
    rw [hg] at hgap'
    simp only at hgap'
    have hsz := gap_size hg
    have hby := gap_eq hg
    have ep : s.extract 0 p.length = OfBy p := by rw [extract_of, hby]; simp
    have eq : s.extract (p.length + 2) s.size = OfBy q := by
      rw [extract_of, hby, show p ++ 58 :: 58 :: q = (p ++ [58, 58]) ++ q by simp, List.drop_left' (by simp), List.take_of_length_le (by omega)]
    have hgp := rgroups_f (OfBy p) (by rw [size_by, by_ofBy]; omega) false
    have hgq := rgroups_f (OfBy q) (by rw [size_by, by_ofBy]; omega) true
    rw [by_ofBy] at hgp hgq
    have e2 : wrap64 ((p.length : Int) + 2) = ((p.length + 2 : Nat) : Int) := by rw [w64 (by omega) (by omega)]; omega
    have bad : ∀ (a b : List Int), Ev (fun k => turnpikeref2_Parse.j0 k [] a b true) (0, 0, 12) := by
      intro a b
      refine Ev.step (fun k => turnpikeref2_Parse.j0.eq_2 _ _ _ _ _) ?_
      simp only [if_true]; exact Ev.now _
    have start : ∀ r, Ev (fun k => (turnpikeref2_groups.f k (OfBy p) false).bind fun bt204 => ((turnpikeref2_groups.f k (OfBy q) true).bind fun bt208 => (if bt204.2 = true then (if bt208.2 = true then (turnpikeref2_Parse.j0 k ([] : List Int) bt204.1 bt208.1 (decide ((wrap64 ((bt204.1.length : Int) + (bt208.1.length : Int))) > 7))) else (turnpikeref2_Parse.j0 k ([] : List Int) bt204.1 bt208.1 true)) else (turnpikeref2_Parse.j0 k ([] : List Int) bt204.1 bt208.1 true)))) r → Ev (fun k => (turnpikeref2_gap.f k s).bind fun t199 => (if t199 < 0 then ((turnpikeref2_groups.f k s true).bind fun bt200 => (if bt200.2 = true then (if (bt200.1.length : Int) = 8 then (turnpikeref2_Parse.j2 k bt200.1) else (some (0, 0, 12))) else (some (0, 0, 12)))) else (if 0 ≤ t199 then (if t199 ≤ (s.size : Int) then ((turnpikeref2_groups.f k (s.extract 0 (t199 : Int).toNat) false).bind fun bt204 => (if 0 ≤ (wrap64 (t199 + 2)) then (if (wrap64 (t199 + 2)) ≤ (s.size : Int) then ((turnpikeref2_groups.f k (s.extract ((wrap64 (t199 + 2)) : Int).toNat s.size) true).bind fun bt208 => (if bt204.2 = true then (if bt208.2 = true then (turnpikeref2_Parse.j0 k ([] : List Int) bt204.1 bt208.1 (decide ((wrap64 ((bt204.1.length : Int) + (bt208.1.length : Int))) > 7))) else (turnpikeref2_Parse.j0 k ([] : List Int) bt204.1 bt208.1 true)) else (turnpikeref2_Parse.j0 k ([] : List Int) bt204.1 bt208.1 true))) else (none)) else (none))) else (none)) else (none)))) r := fun r h => Ev.bind (r := r) hgap' (by
      simp only [if_neg (show ¬ (p.length : Int) < 0 by omega), if_pos (show (0 : Int) ≤ (p.length : Int) by omega), if_pos (show (p.length : Int) ≤ (s.size : Int) by omega), Int.toNat_natCast, ep, e2, if_pos (show (0 : Int) ≤ ((p.length + 2 : Nat) : Int) by omega), if_pos (show ((p.length + 2 : Nat) : Int) ≤ (s.size : Int) by omega), eq]
      exact h)
    cases hp : lstV false p with
    | none =>
      rw [hp] at hgp
      refine ⟨(0, 0, 12), start _ (Ev.bind hgp (Ev.bind hgq ?_)), by simp [hp]⟩
      simp only [Bool.false_eq_true, if_false]; exact bad _ _
    | some a =>
      rw [hp] at hgp
      cases hq : lstV true q with
      | none =>
        rw [hq] at hgq
        refine ⟨(0, 0, 12), start _ (Ev.bind hgp (Ev.bind hgq ?_)), by simp [hp, hq]⟩
        simp only [Bool.false_eq_true, if_false, ite_self]; exact bad _ _
      | some b =>
        rw [hq] at hgq
        have la := lstV_count hp
        have lb := lstV_count hq
        have e1 : wrap64 ((a.length : Int) + (b.length : Int)) = ((a.length + b.length : Nat) : Int) := by rw [w64 (by omega) (by omega)]; omega
        by_cases hlen : 7 < a.length + b.length
        · refine ⟨(0, 0, 12), start _ (Ev.bind hgp (Ev.bind hgq ?_)), by simp [hp, hq, hlen]⟩
          simp only [if_true, ints_len, e1, decide_eq_true (show ((a.length + b.length : Nat) : Int) > 7 by omega)]; exact bad _ _
        · refine ⟨(hi (PP 0 (a ++ List.replicate (8 - (a.length + b.length)) 0 ++ b)), lo (PP 0 (a ++ List.replicate (8 - (a.length + b.length)) 0 ++ b)), 0), start _ (Ev.bind hgp (Ev.bind hgq ?_)), by simp [hp, hq, hlen]⟩
          simp only [if_true, ints_len, e1, decide_eq_false (show ¬ ((a.length + b.length : Nat) : Int) > 7 by omega)]
          refine Ev.step (fun k => turnpikeref2_Parse.j0.eq_2 _ _ _ _ _) ?_
          simp only [Bool.false_eq_true, if_false, ints_len, List.length_nil, List.nil_append, if_pos (show 0 + a.length < 17592186044416 by omega)]
          exact rfill a b (by omega) (lstV_lt hp) (lstV_lt hq) (8 - (a.length + b.length)) (by omega) a rfl
theorem six_is_eq {l : List UInt8} {r u : Int × Int × Int} (h : six_is l r) (h' : six_is l u) : r = u := by
  unfold six_is at h h'
  cases hl : sixV l with
  | none => rw [hl] at h h'; exact h.trans h'.symm
  | some g => rw [hl] at h h'; exact h.trans h'.symm
/-- what a text tells -/
def readV (family : Int) (l : List UInt8) : Int × Int × Int :=
  if family = 32 then (match dotV l with | some n => (((n * 4294967296 : Nat) : Int), 0, 0) | none => (0, 0, 12)) else
  if family = 128 then (match sixV l with | some g => (hi (PP 0 g), lo (PP 0 g), 0) | none => (0, 0, 12)) else (0, 0, 11)
theorem six_is_iff {l : List UInt8} {r : Int × Int × Int} (h : six_is l r) : r = match sixV l with | some g => (hi (PP 0 g), lo (PP 0 g), 0) | none => (0, 0, 12) := by
  unfold six_is at h
  cases hl : sixV l with
  | none => rw [hl] at h; exact h
  | some g => rw [hl] at h; exact h
theorem pparse (family : Int) (s : ByteArray) (hs : s.size ≤ 2097152) : Ev (fun k => addr_Parse.f k family s) (readV family (By s)) := by
  unfold addr_Parse.f readV
  by_cases h32 : family = 32
  · simp only [if_pos h32]
    have hq := quad_f s hs
    rw [quadV_dotV] at hq
    cases hd : dotV (By s) with
    | some n =>
      have hn := dotV_lt hd
      have e : IntKind.u64.wrap ((n : Int) * 4294967296) = ((n * 4294967296 : Nat) : Int) := by rw [u64w (by omega) (by omega)]; omega
      refine Ev.bind (hq.1 n hd) ?_
      simp only [if_true, e]; exact Ev.now _
    | none =>
      obtain ⟨v, _, h⟩ := hq.2 hd
      refine Ev.bind h ?_
      simp only [Bool.false_eq_true, if_false]; exact Ev.now _
  · simp only [if_neg h32]
    by_cases h128 : family = 128
    · simp only [if_pos h128]
      obtain ⟨r, h1, h2⟩ := psix_f s hs
      rw [← six_is_iff h2]
      exact Ev.bind h1 (Ev.now _)
    · simp only [if_neg h128]; exact Ev.now _
theorem rparse (family : Int) (s : ByteArray) (hs : s.size ≤ 2097152) : Ev (fun k => turnpikeref2_Parse.f k family s) (readV family (By s)) := by
  unfold turnpikeref2_Parse.f readV turnpikeref2_IsFamily.f
  have hz := size_by s
  by_cases h32 : family = 32
  · simp only [if_pos h32, Option.bind_some, if_true]
    by_cases h60 : (s.size : Int) > 60
    · simp only [if_pos h60]
      cases hd : dotV (By s) with
      | none => exact Ev.now _
      | some n => have := dotV_len hd; omega
    · simp only [if_neg h60]
      have hd := dotted_f s hs
      cases h : dotV (By s) with
      | none =>
        rw [h] at hd
        refine Ev.bind hd ?_
        simp only [Bool.false_eq_true, if_false]; exact Ev.now _
      | some n =>
        rw [h] at hd
        have hn := dotV_lt h
        have e : IntKind.u64.wrap ((n : Int) * 4294967296) = ((n * 4294967296 : Nat) : Int) := by rw [u64w (by omega) (by omega)]; omega
        refine Ev.bind hd ?_
        simp only [if_true, e]; exact Ev.now _
  · by_cases h128 : family = 128
    · subst h128
      simp only [if_neg h32, Option.bind_some, beq_self_eq_true, if_true]
      by_cases h60 : (s.size : Int) > 60
      · simp only [if_pos h60]
        cases hd : sixV (By s) with
        | none => exact Ev.now _
        | some g => have := sixV_len hd; omega
      · simp only [if_neg h60]
        obtain ⟨r, h1, h2⟩ := rsix s hs
        rw [← six_is_iff h2]
        exact h1
    · have e : (family == 128) = false := by simp [h128]
      simp only [if_neg h32, if_neg h128, Option.bind_some, e, Bool.false_eq_true, if_false]; exact Ev.now _
/-- the first examples -/
theorem known_f : Ev (fun k => turnpikelaw2_known.f k) true := by
  unfold turnpikelaw2_known.f
  refine Ev.bind (pparse 32 _ (by decide)) (Ev.bind (pparse 128 _ (by decide)) ?_)
  have e1 : readV 32 (By (⟨#[49, 48, 46, 48, 46, 48, 46, 49]⟩ : ByteArray)) = (720575944674246656, 0, 0) := by decide
  have e2 : readV 128 (By (⟨#[49, 58, 58, 50]⟩ : ByteArray)) = (281474976710656, 2, 0) := by decide
  rw [e1, e2]
  exact Ev.now _
end Go.Proofs.Ytamiaaeaehdahaa.Th
