/- The plain law of layer 6 (open): capabilities and OPENs as bytes. No program in sight. No conditions. -/
import Derived.Test.YthgjknmfghjioaaDoorReaderTwo
namespace Go.Proofs.YthgjknmfghjioaaDoor
open Go.RowKit
abbrev Cap := Int × List UInt8
structure Opn where
  ver : Int
  asn : Int
  hold : Int
  id : Nat
  caps : List Cap
def capOk (c : Cap) : Bool := decide (0 ≤ c.1 ∧ c.1 ≤ 255 ∧ c.2.length ≤ 253)
def capB (c : Cap) : List UInt8 := ub c.1 :: ub (c.2.length : Int) :: c.2
def capsB (l : List Cap) : List UInt8 := l.flatMap capB
def capsOk (l : List Cap) : Bool := l.all capOk && decide ((capsB l).length ≤ 253)
theorem capsB_snoc {l : List Cap} {j : Nat} {c : Cap} (h : l[j]? = some c) : capsB (l.take (j + 1)) = capsB (l.take j) ++ [ub c.1, ub (c.2.length : Int)] ++ c.2 := by
  obtain ⟨h1, h2⟩ := List.getElem?_eq_some_iff.1 h
  rw [List.take_succ_eq_append_getElem h1, h2]
  simp [capsB, capB]
theorem capsB_take (l : List Cap) (j : Nat) : (capsB (l.take j)).length ≤ (capsB l).length := by
  have e : capsB l = capsB (l.take j) ++ capsB (l.drop j) := by
    rw [capsB, capsB, capsB, ← List.flatMap_append, List.take_append_drop]
  rw [e, List.length_append]
  omega
theorem capsOk_bad {l : List Cap} {j : Nat} {c : Cap} (h : l[j]? = some c) (hc : capOk c = false) : capsOk l = false := by
  unfold capsOk
  rw [List.all_eq_false.2 ⟨c, List.mem_of_getElem? h, by rw [hc]; simp⟩]
  rfl
theorem capsOk_long {l : List Cap} {j : Nat} (h : 253 < (capsB (l.take j)).length) : capsOk l = false := by
  have := capsB_take l j
  unfold capsOk
  rw [decide_eq_false (by omega), Bool.and_false]
theorem capsOk_all {l : List Cap} (h : ∀ (i : Nat) (c : Cap), l[i]? = some c → capOk c = true) : capsOk l = decide ((capsB l).length ≤ 253) := by
  unfold capsOk
  rw [List.all_eq_true.2 (fun c hc => by obtain ⟨i, hi⟩ := List.getElem?_of_mem hc; exact h i c hi), Bool.true_and]
/-- The body of an OPEN, or none. -/
def putOk (o : Opn) : Bool := capsOk o.caps && decide (0 ≤ o.ver ∧ o.ver ≤ 255) && decide (0 ≤ o.asn ∧ o.asn ≤ 65535) && decide (0 ≤ o.hold ∧ o.hold ≤ 65535)
def putTail (c : List UInt8) : List UInt8 := if c = [] then [0] else [ub ((c.length : Int) + 2), 2, ub (c.length : Int)] ++ c
def putB (o : Opn) : List UInt8 := [ub o.ver] ++ b16 o.asn ++ b16 o.hold ++ b32 (o.id : Int) ++ putTail (capsB o.caps)
/-- The capabilities that bytes say. -/
def parseC : List UInt8 → Option (List Cap)
  | [] => some []
  | [_] => none
  | k :: n :: r => if n.toNat ≤ r.length then (parseC (r.drop n.toNat)).map (((k.toNat : Int), r.take n.toNat) :: ·) else none
termination_by l => l.length
decreasing_by all_goals (simp; omega)
def addC (acc : List Cap) (r : Option (List Cap)) : Option (List Cap) := r.map (acc ++ ·)
theorem addC_nil (r : Option (List Cap)) : addC [] r = r := by cases r <;> simp [addC]
theorem parseC_nil : parseC [] = some [] := by rw [parseC]
theorem parseC_one (k : UInt8) : parseC [k] = none := by rw [parseC]
theorem parseC_short {k n : UInt8} {r : List UInt8} (h : r.length < n.toNat) : parseC (k :: n :: r) = none := by rw [parseC, if_neg (by omega)]
theorem parseC_step {k n : UInt8} {r : List UInt8} (acc : List Cap) (h : n.toNat ≤ r.length) : addC acc (parseC (k :: n :: r)) = addC (acc ++ [((k.toNat : Int), r.take n.toNat)]) (parseC (r.drop n.toNat)) := by
  rw [parseC, if_pos h]
  cases parseC (r.drop n.toNat) <;> simp [addC]
/-- The parameters that bytes say, or the fault. -/
def parseP : List UInt8 → Sum Nat (List Cap)
  | [] => .inr []
  | [_] => .inl 0
  | k :: n :: r =>
    if n.toNat ≤ r.length then
      if k = 2 then
        match parseC (r.take n.toNat) with
        | none => .inl 0
        | some cs => match parseP (r.drop n.toNat) with
          | .inl f => .inl f
          | .inr ds => .inr (cs ++ ds)
      else .inl 4
    else .inl 0
termination_by l => l.length
decreasing_by all_goals (simp; omega)
def addP (acc : List Cap) : Sum Nat (List Cap) → Sum Nat (List Cap)
  | .inl f => .inl f
  | .inr ds => .inr (acc ++ ds)
theorem addP_nil (r : Sum Nat (List Cap)) : addP [] r = r := by cases r <;> rfl
theorem parseP_nil : parseP [] = .inr [] := by rw [parseP]
theorem parseP_one (k : UInt8) : parseP [k] = .inl 0 := by rw [parseP]
theorem parseP_short {k n : UInt8} {r : List UInt8} (h : r.length < n.toNat) : parseP (k :: n :: r) = .inl 0 := by rw [parseP, if_neg (by omega)]
theorem parseP_kind {k n : UInt8} {r : List UInt8} (h : n.toNat ≤ r.length) (hk : k ≠ 2) : parseP (k :: n :: r) = .inl 4 := by rw [parseP, if_pos h, if_neg hk]
theorem parseP_bad {n : UInt8} {r : List UInt8} (h : n.toNat ≤ r.length) (hc : parseC (r.take n.toNat) = none) : parseP (2 :: n :: r) = .inl 0 := by rw [parseP, if_pos h, if_pos rfl, hc]
theorem parseP_step {n : UInt8} {r : List UInt8} {cs : List Cap} (acc : List Cap) (h : n.toNat ≤ r.length) (hc : parseC (r.take n.toNat) = some cs) : addP acc (parseP (2 :: n :: r)) = addP (acc ++ cs) (parseP (r.drop n.toNat)) := by
  rw [parseP, if_pos h, if_pos rfl, hc]
  cases parseP (r.drop n.toNat) <;> simp [addP]
/-- What a body says, or which fault it has. -/
def headOk (l : List UInt8) : Bool := decide (10 ≤ l.length ∧ lb l 9 = l.length - 10)
def mkOpn (l : List UInt8) (cs : List Cap) : Opn := ⟨(lb l 0 : Nat), (numL ((l.drop 1).take 2) : Nat), (numL ((l.drop 3).take 2) : Nat), numL ((l.drop 5).take 4), cs⟩
def readO (l : List UInt8) : Sum Nat Opn :=
  if headOk l = true then
    match parseP (l.drop 10) with
    | .inl f => .inl f
    | .inr cs => .inr (mkOpn l cs)
  else .inl 0
/-- What is put is read as it was. -/
theorem parseC_caps {l : List Cap} (h : l.all capOk = true) : parseC (capsB l) = some l := by
  induction l with
  | nil => exact parseC_nil
  | cons c l ih =>
    rw [List.all_cons, Bool.and_eq_true] at h
    have hc := h.1
    unfold capOk at hc
    rw [decide_eq_true_eq] at hc
    have e : capsB (c :: l) = ub c.1 :: ub (c.2.length : Int) :: (c.2 ++ capsB l) := by simp [capsB, capB]
    have n1 : (ub (c.2.length : Int)).toNat = c.2.length := by have := ub_nat (e := (c.2.length : Int)) (by omega) (by omega); omega
    have n2 : ((ub c.1).toNat : Int) = c.1 := ub_toNat hc.1 hc.2.1
    rw [e, parseC, if_pos (by rw [n1, List.length_append]; omega), n1, List.drop_left, List.take_left, ih h.2, n2]
    rfl
theorem take_of_drop (a b : List UInt8) (c : List UInt8) (k : Nat) (h : a.length = k) (m : Nat) (h2 : b.length = m) : ((a ++ b ++ c).drop k).take m = b := by
  rw [List.append_assoc, ← h, List.drop_left, ← h2, List.take_left]
theorem putTail_nil : putTail [] = [0] := rfl
theorem readO_put {o : Opn} (h : putOk o = true) (hid : o.id < 4294967296) : readO (putB o) = .inr o := by
  unfold putOk at h
  simp only [Bool.and_eq_true, decide_eq_true_eq] at h
  obtain ⟨⟨⟨h1, h2⟩, h3⟩, h4⟩ := h
  have hall : o.caps.all capOk = true := by unfold capsOk at h1; rw [Bool.and_eq_true] at h1; exact h1.1
  have hlen : (capsB o.caps).length ≤ 253 := by unfold capsOk at h1; rw [Bool.and_eq_true, decide_eq_true_eq] at h1; exact h1.2
  have l16 : ∀ m, (b16 m).length = 2 := fun m => rfl
  have l32 : ∀ m, (b32 m).length = 4 := fun m => rfl
  have ht : ∀ T, putTail (capsB o.caps) = T → ∃ x r, T = x :: r ∧ x.toNat = r.length ∧ parseP r = .inr o.caps := by
    rintro T rfl
    unfold putTail
    split
    · rename_i he
      refine ⟨0, [], rfl, rfl, ?_⟩
      have hp := parseC_caps hall
      rw [he, parseC_nil] at hp
      injection hp with hp
      rw [parseP_nil, hp]
    · refine ⟨ub ((capsB o.caps).length + 2), 2 :: ub ((capsB o.caps).length : Int) :: capsB o.caps, rfl, ?_, ?_⟩
      · have := ub_nat (e := ((capsB o.caps).length : Int) + 2) (by omega) (by omega)
        simp only [List.length_cons]; omega
      · have n1 : (ub ((capsB o.caps).length : Int)).toNat = (capsB o.caps).length := by have := ub_nat (e := ((capsB o.caps).length : Int)) (by omega) (by omega); omega
        have := parseP_step (n := ub ((capsB o.caps).length : Int)) (r := capsB o.caps) (cs := o.caps) [] (by omega) (by rw [n1, List.take_length]; exact parseC_caps hall)
        rw [addP_nil, n1, List.drop_length, parseP_nil] at this
        rw [this]; simp [addP]
  obtain ⟨x, r, hT, hx, hp⟩ := ht _ rfl
  have e : putB o = [ub o.ver] ++ b16 o.asn ++ b16 o.hold ++ b32 (o.id : Int) ++ (x :: r) := by unfold putB; rw [hT]
  have hlen2 : (putB o).length = 10 + r.length := by rw [e]; simp only [List.length_append, List.length_cons, List.length_nil, l16, l32]; omega
  have d10 : (putB o).drop 10 = r := by
    rw [e]
    exact rfl
  have hb9 : lb (putB o) 9 = x.toNat := by
    rw [e]; rfl
  have hb0 : lb (putB o) 0 = (ub o.ver).toNat := by rw [e]; rfl
  have hh : headOk (putB o) = true := decide_eq_true ⟨by omega, by rw [hb9, hlen2, hx]; omega⟩
  have n2 : ((ub o.ver).toNat : Int) = o.ver := ub_toNat h2.1 h2.2
  have e1 : ((putB o).drop 1).take 2 = b16 o.asn := by rw [e]; rfl
  have e3 : ((putB o).drop 3).take 2 = b16 o.hold := by rw [e]; rfl
  have e5 : ((putB o).drop 5).take 4 = b32 (o.id : Int) := by rw [e]; rfl
  unfold readO
  rw [if_pos hh, d10, hp]
  simp only [mkOpn, hb0, e1, e3, e5, n2, numL_b16 h3.1 (show o.asn < 65536 by omega), numL_b16 h4.1 (show o.hold < 65536 by omega)]
  have e6 : numL (b32 (o.id : Int)) = o.id := by have := numL_b32 (m := (o.id : Int)) (by omega) (by omega); omega
  rw [e6]
end Go.Proofs.YthgjknmfghjioaaDoor
