/- Walks of layer 6 (open): what a body says. No conditions but sizes. -/
import Derived.Test.YthgjknmfghjioaaDoorProg
import Derived.WalkKit
import Derived.WalkSpells
import Derived.WalkLawsBesides
import Derived.Outline
import Derived.Deep.QuietTactic
import Derived.BigQuiet
import Derived.Handy
import Derived.Lib.Hide
import Derived.Deep.LoopGhost
import Derived.Deep.DeepCutAuto
import Derived.Deep.CutBlock
import Derived.Test.YthgjknmfghjioaaDoorOpnD
namespace Go.Proofs.YthgjknmfghjioaaDoor
open Go.RowKit
set_option linter.unusedSimpArgs false
set_option linter.unusedVariables false
theorem opn_info1 : (Tryd.prog.info? 66).map (·.size) = some 5 := by kernel_rfl
theorem flt_info1 : (Tryd.prog.info? 36).map (·.size) = some 3 := by kernel_rfl
theorem flt_ret {fn : Func} {p : Tmp} (h : fn.results = #[.cell p 36]) (tmps : Array Value) (w : World) (g : Nat) (x y z : Value)
    (hp : tmps.getD p undef = .pointer (some ⟨g, 0, none⟩)) (hB : Blk w g 36 #[x, y, z]) :
    (results fn tmps).run Tryd.prog w = .ok (.agg #[x, y, z]) w :=
  results_cell_row h tmps w g 36 #[x, y, z] (0, 0) _ hp hB Tryd.underlying36 rfl flt_info1
theorem opn_flt_ret {fn : Func} {p q : Tmp} (h : fn.results = #[.cell p 66, .cell q 36]) (tmps : Array Value) (w : World) (g k : Nat) (a b c d e x y z : Value)
    (hp : tmps.getD p undef = .pointer (some ⟨g, 0, none⟩)) (hq : tmps.getD q undef = .pointer (some ⟨k, 0, none⟩)) (hB : Blk w g 66 #[a, b, c, d, e]) (hC : Blk w k 36 #[x, y, z]) :
    (results fn tmps).run Tryd.prog w = .ok (.tuple #[.agg #[a, b, c, d, e], .agg #[x, y, z]]) w := by
  have hp' : tmps[p]?.getD undef = .pointer (some ⟨g, 0, none⟩) := by simpa using hp
  have hq' : tmps[q]?.getD undef = .pointer (some ⟨k, 0, none⟩) := by simpa using hq
  have h1 := run_loadVar_row (P := Tryd.prog) w g 66 66 #[a, b, c, d, e] (0, 0) _ hB Tryd.underlying66 rfl opn_info1
  have h2 := run_loadVar_row (P := Tryd.prog) w k 36 36 #[x, y, z] (0, 0) _ hC Tryd.underlying36 rfl flt_info1
  simp [results, h, hp', hq', asAddr, h1, h2]
set_option maxHeartbeats 1000000 in
set_option maxRecDepth 100000 in
theorem openFault (s : Int) (A : Option Addr) (n c : Nat) (w : World) :
    Calls Tryd.prog 58 #[.int .i64 s, .slice A n c] w fun en w' => en = .returned (.agg #[.int .i64 2, .int .i64 s, .slice A n c]) ∧ Below w.heap.size w w' := by
  have hB := Blk.new w 36 #[.int .i64 0, .int .i64 0, .slice none 0 0]
  have c0 := hB.cell 0
  have c1 := hB.cell 1
  have c2 := hB.cell 2
  have f0 := hB.frozen 0
  have f1 := hB.frozen 1
  have f2 := hB.frozen 2
  go_enter Tryd.func58, Tryd.ntmps58
  go_wp2_with fail
  exact bodyPost_ret (flt_ret rfl _ _ w.heap.size _ _ _ rfl (Blk.new w 36 #[.int .i64 2, .int .i64 s, .slice A n c])) rfl ⟨rfl, (Below.refl _ _).alloc (Nat.le_refl _) _⟩
/-- What a body says, or the fault that it has. -/
def RetRead (w : World) (r : Sum Nat Opn) (e : Ending) (w' : World) : Prop :=
  Below w.heap.size w w' ∧ match r with
  | .inl f => e = .returned (.tuple #[.agg #[.int .i64 0, .int .i64 0, .int .i64 0, .int .u32 0, .slice none 0 0], .agg #[.int .i64 2, .int .i64 (f : Nat), .slice none 0 0]])
  | .inr o => ∃ (A : Option Addr) (n c : Nat), e = .returned (.tuple #[.agg #[.int .i64 o.ver, .int .i64 o.asn, .int .i64 o.hold, .int .u32 o.id, .slice A n c], .agg #[.int .i64 0, .int .i64 0, .slice none 0 0]]) ∧ DL rCap 2 w' (Lo w') A n o.caps ∧ n ≤ c
/-- The same, the capabilities in blocks of the call's own. -/
def RetReadF (w : World) (r : Sum Nat Opn) (e : Ending) (w' : World) : Prop :=
  Below w.heap.size w w' ∧ match r with
  | .inl f => e = .returned (.tuple #[.agg #[.int .i64 0, .int .i64 0, .int .i64 0, .int .u32 0, .slice none 0 0], .agg #[.int .i64 2, .int .i64 (f : Nat), .slice none 0 0]])
  | .inr o => ∃ (A : Option Addr) (n c : Nat), e = .returned (.tuple #[.agg #[.int .i64 o.ver, .int .i64 o.asn, .int .i64 o.hold, .int .u32 o.id, .slice A n c], .agg #[.int .i64 0, .int .i64 0, .slice none 0 0]]) ∧ DL rCap 2 w' (Fr w.heap.size w') A n o.caps ∧ n ≤ c
theorem RetReadF.to {w : World} {r : Sum Nat Opn} {e : Ending} {w' : World} (h : RetReadF w r e w') : RetRead w r e w' := by
  obtain ⟨h0, h1⟩ := h
  refine ⟨h0, ?_⟩
  cases r with
  | inl f => exact h1
  | inr o =>
    obtain ⟨A, n, c, e1, d, hc⟩ := h1
    exact ⟨A, n, c, e1, d.keep rCap_ok (Kp.sub fun b hb => hb.2), hc⟩
theorem tk_f {l : List UInt8} {s : Bool} {k : Nat} (h : tkShort l s k = false) : s = false ∧ k ≤ l.length ∧ tkLeft l s k = l.drop k ∧ tkOut l s k = l.take k := by
  unfold tkShort at h
  rw [decide_eq_false_iff_not] at h
  have hs : s = false := by cases s; rfl; exact absurd (.inl rfl) h
  refine ⟨hs, by omega, ?_, ?_⟩
  · unfold tkLeft; rw [if_neg h, Int.toNat_natCast]
  · unfold tkOut; rw [if_neg h, Int.toNat_natCast]
theorem parseC_len : ∀ (N : Nat) (l : List UInt8) (cs : List Cap), l.length ≤ N → parseC l = some cs → cs.length ≤ l.length
  | 0, l, cs, hN, h => by
    have : l = [] := List.eq_nil_of_length_eq_zero (by omega)
    subst this
    rw [parseC_nil] at h
    injection h with h
    subst h
    simp
  | N + 1, [], cs, hN, h => by
    rw [parseC_nil] at h
    injection h with h
    subst h
    simp
  | N + 1, [k], cs, hN, h => by rw [parseC_one] at h; cases h
  | N + 1, k :: n :: r, cs, hN, h => by
    by_cases hle : n.toNat ≤ r.length
    · rw [parseC, if_pos hle] at h
      obtain ⟨ds, h1, h2⟩ := Option.map_eq_some_iff.1 h
      have h3 := parseC_len N _ ds (by simp at hN ⊢; omega) h1
      rw [List.length_drop] at h3
      rw [← h2]
      simp; omega
    · rw [parseC_short (by omega)] at h; cases h
/-- One parameter of bytes. -/
theorem par_step (k : UInt8) (t : List UInt8) {n2 : Nat} {t2 data t3 : List UInt8} {s2 s3 : Bool} (e1 : numL (tkOut t false (1 : Nat)) = n2) (e2 : tkLeft t false (1 : Nat) = t2) (e3 : tkShort t false (1 : Nat) = s2) (e4 : tkOut t2 s2 n2 = data) (e5 : tkLeft t2 s2 n2 = t3) (e6 : tkShort t2 s2 n2 = s3) :
    t2.length ≤ t.length ∧ t3.length ≤ t.length ∧ data.length + t3.length ≤ t.length ∧ ((s3 = true ∧ parseP (k :: t) = .inl 0) ∨ (s3 = false ∧ (k ≠ 2 → parseP (k :: t) = .inl 4) ∧ (k = 2 → parseC data = none → parseP (k :: t) = .inl 0) ∧ (k = 2 → ∀ cs, parseC data = some cs → ∀ acc, addP acc (parseP (k :: t)) = addP (acc ++ cs) (parseP t3)))) := by
  have L2 : t2.length ≤ t.length := by rw [← e2]; exact tkLeft_len _ _ _
  have L3 : t3.length ≤ t2.length := by rw [← e5]; exact tkLeft_len _ _ _
  have LD : data.length + t3.length ≤ t2.length := by
    rw [← e4, ← e5]; unfold tkOut tkLeft
    split
    · simp
    · rw [List.length_take, List.length_drop]; omega
  refine ⟨L2, Nat.le_trans L3 L2, Nat.le_trans LD L2, ?_⟩
  cases t with
  | nil =>
    have : s2 = true := by rw [← e3]; rfl
    subst this
    refine .inl ⟨by rw [← e6]; unfold tkShort; simp, parseP_one k⟩
  | cons m r =>
    have T := tk_ok (l := m :: r) (k := 1) (by simp)
    rw [T.1] at e1
    rw [T.2.1] at e2
    rw [T.2.2] at e3
    have h1 : n2 = m.toNat := by rw [← e1]; simp [numL]
    have h2 : t2 = r := by rw [← e2]; rfl
    subst h1 h2 e3
    by_cases hle : m.toNat ≤ t2.length
    · have T := tk_ok hle
      rw [T.1] at e4
      rw [T.2.1] at e5
      rw [T.2.2] at e6
      subst e4 e5
      exact .inr ⟨e6.symm, fun hk => parseP_kind hle hk, fun hk hc => by subst hk; exact parseP_bad hle hc, fun hk cs hc acc => by subst hk; exact parseP_step acc hle hc⟩
    · refine .inl ⟨?_, parseP_short (by omega)⟩
      rw [← e6]
      unfold tkShort
      exact decide_eq_true (.inr (.inr (by omega)))
theorem readO_bad {l : List UInt8} (h : headOk l = false) : readO l = .inl 0 := by unfold readO; rw [h]; rfl
theorem readO_par {l : List UInt8} {f : Nat} (h : headOk l = true) (hp : parseP (l.drop 10) = .inl f) : readO l = .inl f := by unfold readO; rw [if_pos h, hp]
theorem readO_ok {l : List UInt8} {cs : List Cap} (h : headOk l = true) (hp : parseP (l.drop 10) = .inr cs) : readO l = .inr (mkOpn l cs) := by unfold readO; rw [if_pos h, hp]
theorem numL_one (b : UInt8) : numL [b] = b.toNat := by simp [numL]
theorem lb_take (l : List UInt8) (k : Nat) (h : k < l.length) : numL ((l.drop k).take 1) = lb l k := by
  rw [List.drop_eq_getElem_cons h, List.take_succ_cons, List.take_zero, numL_one, lb_eq l k h]
/-- The five reads of a head. -/
theorem head_reads {l l1 l2 l3 l4 l5 : List UInt8} {s1 s2 s3 s4 s5 : Bool} {v1 v2 v3 v4 v5 : Nat}
    (e1 : numL (tkOut l false (1 : Nat)) = v1 ∧ tkLeft l false (1 : Nat) = l1 ∧ tkShort l false (1 : Nat) = s1) (e2 : numL (tkOut l1 s1 (2 : Nat)) = v2 ∧ tkLeft l1 s1 (2 : Nat) = l2 ∧ tkShort l1 s1 (2 : Nat) = s2)
    (e3 : numL (tkOut l2 s2 (2 : Nat)) = v3 ∧ tkLeft l2 s2 (2 : Nat) = l3 ∧ tkShort l2 s2 (2 : Nat) = s3) (e4 : numL (tkOut l3 s3 (4 : Nat)) = v4 ∧ tkLeft l3 s3 (4 : Nat) = l4 ∧ tkShort l3 s3 (4 : Nat) = s4)
    (e5 : numL (tkOut l4 s4 (1 : Nat)) = v5 ∧ tkLeft l4 s4 (1 : Nat) = l5 ∧ tkShort l4 s4 (1 : Nat) = s5) :
    l1.length ≤ l.length ∧ l2.length ≤ l.length ∧ l3.length ≤ l.length ∧ l4.length ≤ l.length ∧ l5.length ≤ l.length ∧ (s5 = true → headOk l = false) ∧
    (s5 = false → 10 ≤ l.length ∧ v1 = lb l 0 ∧ v2 = numL ((l.drop 1).take 2) ∧ v3 = numL ((l.drop 3).take 2) ∧ v4 = numL ((l.drop 5).take 4) ∧ v5 = lb l 9 ∧ l5 = l.drop 10 ∧ (headOk l = decide ((v5 : Int) = (l5.length : Int)))) := by
  have L1 : l1.length ≤ l.length := by rw [← e1.2.1]; exact tkLeft_len _ _ _
  have L2 : l2.length ≤ l1.length := by rw [← e2.2.1]; exact tkLeft_len _ _ _
  have L3 : l3.length ≤ l2.length := by rw [← e3.2.1]; exact tkLeft_len _ _ _
  have L4 : l4.length ≤ l3.length := by rw [← e4.2.1]; exact tkLeft_len _ _ _
  have L5 : l5.length ≤ l4.length := by rw [← e5.2.1]; exact tkLeft_len _ _ _
  have key : s5 = false → 10 ≤ l.length ∧ v1 = lb l 0 ∧ v2 = numL ((l.drop 1).take 2) ∧ v3 = numL ((l.drop 3).take 2) ∧ v4 = numL ((l.drop 5).take 4) ∧ v5 = lb l 9 ∧ l5 = l.drop 10 := by
    intro h5
    obtain ⟨h4, n5, d5, o5⟩ := tk_f (e5.2.2.trans h5)
    obtain ⟨h3, n4, d4, o4⟩ := tk_f (e4.2.2.trans h4)
    obtain ⟨h2, n3, d3, o3⟩ := tk_f (e3.2.2.trans h3)
    obtain ⟨h1, n2, d2, o2⟩ := tk_f (e2.2.2.trans h2)
    obtain ⟨_, n1, d1, o1⟩ := tk_f (e1.2.2.trans h1)
    have q1 : l1 = l.drop 1 := e1.2.1.symm.trans d1
    have q2 : l2 = l.drop 3 := by rw [← e2.2.1, d2, q1, List.drop_drop]
    have q3 : l3 = l.drop 5 := by rw [← e3.2.1, d3, q2, List.drop_drop]
    have q4 : l4 = l.drop 9 := by rw [← e4.2.1, d4, q3, List.drop_drop]
    have hl : 10 ≤ l.length := by rw [q4, List.length_drop] at n5; omega
    refine ⟨hl, ?_, ?_, ?_, ?_, ?_, ?_⟩
    · rw [← e1.1, o1]; exact lb_take l 0 (by omega)
    · rw [← e2.1, o2, q1]
    · rw [← e3.1, o3, q2]
    · rw [← e4.1, o4, q3]
    · rw [← e5.1, o5, q4]; exact lb_take l 9 (by omega)
    · rw [← e5.2.1, d5, q4, List.drop_drop]
  refine ⟨L1, by omega, by omega, by omega, by omega, fun h5 => ?_, fun h5 => ?_⟩
  · refine decide_eq_false fun hh => ?_
    have t1 := tk_ok (l := l) (k := 1) (by omega)
    have r1 : s1 = false := e1.2.2.symm.trans t1.2.2
    have q1 : l1 = l.drop 1 := e1.2.1.symm.trans t1.2.1
    subst r1
    have t2 := tk_ok (l := l1) (k := 2) (by rw [q1, List.length_drop]; omega)
    have r2 : s2 = false := e2.2.2.symm.trans t2.2.2
    have q2 : l2 = l.drop 3 := by rw [← e2.2.1, t2.2.1, q1, List.drop_drop]
    subst r2
    have t3 := tk_ok (l := l2) (k := 2) (by rw [q2, List.length_drop]; omega)
    have r3 : s3 = false := e3.2.2.symm.trans t3.2.2
    have q3 : l3 = l.drop 5 := by rw [← e3.2.1, t3.2.1, q2, List.drop_drop]
    subst r3
    have t4 := tk_ok (l := l3) (k := 4) (by rw [q3, List.length_drop]; omega)
    have r4 : s4 = false := e4.2.2.symm.trans t4.2.2
    have q4 : l4 = l.drop 9 := by rw [← e4.2.1, t4.2.1, q3, List.drop_drop]
    subst r4
    have t5 := tk_ok (l := l4) (k := 1) (by rw [q4, List.length_drop]; omega)
    rw [← e5.2.2, t5.2.2] at h5
    cases h5
  · have hk := key h5
    refine ⟨hk.1, hk.2.1, hk.2.2.1, hk.2.2.2.1, hk.2.2.2.2.1, hk.2.2.2.2.2.1, hk.2.2.2.2.2.2, ?_⟩
    unfold headOk
    rw [Bool.eq_iff_iff, decide_eq_true_eq, decide_eq_true_eq, hk.2.2.2.2.2.1, hk.2.2.2.2.2.2, List.length_drop]
    have := hk.1
    omega
set_option maxHeartbeats 8000000 in
set_option maxRecDepth 100000 in
theorem openReadF (A : Option Addr) (n c : Nat) (l : List UInt8) (w : World) (h : BS w w.heap.size A n l) (hn : n ≤ 100000) :
    Calls Tryd.prog 42 #[.slice A n c] w (RetReadF w (readO l)) := by
  have hl : l.length ≤ 100000 := by rw [← h.len]; exact hn
  obtain ⟨W, hW, hR, hF, b0⟩ := boxes2 w #[.int .i64 0, .int .i64 0, .int .i64 0, .int .u32 0, .slice none 0 0] #[.int .i64 0, .int .i64 0, .slice none 0 0] 66 36
  have hRl := hR.lt
  have hFl := hF.lt
  go_enter Tryd.func42, Tryd.ntmps42
  go_upto_region 1 with fail
  try rw [hW]
  clear hW
  go_wp2_with fail
  refine (rbNew A n c l _ (h.call b0) (by omega)).mono ?_
  rintro _ w1 ⟨g, rfl, hg, r1, b1⟩
  have b01 := btr b0 b1 b0.size
  have hR_1 := hR.below b1 hR.lt
  have hF_1 := hF.below b1 hF.lt
  have hgl := r1.lt
  obtain ⟨v1, l1, s1, E1⟩ : ∃ v1 l1 s1, numL (tkOut l false (1 : Nat)) = v1 ∧ tkLeft l false (1 : Nat) = l1 ∧ tkShort l false (1 : Nat) = s1 := ⟨_, _, _, rfl, rfl, rfl⟩
  obtain ⟨v2, l2, s2, E2⟩ : ∃ v1 l1' s1', numL (tkOut l1 s1 (2 : Nat)) = v1 ∧ tkLeft l1 s1 (2 : Nat) = l1' ∧ tkShort l1 s1 (2 : Nat) = s1' := ⟨_, _, _, rfl, rfl, rfl⟩
  obtain ⟨v3, l3, s3, E3⟩ : ∃ v1 l1 s1, numL (tkOut l2 s2 (2 : Nat)) = v1 ∧ tkLeft l2 s2 (2 : Nat) = l1 ∧ tkShort l2 s2 (2 : Nat) = s1 := ⟨_, _, _, rfl, rfl, rfl⟩
  obtain ⟨v4, l4, s4, E4⟩ : ∃ v1 l1 s1, numL (tkOut l3 s3 (4 : Nat)) = v1 ∧ tkLeft l3 s3 (4 : Nat) = l1 ∧ tkShort l3 s3 (4 : Nat) = s1 := ⟨_, _, _, rfl, rfl, rfl⟩
  obtain ⟨v5, l5, s5, E5⟩ : ∃ v1 l1 s1, numL (tkOut l4 s4 (1 : Nat)) = v1 ∧ tkLeft l4 s4 (1 : Nat) = l1 ∧ tkShort l4 s4 (1 : Nat) = s1 := ⟨_, _, _, rfl, rfl, rfl⟩
  obtain ⟨L1, L2, L3, L4, L5, hbad, hgood⟩ := head_reads E1 E2 E3 E4 E5
  have H1 := Lib.hid E1
  clear E1
  have H2 := Lib.hid E2
  clear E2
  have H3 := Lib.hid E3
  clear E3
  have H4 := Lib.hid E4
  clear E4
  have H5 := Lib.hid E5
  clear E5
  have HBAD := Lib.hid hbad
  clear hbad
  have HGOOD := Lib.hid hgood
  clear hgood
  go_wp2_with fail
  refine (rbByte g l false _ r1 (by omega)).mono ?_
  rw [H1.out.1, H1.out.2.1, H1.out.2.2]
  rintro _ w2 ⟨rfl, r2, g2⟩
  have z2 := g2.size
  have b02 := at_below b01 g2 b01.size (by omega)
  have hR_2 := hR_1.grown g2 (by intro e; injection e with e; omega)
  clear hR_1
  have hF_2 := hF_1.grown g2 (by intro e; injection e with e; omega)
  clear hF_1
  go_wp2_with fail
  refine (rbU16 g l1 s1 _ r2 (by omega)).mono ?_
  rw [H2.out.1, H2.out.2.1, H2.out.2.2]
  rintro _ w3 ⟨rfl, r3, g3⟩
  have z3 := g3.size
  have b03 := at_below b02 g3 b02.size (by omega)
  have hR_3 := hR_2.grown g3 (by intro e; injection e with e; omega)
  clear hR_2
  have hF_3 := hF_2.grown g3 (by intro e; injection e with e; omega)
  clear hF_2
  go_wp2_with fail
  refine (rbU16 g l2 s2 _ r3 (by omega)).mono ?_
  rw [H3.out.1, H3.out.2.1, H3.out.2.2]
  rintro _ w4 ⟨rfl, r4, g4⟩
  have z4 := g4.size
  have b04 := at_below b03 g4 b03.size (by omega)
  have hR_4 := hR_3.grown g4 (by intro e; injection e with e; omega)
  clear hR_3
  have hF_4 := hF_3.grown g4 (by intro e; injection e with e; omega)
  clear hF_3
  go_wp2_with fail
  refine (rbU32 g l3 s3 _ r4 (by omega)).mono ?_
  rw [H4.out.1, H4.out.2.1, H4.out.2.2]
  rintro _ w5 ⟨rfl, r5, g5⟩
  have z5 := g5.size
  have b05 := at_below b04 g5 b04.size (by omega)
  have hR_5 := hR_4.grown g5 (by intro e; injection e with e; omega)
  clear hR_4
  have hF_5 := hF_4.grown g5 (by intro e; injection e with e; omega)
  clear hF_4
  go_wp2_with fail
  obtain ⟨w6, hw6, hO, b6⟩ := box1c w5 #[.int .i64 v1, .int .i64 v2, .int .i64 v3, .int .u32 v4, .slice none 0 0] 66
  try rw [hw6]
  clear hw6
  have b06 := btr b05 b6 b05.size
  have hR_6 := hR_5.below b6 hR_5.lt
  clear hR_5
  have hF_6 := hF_5.below b6 hF_5.lt
  clear hF_5
  have r6 := r5.below b6 (by omega) (by omega)
  have hOl := hO.lt
  refine (rbByte g l4 s4 _ r6 (by omega)).mono ?_
  rw [H5.out.1, H5.out.2.1, H5.out.2.2]
  rintro _ w7 ⟨rfl, r7, g7⟩
  have z7 := g7.size
  have b07 := at_below b06 g7 b06.size (by omega)
  have hR_7 := hR_6.grown g7 (by intro e; injection e with e; omega)
  clear hR_6
  have hF_7 := hF_6.grown g7 (by intro e; injection e with e; omega)
  clear hF_6
  have hO_7 := hO.grown g7 (by intro e; injection e with e; omega)
  go_wp2_with fail
  refine (rbErr g l5 s5 _ r7).mono ?_
  rintro _ _ ⟨rfl, rfl⟩
  cases s5
  case true =>
    have HG := Lib.hid (show readO l = .inl 0 from readO_bad (HBAD.out rfl))
    go_wp2_with fail
    refine (openFault 0 none 0 0 _).mono ?_
    rintro _ w8 ⟨rfl, b8⟩
    have b08 := btr b07 b8 b07.size
    have hR_8 := hR_7.below b8 hR_7.lt
    clear hR_7
    have hF_8 := hF_7.below b8 hF_7.lt
    clear hF_7
    have hO_8 := hO_7.below b8 hO_7.lt
    clear hO_7
    have c_hR0 := hR_8.cell 0
    have f_hR0 := hR_8.frozen 0
    have c_hR1 := hR_8.cell 1
    have f_hR1 := hR_8.frozen 1
    have c_hR2 := hR_8.cell 2
    have f_hR2 := hR_8.frozen 2
    have c_hR3 := hR_8.cell 3
    have f_hR3 := hR_8.frozen 3
    have c_hR4 := hR_8.cell 4
    have f_hR4 := hR_8.frozen 4
    have c_hF0 := hF_8.cell 0
    have f_hF0 := hF_8.frozen 0
    have c_hF1 := hF_8.cell 1
    have f_hF1 := hF_8.frozen 1
    have c_hF2 := hF_8.cell 2
    have f_hF2 := hF_8.frozen 2
    go_wp2_with fail
    obtain ⟨w8s0, hw8s0⟩ : ∃ Wz_, w8.setCell ⟨w.heap.size, 0, none⟩ (.int .i64 0)= Wz_ := ⟨_, rfl⟩
    have hR_8s0 := hR_8.set_ 0 (.int .i64 0)
    simp only [List.setIfInBounds_toArray, List.set_cons_succ, List.set_cons_zero] at hR_8s0
    have hF_8s0 := hF_8.far (p := ⟨w.heap.size, 0, none⟩) (by show _ ≠ w.heap.size; omega) (.int .i64 0)
    have hO_8s0 := hO_8.far (p := ⟨w.heap.size, 0, none⟩) (by show _ ≠ w.heap.size; omega) (.int .i64 0)
    have b08s0 := b08.setCell (p := ⟨w.heap.size, 0, none⟩) (by show _ ≤ w.heap.size; omega) (.int .i64 0)
    have z_8s0 : w8.heap.size ≤ w8s0.heap.size := by rw [← hw8s0]; simp [World.setCell]
    rw [hw8s0] at hR_8s0 hF_8s0 hO_8s0 b08s0
    rw [hw8s0]
    clear hw8s0
    clear c_hR0 f_hR0 c_hR1 f_hR1 c_hR2 f_hR2 c_hR3 f_hR3 c_hR4 f_hR4 c_hF0 f_hF0 c_hF1 f_hF1 c_hF2 f_hF2
    clear hR_8
    clear hF_8
    clear hO_8
    have c_hR0 := hR_8s0.cell 0
    have f_hR0 := hR_8s0.frozen 0
    have c_hR1 := hR_8s0.cell 1
    have f_hR1 := hR_8s0.frozen 1
    have c_hR2 := hR_8s0.cell 2
    have f_hR2 := hR_8s0.frozen 2
    have c_hR3 := hR_8s0.cell 3
    have f_hR3 := hR_8s0.frozen 3
    have c_hR4 := hR_8s0.cell 4
    have f_hR4 := hR_8s0.frozen 4
    have c_hF0 := hF_8s0.cell 0
    have f_hF0 := hF_8s0.frozen 0
    have c_hF1 := hF_8s0.cell 1
    have f_hF1 := hF_8s0.frozen 1
    have c_hF2 := hF_8s0.cell 2
    have f_hF2 := hF_8s0.frozen 2
    obtain ⟨w8s1, hw8s1⟩ : ∃ Wz_, w8s0.setCell ⟨w.heap.size, 1, none⟩ (.int .i64 0)= Wz_ := ⟨_, rfl⟩
    have hR_8s1 := hR_8s0.set_ 1 (.int .i64 0)
    simp only [List.setIfInBounds_toArray, List.set_cons_succ, List.set_cons_zero] at hR_8s1
    have hF_8s1 := hF_8s0.far (p := ⟨w.heap.size, 1, none⟩) (by show _ ≠ w.heap.size; omega) (.int .i64 0)
    have hO_8s1 := hO_8s0.far (p := ⟨w.heap.size, 1, none⟩) (by show _ ≠ w.heap.size; omega) (.int .i64 0)
    have b08s1 := b08s0.setCell (p := ⟨w.heap.size, 1, none⟩) (by show _ ≤ w.heap.size; omega) (.int .i64 0)
    have z_8s1 : w8s0.heap.size ≤ w8s1.heap.size := by rw [← hw8s1]; simp [World.setCell]
    rw [hw8s1] at hR_8s1 hF_8s1 hO_8s1 b08s1
    rw [hw8s1]
    clear hw8s1
    clear c_hR0 f_hR0 c_hR1 f_hR1 c_hR2 f_hR2 c_hR3 f_hR3 c_hR4 f_hR4 c_hF0 f_hF0 c_hF1 f_hF1 c_hF2 f_hF2
    clear hR_8s0
    clear hF_8s0
    clear hO_8s0
    have c_hR0 := hR_8s1.cell 0
    have f_hR0 := hR_8s1.frozen 0
    have c_hR1 := hR_8s1.cell 1
    have f_hR1 := hR_8s1.frozen 1
    have c_hR2 := hR_8s1.cell 2
    have f_hR2 := hR_8s1.frozen 2
    have c_hR3 := hR_8s1.cell 3
    have f_hR3 := hR_8s1.frozen 3
    have c_hR4 := hR_8s1.cell 4
    have f_hR4 := hR_8s1.frozen 4
    have c_hF0 := hF_8s1.cell 0
    have f_hF0 := hF_8s1.frozen 0
    have c_hF1 := hF_8s1.cell 1
    have f_hF1 := hF_8s1.frozen 1
    have c_hF2 := hF_8s1.cell 2
    have f_hF2 := hF_8s1.frozen 2
    obtain ⟨w8s2, hw8s2⟩ : ∃ Wz_, w8s1.setCell ⟨w.heap.size, 2, none⟩ (.int .i64 0)= Wz_ := ⟨_, rfl⟩
    have hR_8s2 := hR_8s1.set_ 2 (.int .i64 0)
    simp only [List.setIfInBounds_toArray, List.set_cons_succ, List.set_cons_zero] at hR_8s2
    have hF_8s2 := hF_8s1.far (p := ⟨w.heap.size, 2, none⟩) (by show _ ≠ w.heap.size; omega) (.int .i64 0)
    have hO_8s2 := hO_8s1.far (p := ⟨w.heap.size, 2, none⟩) (by show _ ≠ w.heap.size; omega) (.int .i64 0)
    have b08s2 := b08s1.setCell (p := ⟨w.heap.size, 2, none⟩) (by show _ ≤ w.heap.size; omega) (.int .i64 0)
    have z_8s2 : w8s1.heap.size ≤ w8s2.heap.size := by rw [← hw8s2]; simp [World.setCell]
    rw [hw8s2] at hR_8s2 hF_8s2 hO_8s2 b08s2
    rw [hw8s2]
    clear hw8s2
    clear c_hR0 f_hR0 c_hR1 f_hR1 c_hR2 f_hR2 c_hR3 f_hR3 c_hR4 f_hR4 c_hF0 f_hF0 c_hF1 f_hF1 c_hF2 f_hF2
    clear hR_8s1
    clear hF_8s1
    clear hO_8s1
    have c_hR0 := hR_8s2.cell 0
    have f_hR0 := hR_8s2.frozen 0
    have c_hR1 := hR_8s2.cell 1
    have f_hR1 := hR_8s2.frozen 1
    have c_hR2 := hR_8s2.cell 2
    have f_hR2 := hR_8s2.frozen 2
    have c_hR3 := hR_8s2.cell 3
    have f_hR3 := hR_8s2.frozen 3
    have c_hR4 := hR_8s2.cell 4
    have f_hR4 := hR_8s2.frozen 4
    have c_hF0 := hF_8s2.cell 0
    have f_hF0 := hF_8s2.frozen 0
    have c_hF1 := hF_8s2.cell 1
    have f_hF1 := hF_8s2.frozen 1
    have c_hF2 := hF_8s2.cell 2
    have f_hF2 := hF_8s2.frozen 2
    obtain ⟨w8s3, hw8s3⟩ : ∃ Wz_, w8s2.setCell ⟨w.heap.size, 3, none⟩ (.int .u32 0)= Wz_ := ⟨_, rfl⟩
    have hR_8s3 := hR_8s2.set_ 3 (.int .u32 0)
    simp only [List.setIfInBounds_toArray, List.set_cons_succ, List.set_cons_zero] at hR_8s3
    have hF_8s3 := hF_8s2.far (p := ⟨w.heap.size, 3, none⟩) (by show _ ≠ w.heap.size; omega) (.int .u32 0)
    have hO_8s3 := hO_8s2.far (p := ⟨w.heap.size, 3, none⟩) (by show _ ≠ w.heap.size; omega) (.int .u32 0)
    have b08s3 := b08s2.setCell (p := ⟨w.heap.size, 3, none⟩) (by show _ ≤ w.heap.size; omega) (.int .u32 0)
    have z_8s3 : w8s2.heap.size ≤ w8s3.heap.size := by rw [← hw8s3]; simp [World.setCell]
    rw [hw8s3] at hR_8s3 hF_8s3 hO_8s3 b08s3
    rw [hw8s3]
    clear hw8s3
    clear c_hR0 f_hR0 c_hR1 f_hR1 c_hR2 f_hR2 c_hR3 f_hR3 c_hR4 f_hR4 c_hF0 f_hF0 c_hF1 f_hF1 c_hF2 f_hF2
    clear hR_8s2
    clear hF_8s2
    clear hO_8s2
    have c_hR0 := hR_8s3.cell 0
    have f_hR0 := hR_8s3.frozen 0
    have c_hR1 := hR_8s3.cell 1
    have f_hR1 := hR_8s3.frozen 1
    have c_hR2 := hR_8s3.cell 2
    have f_hR2 := hR_8s3.frozen 2
    have c_hR3 := hR_8s3.cell 3
    have f_hR3 := hR_8s3.frozen 3
    have c_hR4 := hR_8s3.cell 4
    have f_hR4 := hR_8s3.frozen 4
    have c_hF0 := hF_8s3.cell 0
    have f_hF0 := hF_8s3.frozen 0
    have c_hF1 := hF_8s3.cell 1
    have f_hF1 := hF_8s3.frozen 1
    have c_hF2 := hF_8s3.cell 2
    have f_hF2 := hF_8s3.frozen 2
    obtain ⟨w8s4, hw8s4⟩ : ∃ Wz_, w8s3.setCell ⟨w.heap.size, 4, none⟩ (.slice none 0 0)= Wz_ := ⟨_, rfl⟩
    have hR_8s4 := hR_8s3.set_ 4 (.slice none 0 0)
    simp only [List.setIfInBounds_toArray, List.set_cons_succ, List.set_cons_zero] at hR_8s4
    have hF_8s4 := hF_8s3.far (p := ⟨w.heap.size, 4, none⟩) (by show _ ≠ w.heap.size; omega) (.slice none 0 0)
    have hO_8s4 := hO_8s3.far (p := ⟨w.heap.size, 4, none⟩) (by show _ ≠ w.heap.size; omega) (.slice none 0 0)
    have b08s4 := b08s3.setCell (p := ⟨w.heap.size, 4, none⟩) (by show _ ≤ w.heap.size; omega) (.slice none 0 0)
    have z_8s4 : w8s3.heap.size ≤ w8s4.heap.size := by rw [← hw8s4]; simp [World.setCell]
    rw [hw8s4] at hR_8s4 hF_8s4 hO_8s4 b08s4
    rw [hw8s4]
    clear hw8s4
    clear c_hR0 f_hR0 c_hR1 f_hR1 c_hR2 f_hR2 c_hR3 f_hR3 c_hR4 f_hR4 c_hF0 f_hF0 c_hF1 f_hF1 c_hF2 f_hF2
    clear hR_8s3
    clear hF_8s3
    clear hO_8s3
    have c_hR0 := hR_8s4.cell 0
    have f_hR0 := hR_8s4.frozen 0
    have c_hR1 := hR_8s4.cell 1
    have f_hR1 := hR_8s4.frozen 1
    have c_hR2 := hR_8s4.cell 2
    have f_hR2 := hR_8s4.frozen 2
    have c_hR3 := hR_8s4.cell 3
    have f_hR3 := hR_8s4.frozen 3
    have c_hR4 := hR_8s4.cell 4
    have f_hR4 := hR_8s4.frozen 4
    have c_hF0 := hF_8s4.cell 0
    have f_hF0 := hF_8s4.frozen 0
    have c_hF1 := hF_8s4.cell 1
    have f_hF1 := hF_8s4.frozen 1
    have c_hF2 := hF_8s4.cell 2
    have f_hF2 := hF_8s4.frozen 2
    obtain ⟨w8s5, hw8s5⟩ : ∃ Wz_, w8s4.setCell ⟨w.heap.size + 1, 0, none⟩ (.int .i64 2)= Wz_ := ⟨_, rfl⟩
    have hR_8s5 := hR_8s4.far (p := ⟨w.heap.size + 1, 0, none⟩) (by show _ ≠ w.heap.size + 1; omega) (.int .i64 2)
    have hF_8s5 := hF_8s4.set_ 0 (.int .i64 2)
    simp only [List.setIfInBounds_toArray, List.set_cons_succ, List.set_cons_zero] at hF_8s5
    have hO_8s5 := hO_8s4.far (p := ⟨w.heap.size + 1, 0, none⟩) (by show _ ≠ w.heap.size + 1; omega) (.int .i64 2)
    have b08s5 := b08s4.setCell (p := ⟨w.heap.size + 1, 0, none⟩) (by show _ ≤ w.heap.size + 1; omega) (.int .i64 2)
    have z_8s5 : w8s4.heap.size ≤ w8s5.heap.size := by rw [← hw8s5]; simp [World.setCell]
    rw [hw8s5] at hR_8s5 hF_8s5 hO_8s5 b08s5
    rw [hw8s5]
    clear hw8s5
    clear c_hR0 f_hR0 c_hR1 f_hR1 c_hR2 f_hR2 c_hR3 f_hR3 c_hR4 f_hR4 c_hF0 f_hF0 c_hF1 f_hF1 c_hF2 f_hF2
    clear hR_8s4
    clear hF_8s4
    clear hO_8s4
    have c_hR0 := hR_8s5.cell 0
    have f_hR0 := hR_8s5.frozen 0
    have c_hR1 := hR_8s5.cell 1
    have f_hR1 := hR_8s5.frozen 1
    have c_hR2 := hR_8s5.cell 2
    have f_hR2 := hR_8s5.frozen 2
    have c_hR3 := hR_8s5.cell 3
    have f_hR3 := hR_8s5.frozen 3
    have c_hR4 := hR_8s5.cell 4
    have f_hR4 := hR_8s5.frozen 4
    have c_hF0 := hF_8s5.cell 0
    have f_hF0 := hF_8s5.frozen 0
    have c_hF1 := hF_8s5.cell 1
    have f_hF1 := hF_8s5.frozen 1
    have c_hF2 := hF_8s5.cell 2
    have f_hF2 := hF_8s5.frozen 2
    obtain ⟨w8s6, hw8s6⟩ : ∃ Wz_, w8s5.setCell ⟨w.heap.size + 1, 1, none⟩ (.int .i64 0)= Wz_ := ⟨_, rfl⟩
    have hR_8s6 := hR_8s5.far (p := ⟨w.heap.size + 1, 1, none⟩) (by show _ ≠ w.heap.size + 1; omega) (.int .i64 0)
    have hF_8s6 := hF_8s5.set_ 1 (.int .i64 0)
    simp only [List.setIfInBounds_toArray, List.set_cons_succ, List.set_cons_zero] at hF_8s6
    have hO_8s6 := hO_8s5.far (p := ⟨w.heap.size + 1, 1, none⟩) (by show _ ≠ w.heap.size + 1; omega) (.int .i64 0)
    have b08s6 := b08s5.setCell (p := ⟨w.heap.size + 1, 1, none⟩) (by show _ ≤ w.heap.size + 1; omega) (.int .i64 0)
    have z_8s6 : w8s5.heap.size ≤ w8s6.heap.size := by rw [← hw8s6]; simp [World.setCell]
    rw [hw8s6] at hR_8s6 hF_8s6 hO_8s6 b08s6
    rw [hw8s6]
    clear hw8s6
    clear c_hR0 f_hR0 c_hR1 f_hR1 c_hR2 f_hR2 c_hR3 f_hR3 c_hR4 f_hR4 c_hF0 f_hF0 c_hF1 f_hF1 c_hF2 f_hF2
    clear hR_8s5
    clear hF_8s5
    clear hO_8s5
    have c_hR0 := hR_8s6.cell 0
    have f_hR0 := hR_8s6.frozen 0
    have c_hR1 := hR_8s6.cell 1
    have f_hR1 := hR_8s6.frozen 1
    have c_hR2 := hR_8s6.cell 2
    have f_hR2 := hR_8s6.frozen 2
    have c_hR3 := hR_8s6.cell 3
    have f_hR3 := hR_8s6.frozen 3
    have c_hR4 := hR_8s6.cell 4
    have f_hR4 := hR_8s6.frozen 4
    have c_hF0 := hF_8s6.cell 0
    have f_hF0 := hF_8s6.frozen 0
    have c_hF1 := hF_8s6.cell 1
    have f_hF1 := hF_8s6.frozen 1
    have c_hF2 := hF_8s6.cell 2
    have f_hF2 := hF_8s6.frozen 2
    obtain ⟨w8s7, hw8s7⟩ : ∃ Wz_, w8s6.setCell ⟨w.heap.size + 1, 2, none⟩ (.slice none 0 0)= Wz_ := ⟨_, rfl⟩
    have hR_8s7 := hR_8s6.far (p := ⟨w.heap.size + 1, 2, none⟩) (by show _ ≠ w.heap.size + 1; omega) (.slice none 0 0)
    have hF_8s7 := hF_8s6.set_ 2 (.slice none 0 0)
    simp only [List.setIfInBounds_toArray, List.set_cons_succ, List.set_cons_zero] at hF_8s7
    have hO_8s7 := hO_8s6.far (p := ⟨w.heap.size + 1, 2, none⟩) (by show _ ≠ w.heap.size + 1; omega) (.slice none 0 0)
    have b08s7 := b08s6.setCell (p := ⟨w.heap.size + 1, 2, none⟩) (by show _ ≤ w.heap.size + 1; omega) (.slice none 0 0)
    have z_8s7 : w8s6.heap.size ≤ w8s7.heap.size := by rw [← hw8s7]; simp [World.setCell]
    rw [hw8s7] at hR_8s7 hF_8s7 hO_8s7 b08s7
    rw [hw8s7]
    clear hw8s7
    clear c_hR0 f_hR0 c_hR1 f_hR1 c_hR2 f_hR2 c_hR3 f_hR3 c_hR4 f_hR4 c_hF0 f_hF0 c_hF1 f_hF1 c_hF2 f_hF2
    clear hR_8s6
    clear hF_8s6
    clear hO_8s6
    have c_hR0 := hR_8s7.cell 0
    have f_hR0 := hR_8s7.frozen 0
    have c_hR1 := hR_8s7.cell 1
    have f_hR1 := hR_8s7.frozen 1
    have c_hR2 := hR_8s7.cell 2
    have f_hR2 := hR_8s7.frozen 2
    have c_hR3 := hR_8s7.cell 3
    have f_hR3 := hR_8s7.frozen 3
    have c_hR4 := hR_8s7.cell 4
    have f_hR4 := hR_8s7.frozen 4
    have c_hF0 := hF_8s7.cell 0
    have f_hF0 := hF_8s7.frozen 0
    have c_hF1 := hF_8s7.cell 1
    have f_hF1 := hF_8s7.frozen 1
    have c_hF2 := hF_8s7.cell 2
    have f_hF2 := hF_8s7.frozen 2
    exact bodyPost_ret (opn_flt_ret rfl _ _ w.heap.size (w.heap.size + 1) _ _ _ _ _ _ _ _ rfl rfl hR_8s7 hF_8s7) rfl ⟨b08s7, by rw [HG.out]; rfl⟩
  have HG5 := Lib.hid (HGOOD.out rfl)
  go_wp2_with fail
  refine (rbLeft g l5 false _ r7).mono ?_
  rintro _ _ ⟨rfl, rfl⟩
  by_cases hlen : (v5 : Int) = (l5.length : Int)
  case neg =>
    have ht : ((v5 : Int) != (l5.length : Int)) = true := by simpa using hlen
    have HG := Lib.hid (show readO l = .inl 0 from readO_bad (by rw [HG5.out.2.2.2.2.2.2.2]; exact decide_eq_false hlen))
    go_wp2_with fail
    refine (openFault 0 none 0 0 _).mono ?_
    rintro _ w8 ⟨rfl, b8⟩
    have b08 := btr b07 b8 b07.size
    have hR_8 := hR_7.below b8 hR_7.lt
    clear hR_7
    have hF_8 := hF_7.below b8 hF_7.lt
    clear hF_7
    have hO_8 := hO_7.below b8 hO_7.lt
    clear hO_7
    have c_hR0 := hR_8.cell 0
    have f_hR0 := hR_8.frozen 0
    have c_hR1 := hR_8.cell 1
    have f_hR1 := hR_8.frozen 1
    have c_hR2 := hR_8.cell 2
    have f_hR2 := hR_8.frozen 2
    have c_hR3 := hR_8.cell 3
    have f_hR3 := hR_8.frozen 3
    have c_hR4 := hR_8.cell 4
    have f_hR4 := hR_8.frozen 4
    have c_hF0 := hF_8.cell 0
    have f_hF0 := hF_8.frozen 0
    have c_hF1 := hF_8.cell 1
    have f_hF1 := hF_8.frozen 1
    have c_hF2 := hF_8.cell 2
    have f_hF2 := hF_8.frozen 2
    go_wp2_with fail
    obtain ⟨w8s0, hw8s0⟩ : ∃ Wz_, w8.setCell ⟨w.heap.size, 0, none⟩ (.int .i64 0)= Wz_ := ⟨_, rfl⟩
    have hR_8s0 := hR_8.set_ 0 (.int .i64 0)
    simp only [List.setIfInBounds_toArray, List.set_cons_succ, List.set_cons_zero] at hR_8s0
    have hF_8s0 := hF_8.far (p := ⟨w.heap.size, 0, none⟩) (by show _ ≠ w.heap.size; omega) (.int .i64 0)
    have hO_8s0 := hO_8.far (p := ⟨w.heap.size, 0, none⟩) (by show _ ≠ w.heap.size; omega) (.int .i64 0)
    have b08s0 := b08.setCell (p := ⟨w.heap.size, 0, none⟩) (by show _ ≤ w.heap.size; omega) (.int .i64 0)
    have z_8s0 : w8.heap.size ≤ w8s0.heap.size := by rw [← hw8s0]; simp [World.setCell]
    rw [hw8s0] at hR_8s0 hF_8s0 hO_8s0 b08s0
    rw [hw8s0]
    clear hw8s0
    clear c_hR0 f_hR0 c_hR1 f_hR1 c_hR2 f_hR2 c_hR3 f_hR3 c_hR4 f_hR4 c_hF0 f_hF0 c_hF1 f_hF1 c_hF2 f_hF2
    clear hR_8
    clear hF_8
    clear hO_8
    have c_hR0 := hR_8s0.cell 0
    have f_hR0 := hR_8s0.frozen 0
    have c_hR1 := hR_8s0.cell 1
    have f_hR1 := hR_8s0.frozen 1
    have c_hR2 := hR_8s0.cell 2
    have f_hR2 := hR_8s0.frozen 2
    have c_hR3 := hR_8s0.cell 3
    have f_hR3 := hR_8s0.frozen 3
    have c_hR4 := hR_8s0.cell 4
    have f_hR4 := hR_8s0.frozen 4
    have c_hF0 := hF_8s0.cell 0
    have f_hF0 := hF_8s0.frozen 0
    have c_hF1 := hF_8s0.cell 1
    have f_hF1 := hF_8s0.frozen 1
    have c_hF2 := hF_8s0.cell 2
    have f_hF2 := hF_8s0.frozen 2
    obtain ⟨w8s1, hw8s1⟩ : ∃ Wz_, w8s0.setCell ⟨w.heap.size, 1, none⟩ (.int .i64 0)= Wz_ := ⟨_, rfl⟩
    have hR_8s1 := hR_8s0.set_ 1 (.int .i64 0)
    simp only [List.setIfInBounds_toArray, List.set_cons_succ, List.set_cons_zero] at hR_8s1
    have hF_8s1 := hF_8s0.far (p := ⟨w.heap.size, 1, none⟩) (by show _ ≠ w.heap.size; omega) (.int .i64 0)
    have hO_8s1 := hO_8s0.far (p := ⟨w.heap.size, 1, none⟩) (by show _ ≠ w.heap.size; omega) (.int .i64 0)
    have b08s1 := b08s0.setCell (p := ⟨w.heap.size, 1, none⟩) (by show _ ≤ w.heap.size; omega) (.int .i64 0)
    have z_8s1 : w8s0.heap.size ≤ w8s1.heap.size := by rw [← hw8s1]; simp [World.setCell]
    rw [hw8s1] at hR_8s1 hF_8s1 hO_8s1 b08s1
    rw [hw8s1]
    clear hw8s1
    clear c_hR0 f_hR0 c_hR1 f_hR1 c_hR2 f_hR2 c_hR3 f_hR3 c_hR4 f_hR4 c_hF0 f_hF0 c_hF1 f_hF1 c_hF2 f_hF2
    clear hR_8s0
    clear hF_8s0
    clear hO_8s0
    have c_hR0 := hR_8s1.cell 0
    have f_hR0 := hR_8s1.frozen 0
    have c_hR1 := hR_8s1.cell 1
    have f_hR1 := hR_8s1.frozen 1
    have c_hR2 := hR_8s1.cell 2
    have f_hR2 := hR_8s1.frozen 2
    have c_hR3 := hR_8s1.cell 3
    have f_hR3 := hR_8s1.frozen 3
    have c_hR4 := hR_8s1.cell 4
    have f_hR4 := hR_8s1.frozen 4
    have c_hF0 := hF_8s1.cell 0
    have f_hF0 := hF_8s1.frozen 0
    have c_hF1 := hF_8s1.cell 1
    have f_hF1 := hF_8s1.frozen 1
    have c_hF2 := hF_8s1.cell 2
    have f_hF2 := hF_8s1.frozen 2
    obtain ⟨w8s2, hw8s2⟩ : ∃ Wz_, w8s1.setCell ⟨w.heap.size, 2, none⟩ (.int .i64 0)= Wz_ := ⟨_, rfl⟩
    have hR_8s2 := hR_8s1.set_ 2 (.int .i64 0)
    simp only [List.setIfInBounds_toArray, List.set_cons_succ, List.set_cons_zero] at hR_8s2
    have hF_8s2 := hF_8s1.far (p := ⟨w.heap.size, 2, none⟩) (by show _ ≠ w.heap.size; omega) (.int .i64 0)
    have hO_8s2 := hO_8s1.far (p := ⟨w.heap.size, 2, none⟩) (by show _ ≠ w.heap.size; omega) (.int .i64 0)
    have b08s2 := b08s1.setCell (p := ⟨w.heap.size, 2, none⟩) (by show _ ≤ w.heap.size; omega) (.int .i64 0)
    have z_8s2 : w8s1.heap.size ≤ w8s2.heap.size := by rw [← hw8s2]; simp [World.setCell]
    rw [hw8s2] at hR_8s2 hF_8s2 hO_8s2 b08s2
    rw [hw8s2]
    clear hw8s2
    clear c_hR0 f_hR0 c_hR1 f_hR1 c_hR2 f_hR2 c_hR3 f_hR3 c_hR4 f_hR4 c_hF0 f_hF0 c_hF1 f_hF1 c_hF2 f_hF2
    clear hR_8s1
    clear hF_8s1
    clear hO_8s1
    have c_hR0 := hR_8s2.cell 0
    have f_hR0 := hR_8s2.frozen 0
    have c_hR1 := hR_8s2.cell 1
    have f_hR1 := hR_8s2.frozen 1
    have c_hR2 := hR_8s2.cell 2
    have f_hR2 := hR_8s2.frozen 2
    have c_hR3 := hR_8s2.cell 3
    have f_hR3 := hR_8s2.frozen 3
    have c_hR4 := hR_8s2.cell 4
    have f_hR4 := hR_8s2.frozen 4
    have c_hF0 := hF_8s2.cell 0
    have f_hF0 := hF_8s2.frozen 0
    have c_hF1 := hF_8s2.cell 1
    have f_hF1 := hF_8s2.frozen 1
    have c_hF2 := hF_8s2.cell 2
    have f_hF2 := hF_8s2.frozen 2
    obtain ⟨w8s3, hw8s3⟩ : ∃ Wz_, w8s2.setCell ⟨w.heap.size, 3, none⟩ (.int .u32 0)= Wz_ := ⟨_, rfl⟩
    have hR_8s3 := hR_8s2.set_ 3 (.int .u32 0)
    simp only [List.setIfInBounds_toArray, List.set_cons_succ, List.set_cons_zero] at hR_8s3
    have hF_8s3 := hF_8s2.far (p := ⟨w.heap.size, 3, none⟩) (by show _ ≠ w.heap.size; omega) (.int .u32 0)
    have hO_8s3 := hO_8s2.far (p := ⟨w.heap.size, 3, none⟩) (by show _ ≠ w.heap.size; omega) (.int .u32 0)
    have b08s3 := b08s2.setCell (p := ⟨w.heap.size, 3, none⟩) (by show _ ≤ w.heap.size; omega) (.int .u32 0)
    have z_8s3 : w8s2.heap.size ≤ w8s3.heap.size := by rw [← hw8s3]; simp [World.setCell]
    rw [hw8s3] at hR_8s3 hF_8s3 hO_8s3 b08s3
    rw [hw8s3]
    clear hw8s3
    clear c_hR0 f_hR0 c_hR1 f_hR1 c_hR2 f_hR2 c_hR3 f_hR3 c_hR4 f_hR4 c_hF0 f_hF0 c_hF1 f_hF1 c_hF2 f_hF2
    clear hR_8s2
    clear hF_8s2
    clear hO_8s2
    have c_hR0 := hR_8s3.cell 0
    have f_hR0 := hR_8s3.frozen 0
    have c_hR1 := hR_8s3.cell 1
    have f_hR1 := hR_8s3.frozen 1
    have c_hR2 := hR_8s3.cell 2
    have f_hR2 := hR_8s3.frozen 2
    have c_hR3 := hR_8s3.cell 3
    have f_hR3 := hR_8s3.frozen 3
    have c_hR4 := hR_8s3.cell 4
    have f_hR4 := hR_8s3.frozen 4
    have c_hF0 := hF_8s3.cell 0
    have f_hF0 := hF_8s3.frozen 0
    have c_hF1 := hF_8s3.cell 1
    have f_hF1 := hF_8s3.frozen 1
    have c_hF2 := hF_8s3.cell 2
    have f_hF2 := hF_8s3.frozen 2
    obtain ⟨w8s4, hw8s4⟩ : ∃ Wz_, w8s3.setCell ⟨w.heap.size, 4, none⟩ (.slice none 0 0)= Wz_ := ⟨_, rfl⟩
    have hR_8s4 := hR_8s3.set_ 4 (.slice none 0 0)
    simp only [List.setIfInBounds_toArray, List.set_cons_succ, List.set_cons_zero] at hR_8s4
    have hF_8s4 := hF_8s3.far (p := ⟨w.heap.size, 4, none⟩) (by show _ ≠ w.heap.size; omega) (.slice none 0 0)
    have hO_8s4 := hO_8s3.far (p := ⟨w.heap.size, 4, none⟩) (by show _ ≠ w.heap.size; omega) (.slice none 0 0)
    have b08s4 := b08s3.setCell (p := ⟨w.heap.size, 4, none⟩) (by show _ ≤ w.heap.size; omega) (.slice none 0 0)
    have z_8s4 : w8s3.heap.size ≤ w8s4.heap.size := by rw [← hw8s4]; simp [World.setCell]
    rw [hw8s4] at hR_8s4 hF_8s4 hO_8s4 b08s4
    rw [hw8s4]
    clear hw8s4
    clear c_hR0 f_hR0 c_hR1 f_hR1 c_hR2 f_hR2 c_hR3 f_hR3 c_hR4 f_hR4 c_hF0 f_hF0 c_hF1 f_hF1 c_hF2 f_hF2
    clear hR_8s3
    clear hF_8s3
    clear hO_8s3
    have c_hR0 := hR_8s4.cell 0
    have f_hR0 := hR_8s4.frozen 0
    have c_hR1 := hR_8s4.cell 1
    have f_hR1 := hR_8s4.frozen 1
    have c_hR2 := hR_8s4.cell 2
    have f_hR2 := hR_8s4.frozen 2
    have c_hR3 := hR_8s4.cell 3
    have f_hR3 := hR_8s4.frozen 3
    have c_hR4 := hR_8s4.cell 4
    have f_hR4 := hR_8s4.frozen 4
    have c_hF0 := hF_8s4.cell 0
    have f_hF0 := hF_8s4.frozen 0
    have c_hF1 := hF_8s4.cell 1
    have f_hF1 := hF_8s4.frozen 1
    have c_hF2 := hF_8s4.cell 2
    have f_hF2 := hF_8s4.frozen 2
    obtain ⟨w8s5, hw8s5⟩ : ∃ Wz_, w8s4.setCell ⟨w.heap.size + 1, 0, none⟩ (.int .i64 2)= Wz_ := ⟨_, rfl⟩
    have hR_8s5 := hR_8s4.far (p := ⟨w.heap.size + 1, 0, none⟩) (by show _ ≠ w.heap.size + 1; omega) (.int .i64 2)
    have hF_8s5 := hF_8s4.set_ 0 (.int .i64 2)
    simp only [List.setIfInBounds_toArray, List.set_cons_succ, List.set_cons_zero] at hF_8s5
    have hO_8s5 := hO_8s4.far (p := ⟨w.heap.size + 1, 0, none⟩) (by show _ ≠ w.heap.size + 1; omega) (.int .i64 2)
    have b08s5 := b08s4.setCell (p := ⟨w.heap.size + 1, 0, none⟩) (by show _ ≤ w.heap.size + 1; omega) (.int .i64 2)
    have z_8s5 : w8s4.heap.size ≤ w8s5.heap.size := by rw [← hw8s5]; simp [World.setCell]
    rw [hw8s5] at hR_8s5 hF_8s5 hO_8s5 b08s5
    rw [hw8s5]
    clear hw8s5
    clear c_hR0 f_hR0 c_hR1 f_hR1 c_hR2 f_hR2 c_hR3 f_hR3 c_hR4 f_hR4 c_hF0 f_hF0 c_hF1 f_hF1 c_hF2 f_hF2
    clear hR_8s4
    clear hF_8s4
    clear hO_8s4
    have c_hR0 := hR_8s5.cell 0
    have f_hR0 := hR_8s5.frozen 0
    have c_hR1 := hR_8s5.cell 1
    have f_hR1 := hR_8s5.frozen 1
    have c_hR2 := hR_8s5.cell 2
    have f_hR2 := hR_8s5.frozen 2
    have c_hR3 := hR_8s5.cell 3
    have f_hR3 := hR_8s5.frozen 3
    have c_hR4 := hR_8s5.cell 4
    have f_hR4 := hR_8s5.frozen 4
    have c_hF0 := hF_8s5.cell 0
    have f_hF0 := hF_8s5.frozen 0
    have c_hF1 := hF_8s5.cell 1
    have f_hF1 := hF_8s5.frozen 1
    have c_hF2 := hF_8s5.cell 2
    have f_hF2 := hF_8s5.frozen 2
    obtain ⟨w8s6, hw8s6⟩ : ∃ Wz_, w8s5.setCell ⟨w.heap.size + 1, 1, none⟩ (.int .i64 0)= Wz_ := ⟨_, rfl⟩
    have hR_8s6 := hR_8s5.far (p := ⟨w.heap.size + 1, 1, none⟩) (by show _ ≠ w.heap.size + 1; omega) (.int .i64 0)
    have hF_8s6 := hF_8s5.set_ 1 (.int .i64 0)
    simp only [List.setIfInBounds_toArray, List.set_cons_succ, List.set_cons_zero] at hF_8s6
    have hO_8s6 := hO_8s5.far (p := ⟨w.heap.size + 1, 1, none⟩) (by show _ ≠ w.heap.size + 1; omega) (.int .i64 0)
    have b08s6 := b08s5.setCell (p := ⟨w.heap.size + 1, 1, none⟩) (by show _ ≤ w.heap.size + 1; omega) (.int .i64 0)
    have z_8s6 : w8s5.heap.size ≤ w8s6.heap.size := by rw [← hw8s6]; simp [World.setCell]
    rw [hw8s6] at hR_8s6 hF_8s6 hO_8s6 b08s6
    rw [hw8s6]
    clear hw8s6
    clear c_hR0 f_hR0 c_hR1 f_hR1 c_hR2 f_hR2 c_hR3 f_hR3 c_hR4 f_hR4 c_hF0 f_hF0 c_hF1 f_hF1 c_hF2 f_hF2
    clear hR_8s5
    clear hF_8s5
    clear hO_8s5
    have c_hR0 := hR_8s6.cell 0
    have f_hR0 := hR_8s6.frozen 0
    have c_hR1 := hR_8s6.cell 1
    have f_hR1 := hR_8s6.frozen 1
    have c_hR2 := hR_8s6.cell 2
    have f_hR2 := hR_8s6.frozen 2
    have c_hR3 := hR_8s6.cell 3
    have f_hR3 := hR_8s6.frozen 3
    have c_hR4 := hR_8s6.cell 4
    have f_hR4 := hR_8s6.frozen 4
    have c_hF0 := hF_8s6.cell 0
    have f_hF0 := hF_8s6.frozen 0
    have c_hF1 := hF_8s6.cell 1
    have f_hF1 := hF_8s6.frozen 1
    have c_hF2 := hF_8s6.cell 2
    have f_hF2 := hF_8s6.frozen 2
    obtain ⟨w8s7, hw8s7⟩ : ∃ Wz_, w8s6.setCell ⟨w.heap.size + 1, 2, none⟩ (.slice none 0 0)= Wz_ := ⟨_, rfl⟩
    have hR_8s7 := hR_8s6.far (p := ⟨w.heap.size + 1, 2, none⟩) (by show _ ≠ w.heap.size + 1; omega) (.slice none 0 0)
    have hF_8s7 := hF_8s6.set_ 2 (.slice none 0 0)
    simp only [List.setIfInBounds_toArray, List.set_cons_succ, List.set_cons_zero] at hF_8s7
    have hO_8s7 := hO_8s6.far (p := ⟨w.heap.size + 1, 2, none⟩) (by show _ ≠ w.heap.size + 1; omega) (.slice none 0 0)
    have b08s7 := b08s6.setCell (p := ⟨w.heap.size + 1, 2, none⟩) (by show _ ≤ w.heap.size + 1; omega) (.slice none 0 0)
    have z_8s7 : w8s6.heap.size ≤ w8s7.heap.size := by rw [← hw8s7]; simp [World.setCell]
    rw [hw8s7] at hR_8s7 hF_8s7 hO_8s7 b08s7
    rw [hw8s7]
    clear hw8s7
    clear c_hR0 f_hR0 c_hR1 f_hR1 c_hR2 f_hR2 c_hR3 f_hR3 c_hR4 f_hR4 c_hF0 f_hF0 c_hF1 f_hF1 c_hF2 f_hF2
    clear hR_8s6
    clear hF_8s6
    clear hO_8s6
    have c_hR0 := hR_8s7.cell 0
    have f_hR0 := hR_8s7.frozen 0
    have c_hR1 := hR_8s7.cell 1
    have f_hR1 := hR_8s7.frozen 1
    have c_hR2 := hR_8s7.cell 2
    have f_hR2 := hR_8s7.frozen 2
    have c_hR3 := hR_8s7.cell 3
    have f_hR3 := hR_8s7.frozen 3
    have c_hR4 := hR_8s7.cell 4
    have f_hR4 := hR_8s7.frozen 4
    have c_hF0 := hF_8s7.cell 0
    have f_hF0 := hF_8s7.frozen 0
    have c_hF1 := hF_8s7.cell 1
    have f_hF1 := hF_8s7.frozen 1
    have c_hF2 := hF_8s7.cell 2
    have f_hF2 := hF_8s7.frozen 2
    exact bodyPost_ret (opn_flt_ret rfl _ _ w.heap.size (w.heap.size + 1) _ _ _ _ _ _ _ _ rfl rfl hR_8s7 hF_8s7) rfl ⟨b08s7, by rw [HG.out]; rfl⟩
  have ht : ((v5 : Int) != (l5.length : Int)) = false := by simpa using hlen
  have HH := Lib.hid (show headOk l = true by rw [HG5.out.2.2.2.2.2.2.2]; exact decide_eq_true hlen)
  have HL5 := Lib.hid hlen
  clear hlen
  go_wp2_with fail
  have z06 := b06.size
  go_loopg [9] l.length (fun gg _ wr => ∃ (rest : List UInt8) (acc : List Cap) (A1 : Option Addr) (n1 c1 : Nat), rest.length ≤ gg ∧ rest.length ≤ l.length ∧ acc.length ≤ l.length - rest.length ∧ RB w1.heap.size wr g rest false ∧ Blk wr w.heap.size 66 #[.int .i64 0, .int .i64 0, .int .i64 0, .int .u32 0, .slice none 0 0] ∧ Blk wr (w.heap.size + 1) 36 #[.int .i64 0, .int .i64 0, .slice none 0 0] ∧ Blk wr w5.heap.size 66 #[.int .i64 v1, .int .i64 v2, .int .i64 v3, .int .u32 v4, .slice A1 n1 c1] ∧ OL rCap 2 wr w6.heap.size 85 w6.heap.size wr.heap.size [g, w5.heap.size] A1 n1 c1 acc ∧ Below w.heap.size w wr ∧ w6.heap.size ≤ wr.heap.size ∧ Hid (parseP (l.drop 10) = addP acc (parseP rest)))
  case atStart => exact ⟨l5, [], none, 0, 0, by omega, by omega, by simp, r7, hR_7, hF_7, hO_7, OL.nil_, b07, z7, Lib.hid (by rw [HG5.out.2.2.2.2.2.2.1, addP_nil])⟩
  case round =>
    obtain ⟨rest, acc, A1, n1, c1, hgg, hrl, hal, r10, hR10, hF10, hO10, o10, b10, z10, hp⟩ := hrel
    cases rest with
    | nil =>
      have HG := Lib.hid (show readO l = .inr (mkOpn l acc) from readO_ok HH.out (by rw [hp.out, parseP_nil]; simp [addP]))
      have hd := o10.dlU rCap_ok
      have hcap := o10.cap
      have c_hR0 := hR10.cell 0
      have f_hR0 := hR10.frozen 0
      have c_hR1 := hR10.cell 1
      have f_hR1 := hR10.frozen 1
      have c_hR2 := hR10.cell 2
      have f_hR2 := hR10.frozen 2
      have c_hR3 := hR10.cell 3
      have f_hR3 := hR10.frozen 3
      have c_hR4 := hR10.cell 4
      have f_hR4 := hR10.frozen 4
      have c_hF0 := hF10.cell 0
      have f_hF0 := hF10.frozen 0
      have c_hF1 := hF10.cell 1
      have f_hF1 := hF10.frozen 1
      have c_hF2 := hF10.cell 2
      have f_hF2 := hF10.frozen 2
      have c_hO0 := hO10.cell 0
      have c_hO1 := hO10.cell 1
      have c_hO2 := hO10.cell 2
      have c_hO3 := hO10.cell 3
      have c_hO4 := hO10.cell 4
      go_wp2_with fail
      refine (rbLeft g [] false _ r10).mono ?_
      rintro _ _ ⟨rfl, rfl⟩
      go_wp2_with fail
      obtain ⟨w11s0, hw11s0⟩ : ∃ Wz_, wr.setCell ⟨w.heap.size, 0, none⟩ (.int .i64 v1)= Wz_ := ⟨_, rfl⟩
      have hR_11s0 := hR10.set_ 0 (.int .i64 v1)
      simp only [List.setIfInBounds_toArray, List.set_cons_succ, List.set_cons_zero] at hR_11s0
      have hF_11s0 := hF10.far (p := ⟨w.heap.size, 0, none⟩) (by show _ ≠ w.heap.size; omega) (.int .i64 v1)
      have hO_11s0 := hO10.far (p := ⟨w.heap.size, 0, none⟩) (by show _ ≠ w.heap.size; omega) (.int .i64 v1)
      have hd_11s0 := hd.keep rCap_ok (Kp.set (p := ⟨w.heap.size, 0, none⟩) (by intro b hb; have := hb.1; show b ≠ w.heap.size; omega) (.int .i64 v1))
      have b011s0 := b10.setCell (p := ⟨w.heap.size, 0, none⟩) (by show _ ≤ w.heap.size; omega) (.int .i64 v1)
      have z_11s0 : wr.heap.size ≤ w11s0.heap.size := by rw [← hw11s0]; simp [World.setCell]
      rw [hw11s0] at hR_11s0 hF_11s0 hO_11s0 hd_11s0 b011s0
      rw [hw11s0]
      clear hw11s0
      clear c_hR0 f_hR0 c_hR1 f_hR1 c_hR2 f_hR2 c_hR3 f_hR3 c_hR4 f_hR4 c_hF0 f_hF0 c_hF1 f_hF1 c_hF2 f_hF2 c_hO0 c_hO1 c_hO2 c_hO3 c_hO4
      have c_hR0 := hR_11s0.cell 0
      have f_hR0 := hR_11s0.frozen 0
      have c_hR1 := hR_11s0.cell 1
      have f_hR1 := hR_11s0.frozen 1
      have c_hR2 := hR_11s0.cell 2
      have f_hR2 := hR_11s0.frozen 2
      have c_hR3 := hR_11s0.cell 3
      have f_hR3 := hR_11s0.frozen 3
      have c_hR4 := hR_11s0.cell 4
      have f_hR4 := hR_11s0.frozen 4
      have c_hF0 := hF_11s0.cell 0
      have f_hF0 := hF_11s0.frozen 0
      have c_hF1 := hF_11s0.cell 1
      have f_hF1 := hF_11s0.frozen 1
      have c_hF2 := hF_11s0.cell 2
      have f_hF2 := hF_11s0.frozen 2
      have c_hO0 := hO_11s0.cell 0
      have c_hO1 := hO_11s0.cell 1
      have c_hO2 := hO_11s0.cell 2
      have c_hO3 := hO_11s0.cell 3
      have c_hO4 := hO_11s0.cell 4
      obtain ⟨w11s1, hw11s1⟩ : ∃ Wz_, w11s0.setCell ⟨w.heap.size, 1, none⟩ (.int .i64 v2)= Wz_ := ⟨_, rfl⟩
      have hR_11s1 := hR_11s0.set_ 1 (.int .i64 v2)
      simp only [List.setIfInBounds_toArray, List.set_cons_succ, List.set_cons_zero] at hR_11s1
      have hF_11s1 := hF_11s0.far (p := ⟨w.heap.size, 1, none⟩) (by show _ ≠ w.heap.size; omega) (.int .i64 v2)
      have hO_11s1 := hO_11s0.far (p := ⟨w.heap.size, 1, none⟩) (by show _ ≠ w.heap.size; omega) (.int .i64 v2)
      have hd_11s1 := hd_11s0.keep rCap_ok (Kp.set (p := ⟨w.heap.size, 1, none⟩) (by intro b hb; have := hb.1; show b ≠ w.heap.size; omega) (.int .i64 v2))
      have b011s1 := b011s0.setCell (p := ⟨w.heap.size, 1, none⟩) (by show _ ≤ w.heap.size; omega) (.int .i64 v2)
      have z_11s1 : w11s0.heap.size ≤ w11s1.heap.size := by rw [← hw11s1]; simp [World.setCell]
      rw [hw11s1] at hR_11s1 hF_11s1 hO_11s1 hd_11s1 b011s1
      rw [hw11s1]
      clear hw11s1
      clear c_hR0 f_hR0 c_hR1 f_hR1 c_hR2 f_hR2 c_hR3 f_hR3 c_hR4 f_hR4 c_hF0 f_hF0 c_hF1 f_hF1 c_hF2 f_hF2 c_hO0 c_hO1 c_hO2 c_hO3 c_hO4
      clear hR_11s0
      clear hF_11s0
      clear hO_11s0
      clear hd_11s0
      have c_hR0 := hR_11s1.cell 0
      have f_hR0 := hR_11s1.frozen 0
      have c_hR1 := hR_11s1.cell 1
      have f_hR1 := hR_11s1.frozen 1
      have c_hR2 := hR_11s1.cell 2
      have f_hR2 := hR_11s1.frozen 2
      have c_hR3 := hR_11s1.cell 3
      have f_hR3 := hR_11s1.frozen 3
      have c_hR4 := hR_11s1.cell 4
      have f_hR4 := hR_11s1.frozen 4
      have c_hF0 := hF_11s1.cell 0
      have f_hF0 := hF_11s1.frozen 0
      have c_hF1 := hF_11s1.cell 1
      have f_hF1 := hF_11s1.frozen 1
      have c_hF2 := hF_11s1.cell 2
      have f_hF2 := hF_11s1.frozen 2
      have c_hO0 := hO_11s1.cell 0
      have c_hO1 := hO_11s1.cell 1
      have c_hO2 := hO_11s1.cell 2
      have c_hO3 := hO_11s1.cell 3
      have c_hO4 := hO_11s1.cell 4
      obtain ⟨w11s2, hw11s2⟩ : ∃ Wz_, w11s1.setCell ⟨w.heap.size, 2, none⟩ (.int .i64 v3)= Wz_ := ⟨_, rfl⟩
      have hR_11s2 := hR_11s1.set_ 2 (.int .i64 v3)
      simp only [List.setIfInBounds_toArray, List.set_cons_succ, List.set_cons_zero] at hR_11s2
      have hF_11s2 := hF_11s1.far (p := ⟨w.heap.size, 2, none⟩) (by show _ ≠ w.heap.size; omega) (.int .i64 v3)
      have hO_11s2 := hO_11s1.far (p := ⟨w.heap.size, 2, none⟩) (by show _ ≠ w.heap.size; omega) (.int .i64 v3)
      have hd_11s2 := hd_11s1.keep rCap_ok (Kp.set (p := ⟨w.heap.size, 2, none⟩) (by intro b hb; have := hb.1; show b ≠ w.heap.size; omega) (.int .i64 v3))
      have b011s2 := b011s1.setCell (p := ⟨w.heap.size, 2, none⟩) (by show _ ≤ w.heap.size; omega) (.int .i64 v3)
      have z_11s2 : w11s1.heap.size ≤ w11s2.heap.size := by rw [← hw11s2]; simp [World.setCell]
      rw [hw11s2] at hR_11s2 hF_11s2 hO_11s2 hd_11s2 b011s2
      rw [hw11s2]
      clear hw11s2
      clear c_hR0 f_hR0 c_hR1 f_hR1 c_hR2 f_hR2 c_hR3 f_hR3 c_hR4 f_hR4 c_hF0 f_hF0 c_hF1 f_hF1 c_hF2 f_hF2 c_hO0 c_hO1 c_hO2 c_hO3 c_hO4
      clear hR_11s1
      clear hF_11s1
      clear hO_11s1
      clear hd_11s1
      have c_hR0 := hR_11s2.cell 0
      have f_hR0 := hR_11s2.frozen 0
      have c_hR1 := hR_11s2.cell 1
      have f_hR1 := hR_11s2.frozen 1
      have c_hR2 := hR_11s2.cell 2
      have f_hR2 := hR_11s2.frozen 2
      have c_hR3 := hR_11s2.cell 3
      have f_hR3 := hR_11s2.frozen 3
      have c_hR4 := hR_11s2.cell 4
      have f_hR4 := hR_11s2.frozen 4
      have c_hF0 := hF_11s2.cell 0
      have f_hF0 := hF_11s2.frozen 0
      have c_hF1 := hF_11s2.cell 1
      have f_hF1 := hF_11s2.frozen 1
      have c_hF2 := hF_11s2.cell 2
      have f_hF2 := hF_11s2.frozen 2
      have c_hO0 := hO_11s2.cell 0
      have c_hO1 := hO_11s2.cell 1
      have c_hO2 := hO_11s2.cell 2
      have c_hO3 := hO_11s2.cell 3
      have c_hO4 := hO_11s2.cell 4
      obtain ⟨w11s3, hw11s3⟩ : ∃ Wz_, w11s2.setCell ⟨w.heap.size, 3, none⟩ (.int .u32 v4)= Wz_ := ⟨_, rfl⟩
      have hR_11s3 := hR_11s2.set_ 3 (.int .u32 v4)
      simp only [List.setIfInBounds_toArray, List.set_cons_succ, List.set_cons_zero] at hR_11s3
      have hF_11s3 := hF_11s2.far (p := ⟨w.heap.size, 3, none⟩) (by show _ ≠ w.heap.size; omega) (.int .u32 v4)
      have hO_11s3 := hO_11s2.far (p := ⟨w.heap.size, 3, none⟩) (by show _ ≠ w.heap.size; omega) (.int .u32 v4)
      have hd_11s3 := hd_11s2.keep rCap_ok (Kp.set (p := ⟨w.heap.size, 3, none⟩) (by intro b hb; have := hb.1; show b ≠ w.heap.size; omega) (.int .u32 v4))
      have b011s3 := b011s2.setCell (p := ⟨w.heap.size, 3, none⟩) (by show _ ≤ w.heap.size; omega) (.int .u32 v4)
      have z_11s3 : w11s2.heap.size ≤ w11s3.heap.size := by rw [← hw11s3]; simp [World.setCell]
      rw [hw11s3] at hR_11s3 hF_11s3 hO_11s3 hd_11s3 b011s3
      rw [hw11s3]
      clear hw11s3
      clear c_hR0 f_hR0 c_hR1 f_hR1 c_hR2 f_hR2 c_hR3 f_hR3 c_hR4 f_hR4 c_hF0 f_hF0 c_hF1 f_hF1 c_hF2 f_hF2 c_hO0 c_hO1 c_hO2 c_hO3 c_hO4
      clear hR_11s2
      clear hF_11s2
      clear hO_11s2
      clear hd_11s2
      have c_hR0 := hR_11s3.cell 0
      have f_hR0 := hR_11s3.frozen 0
      have c_hR1 := hR_11s3.cell 1
      have f_hR1 := hR_11s3.frozen 1
      have c_hR2 := hR_11s3.cell 2
      have f_hR2 := hR_11s3.frozen 2
      have c_hR3 := hR_11s3.cell 3
      have f_hR3 := hR_11s3.frozen 3
      have c_hR4 := hR_11s3.cell 4
      have f_hR4 := hR_11s3.frozen 4
      have c_hF0 := hF_11s3.cell 0
      have f_hF0 := hF_11s3.frozen 0
      have c_hF1 := hF_11s3.cell 1
      have f_hF1 := hF_11s3.frozen 1
      have c_hF2 := hF_11s3.cell 2
      have f_hF2 := hF_11s3.frozen 2
      have c_hO0 := hO_11s3.cell 0
      have c_hO1 := hO_11s3.cell 1
      have c_hO2 := hO_11s3.cell 2
      have c_hO3 := hO_11s3.cell 3
      have c_hO4 := hO_11s3.cell 4
      obtain ⟨w11s4, hw11s4⟩ : ∃ Wz_, w11s3.setCell ⟨w.heap.size, 4, none⟩ (.slice A1 n1 c1)= Wz_ := ⟨_, rfl⟩
      have hR_11s4 := hR_11s3.set_ 4 (.slice A1 n1 c1)
      simp only [List.setIfInBounds_toArray, List.set_cons_succ, List.set_cons_zero] at hR_11s4
      have hF_11s4 := hF_11s3.far (p := ⟨w.heap.size, 4, none⟩) (by show _ ≠ w.heap.size; omega) (.slice A1 n1 c1)
      have hO_11s4 := hO_11s3.far (p := ⟨w.heap.size, 4, none⟩) (by show _ ≠ w.heap.size; omega) (.slice A1 n1 c1)
      have hd_11s4 := hd_11s3.keep rCap_ok (Kp.set (p := ⟨w.heap.size, 4, none⟩) (by intro b hb; have := hb.1; show b ≠ w.heap.size; omega) (.slice A1 n1 c1))
      have b011s4 := b011s3.setCell (p := ⟨w.heap.size, 4, none⟩) (by show _ ≤ w.heap.size; omega) (.slice A1 n1 c1)
      have z_11s4 : w11s3.heap.size ≤ w11s4.heap.size := by rw [← hw11s4]; simp [World.setCell]
      rw [hw11s4] at hR_11s4 hF_11s4 hO_11s4 hd_11s4 b011s4
      rw [hw11s4]
      clear hw11s4
      clear c_hR0 f_hR0 c_hR1 f_hR1 c_hR2 f_hR2 c_hR3 f_hR3 c_hR4 f_hR4 c_hF0 f_hF0 c_hF1 f_hF1 c_hF2 f_hF2 c_hO0 c_hO1 c_hO2 c_hO3 c_hO4
      clear hR_11s3
      clear hF_11s3
      clear hO_11s3
      clear hd_11s3
      have c_hR0 := hR_11s4.cell 0
      have f_hR0 := hR_11s4.frozen 0
      have c_hR1 := hR_11s4.cell 1
      have f_hR1 := hR_11s4.frozen 1
      have c_hR2 := hR_11s4.cell 2
      have f_hR2 := hR_11s4.frozen 2
      have c_hR3 := hR_11s4.cell 3
      have f_hR3 := hR_11s4.frozen 3
      have c_hR4 := hR_11s4.cell 4
      have f_hR4 := hR_11s4.frozen 4
      have c_hF0 := hF_11s4.cell 0
      have f_hF0 := hF_11s4.frozen 0
      have c_hF1 := hF_11s4.cell 1
      have f_hF1 := hF_11s4.frozen 1
      have c_hF2 := hF_11s4.cell 2
      have f_hF2 := hF_11s4.frozen 2
      have c_hO0 := hO_11s4.cell 0
      have c_hO1 := hO_11s4.cell 1
      have c_hO2 := hO_11s4.cell 2
      have c_hO3 := hO_11s4.cell 3
      have c_hO4 := hO_11s4.cell 4
      obtain ⟨w11s5, hw11s5⟩ : ∃ Wz_, w11s4.setCell ⟨w.heap.size + 1, 0, none⟩ (.int .i64 0)= Wz_ := ⟨_, rfl⟩
      have hR_11s5 := hR_11s4.far (p := ⟨w.heap.size + 1, 0, none⟩) (by show _ ≠ w.heap.size + 1; omega) (.int .i64 0)
      have hF_11s5 := hF_11s4.set_ 0 (.int .i64 0)
      simp only [List.setIfInBounds_toArray, List.set_cons_succ, List.set_cons_zero] at hF_11s5
      have hO_11s5 := hO_11s4.far (p := ⟨w.heap.size + 1, 0, none⟩) (by show _ ≠ w.heap.size + 1; omega) (.int .i64 0)
      have hd_11s5 := hd_11s4.keep rCap_ok (Kp.set (p := ⟨w.heap.size + 1, 0, none⟩) (by intro b hb; have := hb.1; show b ≠ w.heap.size + 1; omega) (.int .i64 0))
      have b011s5 := b011s4.setCell (p := ⟨w.heap.size + 1, 0, none⟩) (by show _ ≤ w.heap.size + 1; omega) (.int .i64 0)
      have z_11s5 : w11s4.heap.size ≤ w11s5.heap.size := by rw [← hw11s5]; simp [World.setCell]
      rw [hw11s5] at hR_11s5 hF_11s5 hO_11s5 hd_11s5 b011s5
      rw [hw11s5]
      clear hw11s5
      clear c_hR0 f_hR0 c_hR1 f_hR1 c_hR2 f_hR2 c_hR3 f_hR3 c_hR4 f_hR4 c_hF0 f_hF0 c_hF1 f_hF1 c_hF2 f_hF2 c_hO0 c_hO1 c_hO2 c_hO3 c_hO4
      clear hR_11s4
      clear hF_11s4
      clear hO_11s4
      clear hd_11s4
      have c_hR0 := hR_11s5.cell 0
      have f_hR0 := hR_11s5.frozen 0
      have c_hR1 := hR_11s5.cell 1
      have f_hR1 := hR_11s5.frozen 1
      have c_hR2 := hR_11s5.cell 2
      have f_hR2 := hR_11s5.frozen 2
      have c_hR3 := hR_11s5.cell 3
      have f_hR3 := hR_11s5.frozen 3
      have c_hR4 := hR_11s5.cell 4
      have f_hR4 := hR_11s5.frozen 4
      have c_hF0 := hF_11s5.cell 0
      have f_hF0 := hF_11s5.frozen 0
      have c_hF1 := hF_11s5.cell 1
      have f_hF1 := hF_11s5.frozen 1
      have c_hF2 := hF_11s5.cell 2
      have f_hF2 := hF_11s5.frozen 2
      have c_hO0 := hO_11s5.cell 0
      have c_hO1 := hO_11s5.cell 1
      have c_hO2 := hO_11s5.cell 2
      have c_hO3 := hO_11s5.cell 3
      have c_hO4 := hO_11s5.cell 4
      obtain ⟨w11s6, hw11s6⟩ : ∃ Wz_, w11s5.setCell ⟨w.heap.size + 1, 1, none⟩ (.int .i64 0)= Wz_ := ⟨_, rfl⟩
      have hR_11s6 := hR_11s5.far (p := ⟨w.heap.size + 1, 1, none⟩) (by show _ ≠ w.heap.size + 1; omega) (.int .i64 0)
      have hF_11s6 := hF_11s5.set_ 1 (.int .i64 0)
      simp only [List.setIfInBounds_toArray, List.set_cons_succ, List.set_cons_zero] at hF_11s6
      have hO_11s6 := hO_11s5.far (p := ⟨w.heap.size + 1, 1, none⟩) (by show _ ≠ w.heap.size + 1; omega) (.int .i64 0)
      have hd_11s6 := hd_11s5.keep rCap_ok (Kp.set (p := ⟨w.heap.size + 1, 1, none⟩) (by intro b hb; have := hb.1; show b ≠ w.heap.size + 1; omega) (.int .i64 0))
      have b011s6 := b011s5.setCell (p := ⟨w.heap.size + 1, 1, none⟩) (by show _ ≤ w.heap.size + 1; omega) (.int .i64 0)
      have z_11s6 : w11s5.heap.size ≤ w11s6.heap.size := by rw [← hw11s6]; simp [World.setCell]
      rw [hw11s6] at hR_11s6 hF_11s6 hO_11s6 hd_11s6 b011s6
      rw [hw11s6]
      clear hw11s6
      clear c_hR0 f_hR0 c_hR1 f_hR1 c_hR2 f_hR2 c_hR3 f_hR3 c_hR4 f_hR4 c_hF0 f_hF0 c_hF1 f_hF1 c_hF2 f_hF2 c_hO0 c_hO1 c_hO2 c_hO3 c_hO4
      clear hR_11s5
      clear hF_11s5
      clear hO_11s5
      clear hd_11s5
      have c_hR0 := hR_11s6.cell 0
      have f_hR0 := hR_11s6.frozen 0
      have c_hR1 := hR_11s6.cell 1
      have f_hR1 := hR_11s6.frozen 1
      have c_hR2 := hR_11s6.cell 2
      have f_hR2 := hR_11s6.frozen 2
      have c_hR3 := hR_11s6.cell 3
      have f_hR3 := hR_11s6.frozen 3
      have c_hR4 := hR_11s6.cell 4
      have f_hR4 := hR_11s6.frozen 4
      have c_hF0 := hF_11s6.cell 0
      have f_hF0 := hF_11s6.frozen 0
      have c_hF1 := hF_11s6.cell 1
      have f_hF1 := hF_11s6.frozen 1
      have c_hF2 := hF_11s6.cell 2
      have f_hF2 := hF_11s6.frozen 2
      have c_hO0 := hO_11s6.cell 0
      have c_hO1 := hO_11s6.cell 1
      have c_hO2 := hO_11s6.cell 2
      have c_hO3 := hO_11s6.cell 3
      have c_hO4 := hO_11s6.cell 4
      obtain ⟨w11s7, hw11s7⟩ : ∃ Wz_, w11s6.setCell ⟨w.heap.size + 1, 2, none⟩ (.slice none 0 0)= Wz_ := ⟨_, rfl⟩
      have hR_11s7 := hR_11s6.far (p := ⟨w.heap.size + 1, 2, none⟩) (by show _ ≠ w.heap.size + 1; omega) (.slice none 0 0)
      have hF_11s7 := hF_11s6.set_ 2 (.slice none 0 0)
      simp only [List.setIfInBounds_toArray, List.set_cons_succ, List.set_cons_zero] at hF_11s7
      have hO_11s7 := hO_11s6.far (p := ⟨w.heap.size + 1, 2, none⟩) (by show _ ≠ w.heap.size + 1; omega) (.slice none 0 0)
      have hd_11s7 := hd_11s6.keep rCap_ok (Kp.set (p := ⟨w.heap.size + 1, 2, none⟩) (by intro b hb; have := hb.1; show b ≠ w.heap.size + 1; omega) (.slice none 0 0))
      have b011s7 := b011s6.setCell (p := ⟨w.heap.size + 1, 2, none⟩) (by show _ ≤ w.heap.size + 1; omega) (.slice none 0 0)
      have z_11s7 : w11s6.heap.size ≤ w11s7.heap.size := by rw [← hw11s7]; simp [World.setCell]
      rw [hw11s7] at hR_11s7 hF_11s7 hO_11s7 hd_11s7 b011s7
      rw [hw11s7]
      clear hw11s7
      clear c_hR0 f_hR0 c_hR1 f_hR1 c_hR2 f_hR2 c_hR3 f_hR3 c_hR4 f_hR4 c_hF0 f_hF0 c_hF1 f_hF1 c_hF2 f_hF2 c_hO0 c_hO1 c_hO2 c_hO3 c_hO4
      clear hR_11s6
      clear hF_11s6
      clear hO_11s6
      clear hd_11s6
      have c_hR0 := hR_11s7.cell 0
      have f_hR0 := hR_11s7.frozen 0
      have c_hR1 := hR_11s7.cell 1
      have f_hR1 := hR_11s7.frozen 1
      have c_hR2 := hR_11s7.cell 2
      have f_hR2 := hR_11s7.frozen 2
      have c_hR3 := hR_11s7.cell 3
      have f_hR3 := hR_11s7.frozen 3
      have c_hR4 := hR_11s7.cell 4
      have f_hR4 := hR_11s7.frozen 4
      have c_hF0 := hF_11s7.cell 0
      have f_hF0 := hF_11s7.frozen 0
      have c_hF1 := hF_11s7.cell 1
      have f_hF1 := hF_11s7.frozen 1
      have c_hF2 := hF_11s7.cell 2
      have f_hF2 := hF_11s7.frozen 2
      have c_hO0 := hO_11s7.cell 0
      have c_hO1 := hO_11s7.cell 1
      have c_hO2 := hO_11s7.cell 2
      have c_hO3 := hO_11s7.cell 3
      have c_hO4 := hO_11s7.cell 4
      have hd' : DL rCap 2 w11s7 (Fr w.heap.size w11s7) A1 n1 acc := hd_11s7.keep rCap_ok (Kp.sub fun b hb => ⟨by have := hb.1; omega, Nat.lt_of_lt_of_le hb.2.1 (by omega)⟩)
      have HV := HG5.out
      exact bodyPost_ret (opn_flt_ret rfl _ _ w.heap.size (w.heap.size + 1) _ _ _ _ _ _ _ _ rfl rfl hR_11s7 hF_11s7) rfl ⟨b011s7, by
        rw [HG.out, show v1 = lb l 0 from HV.2.1, show v2 = _ from HV.2.2.1, show v3 = _ from HV.2.2.2.1, show v4 = _ from HV.2.2.2.2.1]
        exact ⟨A1, n1, c1, rfl, hd', hcap⟩⟩
    | cons k t =>
      have hgg' : t.length + 1 ≤ gk := hgg
      have hrl' : t.length + 1 ≤ l.length := hrl
      have T1 := tk_ok (l := k :: t) (k := 1) (by simp)
      have N1 : numL ((k :: t).take 1) = k.toNat := by simp [numL]
      have hk255 := UInt8.toNat_lt k
      obtain ⟨R, hRR⟩ : ∃ R, k :: t = R := ⟨_, rfl⟩
      have hRl2 : R.length = t.length + 1 := by rw [← hRR]; rfl
      have hal' : acc.length + (t.length + 1) ≤ l.length := by simp at hal; omega
      rw [hRR] at T1 N1 r10 hp
      have HT1 := Lib.hid (show tkOut R false (1 : Nat) = R.take 1 ∧ tkLeft R false (1 : Nat) = t ∧ tkShort R false (1 : Nat) = false from ⟨T1.1, by rw [T1.2.1, ← hRR]; rfl, T1.2.2⟩)
      have HN1 := Lib.hid N1
      obtain ⟨n2, e1⟩ : ∃ n2, numL (tkOut t false (1 : Nat)) = n2 := ⟨_, rfl⟩
      obtain ⟨t2, e2⟩ : ∃ t2, tkLeft t false (1 : Nat) = t2 := ⟨_, rfl⟩
      obtain ⟨u2, e3⟩ : ∃ s2, tkShort t false (1 : Nat) = s2 := ⟨_, rfl⟩
      obtain ⟨data, e4⟩ : ∃ data, tkOut t2 u2 n2 = data := ⟨_, rfl⟩
      obtain ⟨t3, e5⟩ : ∃ t3, tkLeft t2 u2 n2 = t3 := ⟨_, rfl⟩
      obtain ⟨u3, e6⟩ : ∃ s3, tkShort t2 u2 n2 = s3 := ⟨_, rfl⟩
      obtain ⟨M2, M3, MD, hstep⟩ := par_step k t e1 e2 e3 e4 e5 e6
      rw [hRR] at hstep
      have HS := Lib.hid hstep
      have HA := Lib.hid (show numL (tkOut t false (1 : Nat)) = n2 ∧ tkLeft t false (1 : Nat) = t2 ∧ tkShort t false (1 : Nat) = u2 from ⟨e1, e2, e3⟩)
      have HB := Lib.hid (show tkOut t2 u2 n2 = data ∧ tkLeft t2 u2 n2 = t3 ∧ tkShort t2 u2 n2 = u3 from ⟨e4, e5, e6⟩)
      have HRl := Lib.hid hRl2
      have hpos : 0 < R.length := by omega
      clear T1 N1 hRR e1 e2 e3 e4 e5 e6 hstep hgg hal hRl2 hrl
      have hz := r10.lt
      have S10 := Sm.refl wr.heap.size [g, w5.heap.size] wr
      go_wp2_with fail
      refine (rbLeft g R false _ r10).mono ?_
      rintro _ _ ⟨rfl, rfl⟩
      go_wp2_with fail
      refine (rbByte g R false _ r10 (by have := HRl.out; omega)).mono ?_
      rw [HT1.out.1, HT1.out.2.1, HT1.out.2.2, HN1.out]
      rintro _ w11 ⟨rfl, r11, g11⟩
      have z11 := g11.size
      have b011 := at_below b10 g11 b10.size (by omega)
      have hR_11 := hR10.grown g11 (by intro e; injection e with e; omega)
      have hF_11 := hF10.grown g11 (by intro e; injection e with e; omega)
      have hO_11 := hO10.grown g11 (by intro e; injection e with e; omega)
      have S10_11 := S10.grown g11 (fun g' e => .inr (by injection e with e; simp [e])) (by omega)
      go_wp2_with fail
      refine (rbByte g t false _ r11 (by omega)).mono ?_
      rw [HA.out.1, HA.out.2.1, HA.out.2.2]
      rintro _ w12 ⟨rfl, r12, g12⟩
      have z12 := g12.size
      have b012 := at_below b011 g12 b011.size (by omega)
      have hR_12 := hR_11.grown g12 (by intro e; injection e with e; omega)
      clear hR_11
      have hF_12 := hF_11.grown g12 (by intro e; injection e with e; omega)
      clear hF_11
      have hO_12 := hO_11.grown g12 (by intro e; injection e with e; omega)
      clear hO_11
      have S10_12 := S10_11.grown g12 (fun g' e => .inr (by injection e with e; simp [e])) (by omega)
      clear S10_11
      go_wp2_with fail
      refine (rbTake g t2 u2 (n2 : Nat) _ r12 (by omega)).mono ?_
      rintro _ w13 ⟨A5, n5, c5, rfl, o5, r13, g13⟩
      rw [HB.out.1] at o5
      rw [HB.out.2.1, HB.out.2.2] at r13
      have z13 := g13.size
      have b013 := at_below b012 g13 b012.size (by omega)
      have hR_13 := hR_12.grown g13 (by intro e; injection e with e; omega)
      have hF_13 := hF_12.grown g13 (by intro e; injection e with e; omega)
      have hO_13 := hO_12.grown g13 (by intro e; injection e with e; omega)
      have S10_13 := S10_12.grown g13 (fun g' e => .inr (by injection e with e; simp [e])) (by omega)
      go_wp2_with fail
      refine (rbErr g t3 u3 _ r13).mono ?_
      rintro _ _ ⟨rfl, rfl⟩
      cases u3
      case true =>
        have HP := Lib.hid (show parseP (l.drop 10) = .inl 0 by
          rcases HS.out with ⟨_, h2⟩ | ⟨h1, _⟩
          · rw [hp.out, h2]; rfl
          · cases h1)
        have HG := Lib.hid (show readO l = .inl 0 from readO_par HH.out HP.out)
        go_wp2_with fail
        refine (openFault 0 none 0 0 _).mono ?_
        rintro _ w20 ⟨rfl, b20⟩
        have b020 := btr b013 b20 b013.size
        have hR_20 := hR_13.below b20 hR_13.lt
        have hF_20 := hF_13.below b20 hF_13.lt
        have hO_20 := hO_13.below b20 hO_13.lt
        have c_hR0 := hR_20.cell 0
        have f_hR0 := hR_20.frozen 0
        have c_hR1 := hR_20.cell 1
        have f_hR1 := hR_20.frozen 1
        have c_hR2 := hR_20.cell 2
        have f_hR2 := hR_20.frozen 2
        have c_hR3 := hR_20.cell 3
        have f_hR3 := hR_20.frozen 3
        have c_hR4 := hR_20.cell 4
        have f_hR4 := hR_20.frozen 4
        have c_hF0 := hF_20.cell 0
        have f_hF0 := hF_20.frozen 0
        have c_hF1 := hF_20.cell 1
        have f_hF1 := hF_20.frozen 1
        have c_hF2 := hF_20.cell 2
        have f_hF2 := hF_20.frozen 2
        go_wp2_with fail
        obtain ⟨w20s0, hw20s0⟩ : ∃ Wz_, w20.setCell ⟨w.heap.size, 0, none⟩ (.int .i64 0)= Wz_ := ⟨_, rfl⟩
        have hR_20s0 := hR_20.set_ 0 (.int .i64 0)
        simp only [List.setIfInBounds_toArray, List.set_cons_succ, List.set_cons_zero] at hR_20s0
        have hF_20s0 := hF_20.far (p := ⟨w.heap.size, 0, none⟩) (by show _ ≠ w.heap.size; omega) (.int .i64 0)
        have hO_20s0 := hO_20.far (p := ⟨w.heap.size, 0, none⟩) (by show _ ≠ w.heap.size; omega) (.int .i64 0)
        have b020s0 := b020.setCell (p := ⟨w.heap.size, 0, none⟩) (by show _ ≤ w.heap.size; omega) (.int .i64 0)
        have z_20s0 : w20.heap.size ≤ w20s0.heap.size := by rw [← hw20s0]; simp [World.setCell]
        rw [hw20s0] at hR_20s0 hF_20s0 hO_20s0 b020s0
        rw [hw20s0]
        clear hw20s0
        clear c_hR0 f_hR0 c_hR1 f_hR1 c_hR2 f_hR2 c_hR3 f_hR3 c_hR4 f_hR4 c_hF0 f_hF0 c_hF1 f_hF1 c_hF2 f_hF2
        clear hR_20
        clear hF_20
        clear hO_20
        have c_hR0 := hR_20s0.cell 0
        have f_hR0 := hR_20s0.frozen 0
        have c_hR1 := hR_20s0.cell 1
        have f_hR1 := hR_20s0.frozen 1
        have c_hR2 := hR_20s0.cell 2
        have f_hR2 := hR_20s0.frozen 2
        have c_hR3 := hR_20s0.cell 3
        have f_hR3 := hR_20s0.frozen 3
        have c_hR4 := hR_20s0.cell 4
        have f_hR4 := hR_20s0.frozen 4
        have c_hF0 := hF_20s0.cell 0
        have f_hF0 := hF_20s0.frozen 0
        have c_hF1 := hF_20s0.cell 1
        have f_hF1 := hF_20s0.frozen 1
        have c_hF2 := hF_20s0.cell 2
        have f_hF2 := hF_20s0.frozen 2
        obtain ⟨w20s1, hw20s1⟩ : ∃ Wz_, w20s0.setCell ⟨w.heap.size, 1, none⟩ (.int .i64 0)= Wz_ := ⟨_, rfl⟩
        have hR_20s1 := hR_20s0.set_ 1 (.int .i64 0)
        simp only [List.setIfInBounds_toArray, List.set_cons_succ, List.set_cons_zero] at hR_20s1
        have hF_20s1 := hF_20s0.far (p := ⟨w.heap.size, 1, none⟩) (by show _ ≠ w.heap.size; omega) (.int .i64 0)
        have hO_20s1 := hO_20s0.far (p := ⟨w.heap.size, 1, none⟩) (by show _ ≠ w.heap.size; omega) (.int .i64 0)
        have b020s1 := b020s0.setCell (p := ⟨w.heap.size, 1, none⟩) (by show _ ≤ w.heap.size; omega) (.int .i64 0)
        have z_20s1 : w20s0.heap.size ≤ w20s1.heap.size := by rw [← hw20s1]; simp [World.setCell]
        rw [hw20s1] at hR_20s1 hF_20s1 hO_20s1 b020s1
        rw [hw20s1]
        clear hw20s1
        clear c_hR0 f_hR0 c_hR1 f_hR1 c_hR2 f_hR2 c_hR3 f_hR3 c_hR4 f_hR4 c_hF0 f_hF0 c_hF1 f_hF1 c_hF2 f_hF2
        clear hR_20s0
        clear hF_20s0
        clear hO_20s0
        have c_hR0 := hR_20s1.cell 0
        have f_hR0 := hR_20s1.frozen 0
        have c_hR1 := hR_20s1.cell 1
        have f_hR1 := hR_20s1.frozen 1
        have c_hR2 := hR_20s1.cell 2
        have f_hR2 := hR_20s1.frozen 2
        have c_hR3 := hR_20s1.cell 3
        have f_hR3 := hR_20s1.frozen 3
        have c_hR4 := hR_20s1.cell 4
        have f_hR4 := hR_20s1.frozen 4
        have c_hF0 := hF_20s1.cell 0
        have f_hF0 := hF_20s1.frozen 0
        have c_hF1 := hF_20s1.cell 1
        have f_hF1 := hF_20s1.frozen 1
        have c_hF2 := hF_20s1.cell 2
        have f_hF2 := hF_20s1.frozen 2
        obtain ⟨w20s2, hw20s2⟩ : ∃ Wz_, w20s1.setCell ⟨w.heap.size, 2, none⟩ (.int .i64 0)= Wz_ := ⟨_, rfl⟩
        have hR_20s2 := hR_20s1.set_ 2 (.int .i64 0)
        simp only [List.setIfInBounds_toArray, List.set_cons_succ, List.set_cons_zero] at hR_20s2
        have hF_20s2 := hF_20s1.far (p := ⟨w.heap.size, 2, none⟩) (by show _ ≠ w.heap.size; omega) (.int .i64 0)
        have hO_20s2 := hO_20s1.far (p := ⟨w.heap.size, 2, none⟩) (by show _ ≠ w.heap.size; omega) (.int .i64 0)
        have b020s2 := b020s1.setCell (p := ⟨w.heap.size, 2, none⟩) (by show _ ≤ w.heap.size; omega) (.int .i64 0)
        have z_20s2 : w20s1.heap.size ≤ w20s2.heap.size := by rw [← hw20s2]; simp [World.setCell]
        rw [hw20s2] at hR_20s2 hF_20s2 hO_20s2 b020s2
        rw [hw20s2]
        clear hw20s2
        clear c_hR0 f_hR0 c_hR1 f_hR1 c_hR2 f_hR2 c_hR3 f_hR3 c_hR4 f_hR4 c_hF0 f_hF0 c_hF1 f_hF1 c_hF2 f_hF2
        clear hR_20s1
        clear hF_20s1
        clear hO_20s1
        have c_hR0 := hR_20s2.cell 0
        have f_hR0 := hR_20s2.frozen 0
        have c_hR1 := hR_20s2.cell 1
        have f_hR1 := hR_20s2.frozen 1
        have c_hR2 := hR_20s2.cell 2
        have f_hR2 := hR_20s2.frozen 2
        have c_hR3 := hR_20s2.cell 3
        have f_hR3 := hR_20s2.frozen 3
        have c_hR4 := hR_20s2.cell 4
        have f_hR4 := hR_20s2.frozen 4
        have c_hF0 := hF_20s2.cell 0
        have f_hF0 := hF_20s2.frozen 0
        have c_hF1 := hF_20s2.cell 1
        have f_hF1 := hF_20s2.frozen 1
        have c_hF2 := hF_20s2.cell 2
        have f_hF2 := hF_20s2.frozen 2
        obtain ⟨w20s3, hw20s3⟩ : ∃ Wz_, w20s2.setCell ⟨w.heap.size, 3, none⟩ (.int .u32 0)= Wz_ := ⟨_, rfl⟩
        have hR_20s3 := hR_20s2.set_ 3 (.int .u32 0)
        simp only [List.setIfInBounds_toArray, List.set_cons_succ, List.set_cons_zero] at hR_20s3
        have hF_20s3 := hF_20s2.far (p := ⟨w.heap.size, 3, none⟩) (by show _ ≠ w.heap.size; omega) (.int .u32 0)
        have hO_20s3 := hO_20s2.far (p := ⟨w.heap.size, 3, none⟩) (by show _ ≠ w.heap.size; omega) (.int .u32 0)
        have b020s3 := b020s2.setCell (p := ⟨w.heap.size, 3, none⟩) (by show _ ≤ w.heap.size; omega) (.int .u32 0)
        have z_20s3 : w20s2.heap.size ≤ w20s3.heap.size := by rw [← hw20s3]; simp [World.setCell]
        rw [hw20s3] at hR_20s3 hF_20s3 hO_20s3 b020s3
        rw [hw20s3]
        clear hw20s3
        clear c_hR0 f_hR0 c_hR1 f_hR1 c_hR2 f_hR2 c_hR3 f_hR3 c_hR4 f_hR4 c_hF0 f_hF0 c_hF1 f_hF1 c_hF2 f_hF2
        clear hR_20s2
        clear hF_20s2
        clear hO_20s2
        have c_hR0 := hR_20s3.cell 0
        have f_hR0 := hR_20s3.frozen 0
        have c_hR1 := hR_20s3.cell 1
        have f_hR1 := hR_20s3.frozen 1
        have c_hR2 := hR_20s3.cell 2
        have f_hR2 := hR_20s3.frozen 2
        have c_hR3 := hR_20s3.cell 3
        have f_hR3 := hR_20s3.frozen 3
        have c_hR4 := hR_20s3.cell 4
        have f_hR4 := hR_20s3.frozen 4
        have c_hF0 := hF_20s3.cell 0
        have f_hF0 := hF_20s3.frozen 0
        have c_hF1 := hF_20s3.cell 1
        have f_hF1 := hF_20s3.frozen 1
        have c_hF2 := hF_20s3.cell 2
        have f_hF2 := hF_20s3.frozen 2
        obtain ⟨w20s4, hw20s4⟩ : ∃ Wz_, w20s3.setCell ⟨w.heap.size, 4, none⟩ (.slice none 0 0)= Wz_ := ⟨_, rfl⟩
        have hR_20s4 := hR_20s3.set_ 4 (.slice none 0 0)
        simp only [List.setIfInBounds_toArray, List.set_cons_succ, List.set_cons_zero] at hR_20s4
        have hF_20s4 := hF_20s3.far (p := ⟨w.heap.size, 4, none⟩) (by show _ ≠ w.heap.size; omega) (.slice none 0 0)
        have hO_20s4 := hO_20s3.far (p := ⟨w.heap.size, 4, none⟩) (by show _ ≠ w.heap.size; omega) (.slice none 0 0)
        have b020s4 := b020s3.setCell (p := ⟨w.heap.size, 4, none⟩) (by show _ ≤ w.heap.size; omega) (.slice none 0 0)
        have z_20s4 : w20s3.heap.size ≤ w20s4.heap.size := by rw [← hw20s4]; simp [World.setCell]
        rw [hw20s4] at hR_20s4 hF_20s4 hO_20s4 b020s4
        rw [hw20s4]
        clear hw20s4
        clear c_hR0 f_hR0 c_hR1 f_hR1 c_hR2 f_hR2 c_hR3 f_hR3 c_hR4 f_hR4 c_hF0 f_hF0 c_hF1 f_hF1 c_hF2 f_hF2
        clear hR_20s3
        clear hF_20s3
        clear hO_20s3
        have c_hR0 := hR_20s4.cell 0
        have f_hR0 := hR_20s4.frozen 0
        have c_hR1 := hR_20s4.cell 1
        have f_hR1 := hR_20s4.frozen 1
        have c_hR2 := hR_20s4.cell 2
        have f_hR2 := hR_20s4.frozen 2
        have c_hR3 := hR_20s4.cell 3
        have f_hR3 := hR_20s4.frozen 3
        have c_hR4 := hR_20s4.cell 4
        have f_hR4 := hR_20s4.frozen 4
        have c_hF0 := hF_20s4.cell 0
        have f_hF0 := hF_20s4.frozen 0
        have c_hF1 := hF_20s4.cell 1
        have f_hF1 := hF_20s4.frozen 1
        have c_hF2 := hF_20s4.cell 2
        have f_hF2 := hF_20s4.frozen 2
        obtain ⟨w20s5, hw20s5⟩ : ∃ Wz_, w20s4.setCell ⟨w.heap.size + 1, 0, none⟩ (.int .i64 2)= Wz_ := ⟨_, rfl⟩
        have hR_20s5 := hR_20s4.far (p := ⟨w.heap.size + 1, 0, none⟩) (by show _ ≠ w.heap.size + 1; omega) (.int .i64 2)
        have hF_20s5 := hF_20s4.set_ 0 (.int .i64 2)
        simp only [List.setIfInBounds_toArray, List.set_cons_succ, List.set_cons_zero] at hF_20s5
        have hO_20s5 := hO_20s4.far (p := ⟨w.heap.size + 1, 0, none⟩) (by show _ ≠ w.heap.size + 1; omega) (.int .i64 2)
        have b020s5 := b020s4.setCell (p := ⟨w.heap.size + 1, 0, none⟩) (by show _ ≤ w.heap.size + 1; omega) (.int .i64 2)
        have z_20s5 : w20s4.heap.size ≤ w20s5.heap.size := by rw [← hw20s5]; simp [World.setCell]
        rw [hw20s5] at hR_20s5 hF_20s5 hO_20s5 b020s5
        rw [hw20s5]
        clear hw20s5
        clear c_hR0 f_hR0 c_hR1 f_hR1 c_hR2 f_hR2 c_hR3 f_hR3 c_hR4 f_hR4 c_hF0 f_hF0 c_hF1 f_hF1 c_hF2 f_hF2
        clear hR_20s4
        clear hF_20s4
        clear hO_20s4
        have c_hR0 := hR_20s5.cell 0
        have f_hR0 := hR_20s5.frozen 0
        have c_hR1 := hR_20s5.cell 1
        have f_hR1 := hR_20s5.frozen 1
        have c_hR2 := hR_20s5.cell 2
        have f_hR2 := hR_20s5.frozen 2
        have c_hR3 := hR_20s5.cell 3
        have f_hR3 := hR_20s5.frozen 3
        have c_hR4 := hR_20s5.cell 4
        have f_hR4 := hR_20s5.frozen 4
        have c_hF0 := hF_20s5.cell 0
        have f_hF0 := hF_20s5.frozen 0
        have c_hF1 := hF_20s5.cell 1
        have f_hF1 := hF_20s5.frozen 1
        have c_hF2 := hF_20s5.cell 2
        have f_hF2 := hF_20s5.frozen 2
        obtain ⟨w20s6, hw20s6⟩ : ∃ Wz_, w20s5.setCell ⟨w.heap.size + 1, 1, none⟩ (.int .i64 0)= Wz_ := ⟨_, rfl⟩
        have hR_20s6 := hR_20s5.far (p := ⟨w.heap.size + 1, 1, none⟩) (by show _ ≠ w.heap.size + 1; omega) (.int .i64 0)
        have hF_20s6 := hF_20s5.set_ 1 (.int .i64 0)
        simp only [List.setIfInBounds_toArray, List.set_cons_succ, List.set_cons_zero] at hF_20s6
        have hO_20s6 := hO_20s5.far (p := ⟨w.heap.size + 1, 1, none⟩) (by show _ ≠ w.heap.size + 1; omega) (.int .i64 0)
        have b020s6 := b020s5.setCell (p := ⟨w.heap.size + 1, 1, none⟩) (by show _ ≤ w.heap.size + 1; omega) (.int .i64 0)
        have z_20s6 : w20s5.heap.size ≤ w20s6.heap.size := by rw [← hw20s6]; simp [World.setCell]
        rw [hw20s6] at hR_20s6 hF_20s6 hO_20s6 b020s6
        rw [hw20s6]
        clear hw20s6
        clear c_hR0 f_hR0 c_hR1 f_hR1 c_hR2 f_hR2 c_hR3 f_hR3 c_hR4 f_hR4 c_hF0 f_hF0 c_hF1 f_hF1 c_hF2 f_hF2
        clear hR_20s5
        clear hF_20s5
        clear hO_20s5
        have c_hR0 := hR_20s6.cell 0
        have f_hR0 := hR_20s6.frozen 0
        have c_hR1 := hR_20s6.cell 1
        have f_hR1 := hR_20s6.frozen 1
        have c_hR2 := hR_20s6.cell 2
        have f_hR2 := hR_20s6.frozen 2
        have c_hR3 := hR_20s6.cell 3
        have f_hR3 := hR_20s6.frozen 3
        have c_hR4 := hR_20s6.cell 4
        have f_hR4 := hR_20s6.frozen 4
        have c_hF0 := hF_20s6.cell 0
        have f_hF0 := hF_20s6.frozen 0
        have c_hF1 := hF_20s6.cell 1
        have f_hF1 := hF_20s6.frozen 1
        have c_hF2 := hF_20s6.cell 2
        have f_hF2 := hF_20s6.frozen 2
        obtain ⟨w20s7, hw20s7⟩ : ∃ Wz_, w20s6.setCell ⟨w.heap.size + 1, 2, none⟩ (.slice none 0 0)= Wz_ := ⟨_, rfl⟩
        have hR_20s7 := hR_20s6.far (p := ⟨w.heap.size + 1, 2, none⟩) (by show _ ≠ w.heap.size + 1; omega) (.slice none 0 0)
        have hF_20s7 := hF_20s6.set_ 2 (.slice none 0 0)
        simp only [List.setIfInBounds_toArray, List.set_cons_succ, List.set_cons_zero] at hF_20s7
        have hO_20s7 := hO_20s6.far (p := ⟨w.heap.size + 1, 2, none⟩) (by show _ ≠ w.heap.size + 1; omega) (.slice none 0 0)
        have b020s7 := b020s6.setCell (p := ⟨w.heap.size + 1, 2, none⟩) (by show _ ≤ w.heap.size + 1; omega) (.slice none 0 0)
        have z_20s7 : w20s6.heap.size ≤ w20s7.heap.size := by rw [← hw20s7]; simp [World.setCell]
        rw [hw20s7] at hR_20s7 hF_20s7 hO_20s7 b020s7
        rw [hw20s7]
        clear hw20s7
        clear c_hR0 f_hR0 c_hR1 f_hR1 c_hR2 f_hR2 c_hR3 f_hR3 c_hR4 f_hR4 c_hF0 f_hF0 c_hF1 f_hF1 c_hF2 f_hF2
        clear hR_20s6
        clear hF_20s6
        clear hO_20s6
        have c_hR0 := hR_20s7.cell 0
        have f_hR0 := hR_20s7.frozen 0
        have c_hR1 := hR_20s7.cell 1
        have f_hR1 := hR_20s7.frozen 1
        have c_hR2 := hR_20s7.cell 2
        have f_hR2 := hR_20s7.frozen 2
        have c_hR3 := hR_20s7.cell 3
        have f_hR3 := hR_20s7.frozen 3
        have c_hR4 := hR_20s7.cell 4
        have f_hR4 := hR_20s7.frozen 4
        have c_hF0 := hF_20s7.cell 0
        have f_hF0 := hF_20s7.frozen 0
        have c_hF1 := hF_20s7.cell 1
        have f_hF1 := hF_20s7.frozen 1
        have c_hF2 := hF_20s7.cell 2
        have f_hF2 := hF_20s7.frozen 2
        exact bodyPost_ret (opn_flt_ret rfl _ _ w.heap.size (w.heap.size + 1) _ _ _ _ _ _ _ _ rfl rfl hR_20s7 hF_20s7) rfl ⟨b020s7, by rw [HG.out]; rfl⟩
      have HS2 := Lib.hid (show (k ≠ 2 → parseP R = .inl 4) ∧ (k = 2 → parseC data = none → parseP R = .inl 0) ∧ (k = 2 → ∀ cs, parseC data = some cs → ∀ acc, addP acc (parseP R) = addP (acc ++ cs) (parseP t3)) by
        rcases HS.out with ⟨h1, _⟩ | ⟨_, h2⟩
        · cases h1
        · exact h2)
      by_cases hk2 : k = 2
      case neg =>
        have HP := Lib.hid (show parseP (l.drop 10) = .inl 4 by rw [hp.out, HS2.out.1 hk2]; rfl)
        have ht2 : ((k.toNat : Int) != 2) = true := by
          have : ¬ k.toNat = 2 := fun e => hk2 (UInt8.toNat_inj.1 e)
          simpa using (by omega : ¬ (k.toNat : Int) = 2)
        have HG := Lib.hid (show readO l = .inl 4 from readO_par HH.out HP.out)
        go_wp2_with fail
        refine (openFault 4 none 0 0 _).mono ?_
        rintro _ w20 ⟨rfl, b20⟩
        have b020 := btr b013 b20 b013.size
        have hR_20 := hR_13.below b20 hR_13.lt
        have hF_20 := hF_13.below b20 hF_13.lt
        have hO_20 := hO_13.below b20 hO_13.lt
        have c_hR0 := hR_20.cell 0
        have f_hR0 := hR_20.frozen 0
        have c_hR1 := hR_20.cell 1
        have f_hR1 := hR_20.frozen 1
        have c_hR2 := hR_20.cell 2
        have f_hR2 := hR_20.frozen 2
        have c_hR3 := hR_20.cell 3
        have f_hR3 := hR_20.frozen 3
        have c_hR4 := hR_20.cell 4
        have f_hR4 := hR_20.frozen 4
        have c_hF0 := hF_20.cell 0
        have f_hF0 := hF_20.frozen 0
        have c_hF1 := hF_20.cell 1
        have f_hF1 := hF_20.frozen 1
        have c_hF2 := hF_20.cell 2
        have f_hF2 := hF_20.frozen 2
        go_wp2_with fail
        obtain ⟨w20s0, hw20s0⟩ : ∃ Wz_, w20.setCell ⟨w.heap.size, 0, none⟩ (.int .i64 0)= Wz_ := ⟨_, rfl⟩
        have hR_20s0 := hR_20.set_ 0 (.int .i64 0)
        simp only [List.setIfInBounds_toArray, List.set_cons_succ, List.set_cons_zero] at hR_20s0
        have hF_20s0 := hF_20.far (p := ⟨w.heap.size, 0, none⟩) (by show _ ≠ w.heap.size; omega) (.int .i64 0)
        have hO_20s0 := hO_20.far (p := ⟨w.heap.size, 0, none⟩) (by show _ ≠ w.heap.size; omega) (.int .i64 0)
        have b020s0 := b020.setCell (p := ⟨w.heap.size, 0, none⟩) (by show _ ≤ w.heap.size; omega) (.int .i64 0)
        have z_20s0 : w20.heap.size ≤ w20s0.heap.size := by rw [← hw20s0]; simp [World.setCell]
        rw [hw20s0] at hR_20s0 hF_20s0 hO_20s0 b020s0
        rw [hw20s0]
        clear hw20s0
        clear c_hR0 f_hR0 c_hR1 f_hR1 c_hR2 f_hR2 c_hR3 f_hR3 c_hR4 f_hR4 c_hF0 f_hF0 c_hF1 f_hF1 c_hF2 f_hF2
        clear hR_20
        clear hF_20
        clear hO_20
        have c_hR0 := hR_20s0.cell 0
        have f_hR0 := hR_20s0.frozen 0
        have c_hR1 := hR_20s0.cell 1
        have f_hR1 := hR_20s0.frozen 1
        have c_hR2 := hR_20s0.cell 2
        have f_hR2 := hR_20s0.frozen 2
        have c_hR3 := hR_20s0.cell 3
        have f_hR3 := hR_20s0.frozen 3
        have c_hR4 := hR_20s0.cell 4
        have f_hR4 := hR_20s0.frozen 4
        have c_hF0 := hF_20s0.cell 0
        have f_hF0 := hF_20s0.frozen 0
        have c_hF1 := hF_20s0.cell 1
        have f_hF1 := hF_20s0.frozen 1
        have c_hF2 := hF_20s0.cell 2
        have f_hF2 := hF_20s0.frozen 2
        obtain ⟨w20s1, hw20s1⟩ : ∃ Wz_, w20s0.setCell ⟨w.heap.size, 1, none⟩ (.int .i64 0)= Wz_ := ⟨_, rfl⟩
        have hR_20s1 := hR_20s0.set_ 1 (.int .i64 0)
        simp only [List.setIfInBounds_toArray, List.set_cons_succ, List.set_cons_zero] at hR_20s1
        have hF_20s1 := hF_20s0.far (p := ⟨w.heap.size, 1, none⟩) (by show _ ≠ w.heap.size; omega) (.int .i64 0)
        have hO_20s1 := hO_20s0.far (p := ⟨w.heap.size, 1, none⟩) (by show _ ≠ w.heap.size; omega) (.int .i64 0)
        have b020s1 := b020s0.setCell (p := ⟨w.heap.size, 1, none⟩) (by show _ ≤ w.heap.size; omega) (.int .i64 0)
        have z_20s1 : w20s0.heap.size ≤ w20s1.heap.size := by rw [← hw20s1]; simp [World.setCell]
        rw [hw20s1] at hR_20s1 hF_20s1 hO_20s1 b020s1
        rw [hw20s1]
        clear hw20s1
        clear c_hR0 f_hR0 c_hR1 f_hR1 c_hR2 f_hR2 c_hR3 f_hR3 c_hR4 f_hR4 c_hF0 f_hF0 c_hF1 f_hF1 c_hF2 f_hF2
        clear hR_20s0
        clear hF_20s0
        clear hO_20s0
        have c_hR0 := hR_20s1.cell 0
        have f_hR0 := hR_20s1.frozen 0
        have c_hR1 := hR_20s1.cell 1
        have f_hR1 := hR_20s1.frozen 1
        have c_hR2 := hR_20s1.cell 2
        have f_hR2 := hR_20s1.frozen 2
        have c_hR3 := hR_20s1.cell 3
        have f_hR3 := hR_20s1.frozen 3
        have c_hR4 := hR_20s1.cell 4
        have f_hR4 := hR_20s1.frozen 4
        have c_hF0 := hF_20s1.cell 0
        have f_hF0 := hF_20s1.frozen 0
        have c_hF1 := hF_20s1.cell 1
        have f_hF1 := hF_20s1.frozen 1
        have c_hF2 := hF_20s1.cell 2
        have f_hF2 := hF_20s1.frozen 2
        obtain ⟨w20s2, hw20s2⟩ : ∃ Wz_, w20s1.setCell ⟨w.heap.size, 2, none⟩ (.int .i64 0)= Wz_ := ⟨_, rfl⟩
        have hR_20s2 := hR_20s1.set_ 2 (.int .i64 0)
        simp only [List.setIfInBounds_toArray, List.set_cons_succ, List.set_cons_zero] at hR_20s2
        have hF_20s2 := hF_20s1.far (p := ⟨w.heap.size, 2, none⟩) (by show _ ≠ w.heap.size; omega) (.int .i64 0)
        have hO_20s2 := hO_20s1.far (p := ⟨w.heap.size, 2, none⟩) (by show _ ≠ w.heap.size; omega) (.int .i64 0)
        have b020s2 := b020s1.setCell (p := ⟨w.heap.size, 2, none⟩) (by show _ ≤ w.heap.size; omega) (.int .i64 0)
        have z_20s2 : w20s1.heap.size ≤ w20s2.heap.size := by rw [← hw20s2]; simp [World.setCell]
        rw [hw20s2] at hR_20s2 hF_20s2 hO_20s2 b020s2
        rw [hw20s2]
        clear hw20s2
        clear c_hR0 f_hR0 c_hR1 f_hR1 c_hR2 f_hR2 c_hR3 f_hR3 c_hR4 f_hR4 c_hF0 f_hF0 c_hF1 f_hF1 c_hF2 f_hF2
        clear hR_20s1
        clear hF_20s1
        clear hO_20s1
        have c_hR0 := hR_20s2.cell 0
        have f_hR0 := hR_20s2.frozen 0
        have c_hR1 := hR_20s2.cell 1
        have f_hR1 := hR_20s2.frozen 1
        have c_hR2 := hR_20s2.cell 2
        have f_hR2 := hR_20s2.frozen 2
        have c_hR3 := hR_20s2.cell 3
        have f_hR3 := hR_20s2.frozen 3
        have c_hR4 := hR_20s2.cell 4
        have f_hR4 := hR_20s2.frozen 4
        have c_hF0 := hF_20s2.cell 0
        have f_hF0 := hF_20s2.frozen 0
        have c_hF1 := hF_20s2.cell 1
        have f_hF1 := hF_20s2.frozen 1
        have c_hF2 := hF_20s2.cell 2
        have f_hF2 := hF_20s2.frozen 2
        obtain ⟨w20s3, hw20s3⟩ : ∃ Wz_, w20s2.setCell ⟨w.heap.size, 3, none⟩ (.int .u32 0)= Wz_ := ⟨_, rfl⟩
        have hR_20s3 := hR_20s2.set_ 3 (.int .u32 0)
        simp only [List.setIfInBounds_toArray, List.set_cons_succ, List.set_cons_zero] at hR_20s3
        have hF_20s3 := hF_20s2.far (p := ⟨w.heap.size, 3, none⟩) (by show _ ≠ w.heap.size; omega) (.int .u32 0)
        have hO_20s3 := hO_20s2.far (p := ⟨w.heap.size, 3, none⟩) (by show _ ≠ w.heap.size; omega) (.int .u32 0)
        have b020s3 := b020s2.setCell (p := ⟨w.heap.size, 3, none⟩) (by show _ ≤ w.heap.size; omega) (.int .u32 0)
        have z_20s3 : w20s2.heap.size ≤ w20s3.heap.size := by rw [← hw20s3]; simp [World.setCell]
        rw [hw20s3] at hR_20s3 hF_20s3 hO_20s3 b020s3
        rw [hw20s3]
        clear hw20s3
        clear c_hR0 f_hR0 c_hR1 f_hR1 c_hR2 f_hR2 c_hR3 f_hR3 c_hR4 f_hR4 c_hF0 f_hF0 c_hF1 f_hF1 c_hF2 f_hF2
        clear hR_20s2
        clear hF_20s2
        clear hO_20s2
        have c_hR0 := hR_20s3.cell 0
        have f_hR0 := hR_20s3.frozen 0
        have c_hR1 := hR_20s3.cell 1
        have f_hR1 := hR_20s3.frozen 1
        have c_hR2 := hR_20s3.cell 2
        have f_hR2 := hR_20s3.frozen 2
        have c_hR3 := hR_20s3.cell 3
        have f_hR3 := hR_20s3.frozen 3
        have c_hR4 := hR_20s3.cell 4
        have f_hR4 := hR_20s3.frozen 4
        have c_hF0 := hF_20s3.cell 0
        have f_hF0 := hF_20s3.frozen 0
        have c_hF1 := hF_20s3.cell 1
        have f_hF1 := hF_20s3.frozen 1
        have c_hF2 := hF_20s3.cell 2
        have f_hF2 := hF_20s3.frozen 2
        obtain ⟨w20s4, hw20s4⟩ : ∃ Wz_, w20s3.setCell ⟨w.heap.size, 4, none⟩ (.slice none 0 0)= Wz_ := ⟨_, rfl⟩
        have hR_20s4 := hR_20s3.set_ 4 (.slice none 0 0)
        simp only [List.setIfInBounds_toArray, List.set_cons_succ, List.set_cons_zero] at hR_20s4
        have hF_20s4 := hF_20s3.far (p := ⟨w.heap.size, 4, none⟩) (by show _ ≠ w.heap.size; omega) (.slice none 0 0)
        have hO_20s4 := hO_20s3.far (p := ⟨w.heap.size, 4, none⟩) (by show _ ≠ w.heap.size; omega) (.slice none 0 0)
        have b020s4 := b020s3.setCell (p := ⟨w.heap.size, 4, none⟩) (by show _ ≤ w.heap.size; omega) (.slice none 0 0)
        have z_20s4 : w20s3.heap.size ≤ w20s4.heap.size := by rw [← hw20s4]; simp [World.setCell]
        rw [hw20s4] at hR_20s4 hF_20s4 hO_20s4 b020s4
        rw [hw20s4]
        clear hw20s4
        clear c_hR0 f_hR0 c_hR1 f_hR1 c_hR2 f_hR2 c_hR3 f_hR3 c_hR4 f_hR4 c_hF0 f_hF0 c_hF1 f_hF1 c_hF2 f_hF2
        clear hR_20s3
        clear hF_20s3
        clear hO_20s3
        have c_hR0 := hR_20s4.cell 0
        have f_hR0 := hR_20s4.frozen 0
        have c_hR1 := hR_20s4.cell 1
        have f_hR1 := hR_20s4.frozen 1
        have c_hR2 := hR_20s4.cell 2
        have f_hR2 := hR_20s4.frozen 2
        have c_hR3 := hR_20s4.cell 3
        have f_hR3 := hR_20s4.frozen 3
        have c_hR4 := hR_20s4.cell 4
        have f_hR4 := hR_20s4.frozen 4
        have c_hF0 := hF_20s4.cell 0
        have f_hF0 := hF_20s4.frozen 0
        have c_hF1 := hF_20s4.cell 1
        have f_hF1 := hF_20s4.frozen 1
        have c_hF2 := hF_20s4.cell 2
        have f_hF2 := hF_20s4.frozen 2
        obtain ⟨w20s5, hw20s5⟩ : ∃ Wz_, w20s4.setCell ⟨w.heap.size + 1, 0, none⟩ (.int .i64 2)= Wz_ := ⟨_, rfl⟩
        have hR_20s5 := hR_20s4.far (p := ⟨w.heap.size + 1, 0, none⟩) (by show _ ≠ w.heap.size + 1; omega) (.int .i64 2)
        have hF_20s5 := hF_20s4.set_ 0 (.int .i64 2)
        simp only [List.setIfInBounds_toArray, List.set_cons_succ, List.set_cons_zero] at hF_20s5
        have hO_20s5 := hO_20s4.far (p := ⟨w.heap.size + 1, 0, none⟩) (by show _ ≠ w.heap.size + 1; omega) (.int .i64 2)
        have b020s5 := b020s4.setCell (p := ⟨w.heap.size + 1, 0, none⟩) (by show _ ≤ w.heap.size + 1; omega) (.int .i64 2)
        have z_20s5 : w20s4.heap.size ≤ w20s5.heap.size := by rw [← hw20s5]; simp [World.setCell]
        rw [hw20s5] at hR_20s5 hF_20s5 hO_20s5 b020s5
        rw [hw20s5]
        clear hw20s5
        clear c_hR0 f_hR0 c_hR1 f_hR1 c_hR2 f_hR2 c_hR3 f_hR3 c_hR4 f_hR4 c_hF0 f_hF0 c_hF1 f_hF1 c_hF2 f_hF2
        clear hR_20s4
        clear hF_20s4
        clear hO_20s4
        have c_hR0 := hR_20s5.cell 0
        have f_hR0 := hR_20s5.frozen 0
        have c_hR1 := hR_20s5.cell 1
        have f_hR1 := hR_20s5.frozen 1
        have c_hR2 := hR_20s5.cell 2
        have f_hR2 := hR_20s5.frozen 2
        have c_hR3 := hR_20s5.cell 3
        have f_hR3 := hR_20s5.frozen 3
        have c_hR4 := hR_20s5.cell 4
        have f_hR4 := hR_20s5.frozen 4
        have c_hF0 := hF_20s5.cell 0
        have f_hF0 := hF_20s5.frozen 0
        have c_hF1 := hF_20s5.cell 1
        have f_hF1 := hF_20s5.frozen 1
        have c_hF2 := hF_20s5.cell 2
        have f_hF2 := hF_20s5.frozen 2
        obtain ⟨w20s6, hw20s6⟩ : ∃ Wz_, w20s5.setCell ⟨w.heap.size + 1, 1, none⟩ (.int .i64 4)= Wz_ := ⟨_, rfl⟩
        have hR_20s6 := hR_20s5.far (p := ⟨w.heap.size + 1, 1, none⟩) (by show _ ≠ w.heap.size + 1; omega) (.int .i64 4)
        have hF_20s6 := hF_20s5.set_ 1 (.int .i64 4)
        simp only [List.setIfInBounds_toArray, List.set_cons_succ, List.set_cons_zero] at hF_20s6
        have hO_20s6 := hO_20s5.far (p := ⟨w.heap.size + 1, 1, none⟩) (by show _ ≠ w.heap.size + 1; omega) (.int .i64 4)
        have b020s6 := b020s5.setCell (p := ⟨w.heap.size + 1, 1, none⟩) (by show _ ≤ w.heap.size + 1; omega) (.int .i64 4)
        have z_20s6 : w20s5.heap.size ≤ w20s6.heap.size := by rw [← hw20s6]; simp [World.setCell]
        rw [hw20s6] at hR_20s6 hF_20s6 hO_20s6 b020s6
        rw [hw20s6]
        clear hw20s6
        clear c_hR0 f_hR0 c_hR1 f_hR1 c_hR2 f_hR2 c_hR3 f_hR3 c_hR4 f_hR4 c_hF0 f_hF0 c_hF1 f_hF1 c_hF2 f_hF2
        clear hR_20s5
        clear hF_20s5
        clear hO_20s5
        have c_hR0 := hR_20s6.cell 0
        have f_hR0 := hR_20s6.frozen 0
        have c_hR1 := hR_20s6.cell 1
        have f_hR1 := hR_20s6.frozen 1
        have c_hR2 := hR_20s6.cell 2
        have f_hR2 := hR_20s6.frozen 2
        have c_hR3 := hR_20s6.cell 3
        have f_hR3 := hR_20s6.frozen 3
        have c_hR4 := hR_20s6.cell 4
        have f_hR4 := hR_20s6.frozen 4
        have c_hF0 := hF_20s6.cell 0
        have f_hF0 := hF_20s6.frozen 0
        have c_hF1 := hF_20s6.cell 1
        have f_hF1 := hF_20s6.frozen 1
        have c_hF2 := hF_20s6.cell 2
        have f_hF2 := hF_20s6.frozen 2
        obtain ⟨w20s7, hw20s7⟩ : ∃ Wz_, w20s6.setCell ⟨w.heap.size + 1, 2, none⟩ (.slice none 0 0)= Wz_ := ⟨_, rfl⟩
        have hR_20s7 := hR_20s6.far (p := ⟨w.heap.size + 1, 2, none⟩) (by show _ ≠ w.heap.size + 1; omega) (.slice none 0 0)
        have hF_20s7 := hF_20s6.set_ 2 (.slice none 0 0)
        simp only [List.setIfInBounds_toArray, List.set_cons_succ, List.set_cons_zero] at hF_20s7
        have hO_20s7 := hO_20s6.far (p := ⟨w.heap.size + 1, 2, none⟩) (by show _ ≠ w.heap.size + 1; omega) (.slice none 0 0)
        have b020s7 := b020s6.setCell (p := ⟨w.heap.size + 1, 2, none⟩) (by show _ ≤ w.heap.size + 1; omega) (.slice none 0 0)
        have z_20s7 : w20s6.heap.size ≤ w20s7.heap.size := by rw [← hw20s7]; simp [World.setCell]
        rw [hw20s7] at hR_20s7 hF_20s7 hO_20s7 b020s7
        rw [hw20s7]
        clear hw20s7
        clear c_hR0 f_hR0 c_hR1 f_hR1 c_hR2 f_hR2 c_hR3 f_hR3 c_hR4 f_hR4 c_hF0 f_hF0 c_hF1 f_hF1 c_hF2 f_hF2
        clear hR_20s6
        clear hF_20s6
        clear hO_20s6
        have c_hR0 := hR_20s7.cell 0
        have f_hR0 := hR_20s7.frozen 0
        have c_hR1 := hR_20s7.cell 1
        have f_hR1 := hR_20s7.frozen 1
        have c_hR2 := hR_20s7.cell 2
        have f_hR2 := hR_20s7.frozen 2
        have c_hR3 := hR_20s7.cell 3
        have f_hR3 := hR_20s7.frozen 3
        have c_hR4 := hR_20s7.cell 4
        have f_hR4 := hR_20s7.frozen 4
        have c_hF0 := hF_20s7.cell 0
        have f_hF0 := hF_20s7.frozen 0
        have c_hF1 := hF_20s7.cell 1
        have f_hF1 := hF_20s7.frozen 1
        have c_hF2 := hF_20s7.cell 2
        have f_hF2 := hF_20s7.frozen 2
        exact bodyPost_ret (opn_flt_ret rfl _ _ w.heap.size (w.heap.size + 1) _ _ _ _ _ _ _ _ rfl rfl hR_20s7 hF_20s7) rfl ⟨b020s7, by rw [HG.out]; rfl⟩
      have ht2 : ((k.toNat : Int) != 2) = false := by rw [hk2]; rfl
      have HK2 := Lib.hid hk2
      clear hk2
      go_wp2_with fail
      refine (openCaps A5 n5 c5 data _ o5.bs (by rw [o5.1]; omega)).mono ?_
      rintro _ w14 ⟨A6, n6, c6, cs, rfl, hcs, o6, b14⟩
      have b014 := btr b013 b14 b013.size
      have z_14 := b14.size
      have hR_14 := hR_13.below b14 hR_13.lt
      have hF_14 := hF_13.below b14 hF_13.lt
      have hO_14 := hO_13.below b14 hO_13.lt
      have S10_14 := S10_13.below b14 (by omega)
      have r14 := r13.below b14 (by omega) (by omega)
      have HCS := Lib.hid hcs
      clear hcs
      cases hpc : parseC data with
      | none =>
        have HP := Lib.hid (show parseP (l.drop 10) = .inl 0 by rw [hp.out, HS2.out.2.1 HK2.out hpc]; rfl)
        clear hpc
        have HG := Lib.hid (show readO l = .inl 0 from readO_par HH.out HP.out)
        go_wp2_with fail
        refine (openFault 0 none 0 0 _).mono ?_
        rintro _ w20 ⟨rfl, b20⟩
        have b020 := btr b014 b20 b014.size
        have z_20 := b20.size
        have hR_20 := hR_14.below b20 hR_14.lt
        clear hR_14
        have hF_20 := hF_14.below b20 hF_14.lt
        clear hF_14
        have hO_20 := hO_14.below b20 hO_14.lt
        clear hO_14
        have c_hR0 := hR_20.cell 0
        have f_hR0 := hR_20.frozen 0
        have c_hR1 := hR_20.cell 1
        have f_hR1 := hR_20.frozen 1
        have c_hR2 := hR_20.cell 2
        have f_hR2 := hR_20.frozen 2
        have c_hR3 := hR_20.cell 3
        have f_hR3 := hR_20.frozen 3
        have c_hR4 := hR_20.cell 4
        have f_hR4 := hR_20.frozen 4
        have c_hF0 := hF_20.cell 0
        have f_hF0 := hF_20.frozen 0
        have c_hF1 := hF_20.cell 1
        have f_hF1 := hF_20.frozen 1
        have c_hF2 := hF_20.cell 2
        have f_hF2 := hF_20.frozen 2
        go_wp2_with fail
        obtain ⟨w20s0, hw20s0⟩ : ∃ Wz_, w20.setCell ⟨w.heap.size, 0, none⟩ (.int .i64 0)= Wz_ := ⟨_, rfl⟩
        have hR_20s0 := hR_20.set_ 0 (.int .i64 0)
        simp only [List.setIfInBounds_toArray, List.set_cons_succ, List.set_cons_zero] at hR_20s0
        have hF_20s0 := hF_20.far (p := ⟨w.heap.size, 0, none⟩) (by show _ ≠ w.heap.size; omega) (.int .i64 0)
        have hO_20s0 := hO_20.far (p := ⟨w.heap.size, 0, none⟩) (by show _ ≠ w.heap.size; omega) (.int .i64 0)
        have b020s0 := b020.setCell (p := ⟨w.heap.size, 0, none⟩) (by show _ ≤ w.heap.size; omega) (.int .i64 0)
        have z_20s0 : w20.heap.size ≤ w20s0.heap.size := by rw [← hw20s0]; simp [World.setCell]
        rw [hw20s0] at hR_20s0 hF_20s0 hO_20s0 b020s0
        rw [hw20s0]
        clear hw20s0
        clear c_hR0 f_hR0 c_hR1 f_hR1 c_hR2 f_hR2 c_hR3 f_hR3 c_hR4 f_hR4 c_hF0 f_hF0 c_hF1 f_hF1 c_hF2 f_hF2
        clear hR_20
        clear hF_20
        clear hO_20
        have c_hR0 := hR_20s0.cell 0
        have f_hR0 := hR_20s0.frozen 0
        have c_hR1 := hR_20s0.cell 1
        have f_hR1 := hR_20s0.frozen 1
        have c_hR2 := hR_20s0.cell 2
        have f_hR2 := hR_20s0.frozen 2
        have c_hR3 := hR_20s0.cell 3
        have f_hR3 := hR_20s0.frozen 3
        have c_hR4 := hR_20s0.cell 4
        have f_hR4 := hR_20s0.frozen 4
        have c_hF0 := hF_20s0.cell 0
        have f_hF0 := hF_20s0.frozen 0
        have c_hF1 := hF_20s0.cell 1
        have f_hF1 := hF_20s0.frozen 1
        have c_hF2 := hF_20s0.cell 2
        have f_hF2 := hF_20s0.frozen 2
        obtain ⟨w20s1, hw20s1⟩ : ∃ Wz_, w20s0.setCell ⟨w.heap.size, 1, none⟩ (.int .i64 0)= Wz_ := ⟨_, rfl⟩
        have hR_20s1 := hR_20s0.set_ 1 (.int .i64 0)
        simp only [List.setIfInBounds_toArray, List.set_cons_succ, List.set_cons_zero] at hR_20s1
        have hF_20s1 := hF_20s0.far (p := ⟨w.heap.size, 1, none⟩) (by show _ ≠ w.heap.size; omega) (.int .i64 0)
        have hO_20s1 := hO_20s0.far (p := ⟨w.heap.size, 1, none⟩) (by show _ ≠ w.heap.size; omega) (.int .i64 0)
        have b020s1 := b020s0.setCell (p := ⟨w.heap.size, 1, none⟩) (by show _ ≤ w.heap.size; omega) (.int .i64 0)
        have z_20s1 : w20s0.heap.size ≤ w20s1.heap.size := by rw [← hw20s1]; simp [World.setCell]
        rw [hw20s1] at hR_20s1 hF_20s1 hO_20s1 b020s1
        rw [hw20s1]
        clear hw20s1
        clear c_hR0 f_hR0 c_hR1 f_hR1 c_hR2 f_hR2 c_hR3 f_hR3 c_hR4 f_hR4 c_hF0 f_hF0 c_hF1 f_hF1 c_hF2 f_hF2
        clear hR_20s0
        clear hF_20s0
        clear hO_20s0
        have c_hR0 := hR_20s1.cell 0
        have f_hR0 := hR_20s1.frozen 0
        have c_hR1 := hR_20s1.cell 1
        have f_hR1 := hR_20s1.frozen 1
        have c_hR2 := hR_20s1.cell 2
        have f_hR2 := hR_20s1.frozen 2
        have c_hR3 := hR_20s1.cell 3
        have f_hR3 := hR_20s1.frozen 3
        have c_hR4 := hR_20s1.cell 4
        have f_hR4 := hR_20s1.frozen 4
        have c_hF0 := hF_20s1.cell 0
        have f_hF0 := hF_20s1.frozen 0
        have c_hF1 := hF_20s1.cell 1
        have f_hF1 := hF_20s1.frozen 1
        have c_hF2 := hF_20s1.cell 2
        have f_hF2 := hF_20s1.frozen 2
        obtain ⟨w20s2, hw20s2⟩ : ∃ Wz_, w20s1.setCell ⟨w.heap.size, 2, none⟩ (.int .i64 0)= Wz_ := ⟨_, rfl⟩
        have hR_20s2 := hR_20s1.set_ 2 (.int .i64 0)
        simp only [List.setIfInBounds_toArray, List.set_cons_succ, List.set_cons_zero] at hR_20s2
        have hF_20s2 := hF_20s1.far (p := ⟨w.heap.size, 2, none⟩) (by show _ ≠ w.heap.size; omega) (.int .i64 0)
        have hO_20s2 := hO_20s1.far (p := ⟨w.heap.size, 2, none⟩) (by show _ ≠ w.heap.size; omega) (.int .i64 0)
        have b020s2 := b020s1.setCell (p := ⟨w.heap.size, 2, none⟩) (by show _ ≤ w.heap.size; omega) (.int .i64 0)
        have z_20s2 : w20s1.heap.size ≤ w20s2.heap.size := by rw [← hw20s2]; simp [World.setCell]
        rw [hw20s2] at hR_20s2 hF_20s2 hO_20s2 b020s2
        rw [hw20s2]
        clear hw20s2
        clear c_hR0 f_hR0 c_hR1 f_hR1 c_hR2 f_hR2 c_hR3 f_hR3 c_hR4 f_hR4 c_hF0 f_hF0 c_hF1 f_hF1 c_hF2 f_hF2
        clear hR_20s1
        clear hF_20s1
        clear hO_20s1
        have c_hR0 := hR_20s2.cell 0
        have f_hR0 := hR_20s2.frozen 0
        have c_hR1 := hR_20s2.cell 1
        have f_hR1 := hR_20s2.frozen 1
        have c_hR2 := hR_20s2.cell 2
        have f_hR2 := hR_20s2.frozen 2
        have c_hR3 := hR_20s2.cell 3
        have f_hR3 := hR_20s2.frozen 3
        have c_hR4 := hR_20s2.cell 4
        have f_hR4 := hR_20s2.frozen 4
        have c_hF0 := hF_20s2.cell 0
        have f_hF0 := hF_20s2.frozen 0
        have c_hF1 := hF_20s2.cell 1
        have f_hF1 := hF_20s2.frozen 1
        have c_hF2 := hF_20s2.cell 2
        have f_hF2 := hF_20s2.frozen 2
        obtain ⟨w20s3, hw20s3⟩ : ∃ Wz_, w20s2.setCell ⟨w.heap.size, 3, none⟩ (.int .u32 0)= Wz_ := ⟨_, rfl⟩
        have hR_20s3 := hR_20s2.set_ 3 (.int .u32 0)
        simp only [List.setIfInBounds_toArray, List.set_cons_succ, List.set_cons_zero] at hR_20s3
        have hF_20s3 := hF_20s2.far (p := ⟨w.heap.size, 3, none⟩) (by show _ ≠ w.heap.size; omega) (.int .u32 0)
        have hO_20s3 := hO_20s2.far (p := ⟨w.heap.size, 3, none⟩) (by show _ ≠ w.heap.size; omega) (.int .u32 0)
        have b020s3 := b020s2.setCell (p := ⟨w.heap.size, 3, none⟩) (by show _ ≤ w.heap.size; omega) (.int .u32 0)
        have z_20s3 : w20s2.heap.size ≤ w20s3.heap.size := by rw [← hw20s3]; simp [World.setCell]
        rw [hw20s3] at hR_20s3 hF_20s3 hO_20s3 b020s3
        rw [hw20s3]
        clear hw20s3
        clear c_hR0 f_hR0 c_hR1 f_hR1 c_hR2 f_hR2 c_hR3 f_hR3 c_hR4 f_hR4 c_hF0 f_hF0 c_hF1 f_hF1 c_hF2 f_hF2
        clear hR_20s2
        clear hF_20s2
        clear hO_20s2
        have c_hR0 := hR_20s3.cell 0
        have f_hR0 := hR_20s3.frozen 0
        have c_hR1 := hR_20s3.cell 1
        have f_hR1 := hR_20s3.frozen 1
        have c_hR2 := hR_20s3.cell 2
        have f_hR2 := hR_20s3.frozen 2
        have c_hR3 := hR_20s3.cell 3
        have f_hR3 := hR_20s3.frozen 3
        have c_hR4 := hR_20s3.cell 4
        have f_hR4 := hR_20s3.frozen 4
        have c_hF0 := hF_20s3.cell 0
        have f_hF0 := hF_20s3.frozen 0
        have c_hF1 := hF_20s3.cell 1
        have f_hF1 := hF_20s3.frozen 1
        have c_hF2 := hF_20s3.cell 2
        have f_hF2 := hF_20s3.frozen 2
        obtain ⟨w20s4, hw20s4⟩ : ∃ Wz_, w20s3.setCell ⟨w.heap.size, 4, none⟩ (.slice none 0 0)= Wz_ := ⟨_, rfl⟩
        have hR_20s4 := hR_20s3.set_ 4 (.slice none 0 0)
        simp only [List.setIfInBounds_toArray, List.set_cons_succ, List.set_cons_zero] at hR_20s4
        have hF_20s4 := hF_20s3.far (p := ⟨w.heap.size, 4, none⟩) (by show _ ≠ w.heap.size; omega) (.slice none 0 0)
        have hO_20s4 := hO_20s3.far (p := ⟨w.heap.size, 4, none⟩) (by show _ ≠ w.heap.size; omega) (.slice none 0 0)
        have b020s4 := b020s3.setCell (p := ⟨w.heap.size, 4, none⟩) (by show _ ≤ w.heap.size; omega) (.slice none 0 0)
        have z_20s4 : w20s3.heap.size ≤ w20s4.heap.size := by rw [← hw20s4]; simp [World.setCell]
        rw [hw20s4] at hR_20s4 hF_20s4 hO_20s4 b020s4
        rw [hw20s4]
        clear hw20s4
        clear c_hR0 f_hR0 c_hR1 f_hR1 c_hR2 f_hR2 c_hR3 f_hR3 c_hR4 f_hR4 c_hF0 f_hF0 c_hF1 f_hF1 c_hF2 f_hF2
        clear hR_20s3
        clear hF_20s3
        clear hO_20s3
        have c_hR0 := hR_20s4.cell 0
        have f_hR0 := hR_20s4.frozen 0
        have c_hR1 := hR_20s4.cell 1
        have f_hR1 := hR_20s4.frozen 1
        have c_hR2 := hR_20s4.cell 2
        have f_hR2 := hR_20s4.frozen 2
        have c_hR3 := hR_20s4.cell 3
        have f_hR3 := hR_20s4.frozen 3
        have c_hR4 := hR_20s4.cell 4
        have f_hR4 := hR_20s4.frozen 4
        have c_hF0 := hF_20s4.cell 0
        have f_hF0 := hF_20s4.frozen 0
        have c_hF1 := hF_20s4.cell 1
        have f_hF1 := hF_20s4.frozen 1
        have c_hF2 := hF_20s4.cell 2
        have f_hF2 := hF_20s4.frozen 2
        obtain ⟨w20s5, hw20s5⟩ : ∃ Wz_, w20s4.setCell ⟨w.heap.size + 1, 0, none⟩ (.int .i64 2)= Wz_ := ⟨_, rfl⟩
        have hR_20s5 := hR_20s4.far (p := ⟨w.heap.size + 1, 0, none⟩) (by show _ ≠ w.heap.size + 1; omega) (.int .i64 2)
        have hF_20s5 := hF_20s4.set_ 0 (.int .i64 2)
        simp only [List.setIfInBounds_toArray, List.set_cons_succ, List.set_cons_zero] at hF_20s5
        have hO_20s5 := hO_20s4.far (p := ⟨w.heap.size + 1, 0, none⟩) (by show _ ≠ w.heap.size + 1; omega) (.int .i64 2)
        have b020s5 := b020s4.setCell (p := ⟨w.heap.size + 1, 0, none⟩) (by show _ ≤ w.heap.size + 1; omega) (.int .i64 2)
        have z_20s5 : w20s4.heap.size ≤ w20s5.heap.size := by rw [← hw20s5]; simp [World.setCell]
        rw [hw20s5] at hR_20s5 hF_20s5 hO_20s5 b020s5
        rw [hw20s5]
        clear hw20s5
        clear c_hR0 f_hR0 c_hR1 f_hR1 c_hR2 f_hR2 c_hR3 f_hR3 c_hR4 f_hR4 c_hF0 f_hF0 c_hF1 f_hF1 c_hF2 f_hF2
        clear hR_20s4
        clear hF_20s4
        clear hO_20s4
        have c_hR0 := hR_20s5.cell 0
        have f_hR0 := hR_20s5.frozen 0
        have c_hR1 := hR_20s5.cell 1
        have f_hR1 := hR_20s5.frozen 1
        have c_hR2 := hR_20s5.cell 2
        have f_hR2 := hR_20s5.frozen 2
        have c_hR3 := hR_20s5.cell 3
        have f_hR3 := hR_20s5.frozen 3
        have c_hR4 := hR_20s5.cell 4
        have f_hR4 := hR_20s5.frozen 4
        have c_hF0 := hF_20s5.cell 0
        have f_hF0 := hF_20s5.frozen 0
        have c_hF1 := hF_20s5.cell 1
        have f_hF1 := hF_20s5.frozen 1
        have c_hF2 := hF_20s5.cell 2
        have f_hF2 := hF_20s5.frozen 2
        obtain ⟨w20s6, hw20s6⟩ : ∃ Wz_, w20s5.setCell ⟨w.heap.size + 1, 1, none⟩ (.int .i64 0)= Wz_ := ⟨_, rfl⟩
        have hR_20s6 := hR_20s5.far (p := ⟨w.heap.size + 1, 1, none⟩) (by show _ ≠ w.heap.size + 1; omega) (.int .i64 0)
        have hF_20s6 := hF_20s5.set_ 1 (.int .i64 0)
        simp only [List.setIfInBounds_toArray, List.set_cons_succ, List.set_cons_zero] at hF_20s6
        have hO_20s6 := hO_20s5.far (p := ⟨w.heap.size + 1, 1, none⟩) (by show _ ≠ w.heap.size + 1; omega) (.int .i64 0)
        have b020s6 := b020s5.setCell (p := ⟨w.heap.size + 1, 1, none⟩) (by show _ ≤ w.heap.size + 1; omega) (.int .i64 0)
        have z_20s6 : w20s5.heap.size ≤ w20s6.heap.size := by rw [← hw20s6]; simp [World.setCell]
        rw [hw20s6] at hR_20s6 hF_20s6 hO_20s6 b020s6
        rw [hw20s6]
        clear hw20s6
        clear c_hR0 f_hR0 c_hR1 f_hR1 c_hR2 f_hR2 c_hR3 f_hR3 c_hR4 f_hR4 c_hF0 f_hF0 c_hF1 f_hF1 c_hF2 f_hF2
        clear hR_20s5
        clear hF_20s5
        clear hO_20s5
        have c_hR0 := hR_20s6.cell 0
        have f_hR0 := hR_20s6.frozen 0
        have c_hR1 := hR_20s6.cell 1
        have f_hR1 := hR_20s6.frozen 1
        have c_hR2 := hR_20s6.cell 2
        have f_hR2 := hR_20s6.frozen 2
        have c_hR3 := hR_20s6.cell 3
        have f_hR3 := hR_20s6.frozen 3
        have c_hR4 := hR_20s6.cell 4
        have f_hR4 := hR_20s6.frozen 4
        have c_hF0 := hF_20s6.cell 0
        have f_hF0 := hF_20s6.frozen 0
        have c_hF1 := hF_20s6.cell 1
        have f_hF1 := hF_20s6.frozen 1
        have c_hF2 := hF_20s6.cell 2
        have f_hF2 := hF_20s6.frozen 2
        obtain ⟨w20s7, hw20s7⟩ : ∃ Wz_, w20s6.setCell ⟨w.heap.size + 1, 2, none⟩ (.slice none 0 0)= Wz_ := ⟨_, rfl⟩
        have hR_20s7 := hR_20s6.far (p := ⟨w.heap.size + 1, 2, none⟩) (by show _ ≠ w.heap.size + 1; omega) (.slice none 0 0)
        have hF_20s7 := hF_20s6.set_ 2 (.slice none 0 0)
        simp only [List.setIfInBounds_toArray, List.set_cons_succ, List.set_cons_zero] at hF_20s7
        have hO_20s7 := hO_20s6.far (p := ⟨w.heap.size + 1, 2, none⟩) (by show _ ≠ w.heap.size + 1; omega) (.slice none 0 0)
        have b020s7 := b020s6.setCell (p := ⟨w.heap.size + 1, 2, none⟩) (by show _ ≤ w.heap.size + 1; omega) (.slice none 0 0)
        have z_20s7 : w20s6.heap.size ≤ w20s7.heap.size := by rw [← hw20s7]; simp [World.setCell]
        rw [hw20s7] at hR_20s7 hF_20s7 hO_20s7 b020s7
        rw [hw20s7]
        clear hw20s7
        clear c_hR0 f_hR0 c_hR1 f_hR1 c_hR2 f_hR2 c_hR3 f_hR3 c_hR4 f_hR4 c_hF0 f_hF0 c_hF1 f_hF1 c_hF2 f_hF2
        clear hR_20s6
        clear hF_20s6
        clear hO_20s6
        have c_hR0 := hR_20s7.cell 0
        have f_hR0 := hR_20s7.frozen 0
        have c_hR1 := hR_20s7.cell 1
        have f_hR1 := hR_20s7.frozen 1
        have c_hR2 := hR_20s7.cell 2
        have f_hR2 := hR_20s7.frozen 2
        have c_hR3 := hR_20s7.cell 3
        have f_hR3 := hR_20s7.frozen 3
        have c_hR4 := hR_20s7.cell 4
        have f_hR4 := hR_20s7.frozen 4
        have c_hF0 := hF_20s7.cell 0
        have f_hF0 := hF_20s7.frozen 0
        have c_hF1 := hF_20s7.cell 1
        have f_hF1 := hF_20s7.frozen 1
        have c_hF2 := hF_20s7.cell 2
        have f_hF2 := hF_20s7.frozen 2
        exact bodyPost_ret (opn_flt_ret rfl _ _ w.heap.size (w.heap.size + 1) _ _ _ _ _ _ _ _ rfl rfl hR_20s7 hF_20s7) rfl ⟨b020s7, by rw [HG.out]; rfl⟩
      | some ds =>
        have HP := Lib.hid (show parseP (l.drop 10) = addP (acc ++ cs) (parseP t3) by rw [hp.out, HS2.out.2.2 HK2.out ds hpc acc, HCS.out ds hpc])
        have hpc' := hpc
        clear hpc
        have hcl := Lib.hid (show cs.length ≤ data.length by rw [HCS.out ds hpc']; exact parseC_len _ data ds (Nat.le_refl _) hpc')
        clear hpc'
        have o14 := o10.sm rCap_ok S10_14
        have d6 := o6.dlU rCap_ok
        have hown := Lib.hid o10.own_
        have c_hO4 := hO_14.cell 4
        have hR14 := hR_14
        have hF14 := hF_14
        have hO14 := hO_14
        go_wp2_with (at_builtin; refine wpl_appL rfl (.tmp 69) (.tmp 70) _ rfl rCap_ok _ 32 Tryd.underlying64 cap_info rfl (by omega) (by rfl) o14 (by omega) (by intro x hx; simp at hx; omega) (by omega) A6 n6 c6 cs (by rfl) d6 (fun b hb => hb.2.1) (fun cs x _ hx => rCap_ok.keep hx (Kp.sub fun b hb => ⟨⟨by have := hb.1; omega, hb.2.1, by have := hb.1; simp; omega⟩, fun e => by have := hown.out b e.symm; have := hb.1; omega⟩)) (by have := hcl.out; omega) (by have := hcl.out; omega) (by omega) ?_; intro A8 n8 c8 w15 o15 b15 g15; have hO15 := hO14.below b15 (by omega); have kk := hO15.cell 4; have ff := hO15.frozen 4)
        have z15 := b15.size
        have r15 := r14.below b15 (by omega) (by omega)
        have r16 := r15.setCell (p := ⟨w5.heap.size, 4, none⟩) (by show _ ≤ w5.heap.size; omega) (by show w5.heap.size ≠ g; omega) (.slice A8 n8 c8)
        have hO16 := hO15.set_ 4 (.slice A8 n8 c8)
        simp only [List.setIfInBounds_toArray, List.set_cons_succ, List.set_cons_zero] at hO16
        have hR16 := (hR14.below b15 (by omega)).far (p := ⟨w5.heap.size, 4, none⟩) (by show w.heap.size ≠ w5.heap.size; omega) (.slice A8 n8 c8)
        have hF16 := (hF14.below b15 (by omega)).far (p := ⟨w5.heap.size, 4, none⟩) (by show w.heap.size + 1 ≠ w5.heap.size; omega) (.slice A8 n8 c8)
        have o16 := (o15.sm rCap_ok ((Sm.refl w15.heap.size [g, w5.heap.size] w15).setCell (p := ⟨w5.heap.size, 4, none⟩) (.inr (by simp)) (.slice A8 n8 c8))).more (B' := (w15.setCell ⟨w5.heap.size, 4, none⟩ (.slice A8 n8 c8)).heap.size) (lo' := w6.heap.size) (av' := [g, w5.heap.size]) rCap_ok (fun b hb => ⟨hb.1, by simpa [World.setCell] using hb.2.1, hb.2.2⟩)
        have b16 := (b014.trans (b15.mono (by omega))).setCell (p := ⟨w5.heap.size, 4, none⟩) (by show w.heap.size ≤ w5.heap.size; omega) (.slice A8 n8 c8)
        have z16 : w6.heap.size ≤ (w15.setCell ⟨w5.heap.size, 4, none⟩ (.slice A8 n8 c8)).heap.size := by simp [World.setCell]; omega
        go_roundg t3.length
        case measure => omega
        case rel => exact ⟨t3, acc ++ cs, A8, n8, c8, Nat.le_refl _, by omega, by have := hcl.out; simp; omega, r16, hR16, hF16, hO16, o16, b16, z16, HP⟩
theorem openRead (A : Option Addr) (n c : Nat) (l : List UInt8) (w : World) (h : BS w w.heap.size A n l) (hn : n ≤ 100000) :
    Calls Tryd.prog 42 #[.slice A n c] w (RetRead w (readO l)) := (openReadF A n c l w h hn).mono fun _ _ h => h.to
end Go.Proofs.YthgjknmfghjioaaDoor
