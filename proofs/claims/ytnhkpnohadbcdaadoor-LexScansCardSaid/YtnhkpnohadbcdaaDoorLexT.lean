/- Walks of layer 13 (lex): a text in quotes. Conditions: the library's tables. -/
import Derived.Test.YtnhkpnohadbcdaaDoorProg
import Derived.WalkKit
import Derived.WalkSpells
import Derived.WalkLawsBesides
import Derived.Outline
import Derived.Deep.QuietTactic
import Derived.BigQuiet
import Derived.Handy
import Derived.Lib.Hide
import Derived.Lib.OthersKept
import Derived.Lib.RuneCount
import Derived.Laws.RangeAny
import Derived.Test.YtnhkpnohadbcdaaDoorLexB
import Derived.Test.YtnhkpnohadbcdaaDoorLexC
namespace Go.Proofs.YtnhkpnohadbcdaaDoor
open Go.RowKit
set_option linter.unusedSimpArgs false
set_option linter.unusedVariables false
/-- The runes of what is quoted, from a place on. -/
def quoR (s : ByteArray) : Nat → Nat → List Int
  | 0, _ => []
  | f + 1, pos => if pos < s.size then (if (Utf8.decode s pos).1 = 34 ∨ (Utf8.decode s pos).1 = 92 then [92, ((Utf8.decode s pos).1 : Int)] else [((Utf8.decode s pos).1 : Int)]) ++ quoR s f (pos + (Utf8.decode s pos).2) else []
theorem quoR_end (s : ByteArray) (f pos : Nat) (h : ¬ pos < s.size) : quoR s f pos = [] := by
  cases f with
  | zero => rfl
  | succ f => rw [quoR, if_neg h]
/-- A text in quotes, or none. -/
def quoteT (s : ByteArray) : ByteArray × Bool := if rightS s = true then (runesBytes ([34] ++ quoR s s.size 0 ++ [34]), true) else (⟨#[]⟩, false)
theorem rune_app {w : World} {base n c : Nat} {A : Option Addr} {l : List Int} (h : w.ownsRow base 21 1 (.slice A n c) n (l.map (Value.int .i32))) : n = l.length := by have := h.1; simp at this; omega
theorem own_iterAt {w : World} {base n kk pos pos' : Nat} {e : TypeId} {v : Value} {xs : List Value} {s : ByteArray} (h : w.ownsRow base e 1 v n xs) (hk : w.heap[kk]? = some (.stringIter s pos)) : (w.iterAt kk s pos').ownsRow base e 1 v n xs := by
  refine ⟨h.1, ?_⟩
  rcases h.2 with h2 | ⟨g, cap, cur, hv, hb, hh, r⟩
  · exact .inl h2
  · refine .inr ⟨g, cap, cur, hv, hb, (Lib.iterAt_other w kk g s pos' ?_).trans hh, r⟩
    rintro rfl
    rw [hk] at hh
    cases hh
theorem width_four (s : ByteArray) (pos : Nat) : (Utf8.decode s pos).2 ≤ 4 := by
  simp only [Utf8.decode]
  repeat' split
  all_goals simp [Utf8.runeError]
set_option maxHeartbeats 8000000 in
set_option maxRecDepth 100000 in
theorem lexQuote (s : ByteArray) (w : World) (hT : UT w) (hs : s.size ≤ 10000) : Calls Tryd.prog 72 #[.string s] w fun e w' => e = .returned (.tuple #[.string (quoteT s).1, .bool (quoteT s).2]) ∧ Below w.heap.size w w' := by
  obtain ⟨rb, hrb⟩ : ∃ rb, rightS s = rb := ⟨_, rfl⟩
  have HRB := Lib.hid hrb
  have HR := lexRight s w hT (by omega)
  rw [hrb] at HR
  clear hrb
  cases rb
  · have HG := Lib.hid (show quoteT s = (⟨#[]⟩, false) by unfold quoteT; rw [HRB.out]; rfl)
    go_enter Tryd.func72, Tryd.ntmps72
    go_wp2_with fail
    refine HR.mono ?_
    rintro _ w1 ⟨rfl, b1⟩
    go_wp2_with fail
    go_ret2
    exact ⟨by rw [HG.out] <;> rfl, b1⟩
  have HG := Lib.hid (show quoteT s = (runesBytes ([34] ++ quoR s s.size 0 ++ [34]), true) by unfold quoteT; rw [HRB.out]; rfl)
  clear HRB
  go_enter Tryd.func72, Tryd.ntmps72
  go_wp2_with fail
  refine HR.mono ?_
  rintro _ w1 ⟨rfl, b1⟩
  go_upto_region 4 with fail
  obtain ⟨w2, hw2, hB2, b2⟩ := box1c w1 #[.int .i32 34] 21
  try rw [hw2]
  clear hw2
  have b02 := btr b1 b2 b1.size
  have z1 := b1.size
  have hBl := hB2.lt
  have o2 : w2.ownsRow w.heap.size 21 1 (.slice (some ⟨w1.heap.size, 0, none⟩) 1 1) 1 (([34] : List Int).map (Value.int .i32)) := ⟨rfl, .inr ⟨w1.heap.size, 1, _, rfl, z1, hB2, by omega, by unfold maxLen; omega, rfl, rfl⟩⟩
  have o3 := own_alloc o2 (.stringIter s 0)
  have b03 := b02.alloc b02.size (.stringIter s 0)
  obtain ⟨kk, hkk⟩ : ∃ kk, w2.heap.size = kk := ⟨_, rfl⟩
  have hkw : w.heap.size ≤ kk := by omega
  go_wp2_with fail
  try rw [hkk]
  have Hkk := Lib.hid hkk
  clear hkk
  go_loopw [4] (fun v4 wr => ∃ (f pos : Nat) (A1 : Option Addr) (n1 c1 : Nat) (L : List Int), v4 = .slice A1 n1 c1 ∧ s.size ≤ pos + f ∧ pos ≤ s.size + 4 ∧ n1 ≤ 1 + 2 * pos ∧ wr.heap[kk]? = some (.stringIter s pos) ∧ wr.ownsRow w.heap.size 21 1 (.slice A1 n1 c1) n1 (L.map (Value.int .i32)) ∧ Below w.heap.size w wr ∧ Hid ([34] ++ quoR s s.size 0 = L ++ quoR s f pos)) (fun _ w' => s.size - w'.iterPos kk)
  case atStart => exact ⟨s.size, 0, some ⟨w1.heap.size, 0, none⟩, 1, 1, [34], rfl, by omega, by omega, by omega, by rw [← Hkk.out]; exact World.iter_heap _ _ _, o3, b03, Lib.hid rfl⟩
  case round =>
    obtain ⟨f, pos, A1, n1, c1, L, rfl, hf, hp4, hn1, hk, ho, hb, HE⟩ := hrel
    by_cases hlt : pos < s.size
    · obtain ⟨f, rfl⟩ : ∃ f', f = f' + 1 := ⟨f - 1, by omega⟩
      have hnx := fun ty => Lib.run_next_any_at (P := Tryd.prog) wr kk s pos ty hk hlt
      have hwd := Lib.decode_width_pos s pos hlt
      have hw4 := width_four s pos
      have hE := HE.out
      rw [quoR, if_pos hlt] at hE
      obtain ⟨c, k, hd⟩ : ∃ c k, Utf8.decode s pos = (c, k) := ⟨_, _, rfl⟩
      rw [hd] at hnx hwd hE hw4
      simp only at hnx hwd hE hw4
      have HEE := Lib.hid hE
      have HP := Lib.hid (show wr.iterPos kk = pos by unfold World.iterPos; rw [hk])
      have hk1 := Lib.iterAt_heap wr kk s pos (pos + k) hk
      have hb1 := Lib.below_iterAt hb (k := kk) hkw s (pos + k)
      have ho1 := own_iterAt (pos' := pos + k) ho hk
      obtain ⟨w3, hw3⟩ : ∃ W, wr.iterAt kk s (pos + k) = W := ⟨_, rfl⟩
      rw [hw3] at hk1 hb1 ho1
      simp only [hw3] at hnx
      clear hE hd hw3 hk ho
      by_cases hq : c = 34 ∨ c = 92
      · have HN := Lib.hid (show [34] ++ quoR s s.size 0 = (L ++ [92] ++ [(c : Int)]) ++ quoR s f (pos + k) by rw [HEE.out, if_pos hq]; simp)
        have hq' : (((c : Int) == 34) = true) ∨ (((c : Int) == 34) = false ∧ ((c : Int) == 92) = true) := by
          rcases hq with hq | hq
          · left; subst hq; rfl
          · right; subst hq; exact ⟨rfl, rfl⟩
        clear hq
        rcases hq' with t1 | ⟨t1, t2⟩
        · skip
          have oa5 := own_alloc ho1 (.cells #[.int .i32 92] 21)
          have ba5 := hb1.alloc (hb1).size (.cells #[.int .i32 92] 21)
          have Ia5 := ItK.below ((Below.refl w3.heap.size w3).alloc (Nat.le_refl _) (.cells #[.int .i32 92] 21))
          have zz5 := (hb1).size
          go_upto_region 9 with (at_builtin; refine wpl_appR rfl (.tmp 22) (.tmp 23) 110 rfl 21 (.int .i32 0) 1 4 Tryd.underlying110 i32_info rfl (by omega) w.heap.size A1 (n1) c1 _ (by rfl) oa5 (w3.heap.size + 1) (some ⟨w3.heap.size, 0, none⟩) 1 1 [.int .i32 92] (by rfl) (one_reads (Blk.new w3 21 #[.int .i32 92])) (by intro u hu; simp at hu; subst hu; rfl) (by unfold maxLen; omega) (by omega) (by simp; omega) ?_; intro A5 c5 w5 o5 b5 g5 _)
          have bb5 := ba5.trans b5
          have II5 := (ItK.refl w3).trans (Ia5.trans (ItK.own oa5 g5))
          have oa6 := own_alloc o5 (.cells #[.int .i32 (c : Int)] 21)
          have ba6 := bb5.alloc (bb5).size (.cells #[.int .i32 (c : Int)] 21)
          have Ia6 := ItK.below ((Below.refl w5.heap.size w5).alloc (Nat.le_refl _) (.cells #[.int .i32 (c : Int)] 21))
          have zz6 := (bb5).size
          go_wp2_with (at_builtin; refine wpl_appR rfl (.tmp 25) (.tmp 27) 110 rfl 21 (.int .i32 0) 1 4 Tryd.underlying110 i32_info rfl (by omega) w.heap.size A5 (n1 + 1) c5 _ (by rfl) oa6 (w5.heap.size + 1) (some ⟨w5.heap.size, 0, none⟩) 1 1 [.int .i32 (c : Int)] (by rfl) (one_reads (Blk.new w5 21 #[.int .i32 (c : Int)])) (by intro u hu; simp at hu; subst hu; rfl) (by unfold maxLen; omega) (by omega) (by simp; omega) ?_; intro A6 c6 w6 o6 b6 g6 _)
          have bb6 := ba6.trans b6
          have II6 := II5.trans (Ia6.trans (ItK.own oa6 g6))
          have hk6 := II6 _ _ _ hk1
          go_roundw
          case rel => exact ⟨f, pos + k, A6, n1 + 1 + 1, c6, _, rfl, by omega, by omega, by omega, hk6, by rw [List.map_append, List.map_append]; exact o6, bb6, HN⟩
          case measure =>
            rw [HP.out, show w6.iterPos kk = pos + k by unfold World.iterPos; rw [hk6]]
            omega
        · skip
          have oa5 := own_alloc ho1 (.cells #[.int .i32 92] 21)
          have ba5 := hb1.alloc (hb1).size (.cells #[.int .i32 92] 21)
          have Ia5 := ItK.below ((Below.refl w3.heap.size w3).alloc (Nat.le_refl _) (.cells #[.int .i32 92] 21))
          have zz5 := (hb1).size
          go_upto_region 9 with (at_builtin; refine wpl_appR rfl (.tmp 22) (.tmp 23) 110 rfl 21 (.int .i32 0) 1 4 Tryd.underlying110 i32_info rfl (by omega) w.heap.size A1 (n1) c1 _ (by rfl) oa5 (w3.heap.size + 1) (some ⟨w3.heap.size, 0, none⟩) 1 1 [.int .i32 92] (by rfl) (one_reads (Blk.new w3 21 #[.int .i32 92])) (by intro u hu; simp at hu; subst hu; rfl) (by unfold maxLen; omega) (by omega) (by simp; omega) ?_; intro A5 c5 w5 o5 b5 g5 _)
          have bb5 := ba5.trans b5
          have II5 := (ItK.refl w3).trans (Ia5.trans (ItK.own oa5 g5))
          have oa6 := own_alloc o5 (.cells #[.int .i32 (c : Int)] 21)
          have ba6 := bb5.alloc (bb5).size (.cells #[.int .i32 (c : Int)] 21)
          have Ia6 := ItK.below ((Below.refl w5.heap.size w5).alloc (Nat.le_refl _) (.cells #[.int .i32 (c : Int)] 21))
          have zz6 := (bb5).size
          go_wp2_with (at_builtin; refine wpl_appR rfl (.tmp 25) (.tmp 27) 110 rfl 21 (.int .i32 0) 1 4 Tryd.underlying110 i32_info rfl (by omega) w.heap.size A5 (n1 + 1) c5 _ (by rfl) oa6 (w5.heap.size + 1) (some ⟨w5.heap.size, 0, none⟩) 1 1 [.int .i32 (c : Int)] (by rfl) (one_reads (Blk.new w5 21 #[.int .i32 (c : Int)])) (by intro u hu; simp at hu; subst hu; rfl) (by unfold maxLen; omega) (by omega) (by simp; omega) ?_; intro A6 c6 w6 o6 b6 g6 _)
          have bb6 := ba6.trans b6
          have II6 := II5.trans (Ia6.trans (ItK.own oa6 g6))
          have hk6 := II6 _ _ _ hk1
          go_roundw
          case rel => exact ⟨f, pos + k, A6, n1 + 1 + 1, c6, _, rfl, by omega, by omega, by omega, hk6, by rw [List.map_append, List.map_append]; exact o6, bb6, HN⟩
          case measure =>
            rw [HP.out, show w6.iterPos kk = pos + k by unfold World.iterPos; rw [hk6]]
            omega
      · have HN := Lib.hid (show [34] ++ quoR s s.size 0 = (L ++ [(c : Int)]) ++ quoR s f (pos + k) by rw [HEE.out, if_neg hq]; simp)
        have t1 : ((c : Int) == 34) = false := by simp; omega
        have t2 : ((c : Int) == 92) = false := by simp; omega
        clear hq
        have oa6 := own_alloc ho1 (.cells #[.int .i32 (c : Int)] 21)
        have ba6 := hb1.alloc (hb1).size (.cells #[.int .i32 (c : Int)] 21)
        have Ia6 := ItK.below ((Below.refl w3.heap.size w3).alloc (Nat.le_refl _) (.cells #[.int .i32 (c : Int)] 21))
        have zz6 := (hb1).size
        go_wp2_with (at_builtin; refine wpl_appR rfl (.tmp 25) (.tmp 27) 110 rfl 21 (.int .i32 0) 1 4 Tryd.underlying110 i32_info rfl (by omega) w.heap.size A1 (n1) c1 _ (by rfl) oa6 (w3.heap.size + 1) (some ⟨w3.heap.size, 0, none⟩) 1 1 [.int .i32 (c : Int)] (by rfl) (one_reads (Blk.new w3 21 #[.int .i32 (c : Int)])) (by intro u hu; simp at hu; subst hu; rfl) (by unfold maxLen; omega) (by omega) (by simp; omega) ?_; intro A6 c6 w6 o6 b6 g6 _)
        have bb6 := ba6.trans b6
        have II6 := (ItK.refl w3).trans (Ia6.trans (ItK.own oa6 g6))
        have hk6 := II6 _ _ _ hk1
        go_roundw
        case rel => exact ⟨f, pos + k, A6, n1 + 1, c6, _, rfl, by omega, by omega, by omega, hk6, by rw [List.map_append]; exact o6, bb6, HN⟩
        case measure =>
          rw [HP.out, show w6.iterPos kk = pos + k by unfold World.iterPos; rw [hk6]]
          omega
    · have hnx := fun ty => Lib.run_next_end_at (P := Tryd.prog) wr kk s pos ty hk hlt
      have hE : [34] ++ quoR s s.size 0 = L := by rw [HE.out, quoR_end s f pos hlt, List.append_nil]
      have HG2 := Lib.hid (show quoteT s = (runesBytes (L ++ [34]), true) by rw [HG.out, hE])
      clear hE
      obtain ⟨R, hR⟩ : ∃ R, runesBytes (L ++ [34]) = R := ⟨_, rfl⟩
      have hcv := fun (w' : World) (A : Option Addr) (c : Nat) (hw' : w'.ownsRow w.heap.size 21 1 (.slice A (n1 + 1) c) (n1 + 1) ((L ++ [34]).map (Value.int .i32))) => conv_runes hw'
      rw [hR] at hcv
      have HR2 := Lib.hid hR
      have HCV := Lib.hid hcv
      clear hR hcv
      have oa6 := own_alloc ho (.cells #[.int .i32 34] 21)
      have ba6 := hb.alloc (hb).size (.cells #[.int .i32 34] 21)
      have Ia6 := ItK.below ((Below.refl wr.heap.size wr).alloc (Nat.le_refl _) (.cells #[.int .i32 34] 21))
      have zz6 := (hb).size
      go_wp2_with (at_builtin; refine wpl_appR rfl (.tmp 29) (.tmp 30) 110 rfl 21 (.int .i32 0) 1 4 Tryd.underlying110 i32_info rfl (by omega) w.heap.size A1 (n1) c1 _ (by rfl) oa6 (wr.heap.size + 1) (some ⟨wr.heap.size, 0, none⟩) 1 1 [.int .i32 34] (by rfl) (one_reads (Blk.new wr 21 #[.int .i32 34])) (by intro u hu; simp at hu; subst hu; rfl) (by unfold maxLen; omega) (by omega) (by simp; omega) ?_; intro A6 c6 w6 o6 b6 g6 _; have cv6 := HCV.out w6 A6 c6 (by rw [List.map_append]; exact o6))
      have bb6 := ba6.trans b6
      have II6 := (ItK.refl wr).trans (Ia6.trans (ItK.own oa6 g6))
      go_ret2
      exact ⟨by rw [HG2.out, HR2.out] <;> rfl, bb6⟩
end Go.Proofs.YtnhkpnohadbcdaaDoor
