/- Walks of layer 4 (attributes): the next attribute. No conditions but sizes. -/
import Derived.Test.YtlpkngjeihoknaaDoorProg
import Derived.WalkKit
import Derived.WalkSpells
import Derived.WalkLawsBesides
import Derived.Outline
import Derived.Deep.QuietTactic
import Derived.BigQuiet
import Derived.Handy
import Derived.Lib.Hide
import Derived.Laws.Cover4
import Derived.OrdersHeld
import Derived.Deep.RegionHeld
import Derived.Deep.DeepCutAuto
import Derived.Deep.CutBlock
import Derived.Test.YtlpkngjeihoknaaDoorAttL
import Derived.Test.YtlpkngjeihoknaaDoorAspU
namespace Go.Proofs.YtlpkngjeihoknaaDoor
open Go.RowKit
set_option linter.unusedSimpArgs false
set_option linter.unusedVariables false
theorem one_info : (Tryd.prog.info? 117).map (·.size) = some 4 := by kernel_rfl
theorem one_ret {fn : Func} {p u v : Tmp} (h : fn.results = #[.cell p 117, .tmp u, .tmp v]) (tmps : Array Value) (w : World) (g : Nat) (x0 x1 x2 x3 y z : Value)
    (hp : tmps.getD p undef = .pointer (some ⟨g, 0, none⟩)) (hu : tmps.getD u undef = y) (hv : tmps.getD v undef = z) (hB : Blk w g 117 #[x0, x1, x2, x3]) :
    (results fn tmps).run Tryd.prog w = .ok (.tuple #[.agg #[x0, x1, x2, x3], y, z]) w := by
  have hp' : tmps[p]?.getD undef = .pointer (some ⟨g, 0, none⟩) := by simpa using hp
  have hu' : tmps[u]?.getD undef = y := by simpa using hu
  have hv' : tmps[v]?.getD undef = z := by simpa using hv
  have := run_loadVar_row (P := Tryd.prog) w g 117 117 #[x0, x1, x2, x3] (0, 0) _ hB Tryd.underlying117 rfl one_info
  simp [results, h, hp', hu', hv', asAddr, this]
set_option maxRecDepth 100000 in
theorem and16_fin : ∀ V : Fin 256, V.val &&& 16 = V.val / 16 % 2 * 16 := by decide
theorem and16 {V : Nat} (h : V < 256) : bits .and .i64 (V : Int) 16 = ((V / 16 % 2 * 16 : Nat) : Int) := by
  have := i64_and_nat V 16 (by omega) (by omega)
  rw [show ((16 : Nat) : Int) = 16 from rfl] at this
  rw [this, and16_fin ⟨V, h⟩]
theorem splitA_eq {b t1 t2 t3 t4 v : List UInt8} {s1 s2 s3 s4 : Bool} {V1 V2 V3 z : Nat} (E1 : numL (tkOut b false (1 : Nat)) = V1 ∧ tkLeft b false (1 : Nat) = t1 ∧ tkShort b false (1 : Nat) = s1) (E2 : numL (tkOut t1 s1 (1 : Nat)) = V2 ∧ tkLeft t1 s1 (1 : Nat) = t2 ∧ tkShort t1 s1 (1 : Nat) = s2) (hz : szV V1 = z) (E3 : numL (tkOut t2 s2 z) = V3 ∧ tkLeft t2 s2 z = t3 ∧ tkShort t2 s2 z = s3) (E4 : tkOut t3 s3 V3 = v ∧ tkLeft t3 s3 V3 = t4 ∧ tkShort t3 s3 V3 = s4) :
    splitA b = if s4 = true then none else some (⟨V1, V2, b.take (b.length - t4.length), v⟩, b.drop (b.length - t4.length)) := by
  obtain ⟨rfl, rfl, rfl⟩ := E1
  obtain ⟨rfl, rfl, rfl⟩ := E2
  subst hz
  obtain ⟨rfl, rfl, rfl⟩ := E3
  obtain ⟨rfl, rfl, rfl⟩ := E4
  rfl
/-- What a split hands back. -/
def RetSp (w : World) (A : Option Addr) (r : Option (One × List UInt8)) (e : Ending) (w' : World) : Prop := Below w.heap.size w w' ∧ match r with
  | none => e = .returned (.tuple #[.agg #[.int .i64 0, .int .i64 0, .slice none 0 0, .slice none 0 0], .slice none 0 0, .bool false])
  | some q => ∃ (A1 : Option Addr) (n1 c1 : Nat) (A2 : Option Addr) (n2 c2 : Nat) (A3 : Option Addr) (n3 c3 : Nat), e = .returned (.tuple #[.agg #[.int .i64 q.1.fl, .int .i64 q.1.kind, .slice A1 n1 c1, .slice A2 n2 c2], .slice A3 n3 c3, .bool true]) ∧ BS w' w.heap.size A1 n1 q.1.all ∧ OB w' 5 w.heap.size A2 n2 c2 q.1.val ∧ BS w' w.heap.size A3 n3 q.2 ∧ n3 ≤ c3 ∧ (0 ≤ q.1.fl ∧ q.1.fl ≤ 255) ∧ (0 ≤ q.1.kind ∧ q.1.kind ≤ 255) ∧ A1 = A ∧ (∀ ad a0, A3 = some ad → A = some a0 → ad.block = a0.block) ∧ n1 ≤ c1
set_option maxHeartbeats 8000000 in
set_option maxRecDepth 100000 in
theorem attSplit (A : Option Addr) (n c : Nat) (b : List UInt8) (w : World) (h : BS w w.heap.size A n b) (hn : n ≤ 140737488355320) (hc : n ≤ c) :
    Calls Tryd.prog 100 #[.slice A n c] w (RetSp w A (splitA b)) := by
  have hl : b.length ≤ 140737488355320 := by rw [← h.len]; exact hn
  have HLN := Lib.hid h.len
  obtain ⟨W, hW, hR, b0⟩ := box1c w #[.int .i64 0, .int .i64 0, .slice none 0 0, .slice none 0 0] 117
  have hRl := hR.lt
  have hWz := b0.size
  have hWz0 := b0.size
  obtain ⟨q, hq⟩ : ∃ q, w.heap.size = q := ⟨_, rfl⟩
  have HQ := Lib.hid hq
  go_enter Tryd.func100, Tryd.ntmps100
  go_upto_region 1 with fail
  try rw [hW]
  rw [hq] at hR hRl hWz
  try rw [hq]
  have h0 := h.call b0
  have HH := Lib.hid h
  clear hW hq h
  go_wp2_with fail
  refine (rbNew A n c b _ h0 hn).mono ?_
  rintro _ w1 ⟨g, rfl, hg, r1, b1⟩
  have b01 := btr b0 b1 b0.size
  have hR_1 := hR.below b1 hR.lt
  have hgl := r1.lt
  have hz1 := b01.size
  obtain ⟨V1, t1, s1, E1⟩ : ∃ v1 l1 s1, numL (tkOut b false (1 : Nat)) = v1 ∧ tkLeft b false (1 : Nat) = l1 ∧ tkShort b false (1 : Nat) = s1 := ⟨_, _, _, rfl, rfl, rfl⟩
  obtain ⟨V2, t2, s2, E2⟩ : ∃ v1 l1' s1', numL (tkOut t1 s1 (1 : Nat)) = v1 ∧ tkLeft t1 s1 (1 : Nat) = l1' ∧ tkShort t1 s1 (1 : Nat) = s1' := ⟨_, _, _, rfl, rfl, rfl⟩
  obtain ⟨z, hz⟩ : ∃ z, szV V1 = z := ⟨_, rfl⟩
  obtain ⟨V3, t3, s3, E3⟩ : ∃ v1 l1' s1', numL (tkOut t2 s2 z) = v1 ∧ tkLeft t2 s2 z = l1' ∧ tkShort t2 s2 z = s1' := ⟨_, _, _, rfl, rfl, rfl⟩
  obtain ⟨v, t4, s4, E4⟩ : ∃ v1 l1' s1', tkOut t3 s3 V3 = v1 ∧ tkLeft t3 s3 V3 = l1' ∧ tkShort t3 s3 V3 = s1' := ⟨_, _, _, rfl, rfl, rfl⟩
  have HS := Lib.hid (splitA_eq E1 E2 hz E3 E4)
  have L1 : t1.length ≤ b.length := by rw [← E1.2.1]; exact tkLeft_len _ _ _
  have L2 : t2.length ≤ t1.length := by rw [← E2.2.1]; exact tkLeft_len _ _ _
  have L3 : t3.length ≤ t2.length := by rw [← E3.2.1]; exact tkLeft_len _ _ _
  have L4 : t4.length ≤ t3.length := by rw [← E4.2.1]; exact tkLeft_len _ _ _
  have hV1 : V1 < 256 := by rw [← E1.1]; exact tkOut_num b false 1
  have hV2 : V2 < 256 := by rw [← E2.1]; exact tkOut_num t1 s1 1
  have H1 := Lib.hid E1
  clear E1
  have H2 := Lib.hid E2
  clear E2
  have H3 := Lib.hid E3
  clear E3
  have H4 := Lib.hid E4
  clear E4
  have HZ := Lib.hid hz
  clear hz
  go_wp2_with fail
  refine (rbByte g b false _ r1 hl).mono ?_
  rw [H1.out.1, H1.out.2.1, H1.out.2.2]
  rintro _ w2 ⟨rfl, r2, g2⟩
  have z2 := g2.size
  have b02 := at_below b01 g2 b01.size (by omega)
  have hR_2 := hR_1.grown g2 (by intro e; injection e with e; omega)
  clear hR_1
  go_wp2_with fail
  refine (rbByte g t1 s1 _ r2 (by omega)).mono ?_
  rw [H2.out.1, H2.out.2.1, H2.out.2.2]
  rintro _ w3 ⟨rfl, r3, g3⟩
  have z3 := g3.size
  have b03 := at_below b02 g3 b02.size (by omega)
  have hR_3 := hR_2.grown g3 (by intro e; injection e with e; omega)
  clear hR_2
  go_upto_region 3 with fail
  obtain ⟨w4, hw4, hO, b4⟩ := box1c w3 #[.int .i64 V1, .int .i64 V2, .slice none 0 0, .slice none 0 0] 117
  try rw [hw4]
  have hOl := hO.lt
  obtain ⟨k, hk⟩ : ∃ k, w3.heap.size = k := ⟨_, rfl⟩
  have r4 := r3.below b4 (by omega) (by omega)
  rw [hk] at hO hOl z3
  have b4z := b4.size
  rw [hk] at b4z
  have b4 := b4
  clear hw4
  have b04 := btr b03 b4 b03.size
  have hR_4 := hR_3.below b4 hR_3.lt
  clear hR_3
  try rw [hk]
  clear hk
  have c_hO0 := hO.cell 0
  have e16 := and16 hV1
  by_cases h16 : V1 / 16 % 2 = 1
  · have hz2 : z = 2 := by rw [← HZ.out]; unfold szV; rw [if_pos h16]
    subst hz2
    rw [h16] at e16
    go_wp2_with fail
    refine (rbU16 g t2 s2 _ r4 (by omega)).mono ?_
    rw [H3.out.1, H3.out.2.1, H3.out.2.2]
    rintro _ w5 ⟨rfl, r5, g5⟩
    clear c_hO0
    have z5 := g5.size
    have b05 := at_below b04 g5 b04.size (by omega)
    have hR_5 := hR_4.grown g5 (by intro e; injection e with e; omega)
    clear hR_4
    have hO_5 := hO.grown g5 (by intro e; injection e with e; omega)
    have c_hO0 := hO_5.cell 0
    clear c_hO0
    have c_hO0 := hO_5.cell 0
    have f_hO0 := hO_5.frozen 0
    have c_hO1 := hO_5.cell 1
    have f_hO1 := hO_5.frozen 1
    have c_hO2 := hO_5.cell 2
    have f_hO2 := hO_5.frozen 2
    have c_hO3 := hO_5.cell 3
    have f_hO3 := hO_5.frozen 3
    go_wp2_with fail
    refine (rbTake g t3 s3 (V3 : Int) _ r5 (by omega)).mono ?_
    rintro _ w6 ⟨A6, n6, c6, rfl, o6, r6, g6⟩
    clear c_hO0 f_hO0 c_hO1 f_hO1 c_hO2 f_hO2 c_hO3 f_hO3
    have z6 := g6.size
    have b06 := at_below b05 g6 b05.size (by omega)
    have hR_6 := hR_5.grown g6 (by intro e; injection e with e; omega)
    clear hR_5
    have hO_6 := hO_5.grown g6 (by intro e; injection e with e; omega)
    clear hO_5
    have c_hO0 := hO_6.cell 0
    have f_hO0 := hO_6.frozen 0
    have c_hO1 := hO_6.cell 1
    have f_hO1 := hO_6.frozen 1
    have c_hO2 := hO_6.cell 2
    have f_hO2 := hO_6.frozen 2
    have c_hO3 := hO_6.cell 3
    have f_hO3 := hO_6.frozen 3
    rw [H4.out.1] at o6
    rw [H4.out.2.1, H4.out.2.2] at r6
    go_upto_region 8 with fail
    obtain ⟨w7, hw7⟩ : ∃ x, w6.setCell ⟨k, 3, none⟩ (.slice A6 n6 c6) = x := ⟨_, rfl⟩
    have r7 := r6.setCell (p := ⟨k, 3, none⟩) (by show _ ≤ k; omega) (by show k ≠ g; omega) (.slice A6 n6 c6)
    have o7 := o6.grownAt (only_setCell (World.grownBy.refl w6 (some k)) (p := ⟨k, 3, none⟩) (.inl rfl) (.slice A6 n6 c6)) (by omega)
    have hO7 := hO_6.set_ 3 (.slice A6 n6 c6)
    simp only [List.setIfInBounds_toArray, List.set_cons_succ, List.set_cons_zero] at hO7
    have hR7 := hR_6.far (p := ⟨k, 3, none⟩) (by show q ≠ k; omega) (.slice A6 n6 c6)
    have b07 := b06.setCell (p := ⟨k, 3, none⟩) (by show w.heap.size ≤ k; have := HQ.out; omega) (.slice A6 n6 c6)
    rw [hw7] at r7 o7 hO7 hR7 b07
    rw [hw7]
    clear hw7
    go_wp2_with fail
    refine (rbErr g t4 s4 _ r7).mono ?_
    rintro _ _ ⟨rfl, rfl⟩
    cases s4
    case true =>
      have HF := Lib.hid (show splitA b = none by rw [HS.out]; rfl)
      have x0 := hR7.cell 0
      have x1 := hR7.cell 1
      have x2 := hR7.cell 2
      have x3 := hR7.cell 3
      have y0 := hR7.frozen 0
      have y1 := hR7.frozen 1
      have y2 := hR7.frozen 2
      have y3 := hR7.frozen 3
      go_wp2_with fail
      have hqle : w.heap.size ≤ q := Nat.le_of_eq HQ.out
      have bE := (((b07.setCell (p := ⟨q, 0, none⟩) hqle (.int .i64 0)).setCell (p := ⟨q, 1, none⟩) hqle (.int .i64 0)).setCell (p := ⟨q, 2, none⟩) hqle (.slice none 0 0)).setCell (p := ⟨q, 3, none⟩) hqle (.slice none 0 0)
      have hE := (((hR7.set_ 0 (.int .i64 0)).set_ 1 (.int .i64 0)).set_ 2 (.slice none 0 0)).set_ 3 (.slice none 0 0)
      simp only [List.setIfInBounds_toArray, List.set_cons_succ, List.set_cons_zero] at hE
      exact bodyPost_ret (one_ret rfl _ _ q _ _ _ _ _ _ rfl rfl rfl hE) rfl ⟨bE, by rw [HF.out]; rfl⟩
    obtain ⟨M, hM⟩ : ∃ M, n - t4.length = M := ⟨_, rfl⟩
    have HM := Lib.hid (show splitA b = some (⟨V1, V2, b.take M, v⟩, b.drop M) by rw [HS.out, ← hM, ← HLN.out]; rfl)
    have HLE := Lib.hid (show t4.length ≤ n by have := HLN.out; omega)
    have hMn : M ≤ n := by omega
    have hMc : M ≤ c := by omega
    have hMni : (M : Int) ≤ (n : Int) := by omega
    have wM : IntKind.i64.wrap ((n : Int) - (t4.length : Int)) = (M : Int) := by rw [show (n : Int) - (t4.length : Int) = (M : Int) by have := HLE.out; omega]; exact IntWalk.i64_in _ ⟨by omega, by omega⟩
    have HLF := Lib.hid (show ∀ w', RB w1.heap.size w' g t4 false → Calls Tryd.prog 79 #[.pointer (some ⟨g, 0, none⟩)] w' fun en w'' => en = .returned (.int .i64 ((t4.length : Nat) : Int)) ∧ w' = w'' from fun w' h => rbLeft g t4 false w' h)
    clear hM
    have e2 := hO7.cell 2
    have f2 := hO7.frozen 2
    go_wp2_with fail
    refine (HLF.out _ r7).mono ?_
    rintro _ _ ⟨rfl, rfl⟩
    go_upto_region 11 with fail
    all_goals
      obtain ⟨w8, hw8⟩ : ∃ x, w7.setCell ⟨k, 2, none⟩ (.slice A M c) = x := ⟨_, rfl⟩
      have r8 := r7.setCell (p := ⟨k, 2, none⟩) (by show _ ≤ k; omega) (by show k ≠ g; omega) (.slice A M c)
      have o8 := o7.grownAt (only_setCell (World.grownBy.refl w7 (some k)) (p := ⟨k, 2, none⟩) (.inl rfl) (.slice A M c)) (by omega)
      have hO8 := hO7.set_ 2 (.slice A M c)
      simp only [List.setIfInBounds_toArray, List.set_cons_succ, List.set_cons_zero] at hO8
      have hR8 := hR7.far (p := ⟨k, 2, none⟩) (by show q ≠ k; omega) (.slice A M c)
      have b08 := b07.setCell (p := ⟨k, 2, none⟩) (by show w.heap.size ≤ k; have := HQ.out; omega) (.slice A M c)
      rw [hw8] at r8 o8 hO8 hR8 b08
      rw [hw8]
      clear hw8 e2 f2
      have hOd : Blk w8.drew k 117 #[.int .i64 V1, .int .i64 V2, .slice A M c, .slice A6 n6 c6] := hO8
      have hRd : Blk w8.drew q 117 #[.int .i64 0, .int .i64 0, .slice none 0 0, .slice none 0 0] := hR8
      have rd : RB w1.heap.size w8.drew g t4 false := r8
      have od : OB w8.drew 5 w5.heap.size A6 n6 c6 v := o8
      have bd : Below w.heap.size w w8.drew := b08.drew
      obtain ⟨wd, hwd⟩ : ∃ x, w8.drew = x := ⟨_, rfl⟩
      rw [hwd] at hOd hRd rd od bd
      have HWD := Lib.hid hwd
      clear hwd
      have d0 := hOd.cell 0
      have d1 := hOd.cell 1
      have d2 := hOd.cell 2
      have d3 := hOd.cell 3
      have x0 := hRd.cell 0
      have x1 := hRd.cell 1
      have x2 := hRd.cell 2
      have x3 := hRd.cell 3
      have y0 := hRd.frozen 0
      have y1 := hRd.frozen 1
      have y2 := hRd.frozen 2
      have y3 := hRd.frozen 3
      have HEND := Lib.hid (show ∀ (A3 : Option Addr) (n3 c3 : Nat), A3 = (if c = M then A else A.map (·.add M)) → n3 = n - M → c3 = c - M → RetSp w A (splitA b) (.returned (.tuple #[.agg #[.int .i64 V1, .int .i64 V2, .slice A M c, .slice A6 n6 c6], .slice A3 n3 c3, .bool true])) ((((wd.setCell ⟨q, 0, none⟩ (.int .i64 V1)).setCell ⟨q, 1, none⟩ (.int .i64 V2)).setCell ⟨q, 2, none⟩ (.slice A M c)).setCell ⟨q, 3, none⟩ (.slice A6 n6 c6)) from by
        rintro A3 n3 c3 rfl rfl rfl
        have hqle : w.heap.size ≤ q := Nat.le_of_eq HQ.out
        have bE := (((bd.setCell (p := ⟨q, 0, none⟩) hqle (.int .i64 V1)).setCell (p := ⟨q, 1, none⟩) hqle (.int .i64 V2)).setCell (p := ⟨q, 2, none⟩) hqle (.slice A M c)).setCell (p := ⟨q, 3, none⟩) hqle (.slice A6 n6 c6)
        have gE := only_setCell (only_setCell (only_setCell (only_setCell (World.grownBy.refl wd (some q)) (p := ⟨q, 0, none⟩) (.inl rfl) (.int .i64 V1)) (p := ⟨q, 1, none⟩) (.inl rfl) (.int .i64 V2)) (p := ⟨q, 2, none⟩) (.inl rfl) (.slice A M c)) (p := ⟨q, 3, none⟩) (.inl rfl) (.slice A6 n6 c6)
        have hE := HH.out.below bE
        refine ⟨bE, ?_⟩
        rw [HM.out]
        refine ⟨A, M, c, A6, n6, c6, _, _, _, rfl, hE.take_ hMn, (od.grownAt gE (by omega)).low (by have := HQ.out; omega), hE.drop_ hMn hc, by omega, ⟨by show (0 : Int) ≤ (V1 : Int); omega, by show (V1 : Int) ≤ 255; omega⟩, ⟨by show (0 : Int) ≤ (V2 : Int); omega, by show (V2 : Int) ≤ 255; omega⟩, rfl, fun ad a0 e e0 => by
              subst e0
              split at e
              · injection e with e; rw [e]
              · simp only [Option.map_some] at e
                injection e with e
                rw [← e, block_of_add], hMc⟩)
      have HENDB := Lib.hid (show Blk ((((wd.setCell ⟨q, 0, none⟩ (.int .i64 V1)).setCell ⟨q, 1, none⟩ (.int .i64 V2)).setCell ⟨q, 2, none⟩ (.slice A M c)).setCell ⟨q, 3, none⟩ (.slice A6 n6 c6)) q 117 #[.int .i64 V1, .int .i64 V2, .slice A M c, .slice A6 n6 c6] from by
        have hE := (((hRd.set_ 0 (.int .i64 V1)).set_ 1 (.int .i64 V2)).set_ 2 (.slice A M c)).set_ 3 (.slice A6 n6 c6)
        simp only [List.setIfInBounds_toArray, List.set_cons_succ, List.set_cons_zero] at hE
        exact hE)
      rename_i hkk
      have HKK := Lib.hid hkk
      have RD := Lib.hid rd
      try clear rd
      try clear od
      try clear bd
      try clear hOd
      try clear hRd
      try clear r8
      try clear o8
      try clear hO8
      try clear hR8
      try clear b08
      try clear c_hO0
      try clear c_hO1
      try clear c_hO2
      try clear c_hO3
      try clear f_hO0
      try clear f_hO1
      try clear f_hO2
      try clear f_hO3
      try clear hO_7
      try clear hR_7
      try clear r7
      try clear o7
      try clear hO7
      try clear hR7
      try clear b07
      try clear z7
      try clear g7
      try clear b7
      try clear hO_6
      try clear hR_6
      try clear r6
      try clear o6
      try clear hO6
      try clear hR6
      try clear b06
      try clear z6
      try clear g6
      try clear b6
      try clear hO_5
      try clear hR_5
      try clear r5
      try clear o5
      try clear hO5
      try clear hR5
      try clear b05
      try clear z5
      try clear g5
      try clear b5
      try clear hO_4
      try clear hR_4
      try clear r4
      try clear o4
      try clear hO4
      try clear hR4
      try clear b04
      try clear z4
      try clear g4
      try clear b4
      try clear hO_3
      try clear hR_3
      try clear r3
      try clear o3
      try clear hO3
      try clear hR3
      try clear b03
      try clear z3
      try clear g3
      try clear b3
      try clear hO_2
      try clear hR_2
      try clear r2
      try clear o2
      try clear hO2
      try clear hR2
      try clear b02
      try clear z2
      try clear g2
      try clear b2
      try clear hO_1
      try clear hR_1
      try clear r1
      try clear o1
      try clear hO1
      try clear hR1
      try clear b01
      try clear z1
      try clear g1
      try clear b1
      try clear hO
      try clear hR
      try clear hOl
      try clear hRl
      try clear hgl
      try clear hz1
      try clear hWz
      try clear hWz0
      try clear h0
      try clear b0
      try clear b4z
      try clear e16
      try clear h16
      try clear L4
      try clear L3
      try clear L2
      try clear L1
      try clear hV1
      try clear hV2
      try clear hl
      try clear hn
      try clear hg
      by_cases hcM : c = M
      · subst hcM
        refine wp_region_held_drew (S := (fun _ => True)) (by kernel_rfl) ?_ (fun hHeld => ?_)
        · first | done | trivial
        rw [HWD.out]
        refine wpAnyH_take (i := 1) (v := ?a1v1) rfl (by kernel_rfl) (by kernel_rfl) (by kernel_rfl) (by intro _ _ _ h; exact h) (Or.inl ⟨by rfl, ?a1hy1⟩) (by assumption) ?a1rest1
        case a1hy1 => (intro w hSw; (try dsimp only at hSw); go_simp; try with_reducible rfl)
        try simp only [Act.put, List.getElem_toArray, List.getElem_cons_succ, List.getElem_cons_zero, List.setIfInBounds_toArray, List.set_cons_zero, List.set_cons_succ]
        refine wpAnyH_take (i := 2) (v := ?a1v2) rfl (by kernel_rfl) (by kernel_rfl) (by kernel_rfl) (by intro _ _ _ h; exact h) (Or.inl ⟨by rfl, ?a1hy2⟩) (by assumption) ?a1rest2
        case a1hy2 => (intro w hSw; (try dsimp only at hSw); go_simp; try with_reducible rfl)
        try simp only [Act.put, List.getElem_toArray, List.getElem_cons_succ, List.getElem_cons_zero, List.setIfInBounds_toArray, List.set_cons_zero, List.set_cons_succ]
        refine wpAnyH_take (i := 4) (v := ?a1v4) rfl (by kernel_rfl) (by kernel_rfl) (by kernel_rfl) (by intro _ _ _ h; exact h) (Or.inl ⟨by rfl, ?a1hy4⟩) (by assumption) ?a1rest4
        case a1hy4 => (intro w hSw; (try dsimp only at hSw); go_simp; try with_reducible rfl)
        try simp only [Act.put, List.getElem_toArray, List.getElem_cons_succ, List.getElem_cons_zero, List.setIfInBounds_toArray, List.set_cons_zero, List.set_cons_succ]
        refine wpAnyH_take (i := 3) (v := ?a1v3) rfl (by kernel_rfl) (by kernel_rfl) (by kernel_rfl) (by intro _ _ _ h; exact h) (Or.inl ⟨by rfl, ?a1hy3⟩) (by assumption) ?a1rest3
        case a1hy3 => (intro w hSw; (try dsimp only at hSw); go_simp; try with_reducible rfl)
        try simp only [Act.put, List.getElem_toArray, List.getElem_cons_succ, List.getElem_cons_zero, List.setIfInBounds_toArray, List.set_cons_zero, List.set_cons_succ]
        refine wpAnyH_ready (rs := [0, 5]) (by kernel_rfl) (by simp) ?_
        refine AllReadyH.cons rfl (fun K hK => ?_) (AllReadyH.cons rfl (fun K hK => ?_) AllReadyH.nil)
        · skip
          go_simp
          go_wp2_with (fail)
          refine hK.out _ _ trivial (fun hHeld => ?_)
          clear hK K
          refine wpAnyH_ready (rs := [5]) (by kernel_rfl) (by simp) ?_
          refine AllReadyH.cons rfl (fun K hK => ?_) AllReadyH.nil
          go_simp
          go_wp2_with ((go_at_call 79; refine (HLF.out _ RD.out).mono ?_; rintro _ _ ⟨rfl, rfl⟩))
          refine hK.out _ _ trivial (fun hHeld => ?_)
          clear hK K
          refine wpAnyH_take (i := 6) (v := ?a1xv6) rfl (by kernel_rfl) (by kernel_rfl) (by kernel_rfl) (by intro _ _ _ h; exact h) (Or.inl ⟨by rfl, ?a1xhy6⟩) (by assumption) ?a1xrest6
          case a1xhy6 => (intro w hSw; (try dsimp only at hSw); go_simp; try with_reducible rfl)
          try simp only [Act.put, List.getElem_toArray, List.getElem_cons_succ, List.getElem_cons_zero, List.setIfInBounds_toArray, List.set_cons_zero, List.set_cons_succ]
          refine wpAnyH_take (i := 7) (v := ?a1xv7) rfl (by kernel_rfl) (by kernel_rfl) (by kernel_rfl) (by intro _ _ _ h; exact h) (Or.inl ⟨by rfl, ?a1xhy7⟩) (by assumption) ?a1xrest7
          case a1xhy7 => (intro w hSw; (try dsimp only at hSw); go_simp; try with_reducible rfl)
          try simp only [Act.put, List.getElem_toArray, List.getElem_cons_succ, List.getElem_cons_zero, List.setIfInBounds_toArray, List.set_cons_zero, List.set_cons_succ]
          refine wpAnyH_ready (rs := [8]) (by kernel_rfl) (by simp) ?_
          refine AllReadyH.cons rfl (fun K hK => ?_) AllReadyH.nil
          go_simp
          go_wp2_with (fail)
          refine hK.out _ _ trivial (fun hHeld => ?_)
          clear hK K
          refine wpAnyH_ready (rs := [9]) (by kernel_rfl) (by simp) ?_
          refine AllReadyH.cons rfl (fun K hK => ?_) AllReadyH.nil
          go_simp
          go_wp2_with (fail)
          refine hK.out _ _ trivial (fun hHeld => ?_)
          clear hK K
          refine wpAnyH_ready (rs := [10]) (by kernel_rfl) (by simp) ?_
          refine AllReadyH.cons rfl (fun K hK => ?_) AllReadyH.nil
          go_simp
          go_wp2_with (fail)
          refine hK.out _ _ trivial (fun hHeld => ?_)
          clear hK K
          refine wpAnyH_done (by kernel_rfl) ?_ _
          refine HKK.out _ _ ?_
          go_wp2_with fail
          refine bodyPost_ret (one_ret rfl _ _ q _ _ _ _ (.slice _ _ _) (.bool true) rfl rfl rfl HENDB.out) rfl (HEND.out _ _ _ ?_ ?_ ?_)
          · first | (simp; done) | (rw [if_neg hcM]; done) | (trace_state; sorry)
          · first | rfl | omega
          · first | rfl | omega
        · skip
          go_simp
          go_wp2_with ((go_at_call 79; refine (HLF.out _ RD.out).mono ?_; rintro _ _ ⟨rfl, rfl⟩))
          refine hK.out _ _ trivial (fun hHeld => ?_)
          clear hK K
          refine wpAnyH_take (i := 6) (v := ?a1yv6) rfl (by kernel_rfl) (by kernel_rfl) (by kernel_rfl) (by intro _ _ _ h; exact h) (Or.inl ⟨by rfl, ?a1yhy6⟩) (by assumption) ?a1yrest6
          case a1yhy6 => (intro w hSw; (try dsimp only at hSw); go_simp; try with_reducible rfl)
          try simp only [Act.put, List.getElem_toArray, List.getElem_cons_succ, List.getElem_cons_zero, List.setIfInBounds_toArray, List.set_cons_zero, List.set_cons_succ]
          refine wpAnyH_take (i := 7) (v := ?a1yv7) rfl (by kernel_rfl) (by kernel_rfl) (by kernel_rfl) (by intro _ _ _ h; exact h) (Or.inl ⟨by rfl, ?a1yhy7⟩) (by assumption) ?a1yrest7
          case a1yhy7 => (intro w hSw; (try dsimp only at hSw); go_simp; try with_reducible rfl)
          try simp only [Act.put, List.getElem_toArray, List.getElem_cons_succ, List.getElem_cons_zero, List.setIfInBounds_toArray, List.set_cons_zero, List.set_cons_succ]
          refine wpAnyH_ready (rs := [0]) (by kernel_rfl) (by simp) ?_
          refine AllReadyH.cons rfl (fun K hK => ?_) AllReadyH.nil
          go_simp
          go_wp2_with (fail)
          refine hK.out _ _ trivial (fun hHeld => ?_)
          clear hK K
          refine wpAnyH_ready (rs := [8]) (by kernel_rfl) (by simp) ?_
          refine AllReadyH.cons rfl (fun K hK => ?_) AllReadyH.nil
          go_simp
          go_wp2_with (fail)
          refine hK.out _ _ trivial (fun hHeld => ?_)
          clear hK K
          refine wpAnyH_ready (rs := [9]) (by kernel_rfl) (by simp) ?_
          refine AllReadyH.cons rfl (fun K hK => ?_) AllReadyH.nil
          go_simp
          go_wp2_with (fail)
          refine hK.out _ _ trivial (fun hHeld => ?_)
          clear hK K
          refine wpAnyH_ready (rs := [10]) (by kernel_rfl) (by simp) ?_
          refine AllReadyH.cons rfl (fun K hK => ?_) AllReadyH.nil
          go_simp
          go_wp2_with (fail)
          refine hK.out _ _ trivial (fun hHeld => ?_)
          clear hK K
          refine wpAnyH_done (by kernel_rfl) ?_ _
          refine HKK.out _ _ ?_
          go_wp2_with fail
          refine bodyPost_ret (one_ret rfl _ _ q _ _ _ _ (.slice _ _ _) (.bool true) rfl rfl rfl HENDB.out) rfl (HEND.out _ _ _ ?_ ?_ ?_)
          · first | (simp; done) | (rw [if_neg hcM]; done) | (trace_state; sorry)
          · first | rfl | omega
          · first | rfl | omega
      · refine wp_region_held_drew (S := (fun _ => True)) (by kernel_rfl) ?_ (fun hHeld => ?_)
        · first | done | trivial
        rw [HWD.out]
        refine wpAnyH_take (i := 1) (v := ?a2v1) rfl (by kernel_rfl) (by kernel_rfl) (by kernel_rfl) (by intro _ _ _ h; exact h) (Or.inl ⟨by rfl, ?a2hy1⟩) (by assumption) ?a2rest1
        case a2hy1 => (intro w hSw; (try dsimp only at hSw); go_simp; try with_reducible rfl)
        try simp only [Act.put, List.getElem_toArray, List.getElem_cons_succ, List.getElem_cons_zero, List.setIfInBounds_toArray, List.set_cons_zero, List.set_cons_succ]
        refine wpAnyH_take (i := 2) (v := ?a2v2) rfl (by kernel_rfl) (by kernel_rfl) (by kernel_rfl) (by intro _ _ _ h; exact h) (Or.inl ⟨by rfl, ?a2hy2⟩) (by assumption) ?a2rest2
        case a2hy2 => (intro w hSw; (try dsimp only at hSw); go_simp; try with_reducible rfl)
        try simp only [Act.put, List.getElem_toArray, List.getElem_cons_succ, List.getElem_cons_zero, List.setIfInBounds_toArray, List.set_cons_zero, List.set_cons_succ]
        refine wpAnyH_take (i := 4) (v := ?a2v4) rfl (by kernel_rfl) (by kernel_rfl) (by kernel_rfl) (by intro _ _ _ h; exact h) (Or.inl ⟨by rfl, ?a2hy4⟩) (by assumption) ?a2rest4
        case a2hy4 => (intro w hSw; (try dsimp only at hSw); go_simp; try with_reducible rfl)
        try simp only [Act.put, List.getElem_toArray, List.getElem_cons_succ, List.getElem_cons_zero, List.setIfInBounds_toArray, List.set_cons_zero, List.set_cons_succ]
        refine wpAnyH_take (i := 3) (v := ?a2v3) rfl (by kernel_rfl) (by kernel_rfl) (by kernel_rfl) (by intro _ _ _ h; exact h) (Or.inl ⟨by rfl, ?a2hy3⟩) (by assumption) ?a2rest3
        case a2hy3 => (intro w hSw; (try dsimp only at hSw); go_simp; try with_reducible rfl)
        try simp only [Act.put, List.getElem_toArray, List.getElem_cons_succ, List.getElem_cons_zero, List.setIfInBounds_toArray, List.set_cons_zero, List.set_cons_succ]
        refine wpAnyH_ready (rs := [0, 5]) (by kernel_rfl) (by simp) ?_
        refine AllReadyH.cons rfl (fun K hK => ?_) (AllReadyH.cons rfl (fun K hK => ?_) AllReadyH.nil)
        · skip
          go_simp
          go_wp2_with (fail)
          refine hK.out _ _ trivial (fun hHeld => ?_)
          clear hK K
          refine wpAnyH_ready (rs := [5]) (by kernel_rfl) (by simp) ?_
          refine AllReadyH.cons rfl (fun K hK => ?_) AllReadyH.nil
          go_simp
          go_wp2_with ((go_at_call 79; refine (HLF.out _ RD.out).mono ?_; rintro _ _ ⟨rfl, rfl⟩))
          refine hK.out _ _ trivial (fun hHeld => ?_)
          clear hK K
          refine wpAnyH_take (i := 6) (v := ?a2xv6) rfl (by kernel_rfl) (by kernel_rfl) (by kernel_rfl) (by intro _ _ _ h; exact h) (Or.inl ⟨by rfl, ?a2xhy6⟩) (by assumption) ?a2xrest6
          case a2xhy6 => (intro w hSw; (try dsimp only at hSw); go_simp; try with_reducible rfl)
          try simp only [Act.put, List.getElem_toArray, List.getElem_cons_succ, List.getElem_cons_zero, List.setIfInBounds_toArray, List.set_cons_zero, List.set_cons_succ]
          refine wpAnyH_take (i := 7) (v := ?a2xv7) rfl (by kernel_rfl) (by kernel_rfl) (by kernel_rfl) (by intro _ _ _ h; exact h) (Or.inl ⟨by rfl, ?a2xhy7⟩) (by assumption) ?a2xrest7
          case a2xhy7 => (intro w hSw; (try dsimp only at hSw); go_simp; try with_reducible rfl)
          try simp only [Act.put, List.getElem_toArray, List.getElem_cons_succ, List.getElem_cons_zero, List.setIfInBounds_toArray, List.set_cons_zero, List.set_cons_succ]
          refine wpAnyH_ready (rs := [8]) (by kernel_rfl) (by simp) ?_
          refine AllReadyH.cons rfl (fun K hK => ?_) AllReadyH.nil
          go_simp
          go_wp2_with (fail)
          refine hK.out _ _ trivial (fun hHeld => ?_)
          clear hK K
          refine wpAnyH_ready (rs := [9]) (by kernel_rfl) (by simp) ?_
          refine AllReadyH.cons rfl (fun K hK => ?_) AllReadyH.nil
          go_simp
          go_wp2_with (fail)
          refine hK.out _ _ trivial (fun hHeld => ?_)
          clear hK K
          refine wpAnyH_ready (rs := [10]) (by kernel_rfl) (by simp) ?_
          refine AllReadyH.cons rfl (fun K hK => ?_) AllReadyH.nil
          go_simp
          go_wp2_with (fail)
          refine hK.out _ _ trivial (fun hHeld => ?_)
          clear hK K
          refine wpAnyH_done (by kernel_rfl) ?_ _
          refine HKK.out _ _ ?_
          go_wp2_with fail
          refine bodyPost_ret (one_ret rfl _ _ q _ _ _ _ (.slice _ _ _) (.bool true) rfl rfl rfl HENDB.out) rfl (HEND.out _ _ _ ?_ ?_ ?_)
          · first | (simp; done) | (rw [if_neg hcM]; done) | (trace_state; sorry)
          · first | rfl | omega
          · first | rfl | omega
        · skip
          go_simp
          go_wp2_with ((go_at_call 79; refine (HLF.out _ RD.out).mono ?_; rintro _ _ ⟨rfl, rfl⟩))
          refine hK.out _ _ trivial (fun hHeld => ?_)
          clear hK K
          refine wpAnyH_take (i := 6) (v := ?a2yv6) rfl (by kernel_rfl) (by kernel_rfl) (by kernel_rfl) (by intro _ _ _ h; exact h) (Or.inl ⟨by rfl, ?a2yhy6⟩) (by assumption) ?a2yrest6
          case a2yhy6 => (intro w hSw; (try dsimp only at hSw); go_simp; try with_reducible rfl)
          try simp only [Act.put, List.getElem_toArray, List.getElem_cons_succ, List.getElem_cons_zero, List.setIfInBounds_toArray, List.set_cons_zero, List.set_cons_succ]
          refine wpAnyH_take (i := 7) (v := ?a2yv7) rfl (by kernel_rfl) (by kernel_rfl) (by kernel_rfl) (by intro _ _ _ h; exact h) (Or.inl ⟨by rfl, ?a2yhy7⟩) (by assumption) ?a2yrest7
          case a2yhy7 => (intro w hSw; (try dsimp only at hSw); go_simp; try with_reducible rfl)
          try simp only [Act.put, List.getElem_toArray, List.getElem_cons_succ, List.getElem_cons_zero, List.setIfInBounds_toArray, List.set_cons_zero, List.set_cons_succ]
          refine wpAnyH_ready (rs := [0]) (by kernel_rfl) (by simp) ?_
          refine AllReadyH.cons rfl (fun K hK => ?_) AllReadyH.nil
          go_simp
          go_wp2_with (fail)
          refine hK.out _ _ trivial (fun hHeld => ?_)
          clear hK K
          refine wpAnyH_ready (rs := [8]) (by kernel_rfl) (by simp) ?_
          refine AllReadyH.cons rfl (fun K hK => ?_) AllReadyH.nil
          go_simp
          go_wp2_with (fail)
          refine hK.out _ _ trivial (fun hHeld => ?_)
          clear hK K
          refine wpAnyH_ready (rs := [9]) (by kernel_rfl) (by simp) ?_
          refine AllReadyH.cons rfl (fun K hK => ?_) AllReadyH.nil
          go_simp
          go_wp2_with (fail)
          refine hK.out _ _ trivial (fun hHeld => ?_)
          clear hK K
          refine wpAnyH_ready (rs := [10]) (by kernel_rfl) (by simp) ?_
          refine AllReadyH.cons rfl (fun K hK => ?_) AllReadyH.nil
          go_simp
          go_wp2_with (fail)
          refine hK.out _ _ trivial (fun hHeld => ?_)
          clear hK K
          refine wpAnyH_done (by kernel_rfl) ?_ _
          refine HKK.out _ _ ?_
          go_wp2_with fail
          refine bodyPost_ret (one_ret rfl _ _ q _ _ _ _ (.slice _ _ _) (.bool true) rfl rfl rfl HENDB.out) rfl (HEND.out _ _ _ ?_ ?_ ?_)
          · first | (simp; done) | (rw [if_neg hcM]; done) | (trace_state; sorry)
          · first | rfl | omega
          · first | rfl | omega
  · have hz2 : z = 1 := by rw [← HZ.out]; unfold szV; rw [if_neg h16]
    subst hz2
    rw [show V1 / 16 % 2 = 0 by omega] at e16
    go_wp2_with fail
    refine (rbByte g t2 s2 _ r4 (by omega)).mono ?_
    rw [H3.out.1, H3.out.2.1, H3.out.2.2]
    rintro _ w5 ⟨rfl, r5, g5⟩
    clear c_hO0
    have z5 := g5.size
    have b05 := at_below b04 g5 b04.size (by omega)
    have hR_5 := hR_4.grown g5 (by intro e; injection e with e; omega)
    clear hR_4
    have hO_5 := hO.grown g5 (by intro e; injection e with e; omega)
    have c_hO0 := hO_5.cell 0
    clear c_hO0
    have c_hO0 := hO_5.cell 0
    have f_hO0 := hO_5.frozen 0
    have c_hO1 := hO_5.cell 1
    have f_hO1 := hO_5.frozen 1
    have c_hO2 := hO_5.cell 2
    have f_hO2 := hO_5.frozen 2
    have c_hO3 := hO_5.cell 3
    have f_hO3 := hO_5.frozen 3
    go_wp2_with fail
    refine (rbTake g t3 s3 (V3 : Int) _ r5 (by omega)).mono ?_
    rintro _ w6 ⟨A6, n6, c6, rfl, o6, r6, g6⟩
    clear c_hO0 f_hO0 c_hO1 f_hO1 c_hO2 f_hO2 c_hO3 f_hO3
    have z6 := g6.size
    have b06 := at_below b05 g6 b05.size (by omega)
    have hR_6 := hR_5.grown g6 (by intro e; injection e with e; omega)
    clear hR_5
    have hO_6 := hO_5.grown g6 (by intro e; injection e with e; omega)
    clear hO_5
    have c_hO0 := hO_6.cell 0
    have f_hO0 := hO_6.frozen 0
    have c_hO1 := hO_6.cell 1
    have f_hO1 := hO_6.frozen 1
    have c_hO2 := hO_6.cell 2
    have f_hO2 := hO_6.frozen 2
    have c_hO3 := hO_6.cell 3
    have f_hO3 := hO_6.frozen 3
    rw [H4.out.1] at o6
    rw [H4.out.2.1, H4.out.2.2] at r6
    go_upto_region 8 with fail
    obtain ⟨w7, hw7⟩ : ∃ x, w6.setCell ⟨k, 3, none⟩ (.slice A6 n6 c6) = x := ⟨_, rfl⟩
    have r7 := r6.setCell (p := ⟨k, 3, none⟩) (by show _ ≤ k; omega) (by show k ≠ g; omega) (.slice A6 n6 c6)
    have o7 := o6.grownAt (only_setCell (World.grownBy.refl w6 (some k)) (p := ⟨k, 3, none⟩) (.inl rfl) (.slice A6 n6 c6)) (by omega)
    have hO7 := hO_6.set_ 3 (.slice A6 n6 c6)
    simp only [List.setIfInBounds_toArray, List.set_cons_succ, List.set_cons_zero] at hO7
    have hR7 := hR_6.far (p := ⟨k, 3, none⟩) (by show q ≠ k; omega) (.slice A6 n6 c6)
    have b07 := b06.setCell (p := ⟨k, 3, none⟩) (by show w.heap.size ≤ k; have := HQ.out; omega) (.slice A6 n6 c6)
    rw [hw7] at r7 o7 hO7 hR7 b07
    rw [hw7]
    clear hw7
    go_wp2_with fail
    refine (rbErr g t4 s4 _ r7).mono ?_
    rintro _ _ ⟨rfl, rfl⟩
    cases s4
    case true =>
      have HF := Lib.hid (show splitA b = none by rw [HS.out]; rfl)
      have x0 := hR7.cell 0
      have x1 := hR7.cell 1
      have x2 := hR7.cell 2
      have x3 := hR7.cell 3
      have y0 := hR7.frozen 0
      have y1 := hR7.frozen 1
      have y2 := hR7.frozen 2
      have y3 := hR7.frozen 3
      go_wp2_with fail
      have hqle : w.heap.size ≤ q := Nat.le_of_eq HQ.out
      have bE := (((b07.setCell (p := ⟨q, 0, none⟩) hqle (.int .i64 0)).setCell (p := ⟨q, 1, none⟩) hqle (.int .i64 0)).setCell (p := ⟨q, 2, none⟩) hqle (.slice none 0 0)).setCell (p := ⟨q, 3, none⟩) hqle (.slice none 0 0)
      have hE := (((hR7.set_ 0 (.int .i64 0)).set_ 1 (.int .i64 0)).set_ 2 (.slice none 0 0)).set_ 3 (.slice none 0 0)
      simp only [List.setIfInBounds_toArray, List.set_cons_succ, List.set_cons_zero] at hE
      exact bodyPost_ret (one_ret rfl _ _ q _ _ _ _ _ _ rfl rfl rfl hE) rfl ⟨bE, by rw [HF.out]; rfl⟩
    obtain ⟨M, hM⟩ : ∃ M, n - t4.length = M := ⟨_, rfl⟩
    have HM := Lib.hid (show splitA b = some (⟨V1, V2, b.take M, v⟩, b.drop M) by rw [HS.out, ← hM, ← HLN.out]; rfl)
    have HLE := Lib.hid (show t4.length ≤ n by have := HLN.out; omega)
    have hMn : M ≤ n := by omega
    have hMc : M ≤ c := by omega
    have hMni : (M : Int) ≤ (n : Int) := by omega
    have wM : IntKind.i64.wrap ((n : Int) - (t4.length : Int)) = (M : Int) := by rw [show (n : Int) - (t4.length : Int) = (M : Int) by have := HLE.out; omega]; exact IntWalk.i64_in _ ⟨by omega, by omega⟩
    have HLF := Lib.hid (show ∀ w', RB w1.heap.size w' g t4 false → Calls Tryd.prog 79 #[.pointer (some ⟨g, 0, none⟩)] w' fun en w'' => en = .returned (.int .i64 ((t4.length : Nat) : Int)) ∧ w' = w'' from fun w' h => rbLeft g t4 false w' h)
    clear hM
    have e2 := hO7.cell 2
    have f2 := hO7.frozen 2
    go_wp2_with fail
    refine (HLF.out _ r7).mono ?_
    rintro _ _ ⟨rfl, rfl⟩
    go_upto_region 11 with fail
    all_goals
      obtain ⟨w8, hw8⟩ : ∃ x, w7.setCell ⟨k, 2, none⟩ (.slice A M c) = x := ⟨_, rfl⟩
      have r8 := r7.setCell (p := ⟨k, 2, none⟩) (by show _ ≤ k; omega) (by show k ≠ g; omega) (.slice A M c)
      have o8 := o7.grownAt (only_setCell (World.grownBy.refl w7 (some k)) (p := ⟨k, 2, none⟩) (.inl rfl) (.slice A M c)) (by omega)
      have hO8 := hO7.set_ 2 (.slice A M c)
      simp only [List.setIfInBounds_toArray, List.set_cons_succ, List.set_cons_zero] at hO8
      have hR8 := hR7.far (p := ⟨k, 2, none⟩) (by show q ≠ k; omega) (.slice A M c)
      have b08 := b07.setCell (p := ⟨k, 2, none⟩) (by show w.heap.size ≤ k; have := HQ.out; omega) (.slice A M c)
      rw [hw8] at r8 o8 hO8 hR8 b08
      rw [hw8]
      clear hw8 e2 f2
      have hOd : Blk w8.drew k 117 #[.int .i64 V1, .int .i64 V2, .slice A M c, .slice A6 n6 c6] := hO8
      have hRd : Blk w8.drew q 117 #[.int .i64 0, .int .i64 0, .slice none 0 0, .slice none 0 0] := hR8
      have rd : RB w1.heap.size w8.drew g t4 false := r8
      have od : OB w8.drew 5 w5.heap.size A6 n6 c6 v := o8
      have bd : Below w.heap.size w w8.drew := b08.drew
      obtain ⟨wd, hwd⟩ : ∃ x, w8.drew = x := ⟨_, rfl⟩
      rw [hwd] at hOd hRd rd od bd
      have HWD := Lib.hid hwd
      clear hwd
      have d0 := hOd.cell 0
      have d1 := hOd.cell 1
      have d2 := hOd.cell 2
      have d3 := hOd.cell 3
      have x0 := hRd.cell 0
      have x1 := hRd.cell 1
      have x2 := hRd.cell 2
      have x3 := hRd.cell 3
      have y0 := hRd.frozen 0
      have y1 := hRd.frozen 1
      have y2 := hRd.frozen 2
      have y3 := hRd.frozen 3
      have HEND := Lib.hid (show ∀ (A3 : Option Addr) (n3 c3 : Nat), A3 = (if c = M then A else A.map (·.add M)) → n3 = n - M → c3 = c - M → RetSp w A (splitA b) (.returned (.tuple #[.agg #[.int .i64 V1, .int .i64 V2, .slice A M c, .slice A6 n6 c6], .slice A3 n3 c3, .bool true])) ((((wd.setCell ⟨q, 0, none⟩ (.int .i64 V1)).setCell ⟨q, 1, none⟩ (.int .i64 V2)).setCell ⟨q, 2, none⟩ (.slice A M c)).setCell ⟨q, 3, none⟩ (.slice A6 n6 c6)) from by
        rintro A3 n3 c3 rfl rfl rfl
        have hqle : w.heap.size ≤ q := Nat.le_of_eq HQ.out
        have bE := (((bd.setCell (p := ⟨q, 0, none⟩) hqle (.int .i64 V1)).setCell (p := ⟨q, 1, none⟩) hqle (.int .i64 V2)).setCell (p := ⟨q, 2, none⟩) hqle (.slice A M c)).setCell (p := ⟨q, 3, none⟩) hqle (.slice A6 n6 c6)
        have gE := only_setCell (only_setCell (only_setCell (only_setCell (World.grownBy.refl wd (some q)) (p := ⟨q, 0, none⟩) (.inl rfl) (.int .i64 V1)) (p := ⟨q, 1, none⟩) (.inl rfl) (.int .i64 V2)) (p := ⟨q, 2, none⟩) (.inl rfl) (.slice A M c)) (p := ⟨q, 3, none⟩) (.inl rfl) (.slice A6 n6 c6)
        have hE := HH.out.below bE
        refine ⟨bE, ?_⟩
        rw [HM.out]
        refine ⟨A, M, c, A6, n6, c6, _, _, _, rfl, hE.take_ hMn, (od.grownAt gE (by omega)).low (by have := HQ.out; omega), hE.drop_ hMn hc, by omega, ⟨by show (0 : Int) ≤ (V1 : Int); omega, by show (V1 : Int) ≤ 255; omega⟩, ⟨by show (0 : Int) ≤ (V2 : Int); omega, by show (V2 : Int) ≤ 255; omega⟩, rfl, fun ad a0 e e0 => by
              subst e0
              split at e
              · injection e with e; rw [e]
              · simp only [Option.map_some] at e
                injection e with e
                rw [← e, block_of_add], hMc⟩)
      have HENDB := Lib.hid (show Blk ((((wd.setCell ⟨q, 0, none⟩ (.int .i64 V1)).setCell ⟨q, 1, none⟩ (.int .i64 V2)).setCell ⟨q, 2, none⟩ (.slice A M c)).setCell ⟨q, 3, none⟩ (.slice A6 n6 c6)) q 117 #[.int .i64 V1, .int .i64 V2, .slice A M c, .slice A6 n6 c6] from by
        have hE := (((hRd.set_ 0 (.int .i64 V1)).set_ 1 (.int .i64 V2)).set_ 2 (.slice A M c)).set_ 3 (.slice A6 n6 c6)
        simp only [List.setIfInBounds_toArray, List.set_cons_succ, List.set_cons_zero] at hE
        exact hE)
      rename_i hkk
      have HKK := Lib.hid hkk
      have RD := Lib.hid rd
      try clear rd
      try clear od
      try clear bd
      try clear hOd
      try clear hRd
      try clear r8
      try clear o8
      try clear hO8
      try clear hR8
      try clear b08
      try clear c_hO0
      try clear c_hO1
      try clear c_hO2
      try clear c_hO3
      try clear f_hO0
      try clear f_hO1
      try clear f_hO2
      try clear f_hO3
      try clear hO_7
      try clear hR_7
      try clear r7
      try clear o7
      try clear hO7
      try clear hR7
      try clear b07
      try clear z7
      try clear g7
      try clear b7
      try clear hO_6
      try clear hR_6
      try clear r6
      try clear o6
      try clear hO6
      try clear hR6
      try clear b06
      try clear z6
      try clear g6
      try clear b6
      try clear hO_5
      try clear hR_5
      try clear r5
      try clear o5
      try clear hO5
      try clear hR5
      try clear b05
      try clear z5
      try clear g5
      try clear b5
      try clear hO_4
      try clear hR_4
      try clear r4
      try clear o4
      try clear hO4
      try clear hR4
      try clear b04
      try clear z4
      try clear g4
      try clear b4
      try clear hO_3
      try clear hR_3
      try clear r3
      try clear o3
      try clear hO3
      try clear hR3
      try clear b03
      try clear z3
      try clear g3
      try clear b3
      try clear hO_2
      try clear hR_2
      try clear r2
      try clear o2
      try clear hO2
      try clear hR2
      try clear b02
      try clear z2
      try clear g2
      try clear b2
      try clear hO_1
      try clear hR_1
      try clear r1
      try clear o1
      try clear hO1
      try clear hR1
      try clear b01
      try clear z1
      try clear g1
      try clear b1
      try clear hO
      try clear hR
      try clear hOl
      try clear hRl
      try clear hgl
      try clear hz1
      try clear hWz
      try clear hWz0
      try clear h0
      try clear b0
      try clear b4z
      try clear e16
      try clear h16
      try clear L4
      try clear L3
      try clear L2
      try clear L1
      try clear hV1
      try clear hV2
      try clear hl
      try clear hn
      try clear hg
      by_cases hcM : c = M
      · subst hcM
        refine wp_region_held_drew (S := (fun _ => True)) (by kernel_rfl) ?_ (fun hHeld => ?_)
        · first | done | trivial
        rw [HWD.out]
        refine wpAnyH_take (i := 1) (v := ?b1v1) rfl (by kernel_rfl) (by kernel_rfl) (by kernel_rfl) (by intro _ _ _ h; exact h) (Or.inl ⟨by rfl, ?b1hy1⟩) (by assumption) ?b1rest1
        case b1hy1 => (intro w hSw; (try dsimp only at hSw); go_simp; try with_reducible rfl)
        try simp only [Act.put, List.getElem_toArray, List.getElem_cons_succ, List.getElem_cons_zero, List.setIfInBounds_toArray, List.set_cons_zero, List.set_cons_succ]
        refine wpAnyH_take (i := 2) (v := ?b1v2) rfl (by kernel_rfl) (by kernel_rfl) (by kernel_rfl) (by intro _ _ _ h; exact h) (Or.inl ⟨by rfl, ?b1hy2⟩) (by assumption) ?b1rest2
        case b1hy2 => (intro w hSw; (try dsimp only at hSw); go_simp; try with_reducible rfl)
        try simp only [Act.put, List.getElem_toArray, List.getElem_cons_succ, List.getElem_cons_zero, List.setIfInBounds_toArray, List.set_cons_zero, List.set_cons_succ]
        refine wpAnyH_take (i := 4) (v := ?b1v4) rfl (by kernel_rfl) (by kernel_rfl) (by kernel_rfl) (by intro _ _ _ h; exact h) (Or.inl ⟨by rfl, ?b1hy4⟩) (by assumption) ?b1rest4
        case b1hy4 => (intro w hSw; (try dsimp only at hSw); go_simp; try with_reducible rfl)
        try simp only [Act.put, List.getElem_toArray, List.getElem_cons_succ, List.getElem_cons_zero, List.setIfInBounds_toArray, List.set_cons_zero, List.set_cons_succ]
        refine wpAnyH_take (i := 3) (v := ?b1v3) rfl (by kernel_rfl) (by kernel_rfl) (by kernel_rfl) (by intro _ _ _ h; exact h) (Or.inl ⟨by rfl, ?b1hy3⟩) (by assumption) ?b1rest3
        case b1hy3 => (intro w hSw; (try dsimp only at hSw); go_simp; try with_reducible rfl)
        try simp only [Act.put, List.getElem_toArray, List.getElem_cons_succ, List.getElem_cons_zero, List.setIfInBounds_toArray, List.set_cons_zero, List.set_cons_succ]
        refine wpAnyH_ready (rs := [0, 5]) (by kernel_rfl) (by simp) ?_
        refine AllReadyH.cons rfl (fun K hK => ?_) (AllReadyH.cons rfl (fun K hK => ?_) AllReadyH.nil)
        · skip
          go_simp
          go_wp2_with (fail)
          refine hK.out _ _ trivial (fun hHeld => ?_)
          clear hK K
          refine wpAnyH_ready (rs := [5]) (by kernel_rfl) (by simp) ?_
          refine AllReadyH.cons rfl (fun K hK => ?_) AllReadyH.nil
          go_simp
          go_wp2_with ((go_at_call 79; refine (HLF.out _ RD.out).mono ?_; rintro _ _ ⟨rfl, rfl⟩))
          refine hK.out _ _ trivial (fun hHeld => ?_)
          clear hK K
          refine wpAnyH_take (i := 6) (v := ?b1xv6) rfl (by kernel_rfl) (by kernel_rfl) (by kernel_rfl) (by intro _ _ _ h; exact h) (Or.inl ⟨by rfl, ?b1xhy6⟩) (by assumption) ?b1xrest6
          case b1xhy6 => (intro w hSw; (try dsimp only at hSw); go_simp; try with_reducible rfl)
          try simp only [Act.put, List.getElem_toArray, List.getElem_cons_succ, List.getElem_cons_zero, List.setIfInBounds_toArray, List.set_cons_zero, List.set_cons_succ]
          refine wpAnyH_take (i := 7) (v := ?b1xv7) rfl (by kernel_rfl) (by kernel_rfl) (by kernel_rfl) (by intro _ _ _ h; exact h) (Or.inl ⟨by rfl, ?b1xhy7⟩) (by assumption) ?b1xrest7
          case b1xhy7 => (intro w hSw; (try dsimp only at hSw); go_simp; try with_reducible rfl)
          try simp only [Act.put, List.getElem_toArray, List.getElem_cons_succ, List.getElem_cons_zero, List.setIfInBounds_toArray, List.set_cons_zero, List.set_cons_succ]
          refine wpAnyH_ready (rs := [8]) (by kernel_rfl) (by simp) ?_
          refine AllReadyH.cons rfl (fun K hK => ?_) AllReadyH.nil
          go_simp
          go_wp2_with (fail)
          refine hK.out _ _ trivial (fun hHeld => ?_)
          clear hK K
          refine wpAnyH_ready (rs := [9]) (by kernel_rfl) (by simp) ?_
          refine AllReadyH.cons rfl (fun K hK => ?_) AllReadyH.nil
          go_simp
          go_wp2_with (fail)
          refine hK.out _ _ trivial (fun hHeld => ?_)
          clear hK K
          refine wpAnyH_ready (rs := [10]) (by kernel_rfl) (by simp) ?_
          refine AllReadyH.cons rfl (fun K hK => ?_) AllReadyH.nil
          go_simp
          go_wp2_with (fail)
          refine hK.out _ _ trivial (fun hHeld => ?_)
          clear hK K
          refine wpAnyH_done (by kernel_rfl) ?_ _
          refine HKK.out _ _ ?_
          go_wp2_with fail
          refine bodyPost_ret (one_ret rfl _ _ q _ _ _ _ (.slice _ _ _) (.bool true) rfl rfl rfl HENDB.out) rfl (HEND.out _ _ _ ?_ ?_ ?_)
          · first | (simp; done) | (rw [if_neg hcM]; done) | (trace_state; sorry)
          · first | rfl | omega
          · first | rfl | omega
        · skip
          go_simp
          go_wp2_with ((go_at_call 79; refine (HLF.out _ RD.out).mono ?_; rintro _ _ ⟨rfl, rfl⟩))
          refine hK.out _ _ trivial (fun hHeld => ?_)
          clear hK K
          refine wpAnyH_take (i := 6) (v := ?b1yv6) rfl (by kernel_rfl) (by kernel_rfl) (by kernel_rfl) (by intro _ _ _ h; exact h) (Or.inl ⟨by rfl, ?b1yhy6⟩) (by assumption) ?b1yrest6
          case b1yhy6 => (intro w hSw; (try dsimp only at hSw); go_simp; try with_reducible rfl)
          try simp only [Act.put, List.getElem_toArray, List.getElem_cons_succ, List.getElem_cons_zero, List.setIfInBounds_toArray, List.set_cons_zero, List.set_cons_succ]
          refine wpAnyH_take (i := 7) (v := ?b1yv7) rfl (by kernel_rfl) (by kernel_rfl) (by kernel_rfl) (by intro _ _ _ h; exact h) (Or.inl ⟨by rfl, ?b1yhy7⟩) (by assumption) ?b1yrest7
          case b1yhy7 => (intro w hSw; (try dsimp only at hSw); go_simp; try with_reducible rfl)
          try simp only [Act.put, List.getElem_toArray, List.getElem_cons_succ, List.getElem_cons_zero, List.setIfInBounds_toArray, List.set_cons_zero, List.set_cons_succ]
          refine wpAnyH_ready (rs := [0]) (by kernel_rfl) (by simp) ?_
          refine AllReadyH.cons rfl (fun K hK => ?_) AllReadyH.nil
          go_simp
          go_wp2_with (fail)
          refine hK.out _ _ trivial (fun hHeld => ?_)
          clear hK K
          refine wpAnyH_ready (rs := [8]) (by kernel_rfl) (by simp) ?_
          refine AllReadyH.cons rfl (fun K hK => ?_) AllReadyH.nil
          go_simp
          go_wp2_with (fail)
          refine hK.out _ _ trivial (fun hHeld => ?_)
          clear hK K
          refine wpAnyH_ready (rs := [9]) (by kernel_rfl) (by simp) ?_
          refine AllReadyH.cons rfl (fun K hK => ?_) AllReadyH.nil
          go_simp
          go_wp2_with (fail)
          refine hK.out _ _ trivial (fun hHeld => ?_)
          clear hK K
          refine wpAnyH_ready (rs := [10]) (by kernel_rfl) (by simp) ?_
          refine AllReadyH.cons rfl (fun K hK => ?_) AllReadyH.nil
          go_simp
          go_wp2_with (fail)
          refine hK.out _ _ trivial (fun hHeld => ?_)
          clear hK K
          refine wpAnyH_done (by kernel_rfl) ?_ _
          refine HKK.out _ _ ?_
          go_wp2_with fail
          refine bodyPost_ret (one_ret rfl _ _ q _ _ _ _ (.slice _ _ _) (.bool true) rfl rfl rfl HENDB.out) rfl (HEND.out _ _ _ ?_ ?_ ?_)
          · first | (simp; done) | (rw [if_neg hcM]; done) | (trace_state; sorry)
          · first | rfl | omega
          · first | rfl | omega
      · refine wp_region_held_drew (S := (fun _ => True)) (by kernel_rfl) ?_ (fun hHeld => ?_)
        · first | done | trivial
        rw [HWD.out]
        refine wpAnyH_take (i := 1) (v := ?b2v1) rfl (by kernel_rfl) (by kernel_rfl) (by kernel_rfl) (by intro _ _ _ h; exact h) (Or.inl ⟨by rfl, ?b2hy1⟩) (by assumption) ?b2rest1
        case b2hy1 => (intro w hSw; (try dsimp only at hSw); go_simp; try with_reducible rfl)
        try simp only [Act.put, List.getElem_toArray, List.getElem_cons_succ, List.getElem_cons_zero, List.setIfInBounds_toArray, List.set_cons_zero, List.set_cons_succ]
        refine wpAnyH_take (i := 2) (v := ?b2v2) rfl (by kernel_rfl) (by kernel_rfl) (by kernel_rfl) (by intro _ _ _ h; exact h) (Or.inl ⟨by rfl, ?b2hy2⟩) (by assumption) ?b2rest2
        case b2hy2 => (intro w hSw; (try dsimp only at hSw); go_simp; try with_reducible rfl)
        try simp only [Act.put, List.getElem_toArray, List.getElem_cons_succ, List.getElem_cons_zero, List.setIfInBounds_toArray, List.set_cons_zero, List.set_cons_succ]
        refine wpAnyH_take (i := 4) (v := ?b2v4) rfl (by kernel_rfl) (by kernel_rfl) (by kernel_rfl) (by intro _ _ _ h; exact h) (Or.inl ⟨by rfl, ?b2hy4⟩) (by assumption) ?b2rest4
        case b2hy4 => (intro w hSw; (try dsimp only at hSw); go_simp; try with_reducible rfl)
        try simp only [Act.put, List.getElem_toArray, List.getElem_cons_succ, List.getElem_cons_zero, List.setIfInBounds_toArray, List.set_cons_zero, List.set_cons_succ]
        refine wpAnyH_take (i := 3) (v := ?b2v3) rfl (by kernel_rfl) (by kernel_rfl) (by kernel_rfl) (by intro _ _ _ h; exact h) (Or.inl ⟨by rfl, ?b2hy3⟩) (by assumption) ?b2rest3
        case b2hy3 => (intro w hSw; (try dsimp only at hSw); go_simp; try with_reducible rfl)
        try simp only [Act.put, List.getElem_toArray, List.getElem_cons_succ, List.getElem_cons_zero, List.setIfInBounds_toArray, List.set_cons_zero, List.set_cons_succ]
        refine wpAnyH_ready (rs := [0, 5]) (by kernel_rfl) (by simp) ?_
        refine AllReadyH.cons rfl (fun K hK => ?_) (AllReadyH.cons rfl (fun K hK => ?_) AllReadyH.nil)
        · skip
          go_simp
          go_wp2_with (fail)
          refine hK.out _ _ trivial (fun hHeld => ?_)
          clear hK K
          refine wpAnyH_ready (rs := [5]) (by kernel_rfl) (by simp) ?_
          refine AllReadyH.cons rfl (fun K hK => ?_) AllReadyH.nil
          go_simp
          go_wp2_with ((go_at_call 79; refine (HLF.out _ RD.out).mono ?_; rintro _ _ ⟨rfl, rfl⟩))
          refine hK.out _ _ trivial (fun hHeld => ?_)
          clear hK K
          refine wpAnyH_take (i := 6) (v := ?b2xv6) rfl (by kernel_rfl) (by kernel_rfl) (by kernel_rfl) (by intro _ _ _ h; exact h) (Or.inl ⟨by rfl, ?b2xhy6⟩) (by assumption) ?b2xrest6
          case b2xhy6 => (intro w hSw; (try dsimp only at hSw); go_simp; try with_reducible rfl)
          try simp only [Act.put, List.getElem_toArray, List.getElem_cons_succ, List.getElem_cons_zero, List.setIfInBounds_toArray, List.set_cons_zero, List.set_cons_succ]
          refine wpAnyH_take (i := 7) (v := ?b2xv7) rfl (by kernel_rfl) (by kernel_rfl) (by kernel_rfl) (by intro _ _ _ h; exact h) (Or.inl ⟨by rfl, ?b2xhy7⟩) (by assumption) ?b2xrest7
          case b2xhy7 => (intro w hSw; (try dsimp only at hSw); go_simp; try with_reducible rfl)
          try simp only [Act.put, List.getElem_toArray, List.getElem_cons_succ, List.getElem_cons_zero, List.setIfInBounds_toArray, List.set_cons_zero, List.set_cons_succ]
          refine wpAnyH_ready (rs := [8]) (by kernel_rfl) (by simp) ?_
          refine AllReadyH.cons rfl (fun K hK => ?_) AllReadyH.nil
          go_simp
          go_wp2_with (fail)
          refine hK.out _ _ trivial (fun hHeld => ?_)
          clear hK K
          refine wpAnyH_ready (rs := [9]) (by kernel_rfl) (by simp) ?_
          refine AllReadyH.cons rfl (fun K hK => ?_) AllReadyH.nil
          go_simp
          go_wp2_with (fail)
          refine hK.out _ _ trivial (fun hHeld => ?_)
          clear hK K
          refine wpAnyH_ready (rs := [10]) (by kernel_rfl) (by simp) ?_
          refine AllReadyH.cons rfl (fun K hK => ?_) AllReadyH.nil
          go_simp
          go_wp2_with (fail)
          refine hK.out _ _ trivial (fun hHeld => ?_)
          clear hK K
          refine wpAnyH_done (by kernel_rfl) ?_ _
          refine HKK.out _ _ ?_
          go_wp2_with fail
          refine bodyPost_ret (one_ret rfl _ _ q _ _ _ _ (.slice _ _ _) (.bool true) rfl rfl rfl HENDB.out) rfl (HEND.out _ _ _ ?_ ?_ ?_)
          · first | (simp; done) | (rw [if_neg hcM]; done) | (trace_state; sorry)
          · first | rfl | omega
          · first | rfl | omega
        · skip
          go_simp
          go_wp2_with ((go_at_call 79; refine (HLF.out _ RD.out).mono ?_; rintro _ _ ⟨rfl, rfl⟩))
          refine hK.out _ _ trivial (fun hHeld => ?_)
          clear hK K
          refine wpAnyH_take (i := 6) (v := ?b2yv6) rfl (by kernel_rfl) (by kernel_rfl) (by kernel_rfl) (by intro _ _ _ h; exact h) (Or.inl ⟨by rfl, ?b2yhy6⟩) (by assumption) ?b2yrest6
          case b2yhy6 => (intro w hSw; (try dsimp only at hSw); go_simp; try with_reducible rfl)
          try simp only [Act.put, List.getElem_toArray, List.getElem_cons_succ, List.getElem_cons_zero, List.setIfInBounds_toArray, List.set_cons_zero, List.set_cons_succ]
          refine wpAnyH_take (i := 7) (v := ?b2yv7) rfl (by kernel_rfl) (by kernel_rfl) (by kernel_rfl) (by intro _ _ _ h; exact h) (Or.inl ⟨by rfl, ?b2yhy7⟩) (by assumption) ?b2yrest7
          case b2yhy7 => (intro w hSw; (try dsimp only at hSw); go_simp; try with_reducible rfl)
          try simp only [Act.put, List.getElem_toArray, List.getElem_cons_succ, List.getElem_cons_zero, List.setIfInBounds_toArray, List.set_cons_zero, List.set_cons_succ]
          refine wpAnyH_ready (rs := [0]) (by kernel_rfl) (by simp) ?_
          refine AllReadyH.cons rfl (fun K hK => ?_) AllReadyH.nil
          go_simp
          go_wp2_with (fail)
          refine hK.out _ _ trivial (fun hHeld => ?_)
          clear hK K
          refine wpAnyH_ready (rs := [8]) (by kernel_rfl) (by simp) ?_
          refine AllReadyH.cons rfl (fun K hK => ?_) AllReadyH.nil
          go_simp
          go_wp2_with (fail)
          refine hK.out _ _ trivial (fun hHeld => ?_)
          clear hK K
          refine wpAnyH_ready (rs := [9]) (by kernel_rfl) (by simp) ?_
          refine AllReadyH.cons rfl (fun K hK => ?_) AllReadyH.nil
          go_simp
          go_wp2_with (fail)
          refine hK.out _ _ trivial (fun hHeld => ?_)
          clear hK K
          refine wpAnyH_ready (rs := [10]) (by kernel_rfl) (by simp) ?_
          refine AllReadyH.cons rfl (fun K hK => ?_) AllReadyH.nil
          go_simp
          go_wp2_with (fail)
          refine hK.out _ _ trivial (fun hHeld => ?_)
          clear hK K
          refine wpAnyH_done (by kernel_rfl) ?_ _
          refine HKK.out _ _ ?_
          go_wp2_with fail
          refine bodyPost_ret (one_ret rfl _ _ q _ _ _ _ (.slice _ _ _) (.bool true) rfl rfl rfl HENDB.out) rfl (HEND.out _ _ _ ?_ ?_ ?_)
          · first | (simp; done) | (rw [if_neg hcM]; done) | (trace_state; sorry)
          · first | rfl | omega
          · first | rfl | omega
end Go.Proofs.YtlpkngjeihoknaaDoor
