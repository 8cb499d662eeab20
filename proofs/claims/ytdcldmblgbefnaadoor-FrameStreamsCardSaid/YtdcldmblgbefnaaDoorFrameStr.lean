/- The walk of the law FrameStreams. Conditions: the table of least lengths (LeaTab). -/
import Derived.Test.YtdcldmblgbefnaaDoorProg
import Derived.WalkKit
import Derived.WalkSpells
import Derived.WalkLawsBesides
import Derived.Outline
import Derived.Deep.QuietTactic
import Derived.BigQuiet
import Derived.Handy
import Derived.Lib.Hide
import Derived.Test.YtdcldmblgbefnaaDoorFrameNob
import Derived.Test.YtdcldmblgbefnaaDoorFsmC
namespace Go.Proofs.YtdcldmblgbefnaaDoor
open Go.RowKit
/-- A stream is fed, whatever it is. -/
theorem streamFeedAny (g : Nat) (p q : List UInt8) (gs : List (Int × List UInt8)) (y : List UInt8) (C T : Int) (E : List UInt8) (A : Option Addr) (n c : Nat) (w : World) (own : Option Nat) (hown : ∀ k, own = some k → k < w.heap.size) (h : SMX w g y C T E own) (hb : BS w w.heap.size A n q) (hl : y.length ≤ 100000) (hn : n ≤ 100000) (hF : Hid (FST p gs y (C, T, E))) (hE : Hid (FSE y (C, T, E))) :
    Calls Tryd.prog 77 #[.pointer (some ⟨g, 0, none⟩), .slice A n c] w fun en w' => en = .returned (.tuple #[]) ∧ ∃ y', SMX w' g y' C T E own ∧ w.grownBy w' (some g) ∧ Hid (FST (p ++ q) gs y' (C, T, E) ∧ y'.length ≤ y.length + n) := by
  by_cases hC : C = 0
  · subst hC
    refine (streamFeed g y T E A n c q w own hown h.any hb hl hn).mono ?_
    rintro _ w' ⟨rfl, h', hg⟩
    exact ⟨rfl, y ++ q, h', hg, Lib.hid ⟨hF.out.feed hE.out q, by rw [List.length_append, hb.len]; exact Nat.le_refl _⟩⟩
  · refine (streamFeed_still g y C T E A n c w own h hC).mono ?_
    rintro _ _ ⟨rfl, rfl⟩
    exact ⟨rfl, y, h, World.grownBy.refl _ _, Lib.hid ⟨hF.out.feedNot hC q, by omega⟩⟩
/-- A stream hands out its next message, or none. -/
theorem streamNextAny (g : Nat) (p : List UInt8) (gs : List (Int × List UInt8)) (y : List UInt8) (C T : Int) (E : List UInt8) (w : World) (own : Option Nat) (h : SMX w g y C T E own) (ht : LeaTab w) (hl : y.length ≤ 100000) (hF : Hid (FST p gs y (C, T, E))) :
    Calls Tryd.prog 78 #[.pointer (some ⟨g, 0, none⟩)] w fun en w' => w.grownBy w' (some g) ∧
      ((∃ K Bd A n c y', en = .returned (.tuple #[.int .i64 K, .slice A n c, .bool true]) ∧ C = 0 ∧ T = 0 ∧ E = [] ∧ BS w' w'.heap.size A n Bd ∧ (0 < n → ∀ ad, A = some ad → w.heap.size ≤ ad.block) ∧ SMX w' g y' C T E own ∧ Hid (FST p (gs ++ [(K, Bd)]) y' (C, T, E) ∧ 19 + y'.length ≤ y.length)) ∨
       (∃ y' C' T' E', en = .returned (.tuple #[.int .i64 0, .slice none 0 0, .bool false]) ∧ SMX w' g y' C' T' E' own ∧ Hid (FST p gs y' (C', T', E') ∧ FSE y' (C', T', E') ∧ y'.length ≤ y.length))) := by
  by_cases hC : C = 0
  · subst hC
    rcases nextR_cases y with hc | hc | hc
    · refine (streamNext_fault g y T E w own h ht hl hc.1).mono ?_
      rintro _ w' ⟨rfl, h', hg⟩
      exact ⟨hg, .inr ⟨_, _, _, _, rfl, h', Lib.hid ⟨hF.out.fault hc.1, .inl hc.1, by simp⟩⟩⟩
    · refine (streamNext_none g y T E w own h ht hl hc.1 hc.2).mono ?_
      rintro _ w' ⟨rfl, h', hg⟩
      exact ⟨hg, .inr ⟨_, _, _, _, rfl, h', Lib.hid ⟨hF.out, .inr hc, Nat.le_refl _⟩⟩⟩
    · obtain ⟨m, hm⟩ := Int.eq_ofNat_of_zero_le (show 0 ≤ (nextR y).2.2.1 by omega)
      refine (streamNext_msg g y T E w own h ht hl m hm (by omega)).mono ?_
      rintro _ w' ⟨A, n, c, rfl, _, hs, h', hg, hfr⟩
      have hF' := hF.out.msg (by omega)
      have em : (nextR y).2.2.1.toNat = m := by omega
      rw [em] at hF'
      have hz := hF.out.2.1 rfl
      injection hz with _ hz
      injection hz with hz1 hz2
      exact ⟨hg, .inl ⟨_, _, A, n, c, _, rfl, rfl, hz1, hz2, hs, hfr, h', Lib.hid ⟨hF', by rw [List.length_drop]; omega⟩⟩⟩
  · refine (streamNext_still g y C T E w own h hC).mono ?_
    rintro _ _ ⟨rfl, rfl⟩
    exact ⟨World.grownBy.refl _ _, .inr ⟨_, _, _, _, rfl, h, Lib.hid ⟨hF.out, .inl hC, Nat.le_refl _⟩⟩⟩
theorem headR_data (l : List UInt8) : (headR l).2.2.2.2.length ≤ 2 := by
  have h2 : ((l.drop 16).take 2).length ≤ 2 := by rw [List.length_take]; omega
  unfold headR
  split
  · simp
  · split
    · exact h2
    · split
      · simp
      · split
        · exact h2
        · simp
theorem nextR_data (l : List UInt8) : (nextR l).2.2.2.2.2.length ≤ 2 := by
  unfold nextR
  split
  · simp
  · split
    · exact headR_data l
    · simp
theorem allR_data : ∀ (k : Nat) (l : List UInt8), (allR k l).2.1.2.2.length ≤ 2
  | 0, l => by simp [allR]
  | k + 1, l => by
    unfold allR
    split
    · exact nextR_data l
    · split
      · simp
      · exact allR_data k _
theorem keepF {w W W' : World} {b : Nat} {x y z : Value} (hb' : b < w.heap.size) (hb : Below W.heap.size W W') (h : Below w.heap.size w W ∧ W.cell? ⟨b, 0, none⟩ = some x ∧ W.cell? ⟨b, 1, none⟩ = some y ∧ W.cell? ⟨b, 2, none⟩ = some z) :
    Below w.heap.size w W' ∧ W'.cell? ⟨b, 0, none⟩ = some x ∧ W'.cell? ⟨b, 1, none⟩ = some y ∧ W'.cell? ⟨b, 2, none⟩ = some z :=
  have hs := h.1.size
  ⟨btr h.1 hb hs, (hb.cell (show b < _ by omega)).trans h.2.1, (hb.cell (show b < _ by omega)).trans h.2.2.1, (hb.cell (show b < _ by omega)).trans h.2.2.2⟩
theorem quietSame {A A' : Option Addr} {n n' c c' : Nat} {l : List UInt8} {w : World} {q k : Nat} (h : BS w w.heap.size A n l) (h' : BS w w.heap.size A' n' l) :
    Calls Tryd.prog 32 #[.slice A n c, .slice A' n' c'] (w.drewN (q + k)) fun e w'' => e = .returned (.bool true) ∧ ∃ m, w'' = w.drewN (q + m) :=
  (ref01Same A A' n n' c c' l l _ _ _ (h.drewN (q + k)) (h'.drewN (q + k))).mono fun e w'' he => ⟨by rw [he.1, beq_self_eq_true], k, he.2.symm⟩
theorem rem_nat (X : Int) (nr : Nat) : ∃ v : Nat, (IntKind.u64.wrap X).tmod ((nr : Int) + 1) = (v : Int) ∧ v ≤ nr := by
  have h0 : 0 ≤ IntKind.u64.wrap X := by simp only [IntKind.wrap]; exact Int.emod_nonneg _ (by decide)
  have h1 : 0 ≤ (IntKind.u64.wrap X).tmod ((nr : Int) + 1) := Int.tmod_nonneg _ h0
  have h2 := Int.tmod_lt_of_pos (IntKind.u64.wrap X) (show 0 < (nr : Int) + 1 by omega)
  obtain ⟨v, hv⟩ := Int.eq_ofNat_of_zero_le h1
  exact ⟨v, hv, by omega⟩
set_option maxHeartbeats 4000000 in
set_option maxRecDepth 100000 in
theorem frameStreams_in (w : World) (A : Option Addr) (n c : Nat) (l : List UInt8) (h : BS w w.heap.size A n l) (hnc : n ≤ c) (ht : LeaTab w)
    (A' : Option Addr) (n' c' : Nat) (L : List Int) (h' : NS .i64 w w.heap.size A' n' L) (hn : n ≤ 3000) (hn' : n' ≤ 20) :
    Calls Tryd.prog 19 #[.slice A n c, .slice A' n' c'] w fun en w' => en = .returned (.bool true) ∧ Below w.heap.size w w' := by
  have hni : (n : Int) ≤ 3000 := by omega
  have hni' : (n' : Int) ≤ 20 := by omega
  have HL := Lib.hid h.len
  go_enter Tryd.func19, Tryd.ntmps19
  go_wp2_with fail
  refine (frameNew w).mono ?_
  rintro _ w1 ⟨g, rfl, hg, hG, b1⟩
  have hS1 : SM w1 g [] 0 0 [] := ⟨none, 0, 0, none, 0, 0, hG, Nat.le_refl _, BS.none_, BS.none_, far_none⟩
  go_wp2_with fail
  go_loopw [6, 7, 8] (fun got rest i wr => ∃ (k t : Nat) (gs : List (Int × List UInt8)) (y : List UInt8) (C T : Int) (E : List UInt8) (Ag : Option Addr) (ng cg : Nat) (Ar : Option Addr) (nr cr : Nat), k ≤ n' + 1 ∧ i = .int .i64 k ∧ got = .slice Ag ng cg ∧ rest = .slice Ar nr cr ∧ OM wr w.heap.size Ag ng cg gs ∧ SMX wr g y C T E (Value.ownBlock (.slice Ag ng cg)) ∧ BS w w.heap.size Ar nr (l.drop t) ∧ nr ≤ cr ∧ nr ≤ n ∧ Below w.heap.size w wr ∧ Hid (FST (l.take t) gs y (C, T, E)) ∧ Hid (FSE y (C, T, E)) ∧ Hid (t ≤ n ∧ 19 * gs.length + y.length ≤ t) ∧ Hid (k = n' + 1 → t = n)) (fun _ _ i _ => n' + 1 - (intOf i).toNat)
  case atStart => exact ⟨0, 0, [], [], 0, 0, [], none, 0, 0, A, n, c, by omega, rfl, rfl, rfl, OM.nil_, hS1, by simpa using h, hnc, Nat.le_refl _, b1, Lib.hid (by simpa using FST.start), Lib.hid FSE.start, Lib.hid ⟨by omega, by simp⟩, Lib.hid (by omega)⟩
  case round =>
    obtain ⟨k, t, gs, y, C, T, E, Ag, ng, cg, Ar, nr, cr, hk, rfl, rfl, rfl, hM, hS, hR, hrc, hrn, hb, hFST, hFSE, hsz, hall⟩ := hrel
    by_cases hk1 : k ≤ n'
    · have hu : IntKind.u64.wrap ((nr : Int) + 1) = (nr : Int) + 1 := by show ((nr : Int) + 1) % (2 ^ 64) = _; omega
      have hz : ¬ ((nr : Int) + 1 = 0) := by omega
      by_cases hk2 : k < n'
      · obtain ⟨b2, off2, rfl, hb2, hc2⟩ := h'.form hk2
        have hc2w := (hb.cell (p := ⟨b2, off2 + k, none⟩) hb2).trans hc2
        obtain ⟨X, hX⟩ : ∃ X, L[k]?.getD 0 = X := ⟨_, rfl⟩
        rw [hX] at hc2 hc2w
        clear hX
        obtain ⟨v, hv, hvr⟩ := rem_nat X nr
        have HV := Lib.hid (show k + 1 = n' + 1 → t + v = n by omega)
        go_wp2_with fail
        have hyl := Lib.hid (show y.length ≤ 3000 by have := hsz.out; omega)
        refine (streamFeedAny g (l.take t) ((l.drop t).take v) gs y C T E Ar v cr _ (Value.ownBlock (.slice Ag ng cg)) (fun _ hk => (hM.own_lt _ hk).2) hS (((hR.take_ hvr).below hb).more hb.size) (by have := hyl.out; omega) (by omega) hFST hFSE).mono ?_
        rintro _ w2 ⟨rfl, y2, hS2, g2, hF2⟩
        have hb2' := below_grown hb g2 hg hb.size
        obtain ⟨csS, hGb, hno⟩ := hS.row
        have hM2 := hM.at_ hGb (by decide) hno g2
        have hsz2 := Lib.hid (show t + v ≤ n ∧ 19 * gs.length + y2.length ≤ t + v by have := hsz.out; have := hF2.out.2; have := hR.len; rw [List.length_drop, ← HL.out] at this; omega)
        have hF3 := Lib.hid (show FST (l.take (t + v)) gs y2 (C, T, E) by rw [List.take_add]; exact hF2.out.1)
        have hR3 := hR.drop_ (k := v) (by omega) hrc
        rw [List.drop_drop] at hR3
        obtain ⟨Ar3, hAr3⟩ : ∃ Ar3, (if cr = v then Ar else Ar.map (·.add v)) = Ar3 := ⟨_, rfl⟩
        rw [hAr3] at hR3
        have hR3z : nr ≤ v → BS w w.heap.size Ar3 0 (l.drop (t + v)) := fun hh => by
          rw [Nat.sub_eq_zero_of_le hh] at hR3
          exact hR3
        clear hF2 hsz hFST hFSE hyl hGb hno
        rcases Nat.eq_or_lt_of_le (show v ≤ cr by omega) with hpc | hpc
        · subst hpc
          rw [if_pos rfl] at hAr3
          subst hAr3
          go_wp2_with fail
          go_loopw [6, 10] (fun got kk wq => ∃ (j : Nat) (gs3 : List (Int × List UInt8)) (y3 : List UInt8) (A3 : Option Addr) (n3 c3 : Nat), j ≤ 157 ∧ kk = .int .i64 j ∧ got = .slice A3 n3 c3 ∧ OM wq w.heap.size A3 n3 c3 gs3 ∧ SMX wq g y3 C T E (Value.ownBlock (.slice A3 n3 c3)) ∧ Below w.heap.size w wq ∧ Hid (FST (l.take (t + v)) gs3 y3 (C, T, E)) ∧ Hid (t + v ≤ n ∧ 19 * gs3.length + y3.length ≤ t + v ∧ gs3.length = gs.length + j)) (fun _ j _ => 200 - (intOf j).toNat)
          case atStart => exact ⟨0, gs, y2, Ag, ng, cg, by omega, rfl, rfl, hM2, hS2, hb2', hF3, Lib.hid ⟨hsz2.out.1, hsz2.out.2, rfl⟩⟩
          case round =>
            obtain ⟨j, gs3, y3, A3, n3, c3, hj, rfl, rfl, hM3, hS3, hb3, hF4, hsz3⟩ := hrel
            have hj200 : (j : Int) < 200 := by omega
            go_wp2_with fail
            refine (streamNextAny g (l.take (t + v)) gs3 y3 C T E _ _ hS3 (ht.call hb3) (by have := hsz3.out; omega) hF4).mono ?_
            rintro _ w4 ⟨g4, ⟨K, Bd, A4, n4, c4, y4, rfl, rfl, rfl, rfl, o4, hfr, hS4, hF5⟩ | ⟨y4, C4, T4, E4, rfl, hS4, hF5⟩⟩
            · have hb4 := below_grown hb3 g4 hg hb3.size
              obtain ⟨csS, hGb, hno⟩ := hS3.row
              have hM4 := hM3.at_ hGb (by decide) hno g4
              have HFAR := Lib.hid (show 0 < n4 → ∀ ad, A4 = some ad → some ad.block ≠ Value.ownBlock (.slice A3 n3 c3) from fun h0 ad he hown => by
                have h1 := hfr h0 ad he
                have h2 := (hM3.own_lt _ hown.symm).2
                omega)
              obtain ⟨csT, hGb4, _⟩ := hS4.row
              have HML := Lib.hid (show gs3.length ≤ 100000 by have := hsz3.out; omega)
              have HSZ4 := Lib.hid (show j + 1 ≤ 157 ∧ t + v ≤ n ∧ 19 * (gs3 ++ [(K, Bd)]).length + y4.length ≤ t + v ∧ (gs3 ++ [(K, Bd)]).length = gs.length + (j + 1) by
                have h1 := hsz3.out
                have h2 := hF5.out.2
                rw [List.length_append, List.length_cons, List.length_nil]
                omega)
              clear hGb hno hfr
              have k4 := (Below.refl w4.heap.size w4).alloc (Nat.le_refl _) (.cells #[.int .i64 K, .slice A4 n4 c4] 89)
              have hM5 := hM4.call k4
              have r5 := o4.call k4
              have hS5 := hS4.call k4
              have hb5 := btr hb4 k4 hb4.size
              have HNE := Lib.hid (hM4.own_ne hGb4 (by decide))
              have hR5 := Reads.two w4 89 (.int .i64 K) (.slice A4 n4 c4) rfl
              have hsz4 := hb4.size
              clear hGb4
              go_wp2_with (first
                | (at_builtin; refine wpl_appM rfl (.tmp 72) (.tmp 76) _ rfl Tryd.underlying83 msginfo w.heap.size A3 n3 c3 gs3 (by rfl) hM5 _ _ _ (by rfl) K A4 n4 c4 Bd hR5 r5 HFAR.out HML.out (by simp; omega) ?_; intro A6 c6 w6 o6 b6 g6 at6; have hb6 := hb5.trans b6; have hS6 := hS5.beside g6 HNE.out at6))
              go_roundw
              case rel => exact ⟨j + 1, gs3 ++ [(K, Bd)], y4, A6, n3 + 1, c6, HSZ4.out.1, by go_num, rfl, o6, hS6, hb6, Lib.hid hF5.out.1, Lib.hid HSZ4.out.2⟩
              case measure => simp [intOf]; omega
            · have hb4 := below_grown hb3 g4 hg hb3.size
              obtain ⟨csS, hGb, hno⟩ := hS3.row
              have hM4 := hM3.at_ hGb (by decide) hno g4
              clear hGb hno
              go_wp2_with fail
              go_roundw
              case rel => exact ⟨k + 1, t + v, gs3, y4, C4, T4, E4, A3, n3, c3, _, _, _, by omega, by go_num, rfl, rfl, hM4, hS4, by first | exact hR3 | exact hR3z (by omega), by omega, by omega, hb4, Lib.hid hF5.out.1, Lib.hid hF5.out.2.1, Lib.hid ⟨hsz3.out.1, by have := hsz3.out; have := hF5.out.2.2; omega⟩, HV⟩
              case measure => simp [intOf]; omega
        · have hpc' : ¬ cr = v := by omega
          rw [if_neg hpc'] at hAr3
          go_wp2_with fail
          go_loopw [6, 10] (fun got kk wq => ∃ (j : Nat) (gs3 : List (Int × List UInt8)) (y3 : List UInt8) (A3 : Option Addr) (n3 c3 : Nat), j ≤ 157 ∧ kk = .int .i64 j ∧ got = .slice A3 n3 c3 ∧ OM wq w.heap.size A3 n3 c3 gs3 ∧ SMX wq g y3 C T E (Value.ownBlock (.slice A3 n3 c3)) ∧ Below w.heap.size w wq ∧ Hid (FST (l.take (t + v)) gs3 y3 (C, T, E)) ∧ Hid (t + v ≤ n ∧ 19 * gs3.length + y3.length ≤ t + v ∧ gs3.length = gs.length + j)) (fun _ j _ => 200 - (intOf j).toNat)
          case atStart => exact ⟨0, gs, y2, Ag, ng, cg, by omega, rfl, rfl, hM2, hS2, hb2', hF3, Lib.hid ⟨hsz2.out.1, hsz2.out.2, rfl⟩⟩
          case round =>
            obtain ⟨j, gs3, y3, A3, n3, c3, hj, rfl, rfl, hM3, hS3, hb3, hF4, hsz3⟩ := hrel
            have hj200 : (j : Int) < 200 := by omega
            go_wp2_with fail
            refine (streamNextAny g (l.take (t + v)) gs3 y3 C T E _ _ hS3 (ht.call hb3) (by have := hsz3.out; omega) hF4).mono ?_
            rintro _ w4 ⟨g4, ⟨K, Bd, A4, n4, c4, y4, rfl, rfl, rfl, rfl, o4, hfr, hS4, hF5⟩ | ⟨y4, C4, T4, E4, rfl, hS4, hF5⟩⟩
            · have hb4 := below_grown hb3 g4 hg hb3.size
              obtain ⟨csS, hGb, hno⟩ := hS3.row
              have hM4 := hM3.at_ hGb (by decide) hno g4
              have HFAR := Lib.hid (show 0 < n4 → ∀ ad, A4 = some ad → some ad.block ≠ Value.ownBlock (.slice A3 n3 c3) from fun h0 ad he hown => by
                have h1 := hfr h0 ad he
                have h2 := (hM3.own_lt _ hown.symm).2
                omega)
              obtain ⟨csT, hGb4, _⟩ := hS4.row
              have HML := Lib.hid (show gs3.length ≤ 100000 by have := hsz3.out; omega)
              have HSZ4 := Lib.hid (show j + 1 ≤ 157 ∧ t + v ≤ n ∧ 19 * (gs3 ++ [(K, Bd)]).length + y4.length ≤ t + v ∧ (gs3 ++ [(K, Bd)]).length = gs.length + (j + 1) by
                have h1 := hsz3.out
                have h2 := hF5.out.2
                rw [List.length_append, List.length_cons, List.length_nil]
                omega)
              clear hGb hno hfr
              have k4 := (Below.refl w4.heap.size w4).alloc (Nat.le_refl _) (.cells #[.int .i64 K, .slice A4 n4 c4] 89)
              have hM5 := hM4.call k4
              have r5 := o4.call k4
              have hS5 := hS4.call k4
              have hb5 := btr hb4 k4 hb4.size
              have HNE := Lib.hid (hM4.own_ne hGb4 (by decide))
              have hR5 := Reads.two w4 89 (.int .i64 K) (.slice A4 n4 c4) rfl
              have hsz4 := hb4.size
              clear hGb4
              go_wp2_with (first
                | (at_builtin; refine wpl_appM rfl (.tmp 72) (.tmp 76) _ rfl Tryd.underlying83 msginfo w.heap.size A3 n3 c3 gs3 (by rfl) hM5 _ _ _ (by rfl) K A4 n4 c4 Bd hR5 r5 HFAR.out HML.out (by simp; omega) ?_; intro A6 c6 w6 o6 b6 g6 at6; have hb6 := hb5.trans b6; have hS6 := hS5.beside g6 HNE.out at6))
              go_roundw
              case rel => exact ⟨j + 1, gs3 ++ [(K, Bd)], y4, A6, n3 + 1, c6, HSZ4.out.1, by go_num, rfl, o6, hS6, hb6, Lib.hid hF5.out.1, Lib.hid HSZ4.out.2⟩
              case measure => simp [intOf]; omega
            · have hb4 := below_grown hb3 g4 hg hb3.size
              obtain ⟨csS, hGb, hno⟩ := hS3.row
              have hM4 := hM3.at_ hGb (by decide) hno g4
              clear hGb hno
              go_wp2_with fail
              go_roundw
              case rel => exact ⟨k + 1, t + v, gs3, y4, C4, T4, E4, A3, n3, c3, _, _, _, by omega, by go_num, rfl, rfl, hM4, hS4, by first | exact hR3 | exact hR3z (by omega), by omega, by omega, hb4, Lib.hid hF5.out.1, Lib.hid hF5.out.2.1, Lib.hid ⟨hsz3.out.1, by have := hsz3.out; have := hF5.out.2.2; omega⟩, HV⟩
              case measure => simp [intOf]; omega
      · have hk3 : k = n' := by omega
        have HV := Lib.hid (show k + 1 = n' + 1 → t + nr = n by
          have := hR.len
          rw [List.length_drop, ← HL.out] at this
          have := hsz.out.1
          omega)
        go_wp2_with fail
        have hyl := Lib.hid (show y.length ≤ 3000 by have := hsz.out; omega)
        refine (streamFeedAny g (l.take t) ((l.drop t).take nr) gs y C T E Ar nr cr _ (Value.ownBlock (.slice Ag ng cg)) (fun _ hk => (hM.own_lt _ hk).2) hS (((hR.take_ (Nat.le_refl nr)).below hb).more hb.size) (by have := hyl.out; omega) (by omega) hFST hFSE).mono ?_
        rintro _ w2 ⟨rfl, y2, hS2, g2, hF2⟩
        have hb2' := below_grown hb g2 hg hb.size
        obtain ⟨csS, hGb, hno⟩ := hS.row
        have hM2 := hM.at_ hGb (by decide) hno g2
        have hsz2 := Lib.hid (show t + nr ≤ n ∧ 19 * gs.length + y2.length ≤ t + nr by have := hsz.out; have := hF2.out.2; have := hR.len; rw [List.length_drop, ← HL.out] at this; omega)
        have hF3 := Lib.hid (show FST (l.take (t + nr)) gs y2 (C, T, E) by rw [List.take_add]; exact hF2.out.1)
        have hR3 := hR.drop_ (k := nr) (by omega) hrc
        rw [List.drop_drop] at hR3
        obtain ⟨Ar3, hAr3⟩ : ∃ Ar3, (if cr = nr then Ar else Ar.map (·.add nr)) = Ar3 := ⟨_, rfl⟩
        rw [hAr3] at hR3
        have hR3z : nr ≤ nr → BS w w.heap.size Ar3 0 (l.drop (t + nr)) := fun hh => by
          rw [Nat.sub_eq_zero_of_le hh] at hR3
          exact hR3
        clear hF2 hsz hFST hFSE hyl hGb hno
        rcases Nat.eq_or_lt_of_le (show nr ≤ cr by omega) with hpc | hpc
        · subst hpc
          rw [if_pos rfl] at hAr3
          subst hAr3
          go_wp2_with fail
          go_loopw [6, 10] (fun got kk wq => ∃ (j : Nat) (gs3 : List (Int × List UInt8)) (y3 : List UInt8) (A3 : Option Addr) (n3 c3 : Nat), j ≤ 157 ∧ kk = .int .i64 j ∧ got = .slice A3 n3 c3 ∧ OM wq w.heap.size A3 n3 c3 gs3 ∧ SMX wq g y3 C T E (Value.ownBlock (.slice A3 n3 c3)) ∧ Below w.heap.size w wq ∧ Hid (FST (l.take (t + nr)) gs3 y3 (C, T, E)) ∧ Hid (t + nr ≤ n ∧ 19 * gs3.length + y3.length ≤ t + nr ∧ gs3.length = gs.length + j)) (fun _ j _ => 200 - (intOf j).toNat)
          case atStart => exact ⟨0, gs, y2, Ag, ng, cg, by omega, rfl, rfl, hM2, hS2, hb2', hF3, Lib.hid ⟨hsz2.out.1, hsz2.out.2, rfl⟩⟩
          case round =>
            obtain ⟨j, gs3, y3, A3, n3, c3, hj, rfl, rfl, hM3, hS3, hb3, hF4, hsz3⟩ := hrel
            have hj200 : (j : Int) < 200 := by omega
            go_wp2_with fail
            refine (streamNextAny g (l.take (t + nr)) gs3 y3 C T E _ _ hS3 (ht.call hb3) (by have := hsz3.out; omega) hF4).mono ?_
            rintro _ w4 ⟨g4, ⟨K, Bd, A4, n4, c4, y4, rfl, rfl, rfl, rfl, o4, hfr, hS4, hF5⟩ | ⟨y4, C4, T4, E4, rfl, hS4, hF5⟩⟩
            · have hb4 := below_grown hb3 g4 hg hb3.size
              obtain ⟨csS, hGb, hno⟩ := hS3.row
              have hM4 := hM3.at_ hGb (by decide) hno g4
              have HFAR := Lib.hid (show 0 < n4 → ∀ ad, A4 = some ad → some ad.block ≠ Value.ownBlock (.slice A3 n3 c3) from fun h0 ad he hown => by
                have h1 := hfr h0 ad he
                have h2 := (hM3.own_lt _ hown.symm).2
                omega)
              obtain ⟨csT, hGb4, _⟩ := hS4.row
              have HML := Lib.hid (show gs3.length ≤ 100000 by have := hsz3.out; omega)
              have HSZ4 := Lib.hid (show j + 1 ≤ 157 ∧ t + nr ≤ n ∧ 19 * (gs3 ++ [(K, Bd)]).length + y4.length ≤ t + nr ∧ (gs3 ++ [(K, Bd)]).length = gs.length + (j + 1) by
                have h1 := hsz3.out
                have h2 := hF5.out.2
                rw [List.length_append, List.length_cons, List.length_nil]
                omega)
              clear hGb hno hfr
              have k4 := (Below.refl w4.heap.size w4).alloc (Nat.le_refl _) (.cells #[.int .i64 K, .slice A4 n4 c4] 89)
              have hM5 := hM4.call k4
              have r5 := o4.call k4
              have hS5 := hS4.call k4
              have hb5 := btr hb4 k4 hb4.size
              have HNE := Lib.hid (hM4.own_ne hGb4 (by decide))
              have hR5 := Reads.two w4 89 (.int .i64 K) (.slice A4 n4 c4) rfl
              have hsz4 := hb4.size
              clear hGb4
              go_wp2_with (first
                | (at_builtin; refine wpl_appM rfl (.tmp 72) (.tmp 76) _ rfl Tryd.underlying83 msginfo w.heap.size A3 n3 c3 gs3 (by rfl) hM5 _ _ _ (by rfl) K A4 n4 c4 Bd hR5 r5 HFAR.out HML.out (by simp; omega) ?_; intro A6 c6 w6 o6 b6 g6 at6; have hb6 := hb5.trans b6; have hS6 := hS5.beside g6 HNE.out at6))
              go_roundw
              case rel => exact ⟨j + 1, gs3 ++ [(K, Bd)], y4, A6, n3 + 1, c6, HSZ4.out.1, by go_num, rfl, o6, hS6, hb6, Lib.hid hF5.out.1, Lib.hid HSZ4.out.2⟩
              case measure => simp [intOf]; omega
            · have hb4 := below_grown hb3 g4 hg hb3.size
              obtain ⟨csS, hGb, hno⟩ := hS3.row
              have hM4 := hM3.at_ hGb (by decide) hno g4
              clear hGb hno
              go_wp2_with fail
              go_roundw
              case rel => exact ⟨k + 1, t + nr, gs3, y4, C4, T4, E4, A3, n3, c3, _, _, _, by omega, by go_num, rfl, rfl, hM4, hS4, by first | exact hR3 | exact hR3z (by omega), by omega, by omega, hb4, Lib.hid hF5.out.1, Lib.hid hF5.out.2.1, Lib.hid ⟨hsz3.out.1, by have := hsz3.out; have := hF5.out.2.2; omega⟩, HV⟩
              case measure => simp [intOf]; omega
        · have hpc' : ¬ cr = nr := by omega
          rw [if_neg hpc'] at hAr3
          go_wp2_with fail
          go_loopw [6, 10] (fun got kk wq => ∃ (j : Nat) (gs3 : List (Int × List UInt8)) (y3 : List UInt8) (A3 : Option Addr) (n3 c3 : Nat), j ≤ 157 ∧ kk = .int .i64 j ∧ got = .slice A3 n3 c3 ∧ OM wq w.heap.size A3 n3 c3 gs3 ∧ SMX wq g y3 C T E (Value.ownBlock (.slice A3 n3 c3)) ∧ Below w.heap.size w wq ∧ Hid (FST (l.take (t + nr)) gs3 y3 (C, T, E)) ∧ Hid (t + nr ≤ n ∧ 19 * gs3.length + y3.length ≤ t + nr ∧ gs3.length = gs.length + j)) (fun _ j _ => 200 - (intOf j).toNat)
          case atStart => exact ⟨0, gs, y2, Ag, ng, cg, by omega, rfl, rfl, hM2, hS2, hb2', hF3, Lib.hid ⟨hsz2.out.1, hsz2.out.2, rfl⟩⟩
          case round =>
            obtain ⟨j, gs3, y3, A3, n3, c3, hj, rfl, rfl, hM3, hS3, hb3, hF4, hsz3⟩ := hrel
            have hj200 : (j : Int) < 200 := by omega
            go_wp2_with fail
            refine (streamNextAny g (l.take (t + nr)) gs3 y3 C T E _ _ hS3 (ht.call hb3) (by have := hsz3.out; omega) hF4).mono ?_
            rintro _ w4 ⟨g4, ⟨K, Bd, A4, n4, c4, y4, rfl, rfl, rfl, rfl, o4, hfr, hS4, hF5⟩ | ⟨y4, C4, T4, E4, rfl, hS4, hF5⟩⟩
            · have hb4 := below_grown hb3 g4 hg hb3.size
              obtain ⟨csS, hGb, hno⟩ := hS3.row
              have hM4 := hM3.at_ hGb (by decide) hno g4
              have HFAR := Lib.hid (show 0 < n4 → ∀ ad, A4 = some ad → some ad.block ≠ Value.ownBlock (.slice A3 n3 c3) from fun h0 ad he hown => by
                have h1 := hfr h0 ad he
                have h2 := (hM3.own_lt _ hown.symm).2
                omega)
              obtain ⟨csT, hGb4, _⟩ := hS4.row
              have HML := Lib.hid (show gs3.length ≤ 100000 by have := hsz3.out; omega)
              have HSZ4 := Lib.hid (show j + 1 ≤ 157 ∧ t + nr ≤ n ∧ 19 * (gs3 ++ [(K, Bd)]).length + y4.length ≤ t + nr ∧ (gs3 ++ [(K, Bd)]).length = gs.length + (j + 1) by
                have h1 := hsz3.out
                have h2 := hF5.out.2
                rw [List.length_append, List.length_cons, List.length_nil]
                omega)
              clear hGb hno hfr
              have k4 := (Below.refl w4.heap.size w4).alloc (Nat.le_refl _) (.cells #[.int .i64 K, .slice A4 n4 c4] 89)
              have hM5 := hM4.call k4
              have r5 := o4.call k4
              have hS5 := hS4.call k4
              have hb5 := btr hb4 k4 hb4.size
              have HNE := Lib.hid (hM4.own_ne hGb4 (by decide))
              have hR5 := Reads.two w4 89 (.int .i64 K) (.slice A4 n4 c4) rfl
              have hsz4 := hb4.size
              clear hGb4
              go_wp2_with (first
                | (at_builtin; refine wpl_appM rfl (.tmp 72) (.tmp 76) _ rfl Tryd.underlying83 msginfo w.heap.size A3 n3 c3 gs3 (by rfl) hM5 _ _ _ (by rfl) K A4 n4 c4 Bd hR5 r5 HFAR.out HML.out (by simp; omega) ?_; intro A6 c6 w6 o6 b6 g6 at6; have hb6 := hb5.trans b6; have hS6 := hS5.beside g6 HNE.out at6))
              go_roundw
              case rel => exact ⟨j + 1, gs3 ++ [(K, Bd)], y4, A6, n3 + 1, c6, HSZ4.out.1, by go_num, rfl, o6, hS6, hb6, Lib.hid hF5.out.1, Lib.hid HSZ4.out.2⟩
              case measure => simp [intOf]; omega
            · have hb4 := below_grown hb3 g4 hg hb3.size
              obtain ⟨csS, hGb, hno⟩ := hS3.row
              have hM4 := hM3.at_ hGb (by decide) hno g4
              clear hGb hno
              go_wp2_with fail
              go_roundw
              case rel => exact ⟨k + 1, t + nr, gs3, y4, C4, T4, E4, A3, n3, c3, _, _, _, by omega, by go_num, rfl, rfl, hM4, hS4, by first | exact hR3 | exact hR3z (by omega), by omega, by omega, hb4, Lib.hid hF5.out.1, Lib.hid hF5.out.2.1, Lib.hid ⟨hsz3.out.1, by have := hsz3.out; have := hF5.out.2.2; omega⟩, HV⟩
              case measure => simp [intOf]; omega
    · go_wp2_with fail
      have hk3 : k = n' + 1 := by omega
      have hT : t = n := hall.out hk3
      have HEND := Lib.hid (show allF l = (gs, (C, T, E), y) by
        have h1 := hFST.out.ends hFSE.out
        rw [hT, HL.out, List.take_length] at h1
        exact h1)
      have hyl := Lib.hid (show y.length ≤ 3000 ∧ gs.length ≤ 200 by have := hsz.out; omega)
      have HE := Lib.hid (show E.length ≤ 100000 by have := allR_data (l.length + 1) l; rw [show allR (l.length + 1) l = allF l from rfl, HEND.out] at this; simp only at this; omega)
      clear hall hFST hFSE hsz hT
      refine (refAll A n c l wr (h.call hb) hnc (by omega)).mono ?_
      rintro _ w3 ⟨A1, n1, c1, A2, n2, c2, rfl, o1, o2, b3⟩
      rw [HEND.out] at o1 o2 ⊢
      dsimp only at o1 o2 ⊢
      obtain ⟨G, hG'⟩ : ∃ G, gs.length = G := ⟨_, rfl⟩
      obtain rfl : ng = G := hM.len.trans hG'
      obtain rfl : n1 = ng := o1.len.trans hG'
      have HG := Lib.hid hG'
      have HG2 := Lib.hid (show n1 ≤ 200 by rw [← hG']; exact hyl.out.2)
      clear hG'
      have k4 := b3.alloc b3.size (.cells #[.int .i64 C, .int .i64 T, .slice A2 n2 c2] 29)
      have k5 := (Below.refl w3.heap.size w3).alloc (Nat.le_refl _) (.cells #[.int .i64 C, .int .i64 T, .slice A2 n2 c2] 29)
      have hS4 := hS.call k4
      have hM4 := hM.call k4
      have o14 := o1.call k5
      have o24 := o2.call k5
      have hF4 := Blk.new w3 29 #[.int .i64 C, .int .i64 T, .slice A2 n2 c2]
      have b4 := btr hb k4 hb.size
      have hfl := hF4.lt
      obtain ⟨W, hW⟩ : ∃ W, w3.alloc (.cells #[.int .i64 C, .int .i64 T, .slice A2 n2 c2] 29) = W := ⟨_, rfl⟩
      rw [hW] at hS4 hM4 o14 o24 hF4 b4 hfl
      have d0 : W.cell? ⟨w3.heap.size, 0, none⟩ = some (.int .i64 C) := hF4.cell 0
      have d1 : W.cell? ⟨w3.heap.size, 1, none⟩ = some (.int .i64 T) := hF4.cell 1
      have d2 : W.cell? ⟨w3.heap.size, 2, none⟩ = some (.slice A2 n2 c2) := hF4.cell 2
      have hS4' := hS4
      obtain ⟨Ay, ny, cy, Az, nz, cz, hBy, _, hy, hz, _⟩ := hS4
      obtain ⟨N, hN⟩ : ∃ N, y.length = N := ⟨_, rfl⟩
      obtain rfl : ny = N := hy.len.trans hN
      have HN := Lib.hid hN
      rw [hN]
      clear hN
      clear hS hM o1 o2 hF4
      go_wp2_with fail
      try rw [hW]
      clear hW
      go_region_held3 (fun w' => Below W.heap.size W w' ∧ w'.cell? ⟨w3.heap.size, 0, none⟩ = some (.int .i64 C) ∧ w'.cell? ⟨w3.heap.size, 1, none⟩ = some (.int .i64 T) ∧ w'.cell? ⟨w3.heap.size, 2, none⟩ = some (.slice A2 n2 c2))
        (first | (refine keepF hfl b6 ?_; assumption) | (refine keepF hfl b5 ?_; assumption) | ((repeat' apply And.intro) <;> first | (with_reducible exact Below.drew (Below.refl _ _)) | go_keep))
        (first
          | (go_at_call 80; refine (streamFault g y C T E _ _ (hS4'.call (And.left (by with_reducible assumption))) HE.out).mono ?_; rintro _ w5 ⟨A5, n5, c5, rfl, o5, b5⟩)
          | (go_at_call 81; refine (streamLeft g Ay ny cy _ _ _ _ (hBy.below (And.left (by with_reducible assumption)) hBy.lt)).mono ?_; rintro _ _ ⟨rfl, rfl⟩)
          | (go_at_call 28; refine (sameFault_any C T C T A5 A2 n5 c5 n2 c2 E E _ o5 (o24.call (And.left (by with_reducible assumption)))).mono ?_; simp only [beq_self_eq_true, Bool.and_self]; rintro _ w6 ⟨rfl, b6⟩))
      all_goals
        have kW : Below W.heap.size W w6 := And.left (by with_reducible assumption)
        have b46 := btr b4 kW b4.size
        have hM6 := hM4.call kW
        have o16 := o14.call kW
        have t6 := ht.call b46
        clear hM4 o14 o24 o5 hS4' hBy hy hz
        go_wp2_with fail
        go_loopw [17] (fun i wq => ∃ j q : Nat, j ≤ n1 ∧ i = .int .i64 j ∧ wq = w6.drewN q) (fun i _ => n1 - (intOf i).toNat)
        case atStart => exact ⟨0, 0, by omega, rfl, rfl⟩
        case round =>
          obtain ⟨j, q, hj, rfl, rfl⟩ := hrel
          have hn200 : n1 ≤ 200 := HG2.out
          by_cases hlt : j < n1
          · have hji : (j : Int) < n1 := by omega
            obtain ⟨m, hm⟩ : ∃ m, gs[j]? = some m := ⟨_, List.getElem?_eq_getElem (by rw [HG.out]; exact hlt)⟩
            obtain ⟨g1, A7, n7, c7, rfl, hg1, e71, e72, s7⟩ := hM6.form hm
            obtain ⟨g2, A8, n8, c8, rfl, hg2, e81, e82, s8⟩ := o16.form hm
            obtain ⟨mk, mb⟩ := m
            dsimp only at e71 e81 s7 s8
            rw [Nat.mul_comm] at e71 e72 e81 e82
            clear hm
            go_wp2_with fail
            go_quiet ((go_at_call 32; exact quietSame s7 s8))
            go_wp2_with fail
            go_roundw
            case rel => exact ⟨j + 1, q + nq, by omega, by go_num, rfl⟩
            case measure => simp [intOf]; omega
          · have hj' : j = n1 := by omega
            subst hj'
            go_wp2_with fail
            refine (awake07 _ (t6.call (below_drewN (Below.refl _ _) q))).mono ?_
            rintro _ w9 ⟨rfl, b9⟩
            go_wp2_with fail
            go_ret
            exact ⟨rfl, btr b46 (btr (below_drewN (Below.refl _ _) q) b9 (Nat.le_refl _)) b46.size⟩
set_option maxHeartbeats 2000000 in
set_option maxRecDepth 100000 in
theorem lawFrameStreams (w : World) (A : Option Addr) (n c : Nat) (l : List UInt8) (h : BS w w.heap.size A n l) (hnc : n ≤ c) (_ : c ≤ maxLen) (A' : Option Addr) (n' c' : Nat) (L : List Int) (h' : NS .i64 w w.heap.size A' n' L) (_ : n' ≤ c') (_ : c' ≤ maxLen) (ht : LeaTab w) :
    Calls Tryd.prog 19 #[.slice A n c, .slice A' n' c'] w fun en w' => en = .returned (.bool true) ∧ Below w.heap.size w w' := by
  by_cases hn : n ≤ 3000
  · by_cases hn' : n' ≤ 20
    · exact frameStreams_in w A n c l h hnc ht A' n' c' L h' hn hn'
    · have hni : (n : Int) ≤ 3000 := by omega
      have hni' : 20 < (n' : Int) := by omega
      go_enter Tryd.func19, Tryd.ntmps19
      go_wp2_with fail
      refine (awake07 _ ht).mono ?_
      rintro _ w5 ⟨rfl, b5⟩
      go_wp2_with fail
      go_ret
      exact ⟨rfl, b5⟩
  · have hni : 3000 < (n : Int) := by omega
    go_enter Tryd.func19, Tryd.ntmps19
    go_wp2_with fail
    refine (awake07 _ ht).mono ?_
    rintro _ w5 ⟨rfl, b5⟩
    go_wp2_with fail
    go_ret
    exact ⟨rfl, b5⟩
end Go.Proofs.YtdcldmblgbefnaaDoor
