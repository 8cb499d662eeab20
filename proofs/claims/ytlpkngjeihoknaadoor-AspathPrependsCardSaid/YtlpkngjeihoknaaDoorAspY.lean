/- Walks of layer 3 (paths): a path with a number ahead. No conditions but sizes. -/
import Derived.Test.YtlpkngjeihoknaaDoorProg
import Derived.WalkKit
import Derived.WalkSpells
import Derived.WalkLawsBesides
import Derived.Outline
import Derived.Deep.QuietTactic
import Derived.BigQuiet
import Derived.Handy
import Derived.Lib.Hide
import Derived.Test.YtlpkngjeihoknaaDoorInsU
import Derived.Test.YtlpkngjeihoknaaDoorInsS
import Derived.Test.YtlpkngjeihoknaaDoorAspJ
import Derived.Test.YtlpkngjeihoknaaDoorAspO
namespace Go.Proofs.YtlpkngjeihoknaaDoor
open Go.RowKit
set_option linter.unusedSimpArgs false
set_option linter.unusedVariables false
/-- A path with a number ahead, right or not. -/
def preL : List Seg → Int → List Seg
  | [], a => [(2, [a])]
  | x :: r, a => if x.1 = 2 then (2, a :: x.2) :: r else (2, [a]) :: x :: r
def preA (l : List Seg) (a : Int) : List Seg × Int := if rightA l = true then (if rightA (preL l a) = true then (preL l a, 0) else ([], 6)) else ([], 1)
theorem preA_no {l : List Seg} (a : Int) (h : rightA l = false) : preA l a = ([], 1) := by unfold preA; rw [h]; rfl
theorem preA_full {l : List Seg} {a : Int} (h : rightA l = true) (h2 : rightA (preL l a) = false) : preA l a = ([], 6) := by unfold preA; rw [h, h2]; rfl
theorem preA_ok {l : List Seg} {a : Int} (h : rightA l = true) (h2 : rightA (preL l a) = true) : preA l a = (preL l a, 0) := by unfold preA; rw [h, h2]; rfl
theorem preL_sum (l : List Seg) (a : Int) : sumN (preL l a) = sumN l + 1 ∧ (preL l a).length ≤ l.length + 1 := by
  cases l with
  | nil => simp [preL, sumN]
  | cons x r =>
    by_cases h : x.1 = 2
    · rw [preL, if_pos h]; simp [sumN]; omega
    · rw [preL, if_neg h]; simp [sumN]; omega
/-- A path that is handed back, with an error's number. -/
def RetPp (w : World) (r : List Seg × Int) (e : Ending) (w' : World) : Prop := ∃ (A : Option Addr) (n c : Nat) (L : List (Seg × Hd)), e = .returned (.tuple #[.slice A n c, .int .i64 r.2]) ∧ OP w' w.heap.size A n c L ∧ L.map (·.1) = r.1 ∧ Below w.heap.size w w'
section
variable {w w' : World} {base n c : Nat} {A : Option Addr} {L : List (Seg × Hd)}
/-- One part more ahead, its numbers apart from all others. -/
theorem OP.push0 (h : OP w base A n c L) {A' : Option Addr} {c' : Nat} {y : Seg × Hd} (hy : OU w base y.2.1 y.2.2.1 y.2.2.2 y.1.2) (ha : ∀ z ∈ L, Apt z y) (ho : w'.ownsRow base 73 2 (.slice A' (n + 1) c') (n + 1) (segC y ++ segsC L)) (hg : w.grownBy w' (Value.ownBlock (.slice A n c))) : OP w' base A' (n + 1) c' (y :: L) := by
  have e : segsC (y :: L) = segC y ++ segsC L := by simp [segsC]
  refine ⟨by rw [List.length_cons, h.1], by rw [e]; exact ho, fun z hz => ?_, List.pairwise_cons.2 ⟨fun z hz b hb hzb => ha z hz b hzb hb, h.2.2.2⟩⟩
  have key : OU w base z.2.1 z.2.2.1 z.2.2.2 z.1.2 := by
    rcases List.mem_cons.1 hz with rfl | hz
    · exact hy
    · exact h.2.2.1 z hz
  exact ⟨key.1, own_own key.2.1 h.2.1 (by decide) hg, key.2.2⟩
/-- The first part's numbers are others. -/
theorem OP.put0 {g : Nat} {x : Seg} {p : Hd} {ys : List Int} {A2 : Option Addr} {n2 c2 : Nat} (h : OP w base (some ⟨g, 0, none⟩) n c ((x, p) :: L)) (ho : OU w' base A2 n2 c2 ys) (hg : w.grownBy w' p.v.ownBlock) (hat : Value.ownBlock (.slice A2 n2 c2) = p.v.ownBlock ∨ Value.ownBlock (.slice A2 n2 c2) = some w.heap.size) :
    OP (w'.setCell ⟨g, 1, none⟩ (.slice A2 n2 c2)) base (some ⟨g, 0, none⟩) n c (((x.1, ys), (A2, n2, c2)) :: L) := by
  have hp : OU w base p.1 p.2.1 p.2.2 x.2 := h.2.2.1 (x, p) (by simp)
  have hr : w'.ownsRow base 73 2 (.slice (some ⟨g, 0, none⟩) n c) n (segsC ((x, p) :: L)) := own_own h.2.1 hp.2.1 (by decide) hg
  obtain ⟨hs, hgs⟩ := hr.stored 1 (.slice A2 n2 c2)
  have hpw := List.pairwise_cons.1 h.2.2.2
  refine ⟨by rw [h.1]; simp, ?_, fun z hz => ?_, List.pairwise_cons.2 ⟨fun z hz => ?_, hpw.2⟩⟩
  · have e : (segsC ((x, p) :: L)).set 1 (.slice A2 n2 c2) = segsC (((x.1, ys), (A2, n2, c2)) :: L) := by simp [segsC, segC, Hd.v]
    rw [← e]
    exact hs
  · rcases List.mem_cons.1 hz with rfl | hz
    · exact ⟨ho.1, own_own ho.2.1 hr (by decide) hgs, ho.2.2⟩
    · have key := h.2.2.1 z (List.mem_cons_of_mem _ hz)
      have hne := hpw.1 z hz
      have k2 : w'.ownsRow base 33 1 (.slice z.2.1 z.2.2.1 z.2.2.2) z.2.2.1 (un z.1.2) := key.2.1.kept hg (by
        rcases hb : Value.ownBlock (.slice z.2.1 z.2.2.1 z.2.2.2) with _ | b
        · exact .inl rfl
        · exact .inr (fun e => hne b e.symm hb))
      exact ⟨key.1, own_own k2 hr (by decide) hgs, key.2.2⟩
  · intro b hb e
    have key := h.2.2.1 z (List.mem_cons_of_mem _ hz)
    have hlt := (key.2.1.lt b e).2
    rcases hat with e1 | e1
    · exact hpw.1 z hz b (e1.symm.trans hb) e
    · rw [show Hd.v (A2, n2, c2) = .slice A2 n2 c2 from rfl, e1] at hb
      injection hb with hb
      omega
end
theorem un_oneC (l : List Int) : ∀ v ∈ un l, v.oneCell' = true := un_one l
theorem segsC_one' (L : List (Seg × Hd)) : ∀ v ∈ segsC L, v.oneCell' = true := by
  intro v hv
  obtain ⟨y, _, hy⟩ := List.mem_flatMap.1 hv
  simp [segC] at hy
  rcases hy with rfl | rfl <;> rfl
set_option maxHeartbeats 8000000 in
set_option maxRecDepth 100000 in
theorem aspPrepend (A : Option Addr) (n c : Nat) (l : List Seg) (a : Int) (w : World) (hd : DL rSeg 2 w (Lo w) A n l) (hn : n ≤ 100000) (hs : Hid (sumN l ≤ big32)) (ha : (Lit.int .u32 a).wf = true) :
    Calls Tryd.prog 43 #[.slice A n c, .int .u32 a] w (RetPp w (preA l a)) := by
  obtain ⟨r, hr⟩ : ∃ r, rightA l = r := ⟨_, rfl⟩
  have HA := Lib.hid ha
  clear ha
  have HR := Lib.hid (show ∀ w, DL rSeg 2 w (Lo w) A n l → Calls Tryd.prog 32 #[.slice A n c] w fun en w' => en = .returned (.bool r) ∧ Below w.heap.size w w' from fun w hd => by rw [← hr]; exact aspRight A n c l w hd hn)
  have HRR := Lib.hid hr
  cases r
  · have HP := Lib.hid (preA_no a hr)
    clear hr
    go_enter Tryd.func43, Tryd.ntmps43
    go_wp2_with fail
    refine (HR.out _ hd).mono ?_
    rintro _ w1 ⟨rfl, b1⟩
    go_wp2_with fail
    go_ret2
    exact ⟨none, 0, 0, [], by rw [HP.out]; rfl, OP.nil_, by rw [HP.out]; rfl, b1⟩
  have HSU := Lib.hid (rightA_of hr)
  clear hr
  go_enter Tryd.func43, Tryd.ntmps43
  go_wp2_with fail
  refine (HR.out _ hd).mono ?_
  rintro _ w1 ⟨rfl, b1⟩
  go_wp2_with fail
  refine (aspCopied A n c l _ (hd.keep rSeg_ok (Kp.call b1)) hn hs).mono ?_
  rintro _ w2 ⟨A2, n2, c2, L, rfl, o2, hL, b2⟩
  have b02 := btr b1 b2 b1.size
  have o2 := o2.low b1.size
  have hn2 := o2.1
  have hL2 := Lib.hid (show n2 ≤ 8 by rw [hn2, ← List.length_map (f := fun y : Seg × Hd => y.1), hL]; exact HSU.out.2.2)
  have HL := Lib.hid hL
  clear hL
  have HZ := Lib.hid b02.size
  cases L with
  | nil =>
    have hn0 : n2 = 0 := hn2
    subst hn0
    clear hn2
    obtain ⟨W, hW, hB1, hB2, bW⟩ := boxes2 w2 #[.int .u32 a] #[.int .i64 2, .slice (some ⟨w2.heap.size, 0, none⟩) 1 1] 33 73
    have HW := Lib.hid hW
    have oU := (OU.one w2 HA.out (Nat.le_refl w2.heap.size) rfl).alloc (.cells #[.int .i64 2, .slice (some ⟨w2.heap.size, 0, none⟩) 1 1] 73)
    rw [hW] at oU
    have oW := o2.call bW
    have hgs : W.heap.size = w2.heap.size + 2 := by rw [← hW]; simp
    clear hW
    have HAP := Lib.hid (o2.apt (y := ((2, [a]), (some ⟨w2.heap.size, 0, none⟩, 1, 1))) oU (Nat.le_refl _))
    have oU := oU.low HZ.out
    have HNB := Lib.hid (show Value.ownBlock (.slice A2 0 c2) ≠ some (w2.heap.size + 1) from fun e => by have := (o2.2.1.lt _ e).2; omega)
    have HX := Lib.hid oW
    have HC := Lib.hid (show Calls Tryd.prog 87 #[.slice A2 0 c2, .int .i64 0, .slice (some ⟨w2.heap.size + 1, 0, none⟩) 1 1] W (RetIns W w.heap.size 73 2 A2 0 c2 (segC (((2, [a]), (some ⟨w2.heap.size, 0, none⟩, 1, 1)) : Seg × Hd) ++ segsC (([] : List (Seg × Hd))))) from by
      have := insertS w.heap.size A2 (0) c2 0 (w2.heap.size + 1) 73 (segsC (([] : List (Seg × Hd)))) [.int .i64 2, .slice (some ⟨w2.heap.size, 0, none⟩) 1 1] W HX.out.2.1 (Nat.zero_le _) hB2 rfl HNB.out (by intro v hv; simp at hv; rcases hv with rfl | rfl <;> rfl) (segsC_one' _) (by have := hL2.out; omega) (by have := HZ.out; omega)
      simpa [segC, Hd.v] using this)
    clear oW hgs hB1 hB2
    go_wp2_with fail
    rw [HW.out]
    refine HC.out.mono ?_
    rintro _ w3 ⟨A3, c3, rfl, o3, g3, _⟩
    have O3 := HX.out.push0 oU HAP.out o3 g3
    have b3 := (Below.refl w.heap.size W).grown g3 (by have := HZ.out; have := bW.size; omega) (fun k hk => (HX.out.2.1.lt k hk).1)
    have b03 := (b02.trans (bW.mono HZ.out)).trans b3
    have HE := Lib.hid (show (((2, [a]), (some ⟨w2.heap.size, 0, none⟩, 1, 1)) :: ([] : List (Seg × Hd))).map (·.1) = preL l a from by have h := HL.out; rw [List.map_cons, h, ← h]; rfl)
    have dl := (O3).dl
    rw [HE.out] at dl
    obtain ⟨rr, hrr⟩ : ∃ rr, rightA (preL l a) = rr := ⟨_, rfl⟩
    have HR9 := Lib.hid hrr
    have HRI := Lib.hid (show ∀ (w' : World), DL rSeg 2 w' (Lo w') (A3) (0 + 1) (preL l a) → Calls Tryd.prog 32 #[.slice (A3) (0 + 1) (c3)] w' fun en w'' => en = .returned (.bool rr) ∧ Below w'.heap.size w' w'' from fun w' h => by rw [← hrr]; exact aspRight (A3) (0 + 1) (c3) _ w' h (by have := hL2.out; omega))
    clear hrr
    go_wp2_with fail
    refine (HRI.out _ dl).mono ?_
    rintro _ w9 ⟨rfl, b9⟩
    have b09 := btr b03 b9 (b03).size
    have o9 := (O3).call b9
    cases rr
    · have HP := Lib.hid (preA_full HRR.out HR9.out)
      go_wp2_with fail
      go_ret2
      exact ⟨none, 0, 0, [], by rw [HP.out]; rfl, OP.nil_, by rw [HP.out]; rfl, b09⟩
    · have HP := Lib.hid (preA_ok HRR.out HR9.out)
      go_wp2_with fail
      go_ret2
      exact ⟨A3, 0 + 1, c3, _, by rw [HP.out]; rfl, o9, by rw [HP.out]; exact HE.out, b09⟩
  | cons y L =>
    obtain ⟨⟨k, zs⟩, p⟩ := y
    obtain ⟨g, rfl, hbg, hgl, c0, c1, fz⟩ := o2.at_ (j := 0) (y := ((k, zs), p)) rfl
    have hnp : 0 < n2 := by rw [hn2]; simp
    have hnpi : (0 : Int) < (n2 : Int) := by omega
    have e1 : decide (0 < n2) = true := decide_eq_true hnp
    have e1' : decide ((0 : Int) < (n2 : Int)) = true := decide_eq_true hnpi
    have HN2 := Lib.hid hn2
    clear hn2
    rw [Nat.zero_mul] at c0 c1
    rw [Nat.zero_add] at c1
    have c0 : w2.cell? ⟨g, 0, none⟩ = some (.int .i64 k) := c0
    by_cases hk : k = 2
    case pos =>
      subst hk
      obtain ⟨A5, n5, c5⟩ := p
      have c1 : w2.cell? ⟨g, 1, none⟩ = some (.slice A5 n5 c5) := c1
      have oU := o2.2.2.1 (((2, zs), (A5, n5, c5)) : Seg × Hd) (by simp)
      have oU : OU w2 w.heap.size A5 n5 c5 zs := oU
      obtain ⟨W, hW, hB1, bW⟩ := box1c w2 #[.int .u32 a] 33
      have HW := Lib.hid hW
      clear hW
      have oW := o2.call bW
      have oUW := oU.call bW
      have HNB := Lib.hid (show Value.ownBlock (.slice A5 n5 c5) ≠ some w2.heap.size from fun e => by have := (oU.2.1.lt _ e).2; omega)
      have HX := Lib.hid oW
      have HY := Lib.hid oUW
      have HC := Lib.hid (show Calls Tryd.prog 86 #[.slice A5 n5 c5, .int .i64 0, .slice (some ⟨w2.heap.size, 0, none⟩) 1 1] W (RetIns W w.heap.size 33 1 A5 n5 c5 (un (a :: zs))) from by
        have := insertU w.heap.size A5 n5 c5 0 w2.heap.size 33 (un zs) [.int .u32 a] W HY.out.2.1 (Nat.zero_le _) hB1 rfl HNB.out (by intro v hv; simp at hv; subst hv; rfl) (un_one _) (by
          have h1 := HSU.out.2.1
          have h2 := HL.out
          have h3 := HY.out.1
          rw [← h2] at h1
          simp [sumN] at h1
          omega) (by have := HZ.out; have := bW.size; omega)
        simpa [un] using this)
      clear oW oUW hB1 oU
      go_wp2_with fail
      rw [HW.out]
      refine HC.out.mono ?_
      rintro _ w3 ⟨A3, c3, rfl, o3, g3, at3⟩
      have oU3 : OU w3 w.heap.size A3 (n5 + 1) c3 (a :: zs) := ⟨by rw [HY.out.1]; rfl, o3, fun x hx => by
        rcases List.mem_cons.1 hx with rfl | hx
        · exact HA.out
        · exact HY.out.2.2 x hx⟩
      have O3 := HX.out.put0 oU3 g3 at3
      have hzW := bW.size
      have b3 := (Below.refl w.heap.size W).grown g3 (by have := HZ.out; omega) (fun k hk => (HY.out.2.1.lt k hk).1)
      have b03 := ((b02.trans (bW.mono HZ.out)).trans b3).setCell (p := ⟨g, 1, none⟩) hbg (.slice A3 (n5 + 1) c3)
      have hr3 := own_own HX.out.2.1 HY.out.2.1 (by decide) g3
      have f1 := hr3.frozenAt 1
      have c1' : w3.cell? ⟨g, 1, none⟩ = some (.slice A5 n5 c5) := by
        rw [hr3.cellAt 1 (by omega)]
        rfl
      clear c0 c1 g3 at3 o3 hr3
      have HE := Lib.hid (show (((2, a :: zs), (A3, n5 + 1, c3)) :: L).map (·.1) = preL l a from by have h := HL.out; rw [← h]; rfl)
      have dl := (O3).dl
      rw [HE.out] at dl
      obtain ⟨rr, hrr⟩ : ∃ rr, rightA (preL l a) = rr := ⟨_, rfl⟩
      have HR9 := Lib.hid hrr
      have HRI := Lib.hid (show ∀ (w' : World), DL rSeg 2 w' (Lo w') (some ⟨g, 0, none⟩) (n2) (preL l a) → Calls Tryd.prog 32 #[.slice (some ⟨g, 0, none⟩) (n2) (c2)] w' fun en w'' => en = .returned (.bool rr) ∧ Below w'.heap.size w' w'' from fun w' h => by rw [← hrr]; exact aspRight (some ⟨g, 0, none⟩) (n2) (c2) _ w' h (by have := hL2.out; omega))
      clear hrr
      go_wp2_with fail
      refine (HRI.out _ dl).mono ?_
      rintro _ w9 ⟨rfl, b9⟩
      have b09 := btr b03 b9 (b03).size
      have o9 := (O3).call b9
      cases rr
      · have HP := Lib.hid (preA_full HRR.out HR9.out)
        go_wp2_with fail
        go_ret2
        exact ⟨none, 0, 0, [], by rw [HP.out]; rfl, OP.nil_, by rw [HP.out]; rfl, b09⟩
      · have HP := Lib.hid (preA_ok HRR.out HR9.out)
        go_wp2_with fail
        go_ret2
        exact ⟨some ⟨g, 0, none⟩, n2, c2, _, by rw [HP.out]; rfl, o9, by rw [HP.out]; exact HE.out, b09⟩
    have e2 : (k == 2) = false := by simpa using hk
    have HK := Lib.hid hk
    clear hk c1 fz
    obtain ⟨W, hW, hB1, hB2, bW⟩ := boxes2 w2 #[.int .u32 a] #[.int .i64 2, .slice (some ⟨w2.heap.size, 0, none⟩) 1 1] 33 73
    have HW := Lib.hid hW
    have oU := (OU.one w2 HA.out (Nat.le_refl w2.heap.size) rfl).alloc (.cells #[.int .i64 2, .slice (some ⟨w2.heap.size, 0, none⟩) 1 1] 73)
    rw [hW] at oU
    have oW := o2.call bW
    have hgs : W.heap.size = w2.heap.size + 2 := by rw [← hW]; simp
    clear hW
    have HAP := Lib.hid (o2.apt (y := ((2, [a]), (some ⟨w2.heap.size, 0, none⟩, 1, 1))) oU (Nat.le_refl _))
    have oU := oU.low HZ.out
    have HNB := Lib.hid (show Value.ownBlock (.slice (some ⟨g, 0, none⟩) n2 c2) ≠ some (w2.heap.size + 1) from fun e => by have := (o2.2.1.lt _ e).2; omega)
    have HX := Lib.hid oW
    have HC := Lib.hid (show Calls Tryd.prog 87 #[.slice (some ⟨g, 0, none⟩) n2 c2, .int .i64 0, .slice (some ⟨w2.heap.size + 1, 0, none⟩) 1 1] W (RetIns W w.heap.size 73 2 (some ⟨g, 0, none⟩) n2 c2 (segC (((2, [a]), (some ⟨w2.heap.size, 0, none⟩, 1, 1)) : Seg × Hd) ++ segsC (((k, zs), p) :: L))) from by
      have := insertS w.heap.size (some ⟨g, 0, none⟩) (n2) c2 0 (w2.heap.size + 1) 73 (segsC (((k, zs), p) :: L)) [.int .i64 2, .slice (some ⟨w2.heap.size, 0, none⟩) 1 1] W HX.out.2.1 (Nat.zero_le _) hB2 rfl HNB.out (by intro v hv; simp at hv; rcases hv with rfl | rfl <;> rfl) (segsC_one' _) (by have := hL2.out; omega) (by have := HZ.out; omega)
      simpa [segC, Hd.v] using this)
    clear oW hgs hB1 hB2
    go_wp2_with fail
    rw [HW.out]
    refine HC.out.mono ?_
    rintro _ w3 ⟨A3, c3, rfl, o3, g3, _⟩
    have O3 := HX.out.push0 oU HAP.out o3 g3
    have b3 := (Below.refl w.heap.size W).grown g3 (by have := HZ.out; have := bW.size; omega) (fun k hk => (HX.out.2.1.lt k hk).1)
    have b03 := (b02.trans (bW.mono HZ.out)).trans b3
    have HE := Lib.hid (show (((2, [a]), (some ⟨w2.heap.size, 0, none⟩, 1, 1)) :: ((k, zs), p) :: L).map (·.1) = preL l a from by have h := HL.out; rw [← h]; exact (show preL (((k, zs) : Seg) :: L.map (·.1)) a = (2, [a]) :: (k, zs) :: L.map (·.1) from by rw [preL, if_neg (show ¬ ((k, zs) : Seg).1 = 2 from HK.out)]).symm)
    have dl := (O3).dl
    rw [HE.out] at dl
    obtain ⟨rr, hrr⟩ : ∃ rr, rightA (preL l a) = rr := ⟨_, rfl⟩
    have HR9 := Lib.hid hrr
    have HRI := Lib.hid (show ∀ (w' : World), DL rSeg 2 w' (Lo w') (A3) (n2 + 1) (preL l a) → Calls Tryd.prog 32 #[.slice (A3) (n2 + 1) (c3)] w' fun en w'' => en = .returned (.bool rr) ∧ Below w'.heap.size w' w'' from fun w' h => by rw [← hrr]; exact aspRight (A3) (n2 + 1) (c3) _ w' h (by have := hL2.out; omega))
    clear hrr
    go_wp2_with fail
    refine (HRI.out _ dl).mono ?_
    rintro _ w9 ⟨rfl, b9⟩
    have b09 := btr b03 b9 (b03).size
    have o9 := (O3).call b9
    cases rr
    · have HP := Lib.hid (preA_full HRR.out HR9.out)
      go_wp2_with fail
      go_ret2
      exact ⟨none, 0, 0, [], by rw [HP.out]; rfl, OP.nil_, by rw [HP.out]; rfl, b09⟩
    · have HP := Lib.hid (preA_ok HRR.out HR9.out)
      go_wp2_with fail
      go_ret2
      exact ⟨A3, n2 + 1, c3, _, by rw [HP.out]; rfl, o9, by rw [HP.out]; exact HE.out, b09⟩
end Go.Proofs.YtlpkngjeihoknaaDoor
