/- Walks of layer 3 (paths): one in memory of its own. No conditions but sizes. -/
import Derived.Test.YtlpkngjeihoknaaDoorProg
import Derived.WalkKit
import Derived.WalkSpells
import Derived.WalkLawsBesides
import Derived.Outline
import Derived.Deep.QuietTactic
import Derived.BigQuiet
import Derived.Handy
import Derived.Lib.Hide
import Derived.Laws.Cover4
import Derived.OrdersHeld
import Derived.Deep.RegionHeld
import Derived.Deep.DeepCutAuto
import Derived.Deep.CutBlock
import Derived.Test.YtlpkngjeihoknaaDoorAspE
namespace Go.Proofs.YtlpkngjeihoknaaDoor
open Go.RowKit
set_option linter.unusedSimpArgs false
set_option linter.unusedVariables false
/-- Parts more, their numbers apart from all others. -/
theorem OP.pushAll {w w' : World} {base n m c c' : Nat} {A A' : Option Addr} {L M : List (Seg × Hd)} (h : OP w base A n c L) (hm : m = M.length) (hM : ∀ y ∈ M, OU w base y.2.1 y.2.2.1 y.2.2.2 y.1.2) (hp : M.Pairwise Apt) (ha : ∀ z ∈ L, ∀ y ∈ M, Apt z y) (ho : w'.ownsRow base 73 2 (.slice A' (n + m) c') (n + m) (segsC L ++ segsC M)) (hg : w.grownBy w' (Value.ownBlock (.slice A n c))) : OP w' base A' (n + m) c' (L ++ M) := by
  refine ⟨by rw [List.length_append, h.1, hm], by rw [segsC_app]; exact ho, fun z hz => ?_, List.pairwise_append.2 ⟨h.2.2.2, hp, ha⟩⟩
  have key : OU w base z.2.1 z.2.2.1 z.2.2.2 z.1.2 := by
    rcases List.mem_append.1 hz with hz | hz
    · exact h.2.2.1 z hz
    · exact hM z hz
  exact ⟨key.1, own_own key.2.1 h.2.1 (by decide) hg, key.2.2⟩
theorem OP.reads {w : World} {base n c : Nat} {A : Option Addr} {L : List (Seg × Hd)} (h : OP w base A n c L) : Reads w w.heap.size 2 A n (segsC L) := Reads.of_own h.2.1
theorem segsC_one1 {L : List (Seg × Hd)} : ∀ u ∈ segsC L, u.oneCell' = true := by
  intro u hu
  obtain ⟨y, _, hy⟩ := List.mem_flatMap.1 hu
  simp [segC] at hy
  rcases hy with rfl | rfl <;> rfl
theorem OP.one {w : World} {base : Nat} {x : Seg} {p : Hd} (hp : OU w base p.1 p.2.1 p.2.2 x.2) (hb : base ≤ w.heap.size) {g : Nat} (hg : g = w.heap.size) : OP (w.alloc (.cells #[.int .i64 x.1, p.v] 73)) base (some ⟨g, 0, none⟩) 1 1 [(x, p)] := by
  subst hg
  refine ⟨rfl, ?_, fun y hy => by simp at hy; subst hy; exact hp.alloc _, List.pairwise_singleton _ _⟩
  have := World.ownsRow_lit (e := 73) (size := 2) w #[.int .i64 x.1, p.v] 1 hb (by unfold maxLen; omega) rfl
  exact this
set_option maxHeartbeats 4000000 in
set_option maxRecDepth 100000 in
theorem copiedOne (k : Int) (A : Option Addr) (n c : Nat) (zs : List Int) (w : World) (h : NS .u32 w w.heap.size A n zs) (hn : Hid (n ≤ 35184372088832)) :
    Calls Tryd.prog 111 #[.agg #[.int .i64 k, .slice A n c]] w (RetP w [(k, zs)]) := by
  obtain ⟨w1, hw1, hX, b1⟩ := box1c w #[.int .i64 k, .slice A n c] 73
  have hXl := hX.lt
  have hXd : Blk w1.drew w.heap.size 73 #[.int .i64 k, .slice A n c] := hX
  have ns1 : NS .u32 w1.drew w1.drew.heap.size A n zs := (h.below b1).more b1.size
  have hsz1 : w.heap.size ≤ w1.drew.heap.size := b1.size
  go_enter Tryd.func111, Tryd.ntmps111
  go_upto_region 1 with fail
  try rw [hw1]
  clear hw1
  obtain ⟨gx, hgx⟩ : ∃ gx, w.heap.size = gx := ⟨_, rfl⟩
  have HGX := Lib.hid hgx
  rw [hgx] at hX hXd hXl
  try rw [hgx]
  clear hgx
  have hXl1 : gx < w1.drew.heap.size := hXl
  rename_i hk
  have HKK := Lib.hid hk
  clear hk
  refine wp_region_held_drew (S := (fun w' => w'.cell? ⟨gx, 0, none⟩ = some (.int .i64 k) ∧ w'.cell? ⟨gx, 1, none⟩ = some (.slice A n c))) (by kernel_rfl) ?_ (fun hHeld => ?_)
  · first | exact ⟨hXd.cell 0, hXd.cell 1⟩ | exact ⟨hX2.cell 0, hX2.cell 1⟩ | exact ⟨hX3.cell 0, hX3.cell 1⟩
  refine wpAnyH_take (i := 0) (v := ?q1v0) rfl (by kernel_rfl) (by kernel_rfl) (by kernel_rfl) (by intro _ _ _ h; exact h) (Or.inl ⟨by rfl, ?q1hy0⟩) (by assumption) ?q1rest0
  case q1hy0 => (intro w hSw; (try dsimp only at hSw); go_simp; try with_reducible rfl)
  try simp only [Act.put, List.getElem_toArray, List.getElem_cons_succ, List.getElem_cons_zero, List.setIfInBounds_toArray, List.set_cons_zero, List.set_cons_succ]
  refine wpAnyH_take (i := 1) (v := ?q1v1) rfl (by kernel_rfl) (by kernel_rfl) (by kernel_rfl) (by intro _ _ _ h; exact h) (Or.inl ⟨by rfl, ?q1hy1⟩) (by assumption) ?q1rest1
  case q1hy1 => (intro w hSw; (try dsimp only at hSw); go_simp; try with_reducible rfl)
  try simp only [Act.put, List.getElem_toArray, List.getElem_cons_succ, List.getElem_cons_zero, List.setIfInBounds_toArray, List.set_cons_zero, List.set_cons_succ]
  refine wpAnyH_take (i := 2) (v := ?q1v2) rfl (by kernel_rfl) (by kernel_rfl) (by kernel_rfl) (by intro _ _ _ h; exact h) (Or.inl ⟨by rfl, ?q1hy2⟩) (by assumption) ?q1rest2
  case q1hy2 => (intro w hSw; (try dsimp only at hSw); go_simp; try with_reducible rfl)
  try simp only [Act.put, List.getElem_toArray, List.getElem_cons_succ, List.getElem_cons_zero, List.setIfInBounds_toArray, List.set_cons_zero, List.set_cons_succ]
  refine wpAnyH_take (i := 3) (v := ?q1v3) rfl (by kernel_rfl) (by kernel_rfl) (by kernel_rfl) (by intro _ _ _ h; exact h) (Or.inl ⟨by rfl, ?q1hy3⟩) (by assumption) ?q1rest3
  case q1hy3 => (intro w hSw; (try dsimp only at hSw); go_simp; try with_reducible rfl)
  try simp only [Act.put, List.getElem_toArray, List.getElem_cons_succ, List.getElem_cons_zero, List.setIfInBounds_toArray, List.set_cons_zero, List.set_cons_succ]
  refine wpAnyH_ready (rs := [4]) (by kernel_rfl) (by simp) ?_
  refine AllReadyH.cons rfl (fun K hK => ?_) AllReadyH.nil
  go_simp
  go_wp2_with ((go_at_call 88; refine (cloneU A n c zs _ ns1 hn.out).mono ?_; rintro _ w2 ⟨A3, n3, c3, rfl, o3, b2⟩; have hX2 := hXd.below b2 hXl1; have hX3 := hX2.alloc (.cells #[.int .i64 k, .slice A3 n3 c3] 73)))
  refine hK.out _ _ ?_ (fun hHeld => ?_)
  · try dsimp only
    first | exact ⟨hXd.cell 0, hXd.cell 1⟩ | exact ⟨hX2.cell 0, hX2.cell 1⟩ | exact ⟨hX3.cell 0, hX3.cell 1⟩
  clear hK K
  refine wpAnyH_take (i := 5) (v := ?q1v5) rfl (by kernel_rfl) (by kernel_rfl) (by kernel_rfl) (by intro _ _ _ h; exact h) (Or.inl ⟨by rfl, ?q1hy5⟩) (by assumption) ?q1rest5
  case q1hy5 => (intro w hSw; (try dsimp only at hSw); go_simp; try with_reducible rfl)
  try simp only [Act.put, List.getElem_toArray, List.getElem_cons_succ, List.getElem_cons_zero, List.setIfInBounds_toArray, List.set_cons_zero, List.set_cons_succ]
  refine wpAnyH_ready (rs := [6]) (by kernel_rfl) (by simp) ?_
  refine AllReadyH.cons rfl (fun K hK => ?_) AllReadyH.nil
  go_simp
  go_wp2_with (fail)
  refine hK.out _ _ ?_ (fun hHeld => ?_)
  · try dsimp only
    first | exact ⟨hXd.cell 0, hXd.cell 1⟩ | exact ⟨hX2.cell 0, hX2.cell 1⟩ | exact ⟨hX3.cell 0, hX3.cell 1⟩
  clear hK K
  refine wpAnyH_take (i := 7) (v := ?q1v7) rfl (by kernel_rfl) (by kernel_rfl) (by kernel_rfl) (by intro _ _ _ h; exact h) (Or.inl ⟨by rfl, ?q1hy7⟩) (by assumption) ?q1rest7
  case q1hy7 => (intro w hSw; (try dsimp only at hSw); go_simp; try with_reducible rfl)
  try simp only [Act.put, List.getElem_toArray, List.getElem_cons_succ, List.getElem_cons_zero, List.setIfInBounds_toArray, List.set_cons_zero, List.set_cons_succ]
  refine wpAnyH_done (by kernel_rfl) ?_ _
  refine HKK.out _ _ ?_
  go_wp2_with fail
  go_ret
  have hz2 := b2.size
  have op := OP.one (w := w2) (base := w.heap.size) (x := (k, zs)) (p := (A3, n3, c3)) (o3.low hsz1) (Nat.le_trans hsz1 hz2) (g := w2.heap.size) rfl
  exact ⟨some ⟨w2.heap.size, 0, none⟩, 1, 1, _, rfl, op, rfl, (btr b1.drew b2 hsz1).alloc (Nat.le_trans hsz1 hz2) _⟩

set_option maxHeartbeats 4000000 in
set_option maxRecDepth 100000 in
theorem gatheredS (A : Option Addr) (n c : Nat) (l : List Seg) (w : World) (hd : DL rSeg 2 w (Lo w) A n l) (hn : n ≤ 100000) (hs : Hid (sumN l ≤ big32)) :
    Calls Tryd.prog 110 #[.slice A n c, .func (.func 111) #[] #[]] w (RetP w l) := by
  have HN := Lib.hid hd.len
  go_enter Tryd.func110, Tryd.ntmps110
  go_wp2_with fail
  go_loopw [5, 10] (fun s i wr => ∃ (j : Nat) (A1 : Option Addr) (c1 : Nat) (L : List (Seg × Hd)), j ≤ n ∧ i = .int .i64 j ∧ s = .slice A1 j c1 ∧ OP wr w.heap.size A1 j c1 L ∧ Hid (L.map (·.1) = l.take j) ∧ Below w.heap.size w wr) (fun _ i _ => n - (intOf i).toNat)
  case atStart => exact ⟨0, none, 0, [], by omega, rfl, rfl, OP.nil_, Lib.hid (by simp), Below.refl _ _⟩
  case round =>
    obtain ⟨j, A1, c1, L, hj, rfl, rfl, ho, HL, hb⟩ := hrel
    by_cases hlt : j < n
    case neg =>
      have e2 : decide ((j : Int) < n) = false := decide_eq_false (by omega)
      have HF := Lib.hid (show L.map (·.1) = l by rw [HL.out, List.take_of_length_le (by have := HN.out; omega)])
      go_wp2_with fail
      go_ret
      exact ⟨A1, j, c1, L, rfl, ho, HF.out, hb⟩
    obtain ⟨x, hx⟩ := getS HN.out hlt
    have HTK := Lib.hid (take_snoc hx)
    have e2 : decide ((j : Int) < n) = true := decide_eq_true (by omega)
    have hlti : (j : Int) < n := by omega
    have HNL := Lib.hid (show x.2.length ≤ 35184372088832 by have h1 := sumN_at hx; have h2 := hs.out; unfold big32 at h2; omega)
    obtain ⟨b, off, A', n', c', rfl, hbl, k0w, k1w, hnf, hnc'⟩ := hd.segAt hx
    have hbl : b < w.heap.size := hbl
    have k0 := (hb.cell (p := ⟨b, off + j * 2, none⟩) hbl).trans k0w
    have k1 := (hb.cell (p := ⟨b, off + j * 2 + 1, none⟩) hbl).trans k1w
    have wj : IntKind.i64.wrap ((j : Int) + 1) = (j : Int) + 1 := IntWalk.i64_in _ ⟨by omega, by omega⟩
    have HN' := Lib.hid (show n' ≤ 35184372088832 by have := hnf.1; have := HNL.out; omega)
    have bx := hb.alloc hb.size (.cells #[.int .i64 x.1, .slice A' n' c'] 73)
    have hX := Blk.new wr 73 #[.int .i64 x.1, .slice A' n' c']
    have x0 := hX.cell 0
    have x1 := hX.cell 1
    have ns := (hnf.lt.below bx).more bx.size
    have ho1 := ho.call ((Below.refl wr.heap.size wr).alloc (Nat.le_refl _) (.cells #[.int .i64 x.1, .slice A' n' c'] 73))
    clear hx hnf k0w k1w
    go_wp2_with fail
    refine (copiedOne x.1 A' n' c' x.2 _ ns HN').mono ?_
    rintro _ w2 ⟨A2, n2, c2, M, rfl, hoM, hM, b2⟩
    have b02 := btr bx b2 bx.size
    have ho2 := ho1.call b2
    have hbx := bx.size
    have hn2 : n2 = M.length := hoM.1
    have hM1 : M.length = 1 := by have := congrArg List.length hM; simpa using this
    obtain rfl : n2 = 1 := by omega
    have HML := Lib.hid hn2
    have HMM := Lib.hid hM
    have HAP := Lib.hid (fun z (hz : z ∈ L) y (hy : y ∈ M) => (ho1.apt (y := y) (hoM.2.2.1 y hy) (Nat.le_refl _)) z hz)
    have hMl := hoM.low hbx
    clear hn2 hM1 hM
    go_wp2_with (at_builtin; refine wpl_appR rfl (.tmp 14) (.tmp 17) 22 rfl 73 _ 2 32 Tryd.underlying22 seg_info rfl (by omega) w.heap.size A1 j c1 _ (by rfl) ho2.2.1 w2.heap.size A2 1 c2 (segsC M) (by rfl) hoM.reads segsC_one1 (by unfold maxLen; omega) (by omega) b02.size ?_; intro A6 c6 w6 o6 b6 g6 _)
    have hO6 := ho2.pushAll (M := M) HML.out (fun y hy => hMl.2.2.1 y hy) hoM.2.2.2 HAP.out o6 g6
    go_roundw
    case rel => exact ⟨j + 1, A6, c6, _, by omega, by go_num, rfl, hO6, Lib.hid (by rw [List.map_append, HL.out, HMM.out, HTK.out]), b02.trans b6⟩
    case measure => simp [intOf]; omega
set_option maxHeartbeats 2000000 in
set_option maxRecDepth 100000 in
theorem aspCopied (A : Option Addr) (n c : Nat) (l : List Seg) (w : World) (hd : DL rSeg 2 w (Lo w) A n l) (hn : n ≤ 100000) (hs : Hid (sumN l ≤ big32)) :
    Calls Tryd.prog 69 #[.slice A n c] w (RetP w l) := by
  go_enter Tryd.func69, Tryd.ntmps69
  go_wp2_with fail
  refine (gatheredS A n c l _ hd hn hs).mono ?_
  rintro _ w1 ⟨A1, n1, c1, L, rfl, o1, hL, b1⟩
  go_wp2_with fail
  go_ret
  exact ⟨A1, n1, c1, L, rfl, o1, hL, b1⟩
end Go.Proofs.YtlpkngjeihoknaaDoor
