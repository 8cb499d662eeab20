/- Walks of layer 6 (open): a fault, and the capabilities of bytes. No conditions but sizes. -/
import Derived.Test.YthgjknmfghjioaaDoorProg
import Derived.WalkKit
import Derived.WalkSpells
import Derived.WalkLawsBesides
import Derived.Outline
import Derived.Deep.QuietTactic
import Derived.BigQuiet
import Derived.Handy
import Derived.Lib.Hide
import Derived.Deep.LoopGhost
import Derived.Deep.DeepCutAuto
import Derived.Deep.CutBlock
import Derived.Test.YthgjknmfghjioaaDoorOpnC
import Derived.Test.YthgjknmfghjioaaDoorRdMore
import Derived.Test.YthgjknmfghjioaaDoorReaderG
namespace Go.Proofs.YthgjknmfghjioaaDoor
open Go.RowKit
set_option linter.unusedSimpArgs false
set_option linter.unusedVariables false
theorem cap_info : (Tryd.prog.info? 85).map (fun i => (i.zero, i.size, i.bytes)) = some (some (.agg #[.int .i64 0, .slice none 0 0]), 2, 32) := by kernel_rfl
theorem addC_some {acc : List Cap} {r : Option (List Cap)} : (addC acc r).isSome = r.isSome := by cases r <;> rfl
/-- One capability of bytes: what two numbers and a take make of it. -/
theorem caps_step (k : UInt8) (t : List UInt8) {n2 : Nat} {t2 data t3 : List UInt8} {s2 s3 : Bool} (e1 : numL (tkOut t false (1 : Nat)) = n2) (e2 : tkLeft t false (1 : Nat) = t2) (e3 : tkShort t false (1 : Nat) = s2) (e4 : tkOut t2 s2 n2 = data) (e5 : tkLeft t2 s2 n2 = t3) (e6 : tkShort t2 s2 n2 = s3) :
    t2.length ≤ t.length ∧ t3.length ≤ t.length ∧ ((s3 = false ∧ ∀ acc, addC acc (parseC (k :: t)) = addC (acc ++ [((k.toNat : Int), data)]) (parseC t3)) ∨ (s3 = true ∧ parseC (k :: t) = none)) := by
  have L2 : t2.length ≤ t.length := by rw [← e2]; exact tkLeft_len _ _ _
  have L3 : t3.length ≤ t2.length := by rw [← e5]; exact tkLeft_len _ _ _
  refine ⟨L2, Nat.le_trans L3 L2, ?_⟩
  cases t with
  | nil =>
    have : s2 = true := by rw [← e3]; rfl
    subst this
    refine .inr ⟨by rw [← e6]; unfold tkShort; simp, parseC_one k⟩
  | cons m r =>
    have T := tk_ok (l := m :: r) (k := 1) (by simp)
    rw [T.1] at e1
    rw [T.2.1] at e2
    rw [T.2.2] at e3
    have h1 : n2 = m.toNat := by rw [← e1]; simp [numL]
    have h2 : t2 = r := by rw [← e2]; rfl
    subst h1 h2 e3
    by_cases hle : m.toNat ≤ t2.length
    · have T := tk_ok hle
      rw [T.1] at e4
      rw [T.2.1] at e5
      rw [T.2.2] at e6
      subst e4 e5
      exact .inl ⟨e6.symm, fun acc => parseC_step acc hle⟩
    · refine .inr ⟨?_, parseC_short (by omega)⟩
      rw [← e6]
      unfold tkShort
      exact decide_eq_true (.inr (.inr (by omega)))
set_option maxHeartbeats 4000000 in
set_option maxRecDepth 100000 in
theorem openCaps (A : Option Addr) (n c : Nat) (l : List UInt8) (w : World) (h : BS w w.heap.size A n l) (hn : n ≤ 100000) :
    Calls Tryd.prog 60 #[.slice A n c] w fun en w' => ∃ (A1 : Option Addr) (n1 c1 : Nat) (cs : List Cap), en = .returned (.tuple #[.slice A1 n1 c1, .bool (parseC l).isSome]) ∧ (∀ ds, parseC l = some ds → cs = ds) ∧ OL rCap 2 w' w.heap.size 85 w.heap.size w'.heap.size [] A1 n1 c1 cs ∧ Below w.heap.size w w' := by
  have hl : l.length ≤ 100000 := by rw [← h.len]; exact hn
  go_enter Tryd.func60, Tryd.ntmps60
  go_wp2_with fail
  refine (rbNew A n c l _ h (by omega)).mono ?_
  rintro _ w1 ⟨g, rfl, hg, r1, b1⟩
  go_wp2_with fail
  have hg1 := r1.lt
  go_loopg [4] l.length (fun gg v wr => ∃ (rest : List UInt8) (sh : Bool) (acc : List Cap) (A1 : Option Addr) (n1 c1 : Nat), v = .slice A1 n1 c1 ∧ (if sh = true then 0 else rest.length) ≤ gg ∧ rest.length ≤ l.length ∧ acc.length ≤ l.length - rest.length ∧ RB w1.heap.size wr g rest sh ∧ OL rCap 2 wr w1.heap.size 85 w1.heap.size wr.heap.size [g] A1 n1 c1 acc ∧ Below w.heap.size w wr ∧ w1.heap.size ≤ wr.heap.size ∧ Hid ((sh = false → parseC l = addC acc (parseC rest)) ∧ (sh = true → parseC l = none)))
  case atStart => exact ⟨l, false, [], none, 0, 0, rfl, by simp, Nat.le_refl _, by simp, r1, OL.nil_, b1, Nat.le_refl _, Lib.hid ⟨fun _ => (addC_nil _).symm, fun h => by cases h⟩⟩
  case round =>
    obtain ⟨rest, sh, acc, A1, n1, c1, rfl, hgg, hrl, hal, r2, o2, b2, hz2, hp⟩ := hrel
    have hex : ∀ b, parseC l = none → b = false → (parseC l).isSome = b := fun b h hb => by rw [h, hb]; rfl
    cases sh
    case true =>
      have HN := Lib.hid (hp.out.2 rfl)
      have HE := Lib.hid (show ∃ (A2 : Option Addr) (n2 c2 : Nat) (cs : List Cap), (Ending.returned (.tuple #[.slice A1 n1 c1, .bool false])) = .returned (.tuple #[.slice A2 n2 c2, .bool (parseC l).isSome]) ∧ (∀ ds, parseC l = some ds → cs = ds) ∧ OL rCap 2 wr w.heap.size 85 w.heap.size wr.heap.size [] A2 n2 c2 cs ∧ Below w.heap.size w wr from ⟨A1, n1, c1, acc, by rw [HN.out]; rfl, (fun ds h => by rw [HN.out] at h; cases h), (o2.low b1.size).more rCap_ok fun b hb => ⟨Nat.le_trans b1.size hb.1, hb.2.1, by simp⟩, b2⟩)
      clear hex hp
      go_wp2_with fail
      refine (rbLeft g rest true _ r2).mono ?_
      rintro _ _ ⟨rfl, rfl⟩
      go_wp2_with fail
      refine (rbErr g rest true _ r2).mono ?_
      rintro _ _ ⟨rfl, rfl⟩
      go_wp2_with fail
      go_ret2
      exact HE.out
    case false =>
      cases rest with
      | nil =>
        have HN := Lib.hid (show parseC l = some acc by rw [hp.out.1 rfl, parseC_nil]; simp [addC])
        have HE := Lib.hid (show ∃ (A2 : Option Addr) (n2 c2 : Nat) (cs : List Cap), (Ending.returned (.tuple #[.slice A1 n1 c1, .bool true])) = .returned (.tuple #[.slice A2 n2 c2, .bool (parseC l).isSome]) ∧ (∀ ds, parseC l = some ds → cs = ds) ∧ OL rCap 2 wr w.heap.size 85 w.heap.size wr.heap.size [] A2 n2 c2 cs ∧ Below w.heap.size w wr from ⟨A1, n1, c1, acc, by rw [HN.out]; rfl, (fun ds h => by rw [HN.out] at h; injection h), (o2.low b1.size).more rCap_ok fun b hb => ⟨Nat.le_trans b1.size hb.1, hb.2.1, by simp⟩, b2⟩)
        clear hex hp
        go_wp2_with fail
        refine (rbLeft g [] false _ r2).mono ?_
        rintro _ _ ⟨rfl, rfl⟩
        go_wp2_with fail
        refine (rbErr g [] false _ r2).mono ?_
        rintro _ _ ⟨rfl, rfl⟩
        go_wp2_with fail
        go_ret2
        exact HE.out
      | cons k t =>
        have hlen : (k :: t).length = t.length + 1 := rfl
        have hrl' : t.length + 1 ≤ l.length := hrl
        have hgg' : t.length + 1 ≤ gk := hgg
        have T1 := tk_ok (l := k :: t) (k := 1) (by simp)
        have N1 : numL ((k :: t).take 1) = k.toNat := by simp [numL]
        have hk255 := UInt8.toNat_lt k
        obtain ⟨R, hR⟩ : ∃ R, k :: t = R := ⟨_, rfl⟩
        rw [hR] at T1 N1 r2 hp
        have hRl : R.length = t.length + 1 := by rw [← hR]; rfl
        have hal' : acc.length + (t.length + 1) ≤ l.length := by simp at hal; omega
        have HT1 := Lib.hid (show tkOut R false (1 : Nat) = R.take 1 ∧ tkLeft R false (1 : Nat) = t ∧ tkShort R false (1 : Nat) = false from ⟨T1.1, by rw [T1.2.1, ← hR]; rfl, T1.2.2⟩)
        have HN1 := Lib.hid N1
        obtain ⟨n2, e1⟩ : ∃ n2, numL (tkOut t false (1 : Nat)) = n2 := ⟨_, rfl⟩
        obtain ⟨t2, e2⟩ : ∃ t2, tkLeft t false (1 : Nat) = t2 := ⟨_, rfl⟩
        obtain ⟨s2, e3⟩ : ∃ s2, tkShort t false (1 : Nat) = s2 := ⟨_, rfl⟩
        obtain ⟨data, e4⟩ : ∃ data, tkOut t2 s2 n2 = data := ⟨_, rfl⟩
        obtain ⟨t3, e5⟩ : ∃ t3, tkLeft t2 s2 n2 = t3 := ⟨_, rfl⟩
        obtain ⟨s3, e6⟩ : ∃ s3, tkShort t2 s2 n2 = s3 := ⟨_, rfl⟩
        obtain ⟨L2, L3, hstep⟩ := caps_step k t e1 e2 e3 e4 e5 e6
        rw [hR] at hstep
        have HS := Lib.hid hstep
        have HA := Lib.hid (show numL (tkOut t false (1 : Nat)) = n2 ∧ tkLeft t false (1 : Nat) = t2 ∧ tkShort t false (1 : Nat) = s2 from ⟨e1, e2, e3⟩)
        have HB := Lib.hid (show tkOut t2 s2 n2 = data ∧ tkLeft t2 s2 n2 = t3 ∧ tkShort t2 s2 n2 = s3 from ⟨e4, e5, e6⟩)
        have HRl := Lib.hid hRl
        have hpos : 0 < R.length := by omega
        clear hex T1 N1 hR e1 e2 e3 e4 e5 e6 hstep hlen hgg hal hRl hrl
        have hz := r2.lt
        go_wp2_with fail
        refine (rbLeft g R false _ r2).mono ?_
        rintro _ _ ⟨rfl, rfl⟩
        go_wp2_with fail
        refine (rbByte g R false _ r2 (by have := HRl.out; omega)).mono ?_
        rw [HT1.out.1, HT1.out.2.1, HT1.out.2.2, HN1.out]
        rintro _ w2 ⟨rfl, r3, g2⟩
        have S2 := (Sm.refl wr.heap.size [g] wr).grown g2 (fun g' e => .inr (by injection e with e; simp [e])) (Nat.le_refl _)
        have z2 := S2.size
        go_wp2_with fail
        obtain ⟨w3, hw3, hc3, b3⟩ := box1c w2 #[.int .i64 (k.toNat : Int), .slice none 0 0] 85
        rw [hw3]
        clear hw3
        have z2' : w1.heap.size ≤ w2.heap.size := Nat.le_trans hz2 z2
        have r3 := r3.below b3 z2' (Nat.lt_of_lt_of_le hz z2)
        have S3 := S2.below b3 z2
        have z3 := b3.size
        refine (rbByte g t false _ r3 (by omega)).mono ?_
        rw [HA.out.1, HA.out.2.1, HA.out.2.2]
        rintro _ w4 ⟨rfl, r4, g4⟩
        have S4 := S3.grown g4 (fun g' e => .inr (by injection e with e; simp [e])) (Nat.le_trans z2 z3)
        have hc4 := hc3.grown g4 (by intro e; injection e with e; omega)
        have z4 := g4.size
        go_wp2_with fail
        refine (rbTake g t2 s2 (n2 : Nat) _ r4 (by omega)).mono ?_
        rintro _ w5 ⟨A5, n5, c5, rfl, o5, r5, g5⟩
        rw [HB.out.1] at o5
        rw [HB.out.2.1, HB.out.2.2] at r5
        have S5 := S4.grown g5 (fun g' e => .inr (by injection e with e; simp [e])) (by omega)
        have hc5 := hc4.grown g5 (by intro e; injection e with e; omega)
        have z5 := g5.size
        have k0 := hc5.cell 0
        have k1 := hc5.cell 1
        have f1 := hc5.frozen 1
        go_upto_region 7 with fail
        obtain ⟨w6, hw6⟩ : ∃ W, w5.setCell ⟨w2.heap.size, 1, none⟩ (.slice A5 n5 c5) = W := ⟨_, rfl⟩
        have hc6 := hc5.set_ 1 (.slice A5 n5 c5)
        simp only [List.setIfInBounds_toArray, List.set_cons_succ, List.set_cons_zero] at hc6
        have S6 := S5.setCell (p := ⟨w2.heap.size, 1, none⟩) (.inl z2) (.slice A5 n5 c5)
        have r6 := r5.setCell (p := ⟨w2.heap.size, 1, none⟩) z2' (by show w2.heap.size ≠ g; omega) (.slice A5 n5 c5)
        have d6 : BF (w5.setCell ⟨w2.heap.size, 1, none⟩ (.slice A5 n5 c5)) (Fr w4.heap.size w5) A5 n5 data := (BF.own o5).keep fun b hb => ⟨hb, Below.heap_setCell _ _ _ _ (by have := hb.1; show b ≠ w2.heap.size; have := hc3.lt; omega)⟩
        have z6 : w6.heap.size ≤ w5.heap.size := by rw [← hw6]; simp [World.setCell]
        have z6' : w5.heap.size ≤ w6.heap.size := by rw [← hw6]; simp [World.setCell]
        rw [hw6] at hc6 S6 r6 d6
        rw [hw6]
        clear hw6 k0 k1 f1
        have k0 := hc6.cell 0
        have k1 := hc6.cell 1
        have hc3l := hc3.lt
        have S7 := S6.alloc (by omega) (.cells #[.int .i64 (k.toNat : Int), .slice A5 n5 c5] 85)
        have r7 := r6.below ((Below.refl w6.heap.size w6).alloc (Nat.le_refl _) (.cells #[.int .i64 (k.toNat : Int), .slice A5 n5 c5] 85)) (by omega) (by omega)
        have hown := Lib.hid o2.own_
        have o7 := o2.sm rCap_ok S7
        have hdl : DL rCap 2 (w6.alloc (.cells #[.int .i64 (k.toNat : Int), .slice A5 n5 c5] 85)) (fun b => w4.heap.size ≤ b ∧ b < w6.heap.size + 1) (some ⟨w6.heap.size, 0, none⟩) 1 [((k.toNat : Int), data)] :=
          DL.one rCap_ok (Blk.new w6 85 _) ⟨by omega, by omega⟩ ⟨A5, n5, c5, rfl, d6.keep (fun b hb => ⟨⟨hb.1, by have := hb.2; omega⟩, ((Below.refl w6.heap.size w6).alloc (Nat.le_refl _) _).block b (by have := hb.2; omega)⟩), o5.cap⟩
        go_wp2_with (at_builtin; refine wpl_appL rfl (.tmp 26) (.tmp 28) _ rfl rCap_ok _ 32 Tryd.underlying64 cap_info rfl (by omega) (by rfl) o7 (by simp; omega) (by intro x hx; simp at hx; subst hx; simp; omega) (by simp; omega) (some ⟨w6.heap.size, 0, none⟩) 1 1 [((k.toNat : Int), data)] (by rfl) hdl (by intro b hb; simp; exact hb.2) (fun cs x _ hx => rCap_ok.keep hx (Kp.sub fun b hb => ⟨⟨by have := hb.1; omega, by simp; exact hb.2, by have := hb.1; simp; omega⟩, fun e => by have := hown.out b e.symm; have := hb.1; omega⟩)) (by simp; omega) (by simp; omega) (by simp; omega) ?_; intro A8 n8 c8 w8 o8 b8 g8)
        have r8 := r7.below b8 (Nat.le_refl _) hg1
        have hb8 : Below w.heap.size w w8 := b2.trans ((S7.to_below (by have := b2.size; omega) (by intro x hx; simp at hx; omega)).trans (b8.mono b1.size))
        have hz8 : w1.heap.size ≤ w8.heap.size := by have := b8.size; simp at this; omega
        go_roundg (if s3 = true then 0 else t3.length)
        case measure =>
          split
          · omega
          · omega
        case rel =>
          refine ⟨t3, s3, acc ++ [((k.toNat : Int), data)], A8, n8, c8, rfl, Nat.le_refl _, by omega, by simp; omega, r8, o8, hb8, hz8, Lib.hid ⟨fun e => ?_, fun e => ?_⟩⟩
          · rcases HS.out with ⟨_, h2⟩ | ⟨h1, _⟩
            · rw [← h2]; exact hp.out.1 (by simp)
            · rw [e] at h1; cases h1
          · rcases HS.out with ⟨h1, _⟩ | ⟨_, h2⟩
            · rw [e] at h1; cases h1
            · rw [hp.out.1 (by simp), h2]; rfl
end Go.Proofs.YthgjknmfghjioaaDoor
