/- Walks of layer 3 (paths): one as a text. Conditions: the table of digits. -/
import Derived.Test.YtlpkngjeihoknaaDoorProg
import Derived.WalkKit
import Derived.WalkSpells
import Derived.WalkLawsBesides
import Derived.Outline
import Derived.Deep.QuietTactic
import Derived.BigQuiet
import Derived.Handy
import Derived.Lib.Hide
import Derived.Lib.Join
import Derived.Test.YtlpkngjeihoknaaDoorOctetC
import Derived.Test.YtlpkngjeihoknaaDoorDecPlain
import Derived.Test.YtlpkngjeihoknaaDoorAspS
import Derived.Test.YtlpkngjeihoknaaDoorAspE
namespace Go.Proofs.YtlpkngjeihoknaaDoor
open Go.RowKit
set_option linter.unusedSimpArgs false
set_option linter.unusedVariables false
theorem join_snoc (xs : List (List UInt8)) (x sep : List UInt8) : Lib.join (xs ++ [x]) sep = if xs = [] then x else Lib.join xs sep ++ sep ++ x := by
  rcases xs with _ | ⟨y, xs⟩
  · rw [List.nil_append, Lib.join_one, if_pos rfl]
  · rw [List.cons_append, Lib.join_cons, Lib.join_cons, if_neg (by simp)]
    simp [Lib.joinTail]
theorem join_len (xs : List (List UInt8)) (sep : List UInt8) (K : Nat) (h : ∀ x ∈ xs, x.length ≤ K) (hs : sep.length ≤ 1) : (Lib.join xs sep).length ≤ xs.length * (K + 1) := by
  rcases List.eq_nil_or_concat xs with rfl | ⟨o, x, rfl⟩
  · simp [Lib.join_nil]
  · rw [List.concat_eq_append] at h ⊢
    have hx := h x (by simp)
    have ih := join_len o sep K (fun y hy => h y (by simp [hy])) hs
    rw [join_snoc, List.length_append, List.length_singleton, Nat.add_mul, Nat.one_mul]
    split
    · omega
    · rw [List.length_append, List.length_append]; omega
termination_by xs.length
decreasing_by all_goals (subst_vars; simp)
theorem bytesExt {a b : ByteArray} (h : a.data.toList = b.data.toList) : a = b := by
  obtain ⟨⟨x⟩⟩ := a
  obtain ⟨⟨y⟩⟩ := b
  simp only at h
  rw [h]
theorem bytesApp (a b : ByteArray) : (a ++ b).data.toList = a.data.toList ++ b.data.toList := by simp [ByteArray.data_append]
/-- A number as a text. -/
def numS (y : Int) : ByteArray := ⟨(decI y).toArray⟩
def segT (x : Seg) : List UInt8 := if x.1 = 1 then [123] ++ Lib.join (x.2.map decI) [44] ++ [125] else Lib.join (x.2.map decI) [32]
def segS (x : Seg) : ByteArray := ⟨(segT x).toArray⟩
def textA (l : List Seg) : List UInt8 := if rightA l = true then Lib.join ((normA l).map segT) [32] else []
def textS (l : List Seg) : ByteArray := ⟨(textA l).toArray⟩
theorem decI_ten {y : Int} (h0 : 0 ≤ y) (h1 : y ≤ 4294967295) : (decI y).length ≤ 10 := by
  obtain ⟨N, rfl⟩ := Int.eq_ofNat_of_zero_le h0
  rw [decI_nat]
  exact decU_ten N (by omega)
/-- Numbers of four bytes. -/
def WF (l : List Seg) : Prop := ∀ x ∈ l, ∀ y ∈ x.2, 0 ≤ y ∧ y ≤ 4294967295
theorem segT_len {x : Seg} (h : ∀ y ∈ x.2, 0 ≤ y ∧ y ≤ 4294967295) (hl : x.2.length ≤ 64) : (segT x).length ≤ 800 := by
  have h1 : ∀ sep : List UInt8, sep.length ≤ 1 → (Lib.join (x.2.map decI) sep).length ≤ 704 := by
    intro sep hs
    have := join_len (x.2.map decI) sep 10 (fun z hz => by
      obtain ⟨y, hy, rfl⟩ := List.mem_map.1 hz
      exact decI_ten (h y hy).1 (h y hy).2) hs
    rw [List.length_map] at this
    omega
  unfold segT
  split
  · have := h1 [44] (by simp)
    simp only [List.length_append, List.length_singleton]
    omega
  · have := h1 [32] (by simp)
    omega
theorem WF_app {a b : List Seg} : WF (a ++ b) ↔ WF a ∧ WF b := by
  unfold WF
  constructor
  · intro h
    exact ⟨fun x hx => h x (by simp [hx]), fun x hx => h x (by simp [hx])⟩
  · rintro ⟨h1, h2⟩ x hx
    rcases List.mem_append.1 hx with hx | hx
    · exact h1 x hx
    · exact h2 x hx
theorem WF_step {out : List Seg} {s : Seg} (h : WF out) (hs : ∀ y ∈ s.2, 0 ≤ y ∧ y ≤ 4294967295) : WF (normStep out s) := by
  rcases List.eq_nil_or_concat out with rfl | ⟨o, x, rfl⟩
  · rw [normStep_nil]
    intro z hz; simp at hz; subst hz; exact hs
  · rw [List.concat_eq_append] at h ⊢
    have hx := (WF_app.1 h).2
    by_cases h1 : s.1 = 2
    · by_cases h2 : x.1 = 2
      · rw [normStep_join h2 h1]
        refine WF_app.2 ⟨(WF_app.1 h).1, fun z hz => ?_⟩
        simp at hz
        subst hz
        intro y hy
        rcases List.mem_append.1 hy with hy | hy
        · exact hx x (by simp) y hy
        · exact hs y hy
      · rw [normStep_last h2]
        exact WF_app.2 ⟨h, fun z hz => by simp at hz; subst hz; exact hs⟩
    · rw [normStep_kind h1]
      exact WF_app.2 ⟨h, fun z hz => by simp at hz; subst hz; exact hs⟩
theorem WF_fold (l : List Seg) : ∀ out : List Seg, WF out → WF l → WF (l.foldl normStep out) := by
  induction l with
  | nil => intro out h _; exact h
  | cons x l ih => intro out h hl; exact ih _ (WF_step h (fun y hy => hl x (by simp) y hy)) (fun z hz => hl z (by simp [hz]))
theorem WF_norm {l : List Seg} (h : WF l) : WF (normA l) := WF_fold l [] (fun x hx => by cases hx) h
theorem DL.wf {w : World} {S : Nat → Prop} {A : Option Addr} {n : Nat} {l : List Seg} (h : DL rSeg 2 w S A n l) : WF l := by
  intro x hx y hy
  obtain ⟨j, hj⟩ := List.getElem?_of_mem hx
  obtain ⟨_, _, _, _, _, _, _, _, _, hnf, _⟩ := h.segAt hj
  obtain ⟨i, hi⟩ := List.getElem?_of_mem hy
  exact hnf.wf_ hi
theorem str_info : (Tryd.prog.info? 9).map (fun i => (i.zero, i.size, i.bytes)) = some (some (.string ⟨#[]⟩), 1, 16) := by kernel_rfl
/-- One value in a new block. -/
theorem Reads.one1 (w : World) (T : Nat) (x : Value) {g : Nat} (hg : g = w.heap.size) : Reads (w.alloc (.cells #[x] T)) (g + 1) 1 (some ⟨g, 0, none⟩) 1 [x] := by
  subst hg
  refine ⟨rfl, fun _ => ⟨_, rfl, by simp, fun j u hu => ?_⟩⟩
  match j, hu with
  | 0, hu =>
    simp only [List.getElem?_cons_zero, Option.some.injEq] at hu
    subst hu
    exact (Blk.new w T #[x]).cell 0
theorem joinS {base : Nat} (A : Option Addr) (n c : Nat) (xs : List ByteArray) (sep : ByteArray) (w : World) (h : w.ownsRow base 9 1 (.slice A n c) n (xs.map Value.string)) (hlen : (Lib.join (xs.map (·.data.toList)) sep.data.toList).length ≤ 1000000) (hn : xs.length ≤ 1000000) :
    Calls Tryd.prog 62 #[.slice A n c, .string sep] w fun e w' => e = .returned (.string ⟨(Lib.join (xs.map (·.data.toList)) sep.data.toList).toArray⟩) ∧ Below w.heap.size w w' := by
  have hnx : n = xs.length := by have := h.1; simp at this; omega
  by_cases h0 : n = 0
  · have hx : xs = [] := List.eq_nil_of_length_eq_zero (by omega)
    subst h0 hx
    exact (Tryd.strings_Join_none A c sep w).mono fun e w' ⟨h1, h2⟩ => ⟨h1, by rw [h2]; exact Below.refl _ _⟩
  · obtain ⟨g, cap, hv, hb, hlt⟩ := h.form (by omega)
    injection hv with h1 h2 h3
    subst h1
    have hc := own_cap h
    subst hnx
    exact Tryd.strings_Join g 0 c xs sep w (fun j x hj => by
      have hjl := (List.getElem?_eq_some_iff.1 hj).1
      rw [Nat.zero_add, h.cellAt j (by omega), List.getElem?_map, hj]; rfl) hlt (by omega) hc (by omega)
theorem numS_list (l : List Int) : (l.map numS).map (·.data.toList) = l.map decI := by
  rw [List.map_map]
  rfl
theorem segS_list (l : List Seg) : (l.map segS).map (·.data.toList) = l.map segT := by
  rw [List.map_map]
  rfl
theorem num_join {zs : List Int} (h : ∀ y ∈ zs, 0 ≤ y ∧ y ≤ 4294967295) (hl : zs.length ≤ 64) (sep : List UInt8) (hs : sep.length ≤ 1) : (Lib.join (zs.map decI) sep).length ≤ 704 := by
  have := join_len (zs.map decI) sep 10 (fun z hz => by
    obtain ⟨y, hy, rfl⟩ := List.mem_map.1 hz
    exact decI_ten (h y hy).1 (h y hy).2) hs
  rw [List.length_map] at this
  omega
set_option maxHeartbeats 8000000 in
set_option maxRecDepth 100000 in
theorem aspText (A : Option Addr) (n c : Nat) (l : List Seg) (w : World) (hd : DL rSeg 2 w (Lo w) A n l) (hn : n ≤ 100000) (ht : DigTab w) :
    Calls Tryd.prog 18 #[.slice A n c] w fun e w' => e = .returned (.string (textS l)) ∧ Below w.heap.size w w' := by
  have HR := aspRight A n c l w hd hn
  obtain ⟨r, hr⟩ : ∃ r, rightA l = r := ⟨_, rfl⟩
  rw [hr] at HR
  have HRR := Lib.hid hr
  clear hr
  cases r
  · have HF := Lib.hid (show textS l = ⟨#[]⟩ by unfold textS textA; rw [HRR.out]; rfl)
    go_enter Tryd.func18, Tryd.ntmps18
    go_wp2_with fail
    refine HR.mono ?_
    rintro _ w1 ⟨rfl, b1⟩
    go_wp2_with fail
    go_ret
    exact ⟨by rw [HF.out] <;> rfl, b1⟩
  have hro := rightA_of HRR.out
  have HS := Lib.hid (show sumN l ≤ big32 by have := hro.2.1; unfold big32; omega)
  have HW := Lib.hid (WF_norm hd.wf)
  have HSN := Lib.hid (show sumN (normA l) ≤ 64 by rw [sumN_norm]; exact hro.2.1)
  have HLN := Lib.hid (show (normA l).length ≤ 8 from Nat.le_trans (len_norm l) hro.2.2)
  have HF := Lib.hid (show textS l = ⟨(Lib.join ((normA l).map segT) [32]).toArray⟩ by unfold textS textA; rw [HRR.out, if_pos rfl])
  clear hro HRR
  obtain ⟨N, hN⟩ : ∃ N, normA l = N := ⟨_, rfl⟩
  have HNO := fun w hd => aspNorm A n c l w hd hn HS
  simp only [hN] at HNO
  rw [hN] at HW HSN HLN HF
  have HNO2 := Lib.hid HNO
  clear hN HNO
  go_enter Tryd.func18, Tryd.ntmps18
  go_wp2_with fail
  refine HR.mono ?_
  rintro _ w1 ⟨rfl, b1⟩
  have hd1 := hd.keep rSeg_ok (Kp.call b1)
  go_wp2_with fail
  refine (HNO2.out _ hd1).mono ?_
  rintro _ w2 ⟨Am, nm, cm, L, rfl, hop, hL, b2⟩
  have hdl := hop.dl
  rw [hL] at hdl
  have HNM := Lib.hid hdl.len
  have hnm : nm ≤ 8 := by have h1 := HNM.out; have h2 := HLN.out; omega
  have b02 := btr b1 b2 b1.size
  have ht2 := ht.call b02
  have hz2 := b02.size
  clear hop hL
  go_wp2_with fail
  go_loopw [3, 15] (fun s i wr => ∃ (j : Nat) (A1 : Option Addr) (c1 : Nat), j ≤ nm ∧ i = .int .i64 j ∧ s = .slice A1 j c1 ∧ wr.ownsRow w2.heap.size 9 1 (.slice A1 j c1) j (((N.take j).map segS).map Value.string) ∧ Below w2.heap.size w2 wr) (fun _ i _ => nm - (intOf i).toNat)
  case atStart => exact ⟨0, none, 0, by omega, rfl, rfl, World.ownsRow_nil _ _ _ _, Below.refl _ _⟩
  case round =>
    obtain ⟨j, A1, c1, hj, rfl, rfl, ho, hb⟩ := hrel
    by_cases hlt : j < nm
    case neg =>
      have e2 : decide ((j : Int) < nm) = false := decide_eq_false (by omega)
      have e : N.take j = N := List.take_of_length_le (by have := HNM.out; omega)
      rw [e] at ho
      have HJ := joinS A1 j c1 (N.map segS) ⟨#[32]⟩ wr ho (by
        rw [segS_list]
        have h3 := join_len (N.map segT) [32] 800 (fun z hz => by
          obtain ⟨x, hx, rfl⟩ := List.mem_map.1 hz
          refine segT_len (HW.out x hx) ?_
          obtain ⟨i, hi⟩ := List.getElem?_of_mem hx
          have := sumN_at hi
          have := HSN.out
          omega) (by simp)
        rw [List.length_map] at h3
        have := HLN.out
        refine Nat.le_trans h3 ?_
        have : N.length * (800 + 1) ≤ 8 * (800 + 1) := Nat.mul_le_mul_right _ this
        omega) (by rw [List.length_map]; have := HLN.out; omega)
      rw [segS_list] at HJ
      have HJ2 := Lib.hid HJ
      clear HJ e
      go_wp2_with fail
      refine HJ2.out.mono ?_
      rintro _ w3 ⟨rfl, b3⟩
      go_wp2_with fail
      go_ret
      exact ⟨by rw [HF.out] <;> rfl, btr (btr b02 hb b02.size) b3 (by have := hb.size; omega)⟩
    have e2 : decide ((j : Int) < nm) = true := decide_eq_true (by omega)
    have hlti : (j : Int) < nm := by omega
    obtain ⟨x, hx⟩ := getS HNM.out hlt
    have HTK := Lib.hid (take_snoc hx)
    have HXW := Lib.hid (HW.out x (List.mem_of_getElem? hx))
    have HX64 := Lib.hid (show x.2.length ≤ 64 by have h1 := sumN_at hx; have h2 := HSN.out; omega)
    obtain ⟨b, off, A', n', c', rfl, hbl, k0, k1, hnf, hnc'⟩ := (hdl.keep rSeg_ok (Kp.call hb)).segAt hx
    have hn64 : n' ≤ 64 := by have h1 := hnf.1; have h2 := HX64.out; omega
    have HNX := Lib.hid hnf.1
    have wj : IntKind.i64.wrap ((j : Int) + 1) = (j : Int) + 1 := IntWalk.i64_in _ ⟨by omega, by omega⟩
    obtain ⟨k, hk⟩ : ∃ k, x.1 = k := ⟨_, rfl⟩
    have HK := Lib.hid hk
    rw [hk] at k0
    clear hk hx
    have b1x := (Below.refl wr.heap.size wr).alloc (Nat.le_refl _) (.cells #[.int .i64 k, .slice A' n' c'] 73)
    have hX := Blk.new wr 73 #[.int .i64 k, .slice A' n' c']
    obtain ⟨gx, hgx⟩ : ∃ gx, wr.heap.size = gx := ⟨_, rfl⟩
    have HGX := Lib.hid hgx
    rw [hgx] at hX
    clear hgx
    obtain ⟨W1, hW1⟩ : ∃ W, wr.alloc (.cells #[.int .i64 k, .slice A' n' c'] 73) = W := ⟨_, rfl⟩
    have HW1 := Lib.hid hW1
    rw [hW1] at b1x hX
    clear hW1
    have x1 := hX.cell 1
    have x0 := hX.cell 0
    have hbx := btr hb b1x hb.size
    have hzx := hbx.size
    have hnf1 := hnf.keep (Kp.call b1x)
    have ho1 := own_below ho b1x
    clear hnf
    go_upto_region 7 with fail
    try rw [HW1.out, HGX.out]
    try rw [HGX.out]
    go_wp2_with fail
    go_loopw [6, 22] (fun s i wi => ∃ (q : Nat) (A2 : Option Addr) (c2 : Nat), q ≤ n' ∧ i = .int .i64 q ∧ s = .slice A2 q c2 ∧ wi.ownsRow W1.heap.size 9 1 (.slice A2 q c2) q (((x.2.take q).map numS).map Value.string) ∧ Below W1.heap.size W1 wi) (fun _ i _ => n' - (intOf i).toNat)
    case atStart => exact ⟨0, none, 0, by omega, rfl, rfl, World.ownsRow_nil _ _ _ _, Below.refl _ _⟩
    case round =>
      obtain ⟨q, A2, c2, hq, rfl, rfl, ho2, hb2⟩ := hrel
      have hxi := hX.below hb2 hX.lt
      have y0 := hxi.cell 0
      by_cases hql : q < n'
      · have e3 : decide ((q : Int) < n') = true := decide_eq_true (by omega)
        have hqi : (q : Int) < n' := by omega
        obtain ⟨y, hy⟩ : ∃ y, x.2[q]? = some y := ⟨_, List.getElem?_eq_getElem (by have := HNX.out; omega)⟩
        obtain ⟨b2, off2, rfl, hbl2, z0⟩ := (hnf1.keep (Kp.call hb2)).at_ hy
        have HY := Lib.hid (take_snoc hy)
        have hy0 := (HXW.out y (List.mem_of_getElem? hy)).1
        have hy1 := (HXW.out y (List.mem_of_getElem? hy)).2
        have wy : IntKind.i64.wrap y = y := IntWalk.i64_in _ ⟨by omega, by omega⟩
        have wq : IntKind.i64.wrap ((q : Int) + 1) = (q : Int) + 1 := IntWalk.i64_in _ ⟨by omega, by omega⟩
        have HTX := Lib.hid (fun W (hT : DigTab W) => octetText y (numS y) W hT (by omega) (by omega) (Lib.hid rfl))
        obtain ⟨S, hS⟩ : ∃ S, numS y = S := ⟨_, rfl⟩
        rw [hS] at HTX
        have HSS := Lib.hid hS
        have htw := ht2.call (btr hbx hb2 hbx.size)
        clear hy hS
        go_wp2_with fail
        refine (HTX.out _ htw).mono ?_
        rintro _ w4 ⟨rfl, b4⟩
        have b14 := btr hb2 b4 hb2.size
        have oa := own_alloc2 (own_below ho2 b4) (.cells #[.string S] 9)
        have ba := b14.alloc b14.size (.cells #[.string S] 9)
        have hz4 := b14.size
        go_wp2_with (at_builtin; refine wpl_appR rfl (.tmp 26) (.tmp 30) 74 rfl 9 _ 1 16 Tryd.underlying74 str_info rfl (by omega) W1.heap.size A2 q c2 _ (by rfl) oa (w4.heap.size + 1) (some ⟨w4.heap.size, 0, none⟩) 1 1 [.string S] (by rfl) (Reads.one1 w4 9 (.string S) rfl) (by intro u hu; simp at hu; subst hu; rfl) (by unfold maxLen; omega) (by omega) (by simp; omega) ?_; intro A6 c6 w6 o6 b6 g6 _)
        go_roundw
        case rel => exact ⟨q + 1, A6, c6, by omega, by go_num, rfl, by rw [HY.out, List.map_append, List.map_append, List.map_singleton, List.map_singleton, HSS.out]; exact o6, ba.trans b6⟩
        case measure => simp [intOf]; omega
      · have e3 : decide ((q : Int) < n') = false := decide_eq_false (by omega)
        have e : x.2.take q = x.2 := List.take_of_length_le (by have := HNX.out; omega)
        rw [e] at ho2
        have HL1 := Lib.hid (fun sep (hs : sep.length ≤ 1) => num_join HXW.out HX64.out sep hs)
        have HJ := fun sep (hs : sep.data.toList.length ≤ 1) => joinS A2 q c2 (x.2.map numS) sep wr ho2 (by
          rw [numS_list]
          have := HL1.out sep.data.toList hs
          omega) (by rw [List.length_map]; have := HX64.out; omega)
        simp only [numS_list] at HJ
        have hbw := btr hbx hb2 hbx.size
        have ho3 := own_below ho1 hb2
        by_cases hk1 : k = 1
        · have t1 : (k == 1) = true := by simpa using hk1
          have HJ2 := Lib.hid (HJ ⟨#[44]⟩ (by simp))
          have HSG := Lib.hid (show segS x = ⟨#[123]⟩ ++ ⟨(Lib.join (x.2.map decI) [44]).toArray⟩ ++ ⟨#[125]⟩ by unfold segS segT; rw [if_pos (by rw [HK.out]; exact hk1)]; apply bytesExt; simp [bytesApp])
          clear HJ hk1 e
          obtain ⟨S, hS⟩ : ∃ S : ByteArray, (⟨(Lib.join (x.2.map decI) [44]).toArray⟩ : ByteArray) = S := ⟨_, rfl⟩
          have HSZ := Lib.hid (show S.size ≤ 704 by rw [← hS]; exact HL1.out [44] (by simp))
          have HJ3 := HJ2.out
          rw [show (⟨#[44]⟩ : ByteArray).data.toList = [44] from rfl, hS] at HJ3
          rw [hS] at HSG
          have HJ4 := Lib.hid HJ3
          clear HJ3 HJ2 hS
          go_wp2_with fail
          refine HJ4.out.mono ?_
          rintro _ w4 ⟨rfl, b4⟩
          have b14 := btr hbw b4 hbw.size
          have oa := own_alloc2 (own_below ho3 b4) (.cells #[.string (⟨#[123]⟩ ++ S ++ ⟨#[125]⟩)] 9)
          have ba := b14.alloc b14.size (.cells #[.string (⟨#[123]⟩ ++ S ++ ⟨#[125]⟩)] 9)
          have hz4 := b14.size
          have hssz : (S.size : Int) ≤ 704 := by have := HSZ.out; omega
          go_wp2_with (at_builtin; refine wpl_appR rfl (.tmp 36) (.tmp 41) 74 rfl 9 _ 1 16 Tryd.underlying74 str_info rfl (by omega) w2.heap.size A1 j c1 _ (by rfl) oa (w4.heap.size + 1) (some ⟨w4.heap.size, 0, none⟩) 1 1 [.string (⟨#[123]⟩ ++ S ++ ⟨#[125]⟩)] (by rfl) (Reads.one1 w4 9 (.string (⟨#[123]⟩ ++ S ++ ⟨#[125]⟩)) rfl) (by intro u hu; simp at hu; subst hu; rfl) (by unfold maxLen; omega) (by omega) (by simp; omega) ?_; intro A6 c6 w6 o6 b6 g6 _)
          go_roundw
          case rel => exact ⟨j + 1, A6, c6, by omega, by go_num, rfl, by rw [HTK.out, List.map_append, List.map_append, List.map_singleton, List.map_singleton, HSG.out]; exact o6, ba.trans b6⟩
          case measure => simp [intOf]; omega
        · have t1 : (k == 1) = false := by simpa using hk1
          have HJ2 := Lib.hid (HJ ⟨#[32]⟩ (by simp))
          have HSG := Lib.hid (show segS x = ⟨(Lib.join (x.2.map decI) [32]).toArray⟩ by unfold segS segT; rw [if_neg (by rw [HK.out]; exact hk1)])
          clear HJ hk1 e
          obtain ⟨S, hS⟩ : ∃ S : ByteArray, (⟨(Lib.join (x.2.map decI) [32]).toArray⟩ : ByteArray) = S := ⟨_, rfl⟩
          have HJ3 := HJ2.out
          rw [show (⟨#[32]⟩ : ByteArray).data.toList = [32] from rfl, hS] at HJ3
          rw [hS] at HSG
          have HJ4 := Lib.hid HJ3
          clear HJ3 HJ2 hS
          go_wp2_with fail
          refine HJ4.out.mono ?_
          rintro _ w4 ⟨rfl, b4⟩
          have b14 := btr hbw b4 hbw.size
          have oa := own_alloc2 (own_below ho3 b4) (.cells #[.string S] 9)
          have ba := b14.alloc b14.size (.cells #[.string S] 9)
          have hz4 := b14.size
          go_wp2_with (at_builtin; refine wpl_appR rfl (.tmp 43) (.tmp 46) 74 rfl 9 _ 1 16 Tryd.underlying74 str_info rfl (by omega) w2.heap.size A1 j c1 _ (by rfl) oa (w4.heap.size + 1) (some ⟨w4.heap.size, 0, none⟩) 1 1 [.string S] (by rfl) (Reads.one1 w4 9 (.string S) rfl) (by intro u hu; simp at hu; subst hu; rfl) (by unfold maxLen; omega) (by omega) (by simp; omega) ?_; intro A6 c6 w6 o6 b6 g6 _)
          go_roundw
          case rel => exact ⟨j + 1, A6, c6, by omega, by go_num, rfl, by rw [HTK.out, List.map_append, List.map_append, List.map_singleton, List.map_singleton, HSG.out]; exact o6, ba.trans b6⟩
          case measure => simp [intOf]; omega
end Go.Proofs.YtlpkngjeihoknaaDoor
