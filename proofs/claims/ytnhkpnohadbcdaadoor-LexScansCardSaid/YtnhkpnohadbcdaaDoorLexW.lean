/- The plain law of layer 13 (lex): the bytes of runes. No conditions. -/
import Derived.Laws.Cover4
import Derived.Lib.MapLaws
import Derived.Test.YtnhkpnohadbcdaaDoorLexU
import Derived.Test.YtnhkpnohadbcdaaDoorLexT
namespace Go.Proofs.YtnhkpnohadbcdaaDoor
open Go.RowKit
set_option linter.unusedVariables false
set_option linter.unusedSimpArgs false
def encL (n : Int) : List UInt8 := (Utf8.encode n).data.toList
theorem runes_list (l : List Int) (s : ByteArray) : (l.foldl (fun r n => r ++ Utf8.encode n) s).data.toList = s.data.toList ++ l.flatMap encL := by
  induction l generalizing s with
  | nil => simp
  | cons a l ih => rw [List.foldl_cons, ih, bytes_app, List.flatMap_cons, List.append_assoc]; rfl
theorem runesBytes_list (l : List Int) : (runesBytes l).data.toList = l.flatMap encL := by
  unfold runesBytes
  rw [runes_list]
  rfl
theorem encL_34 : encL 34 = [34] := by decide +kernel
theorem encL_92 : encL 92 = [92] := by decide +kernel
theorem u8n (z : Int) (m : Nat) (h : z = (m : Int)) : z.toNat.toUInt8 = UInt8.ofNat m := by subst h; rfl
set_option maxRecDepth 1000000 in
theorem encL_eq (c : Nat) (hv : c < 55296 ∨ (57344 ≤ c ∧ c ≤ 1114111)) : encL (c : Int) = Lib.encodeRune (c : Int) := by
  have hval : Utf8.valid (c : Int) = true := by unfold Utf8.valid; simp; omega
  unfold encL Utf8.encode Lib.encodeRune
  rw [hval]
  simp only [if_true, Int.toNat_natCast]
  by_cases h1 : c < 128
  · rw [if_pos h1, Lib.encodeRuneZ_one (by omega) (by omega)]
    simp only [List.map_cons, List.map_nil]
    rw [u8n _ c rfl]
  rw [if_neg h1]
  by_cases h2 : c < 2048
  · rw [if_pos h2, Lib.encodeRuneZ_two (by omega) (by omega)]
    simp only [List.map_cons, List.map_nil]
    rw [u8n (192 + (c : Int) / 64) (192 + c / 64) (by omega), u8n (128 + (c : Int) % 64) (128 + c % 64) (by omega)]
  rw [if_neg h2]
  by_cases h3 : c < 65536
  · rw [if_pos h3]
    have e : Lib.encodeRuneZ (c : Int) = [224 + (c : Int) / 4096, 128 + (c : Int) / 64 % 64, 128 + (c : Int) % 64] := by
      unfold Lib.encodeRuneZ
      rw [if_neg (by omega), if_neg (by omega), if_pos (by omega)]
    rw [e]
    simp only [List.map_cons, List.map_nil]
    rw [u8n (224 + (c : Int) / 4096) (224 + c / 4096) (by omega), u8n (128 + (c : Int) / 64 % 64) (128 + c / 64 % 64) (by omega), u8n (128 + (c : Int) % 64) (128 + c % 64) (by omega)]
  · rw [if_neg h3]
    have e : Lib.encodeRuneZ (c : Int) = [240 + (c : Int) / 262144, 128 + (c : Int) / 4096 % 64, 128 + (c : Int) / 64 % 64, 128 + (c : Int) % 64] := by
      unfold Lib.encodeRuneZ
      rw [if_neg (by omega), if_neg (by omega), if_neg (by omega), if_pos (by omega)]
    rw [e]
    simp only [List.map_cons, List.map_nil]
    rw [u8n (240 + (c : Int) / 262144) (240 + c / 262144) (by omega), u8n (128 + (c : Int) / 4096 % 64) (128 + c / 4096 % 64) (by omega), u8n (128 + (c : Int) / 64 % 64) (128 + c / 64 % 64) (by omega), u8n (128 + (c : Int) % 64) (128 + c % 64) (by omega)]
theorem decodeN_valid (m b0 b1 b2 b3 : Nat) : (Lib.decodeN m b0 b1 b2 b3).1 < 55296 ∨ (57344 ≤ (Lib.decodeN m b0 b1 b2 b3).1 ∧ (Lib.decodeN m b0 b1 b2 b3).1 ≤ 1114111) := by
  unfold Lib.decodeN
  repeat' split
  all_goals (simp only; omega)
/-- What was decoded, and may be, encodes to its bytes. -/
theorem enc_dec {s : ByteArray} {pos c k : Nat} (h : pos < s.size) (hd : Utf8.decode s pos = (c, k)) (hp : plainB c k = true) : encL (c : Int) = (s.data.toList.drop pos).take k := by
  have hv := decodeN_valid (s.size - pos) (s.get! pos).toNat (s.get! (pos + 1)).toNat (s.get! (pos + 2)).toNat (s.get! (pos + 3)).toNat
  rw [← Lib.decode_at, hd] at hv
  rw [encL_eq c hv]
  have hx : (⟨(s.data.toList.drop pos).toArray⟩ : ByteArray) = s.extract pos s.size := by
    have e : (s.extract pos s.size).data.toList = s.data.toList.drop pos := by
      rw [← ByteArray.toList_eq, Lib.extract_toList, List.take_of_length_le]
      rw [List.length_drop]
      exact Nat.le_refl _
    rw [← e]
  have hdl : Lib.decodeL (s.data.toList.drop pos) = (c, k) := by
    unfold Lib.decodeL
    rw [hx, Lib.tail_decode, Nat.add_zero, hd]
  have hne : s.data.toList.drop pos ≠ [] := by
    intro e
    have := congrArg List.length e
    have h' : s.data.toList.length = s.size := rfl
    rw [List.length_drop, h'] at this
    simp at this; omega
  have hw := (plainB_iff c k).1 hp
  have := Lib.encode_decode (s.data.toList.drop pos) hne (by rw [hdl]; simp only; omega)
  rw [hdl] at this
  exact this
theorem encL_small (c : Nat) (h : c < 128) : encL (c : Int) = [UInt8.ofNat c] := by
  rw [encL_eq c (by omega)]
  unfold Lib.encodeRune
  rw [Lib.encodeRuneZ_one (by omega) (by omega)]
  rfl
theorem encL_big (c : Nat) (h : 128 ≤ c) (hv : c < 55296 ∨ (57344 ≤ c ∧ c ≤ 1114111)) : ∀ b ∈ encL (c : Int), 128 ≤ b.toNat := by
  have key : ∀ z ∈ Lib.encodeRuneZ (c : Int), 128 ≤ z ∧ z ≤ 255 := by
    unfold Lib.encodeRuneZ
    intro z hz
    repeat' split at hz
    all_goals (simp at hz; omega)
  rw [encL_eq c hv]
  intro b hb
  unfold Lib.encodeRune at hb
  obtain ⟨z, hz, rfl⟩ := List.mem_map.1 hb
  have := key z hz
  obtain ⟨n, rfl⟩ := Int.eq_ofNat_of_zero_le (show 0 ≤ z by omega)
  rw [u8n _ n rfl]
  have e : (UInt8.ofNat n).toNat = n % 256 := UInt8.toNat_ofNat'
  rw [e]
  omega
theorem quoB_big {l : List UInt8} (h : ∀ b ∈ l, 128 ≤ b.toNat) : quoB l = l := by
  induction l with
  | nil => rfl
  | cons a l ih =>
    have ha := h a (by simp)
    have e : quoB (a :: l) = (if a = 34 ∨ a = 92 then [92, a] else [a]) ++ quoB l := by simp [quoB]
    rw [e, ih (fun b hb => h b (by simp [hb])), if_neg (by
      rintro (rfl | rfl)
      · exact absurd ha (by decide)
      · exact absurd ha (by decide))]
    rfl
theorem quoB_app (a b : List UInt8) : quoB (a ++ b) = quoB a ++ quoB b := by simp [quoB]
theorem quoB_enc (c : Nat) (hv : c < 55296 ∨ (57344 ≤ c ∧ c ≤ 1114111)) : quoB (encL (c : Int)) = (if c = 34 ∨ c = 92 then [92, (c : Int)] else [(c : Int)]).flatMap encL := by
  by_cases h : c = 34 ∨ c = 92
  · rw [if_pos h]
    rcases h with rfl | rfl <;> decide +kernel
  · rw [if_neg h]
    have e : [(c : Int)].flatMap encL = encL (c : Int) := by simp
    rw [e]
    by_cases h2 : c < 128
    · rw [encL_small c h2]
      have hb : ¬ (UInt8.ofNat c = 34 ∨ UInt8.ofNat c = 92) := by
        have hn : (UInt8.ofNat c).toNat = c := by
          have e : (UInt8.ofNat c).toNat = c % 256 := UInt8.toNat_ofNat'
          omega
        rintro (hh | hh)
        · exact h (.inl (by rw [← hn, hh]; rfl))
        · exact h (.inr (by rw [← hn, hh]; rfl))
      simp [quoB, hb]
    · exact quoB_big (encL_big c (by omega) hv)
theorem quo_join (s : ByteArray) : ∀ (f pos : Nat), s.size ≤ pos + f → rightF s f pos = true → (quoR s f pos).flatMap encL = quoB (s.data.toList.drop pos)
  | 0, pos, hf, _ => by
    have : s.data.toList.drop pos = [] := List.drop_eq_nil_of_le (by show s.size ≤ pos; omega)
    rw [this]; rfl
  | f + 1, pos, hf, h => by
    by_cases hlt : pos < s.size
    · have hwd := Lib.decode_width_pos s pos hlt
      have hv := decodeN_valid (s.size - pos) (s.get! pos).toNat (s.get! (pos + 1)).toNat (s.get! (pos + 2)).toNat (s.get! (pos + 3)).toNat
      rw [← Lib.decode_at] at hv
      rw [rightF, if_pos hlt] at h
      obtain ⟨c, k, hd⟩ : ∃ c k, Utf8.decode s pos = (c, k) := ⟨_, _, rfl⟩
      rw [hd] at h hwd hv
      simp only [Bool.and_eq_true] at h hwd hv
      have ih := quo_join s f (pos + k) (by omega) h.2
      rw [quoR, if_pos hlt, hd]
      simp only
      rw [List.flatMap_append, ih, ← quoB_enc c hv, enc_dec hlt hd h.1, ← quoB_app]
      congr 1
      rw [← List.drop_drop, List.take_append_drop]
    · have : s.data.toList.drop pos = [] := List.drop_eq_nil_of_le (by show s.size ≤ pos; omega)
      rw [this, quoR_end s _ pos hlt]; rfl
/-- Both quote alike. -/
theorem quote_join (s : ByteArray) (h : rightS s = true) : (quoteT s).1.data.toList = quotePT s := by
  unfold quoteT
  rw [if_pos h]
  show (runesBytes _).data.toList = _
  rw [runesBytes_list, List.flatMap_append, List.flatMap_append, quo_join s s.size 0 (by omega) h]
  simp [encL_34, quotePT]
end Go.Proofs.YtnhkpnohadbcdaaDoor
