/-
  Plain facts on a code point's bytes. lex: a character behind a dollar. The signs: the lists that lex and heddleref10 go through. lex: the token that begins at a place. A token ends behind the place where it begins, and inside its text.
-/
import Derived.Test.YtgapeacflkfmdaaGreatDoorG7
namespace Go.Proofs.YtgapeacflkfmdaaGreatDoor
open Go.RowKit Go.Proofs.YtgapeacflkfmdaaGreatDoorW.PrintWords

/-- What holds of each way through the decoding holds of it. -/
theorem decode_cases (Q : Nat × Nat → Prop) (s : ByteArray) (i : Nat) (herr : Q (65533, 1))
    (h1 : (s.get! i).toNat < 128 → Q ((s.get! i).toNat, 1))
    (h2 : (s.get! i).toNat / 32 = 6 → i + 1 < s.size → (s.get! (i + 1)).toNat / 64 = 2 → 128 ≤ (s.get! i).toNat % 32 * 64 + (s.get! (i + 1)).toNat % 64 → Q ((s.get! i).toNat % 32 * 64 + (s.get! (i + 1)).toNat % 64, 2))
    (h3 : (s.get! i).toNat / 16 = 14 → i + 2 < s.size → (s.get! (i + 1)).toNat / 64 = 2 → (s.get! (i + 2)).toNat / 64 = 2 → 2048 ≤ (s.get! i).toNat % 16 * 4096 + (s.get! (i + 1)).toNat % 64 * 64 + (s.get! (i + 2)).toNat % 64 → Utf8.valid (((s.get! i).toNat % 16 * 4096 + (s.get! (i + 1)).toNat % 64 * 64 + (s.get! (i + 2)).toNat % 64 : Nat) : Int) = true → Q ((s.get! i).toNat % 16 * 4096 + (s.get! (i + 1)).toNat % 64 * 64 + (s.get! (i + 2)).toNat % 64, 3))
    (h4 : (s.get! i).toNat / 8 = 30 → i + 3 < s.size → 65536 ≤ (s.get! i).toNat % 8 * 262144 + (s.get! (i + 1)).toNat % 64 * 4096 + (s.get! (i + 2)).toNat % 64 * 64 + (s.get! (i + 3)).toNat % 64 → Utf8.valid (((s.get! i).toNat % 8 * 262144 + (s.get! (i + 1)).toNat % 64 * 4096 + (s.get! (i + 2)).toNat % 64 * 64 + (s.get! (i + 3)).toNat % 64 : Nat) : Int) = true → Q ((s.get! i).toNat % 8 * 262144 + (s.get! (i + 1)).toNat % 64 * 4096 + (s.get! (i + 2)).toNat % 64 * 64 + (s.get! (i + 3)).toNat % 64, 4)) :
    Q (Utf8.decode s i) := by
  have key : ∀ (p : Prop) [Decidable p] (a b : Nat × Nat), (p → Q a) → (¬ p → Q b) → Q (if p then a else b) := fun p _ a b ha hb => by
    split
    · exact ha (by assumption)
    · exact hb (by assumption)
  unfold Utf8.decode
  refine key _ _ _ h1 (fun _ => key _ _ _ (fun g => key _ _ _ (fun g1 => ?_) (fun _ => herr)) (fun _ => key _ _ _ (fun g => key _ _ _ (fun g1 => ?_) (fun _ => herr)) (fun _ => key _ _ _ (fun g => key _ _ _ (fun g1 => ?_) (fun _ => herr)) (fun _ => herr))))
  · simp only [Bool.and_eq_true, beq_iff_eq, decide_eq_true_eq, Nat.add_zero] at g
    exact h2 g.1 g.2.1 g.2.2 g1
  · simp only [Bool.and_eq_true, beq_iff_eq, decide_eq_true_eq, Nat.add_zero] at g g1
    exact h3 g.1.1 g.2.1 g.1.2.2 g.2.2 g1.1 g1.2
  · simp only [Bool.and_eq_true, beq_iff_eq, decide_eq_true_eq, Nat.add_zero] at g g1
    exact h4 g.1.1.1 g.2.1 g1.1 g1.2

theorem valid_lt {n : Nat} (h : Utf8.valid (n : Int) = true) : n ≤ 1114111 := by
  simp only [Utf8.valid, Bool.or_eq_true, Bool.and_eq_true, decide_eq_true_eq] at h
  omega
theorem enc_size (n : Nat) (hv : Utf8.valid (n : Int) = true) : (Utf8.encode (n : Int)).size = if n < 128 then 1 else if n < 2048 then 2 else if n < 65536 then 3 else 4 := by
  unfold Utf8.encode
  simp only [hv, if_true, Int.toNat_natCast]
  repeat' split
  all_goals first | rfl | omega
/-- The length of a code point's text is what the decoding took. -/
theorem dec_size (s : ByteArray) (i : Nat) (h : Utf8.decode s i ≠ (65533, 1)) : (Utf8.encode ((Utf8.decode s i).1 : Int)).size = (Utf8.decode s i).2 := by
  have hv := decode_valid s i
  revert h hv
  refine decode_cases (fun d => d ≠ (65533, 1) → Utf8.valid (d.1 : Int) = true → (Utf8.encode (d.1 : Int)).size = d.2) s i (fun h => absurd rfl h) ?_ ?_ ?_ ?_
  · intro h _ hv
    rw [enc_size _ hv, if_pos h]
  · intro a _ c d _ hv
    rw [enc_size _ hv, if_neg (by simp only; omega), if_pos (by simp only; omega)]
  · intro a _ c d e f _ hv
    rw [enc_size _ hv, if_neg (by simp only; omega), if_neg (by simp only; omega), if_pos (by simp only; omega)]
  · intro a _ c d _ hv
    rw [enc_size _ hv, if_neg (by simp only; omega), if_neg (by simp only; omega), if_neg (by simp only; omega)]
theorem dec_fffd (s : ByteArray) (i : Nat) (h : (Utf8.decode s i).1 = 65533) : (Utf8.decode s i).2 = 1 ∧ ¬ ((s.get! i).toNat = 239 ∧ (s.get! (i + 1)).toNat = 191 ∧ (s.get! (i + 2)).toNat = 189 ∧ i + 2 < s.size) ∨ (Utf8.decode s i).2 = 3 ∧ (s.get! i).toNat = 239 ∧ (s.get! (i + 1)).toNat = 191 ∧ (s.get! (i + 2)).toNat = 189 ∧ i + 2 < s.size := by
  by_cases hp : (s.get! i).toNat = 239 ∧ (s.get! (i + 1)).toNat = 191 ∧ (s.get! (i + 2)).toNat = 189 ∧ i + 2 < s.size
  · right
    refine ⟨?_, hp⟩
    obtain ⟨a, b, c, d⟩ := hp
    have e : Utf8.decode s i = (65533, 3) := by
      unfold Utf8.decode
      simp only [Nat.add_zero, a, b, c]
      have d1 : i + 1 < s.size := by omega
      simp [d, d1]
      decide
    rw [e]
  · left
    refine ⟨?_, hp⟩
    revert h
    refine decode_cases (fun d => d.1 = 65533 → d.2 = 1) s i (fun _ => rfl) (fun _ h => rfl) ?_ ?_ ?_
    · intro a _ c d h
      simp only at h
      omega
    · intro a b c d e f h
      simp only at h
      exact absurd ⟨by omega, by omega, by omega, b⟩ hp
    · intro a _ c d h
      simp only at h
      omega
end Go.Proofs.YtgapeacflkfmdaaGreatDoor
namespace Go.Proofs.YtgapeacflkfmdaaGreatDoor
open Go.RowKit Go.Proofs.YtgapeacflkfmdaaGreatDoorW.PrintWords

/-- The character whose dollar stands at k. -/
def charTok (s : ByteArray) (k : Nat) : Tok :=
  if s.size ≤ k + 1 then noTok [⟨nLex, k, 202⟩]
  else if (Utf8.decode s (k + 1)).1 < 32 ∨ (Utf8.decode s (k + 1)).1 = 127 then noTok [⟨nLex, k, 202⟩]
  else if (Utf8.decode s (k + 1)).1 = 92 then escTok s k
  else if Utf8.decode s (k + 1) = (65533, 1) then noTok [⟨nLex, k, 202⟩]
  else (⟨3, ⟨#[]⟩, ((Utf8.decode s (k + 1)).1 : Int), 0⟩, k + 1 + (Utf8.decode s (k + 1)).2, [])

theorem c65_yes {C : Nat} (h : C = 65533) : ((C : Int) == 65533) = true := by
  rw [beq_iff_eq]
  omega
theorem c65_no {C : Nat} (h : C ≠ 65533) : ((C : Int) == 65533) = false := by
  rw [beq_eq_false_iff_ne]
  omega
theorem dec_le (s : ByteArray) (i : Nat) : (Utf8.decode s i).2 ≤ 4 :=
  decode_cases (fun d => d.2 ≤ 4) s i (by decide) (fun _ => (by decide : (1 : Nat) ≤ 4)) (fun _ _ _ _ => (by decide : (2 : Nat) ≤ 4)) (fun _ _ _ _ _ _ => (by decide : (3 : Nat) ≤ 4)) (fun _ _ _ _ => (by decide : (4 : Nat) ≤ 4))
theorem sum3 {k z n : Nat} (hk : k + 1 ≤ z) (hm : z ≤ 140737488351232) (hn : n ≤ 4) : IntKind.i64.wrap ((k : Int) + 1 + (n : Int)) = (k : Int) + 1 + (n : Int) := wrap_small _ (by omega) (by omega)
theorem wrapC {C : Nat} (h : C ≤ 1114111) : wrap64 (C : Int) = (C : Int) := by unfold wrap64; omega
theorem wrapC2 {C : Nat} (h : C ≤ 1114111) : IntKind.i64.wrap (C : Int) = (C : Int) := wrap_small _ (by omega) (by omega)
theorem prefix_fffd (s : ByteArray) (i : Nat) (T : ByteArray) (hT : T = s.extract i s.size) :
    (¬ ((s.get! i).toNat = 239 ∧ (s.get! (i + 1)).toNat = 191 ∧ (s.get! (i + 2)).toNat = 189 ∧ i + 2 < s.size) → Lib.hasPrefix T.data.toList [239, 191, 189] = false) ∧
    ((s.get! i).toNat = 239 ∧ (s.get! (i + 1)).toNat = 191 ∧ (s.get! (i + 2)).toNat = 189 ∧ i + 2 < s.size → Lib.hasPrefix T.data.toList [239, 191, 189] = true) := by
  have h0 := Lib.tail_get! s i 0
  have h1 := Lib.tail_get! s i 1
  have h2 := Lib.tail_get! s i 2
  have hs := Lib.tail_size s i
  rw [← hT] at h0 h1 h2 hs
  rw [Nat.add_zero] at h0
  rw [← h0, ← h1, ← h2]
  clear hT h0 h1 h2
  obtain ⟨⟨l⟩⟩ := T
  have hsz : (⟨⟨l⟩⟩ : ByteArray).size = l.length := rfl
  rw [hsz] at hs
  have hn : ∀ a b : UInt8, a.toNat = b.toNat ↔ a = b := fun a b => ⟨fun h => UInt8.toNat_inj.1 h, fun h => by rw [h]⟩
  match l, hs with
  | [], hs =>
    simp only [List.length_nil] at hs
    exact ⟨fun _ => rfl, fun h => absurd h.2.2.2 (by omega)⟩
  | [a], hs =>
    simp only [List.length_cons, List.length_nil] at hs
    exact ⟨fun _ => by simp [Lib.hasPrefix, List.isPrefixOf], fun h => absurd h.2.2.2 (by omega)⟩
  | [a, b], hs =>
    simp only [List.length_cons, List.length_nil] at hs
    exact ⟨fun _ => by simp [Lib.hasPrefix, List.isPrefixOf], fun h => absurd h.2.2.2 (by omega)⟩
  | a :: b :: c :: r, hs =>
    simp only [List.length_cons] at hs
    have e0 : (⟨⟨a :: b :: c :: r⟩⟩ : ByteArray).get! 0 = a := rfl
    have e1 : (⟨⟨a :: b :: c :: r⟩⟩ : ByteArray).get! 1 = b := rfl
    have e2 : (⟨⟨a :: b :: c :: r⟩⟩ : ByteArray).get! 2 = c := rfl
    rw [e0, e1, e2]
    have k0 := hn a 239
    have k1 := hn b 191
    have k2 := hn c 189
    have q : Lib.hasPrefix (a :: b :: c :: r) [239, 191, 189] = (239 == a && (191 == b && (189 == c && true))) := rfl
    have hlt : i + 2 < s.size := by omega
    constructor
    · intro h
      rw [q]
      apply Bool.eq_false_iff.2
      intro ht
      simp only [Bool.and_eq_true, beq_iff_eq] at ht
      obtain ⟨t0, t1, t2, _⟩ := ht
      exact h ⟨by rw [← t0]; rfl, by rw [← t1]; rfl, by rw [← t2]; rfl, hlt⟩
    · rintro ⟨t0, t1, t2, _⟩
      have u0 := k0.1 t0
      have u1 := k1.1 t1
      have u2 := k2.1 t2
      subst u0 u1 u2
      rfl

set_option maxRecDepth 100000 in
set_option maxHeartbeats 6000000 in
theorem lex_char (b : Nat) (s : ByteArray) (k : Nat) (hk : k + 1 ≤ s.size) (hm : s.size ≤ 140737488351232) (w : World) (hS : ScanAt w b s k) (hG : Glob w) :
    Calls Tryz.prog 131 #[.pointer (some ⟨b, 0, none⟩)] w (TokPost w (charTok s k)) := by
  have hf := TokFrame.start hS hG
  obtain ⟨W1, hW1⟩ : ∃ W, W = w.alloc (.cells #[.int .i64 0, .string ⟨#[]⟩, .int .i64 0, .int .i64 0] 63) := ⟨_, rfl⟩
  rw [← hW1] at hf
  have HF := Lib.hid hf
  obtain ⟨⟨g1, g2, _⟩, _, _, _, _, _, _⟩ := hf
  have hW := hW1.symm
  clear hS hG hW1
  obtain ⟨R, hR⟩ : ∃ R, R = charTok s k := ⟨_, rfl⟩
  rw [← hR]
  have HR := Lib.hid hR
  clear hR
  have e0 : (k : Int) + 1 ≤ (s.size : Int) := by omega
  have e00 : (0 : Int) ≤ (k : Int) + 1 := by omega
  have hq : IntKind.i64.wrap ((k : Int) + 1) = (k : Int) + 1 := wrap_small _ (by omega) (by omega)
  obtain ⟨T, hT⟩ : ∃ T, T = s.extract (k + 1) s.size := ⟨_, rfl⟩
  have hsz : T.size = s.size - (k + 1) := by rw [hT]; simp
  have hd : Utf8.decode T 0 = Utf8.decode s (k + 1) := by rw [hT, Lib.tail_decode]
  have hTx := hT.symm
  clear hT
  go_enter Tryz.func131, Tryz.ntmps131
  go_wp2_with fail
  refine (lex_fault _ _ _ _ [] rfl).mono ?_
  rintro e w2 ⟨wv, rfl, hE, hB⟩
  have HE := Lib.hid hE
  have hF2 := HF.out.step hB
  have HF2 := Lib.hid hF2
  obtain ⟨⟨t1, t2, _⟩, ⟨r0, r1, r2, r3, f0, f1, f2, f3⟩, _, _, _, _, _⟩ := hF2
  simp only [zTk] at r0 r1 r2 r3
  clear hE hB g1 g2
  go_wp2_with fail
  have HS2 : Hid (w2.drew.cell? ⟨b, 0, none⟩ = some (.string s) ∧ w2.drew.cell? ⟨b, 1, none⟩ = some (.int .i64 (k : Int))) := Lib.hid ⟨t1, t2⟩
  have HS3 : Hid (∀ o, (w2.drew.alloc o).cell? ⟨b, 0, none⟩ = some (.string s) ∧ (w2.drew.alloc o).cell? ⟨b, 1, none⟩ = some (.int .i64 (k : Int))) := Lib.hid fun o => ⟨((below_alloc (Below.refl _ _) o).cell HF2.out.drew.l1).trans t1, ((below_alloc (Below.refl _ _) o).cell HF2.out.drew.l1).trans t2⟩
  have HS5 : Hid (∀ p, (w2.drew.iter T p).cell? ⟨b, 0, none⟩ = some (.string s) ∧ (w2.drew.iter T p).cell? ⟨b, 1, none⟩ = some (.int .i64 (k : Int))) := Lib.hid fun p => HS3.out (.stringIter T p)
  have HS4 : Hid (∀ o, (w2.alloc o).drew.cell? ⟨b, 0, none⟩ = some (.string s) ∧ (w2.alloc o).drew.cell? ⟨b, 1, none⟩ = some (.int .i64 (k : Int))) := Lib.hid fun o => ⟨((below_alloc (Below.refl _ _) o).cell HF2.out.l1).trans t1, ((below_alloc (Below.refl _ _) o).cell HF2.out.l1).trans t2⟩
  go_region_held3 (fun w' => w'.cell? ⟨b, 0, none⟩ = some (.string s) ∧ w'.cell? ⟨b, 1, none⟩ = some (.int .i64 (k : Int))) (first | with_reducible exact HS2.out | with_reducible exact HS3.out _ | with_reducible exact HS4.out _ | with_reducible exact HS5.out _) (fail)
  go_wp2_with fail
  have hit : (w2.drew.iter T 0).heap[w2.heap.size]? = some (.stringIter T 0) := heap_alloc_new w2.drew _
  have hF3 := HF2.out.step (below_alloc (Below.refl w2.heap.size w2).drew (.stringIter T 0))
  have HF3 : Hid (TokFrame w (w2.drew.iter T 0) b w.heap.size s k) := Lib.hid hF3
  have HE3 : Hid (ErrIs (w2.drew.iter T 0) [⟨nLex, k, 202⟩] wv) := Lib.hid (HE.out.below (below_alloc (Below.refl w2.heap.size w2).drew (.stringIter T 0)))
  have HF5 : Hid (∀ p, TokFrame w ((w2.drew.iter T 0).iterAt w2.heap.size T p) b w.heap.size s k) := Lib.hid fun p => HF2.out.step (Lib.below_iterAt (below_alloc (Below.refl w2.heap.size w2).drew (.stringIter T 0)) (Nat.le_refl _) T p)
  have HE5 : Hid (∀ p, ErrIs ((w2.drew.iter T 0).iterAt w2.heap.size T p) [⟨nLex, k, 202⟩] wv) := Lib.hid fun p => HE.out.below (Lib.below_iterAt (below_alloc (Below.refl w2.heap.size w2).drew (.stringIter T 0)) (Nat.le_refl _) T p)
  obtain ⟨W3, hW3⟩ : ∃ W, W = w2.drew.iter T 0 := ⟨_, rfl⟩
  rw [← hW3] at hit HF3 HE3 HF5 HE5
  rw [← hW3]
  clear hF3 HS2 HS3 HS4 HS5 t1 t2 r0 r1 r2 r3 f0 f1 f2 f3
  rename_i hHeld
  clear hHeld hW3
  go_loopg [] 1 (fun gk wl => gk = 1 ∧ wl = W3)
  case atStart => exact ⟨rfl, rfl⟩
  case round =>
    obtain ⟨_, rfl⟩ := hrel
    by_cases hlt : 0 < T.size
    · have hnx := fun ty => Lib.run_next_any_at (P := Tryz.prog) wr w2.heap.size T 0 ty hit hlt
      rw [hd] at hnx
      have HR2 : Hid (R = if (Utf8.decode s (k + 1)).1 < 32 ∨ (Utf8.decode s (k + 1)).1 = 127 then noTok [⟨nLex, k, 202⟩] else if (Utf8.decode s (k + 1)).1 = 92 then escTok s k else if Utf8.decode s (k + 1) = (65533, 1) then noTok [⟨nLex, k, 202⟩] else (⟨3, ⟨#[]⟩, ((Utf8.decode s (k + 1)).1 : Int), 0⟩, k + 1 + (Utf8.decode s (k + 1)).2, [])) := Lib.hid (by rw [HR.out]; unfold charTok; rw [if_neg (by omega)])
      have HF6 := Lib.hid (HF5.out (0 + (Utf8.decode s (k + 1)).2))
      have HE6 := Lib.hid (HE5.out (0 + (Utf8.decode s (k + 1)).2))
      obtain ⟨W5, hW5⟩ : ∃ W, W = wr.iterAt w2.heap.size T (0 + (Utf8.decode s (k + 1)).2) := ⟨_, rfl⟩
      rw [← hW5] at hnx HF6 HE6
      have HDS := Lib.hid (dec_size s (k + 1))
      have HDF := Lib.hid (dec_fffd s (k + 1))
      have HN4 : Hid ((Utf8.decode s (k + 1)).2 ≤ 4) := Lib.hid (dec_le s (k + 1))
      have HPF := Lib.hid (prefix_fffd s (k + 1) T hTx.symm)
      have HCB : Hid ((Utf8.decode s (k + 1)).1 ≤ 1114111) := Lib.hid (valid_lt (decode_valid s (k + 1)))
      obtain ⟨⟨C, N⟩, hCN⟩ : ∃ d, d = Utf8.decode s (k + 1) := ⟨_, rfl⟩
      rw [← hCN] at hnx HR2 HDS HDF HCB HN4
      simp only at hnx HR2 HDS HDF HCB HN4
      obtain ⟨⟨t1, t2, _⟩, ⟨r0, r1, r2, r3, f0, f1, f2, f3⟩, _, _, _, _, _⟩ := HF6.out
      simp only [zTk] at r0 r1 r2 r3
      clear hit hd hW5 hCN
      by_cases c32 : C < 32
      · have d32 : decide ((C : Int) < 32) = true := decide_eq_true (by omega)
        have HQ : Hid (R = noTok [⟨nLex, k, 202⟩]) := Lib.hid (by rw [HR2.out, if_pos (.inl c32)])
        clear c32
        go_wp2_with fail
        refine bodyPost_ret (res_tok rfl _ _ w.heap.size zTk (by rfl) (HF6.out.tk.put zTk)) rfl ?_
        rw [HQ.out]
        exact HF6.out.done (noTok [⟨nLex, k, 202⟩]) wv HE6.out
      · have d32 : decide ((C : Int) < 32) = false := decide_eq_false (by omega)
        by_cases c127 : C = 127
        · have d127 : ((C : Int) == 127) = true := beq_iff_eq.2 (by omega)
          have HQ : Hid (R = noTok [⟨nLex, k, 202⟩]) := Lib.hid (by rw [HR2.out, if_pos (.inr c127)])
          clear c32 c127
          go_wp2_with fail
          refine bodyPost_ret (res_tok rfl _ _ w.heap.size zTk (by rfl) (HF6.out.tk.put zTk)) rfl ?_
          rw [HQ.out]
          exact HF6.out.done (noTok [⟨nLex, k, 202⟩]) wv HE6.out
        · have d127 : ((C : Int) == 127) = false := beq_eq_false_iff_ne.2 (by omega)
          have HR3 := Lib.hid (HR2.out.trans (if_neg (by omega)))
          clear c127
          by_cases c92 : C = 92
          · have d92 : ((C : Int) == 92) = true := beq_iff_eq.2 (by omega)
            have HQ := Lib.hid (HR3.out.trans (if_pos c92))
            clear c32 c92
            go_wp2_with fail
            refine (lex_escape b s k (by omega) hm wv W5 HF6.out.sc HE6.out HF6.out.g).mono ?_
            rintro e w7 ⟨v, rfl, hE7, hB7⟩
            obtain ⟨⟨⟨kd, tx, nm, at_⟩, n, l⟩, hRR⟩ : ∃ r, r = escTok s k := ⟨_, rfl⟩
            rw [← hRR] at hE7 HQ
            rw [← hRR]
            have HE7 := Lib.hid hE7
            have hF7 := HF6.out.step hB7
            have HF7 := Lib.hid hF7
            obtain ⟨_, ⟨y0, y1, y2, y3, z0, z1, z2, z3⟩, _, _, _, _, _⟩ := hF7
            clear hRR hE7 hB7 r0 r1 r2 r3 f0 f1 f2 f3 t1 t2
            simp only [tkV]
            go_wp2_with fail
            refine bodyPost_ret (res_tok rfl _ _ w.heap.size ⟨kd, tx, nm, at_⟩ (by rfl) (HF7.out.tk.put ⟨kd, tx, nm, at_⟩)) rfl ?_
            rw [HQ.out]
            exact HF7.out.done (⟨kd, tx, nm, at_⟩, n, l) v HE7.out
          · have d92 : ((C : Int) == 92) = false := beq_eq_false_iff_ne.2 (by omega)
            have HR4 := Lib.hid (HR3.out.trans (if_neg c92))
            clear c92
            have hn4 := HN4.out
            have hw3 := sum3 hk hm hn4
            have HSa : Hid (∀ n, (W5.drewN n).drew.cell? ⟨b, 1, none⟩ = some (.int .i64 (k : Int))) := Lib.hid fun _ => t2
            have HSb : Hid (∀ n, (W5.drewN n).cell? ⟨b, 1, none⟩ = some (.int .i64 (k : Int))) := Lib.hid fun _ => t2
            have hwc := wrapC HCB.out
            have hwc2 := wrapC2 HCB.out
            by_cases c65 : C = 65533
            · have d65 := c65_yes c65
              rcases HDF.out c65 with ⟨hN, hno⟩ | ⟨hN, hyes⟩
              · have hp : Lib.hasPrefix T.data.toList [239, 191, 189] = false := HPF.out.1 hno
                have HHP : Hid (∀ w, Calls Tryz.prog 132 #[.string T, .string ⟨#[239, 191, 189]⟩] w fun e w' => e = .returned (.bool false) ∧ w' = w) := Lib.hid fun w => by rw [← hp]; exact Tryz.strings_HasPrefix T ⟨#[239, 191, 189]⟩ w
                have HQ : Hid (R = noTok [⟨nLex, k, 202⟩]) := Lib.hid (HR4.out.trans (if_pos (Prod.ext c65 hN)))
                clear hno hp c65 hN
                go_wp2_with fail
                go_quiet ((go_at_call 132; exact (HHP.out _).mono fun e w' h => ⟨h.1, _, h.2⟩))
                go_wp2_with fail
                refine bodyPost_ret (res_tok rfl _ _ w.heap.size zTk (by rfl) ((HF6.out.drewN _).tk.put zTk)) rfl ?_
                rw [HQ.out]
                exact (HF6.out.drewN _).done (noTok [⟨nLex, k, 202⟩]) wv (HE6.out.below (below_drewN _ _ _))
              · have hp : Lib.hasPrefix T.data.toList [239, 191, 189] = true := HPF.out.2 hyes
                have HHP : Hid (∀ w, Calls Tryz.prog 132 #[.string T, .string ⟨#[239, 191, 189]⟩] w fun e w' => e = .returned (.bool true) ∧ w' = w) := Lib.hid fun w => by rw [← hp]; exact Tryz.strings_HasPrefix T ⟨#[239, 191, 189]⟩ w
                have hNs := HDS.out (fun h => absurd (hN.symm.trans (congrArg Prod.snd h)) (by decide))
                have HQ : Hid (R = (⟨3, ⟨#[]⟩, (C : Int), 0⟩, k + 1 + N, [])) := Lib.hid (HR4.out.trans (if_neg (fun h => absurd (hN.symm.trans (congrArg Prod.snd h)) (by decide))))
                clear hyes hp c65 hN c32
                go_wp2_with fail
                go_quiet ((go_at_call 132; exact (HHP.out _).mono fun e w' h => ⟨h.1, _, h.2⟩))
                go_wp2_with fail
                go_region_held3 (fun w' => w'.cell? ⟨b, 1, none⟩ = some (.int .i64 (k : Int))) (first | with_reducible exact HSa.out _ | with_reducible exact HSb.out _ | with_reducible exact (put_far HF.out.ne _ _ _ _).trans (HSa.out _) | with_reducible exact (put_far HF.out.ne _ _ _ _).trans (HSb.out _) | with_reducible exact (put_far_drew HF.out.ne _ _ _ _).trans (HSa.out _)) (fail)
                go_wp2_with fail
                refine bodyPost_ret (res_tok rfl _ _ w.heap.size ⟨3, ⟨#[]⟩, (C : Int), 0⟩ (by rfl) ((HF6.out.drewN _).tk.put ⟨3, ⟨#[]⟩, (C : Int), 0⟩)) rfl ?_
                rw [HQ.out]
                exact (HF6.out.drewN _).done (⟨3, ⟨#[]⟩, (C : Int), 0⟩, k + 1 + N, []) .nilIface rfl
            · have d65 := c65_no c65
              have hNs := HDS.out (fun h => c65 (congrArg Prod.fst h))
              have HQ : Hid (R = (⟨3, ⟨#[]⟩, (C : Int), 0⟩, k + 1 + N, [])) := Lib.hid (HR4.out.trans (if_neg (fun h => c65 (congrArg Prod.fst h))))
              clear c65 c32
              go_wp2_with fail
              go_quiet (fail)
              go_wp2_with fail
              go_region_held3 (fun w' => w'.cell? ⟨b, 1, none⟩ = some (.int .i64 (k : Int))) (first | with_reducible exact HSa.out _ | with_reducible exact HSb.out _ | with_reducible exact (put_far HF.out.ne _ _ _ _).trans (HSa.out _) | with_reducible exact (put_far HF.out.ne _ _ _ _).trans (HSb.out _) | with_reducible exact (put_far_drew HF.out.ne _ _ _ _).trans (HSa.out _)) (fail)
              go_wp2_with fail
              refine bodyPost_ret (res_tok rfl _ _ w.heap.size ⟨3, ⟨#[]⟩, (C : Int), 0⟩ (by rfl) ((HF6.out.drewN _).tk.put ⟨3, ⟨#[]⟩, (C : Int), 0⟩)) rfl ?_
              rw [HQ.out]
              exact (HF6.out.drewN _).done (⟨3, ⟨#[]⟩, (C : Int), 0⟩, k + 1 + N, []) .nilIface rfl
    · have hnx := fun ty => Lib.run_next_end_at (P := Tryz.prog) wr w2.heap.size T 0 ty hit hlt
      have HQ : Hid (R = noTok [⟨nLex, k, 202⟩]) := Lib.hid (by rw [HR.out]; unfold charTok; rw [if_pos (by omega)])
      obtain ⟨⟨t1, t2, _⟩, ⟨r0, r1, r2, r3, f0, f1, f2, f3⟩, _, _, _, _, _⟩ := HF3.out
      simp only [zTk] at r0 r1 r2 r3
      clear hit hd
      go_wp2_with fail
      refine bodyPost_ret (res_tok rfl _ _ w.heap.size zTk (by rfl) (HF3.out.tk.put zTk)) rfl ?_
      rw [HQ.out]
      exact HF3.out.done (noTok [⟨nLex, k, 202⟩]) wv HE3.out
end Go.Proofs.YtgapeacflkfmdaaGreatDoor
namespace Go.Proofs.YtgapeacflkfmdaaGreatDoor
open Go.RowKit Go.Proofs.YtgapeacflkfmdaaGreatDoorW.PrintWords

def signList : List ByteArray := [⟨#[61, 58, 61]⟩, ⟨#[61, 47, 61]⟩, ⟨#[45, 62]⟩, ⟨#[61, 61]⟩, ⟨#[47, 61]⟩, ⟨#[61, 60]⟩, ⟨#[62, 61]⟩, ⟨#[43, 43]⟩, ⟨#[45, 45]⟩, ⟨#[40]⟩, ⟨#[41]⟩, ⟨#[91]⟩, ⟨#[93]⟩, ⟨#[123]⟩, ⟨#[125]⟩, ⟨#[44]⟩, ⟨#[59]⟩, ⟨#[58]⟩, ⟨#[124]⟩, ⟨#[33]⟩, ⟨#[61]⟩, ⟨#[43]⟩, ⟨#[45]⟩, ⟨#[42]⟩, ⟨#[47]⟩, ⟨#[60]⟩, ⟨#[62]⟩]
def SignPost (w : World) (e : Ending) (w' : World) : Prop := e = .returned (.slice (some ⟨w.heap.size, 0, none⟩) 27 27) ∧ (∀ j : Nat, j < 27 → w'.cell? ⟨w.heap.size, j, none⟩ = some (.string (signList.getD j ByteArray.empty))) ∧ w.heap.size < w'.heap.size ∧ Below w.heap.size w w'
set_option maxRecDepth 100000 in
theorem lex_signs (w : World) : Calls Tryz.prog 68 #[] w (SignPost w) := by
  go_enter Tryz.func68, Tryz.ntmps68
  go_wp2_with fail
  go_ret
  refine ⟨rfl, ?_, by simp, below_alloc (Below.refl _ _) _⟩
  intro j hj
  have h : (signList.map Value.string)[j]? = some (.string (signList.getD j ByteArray.empty)) := by
    rw [List.getElem?_map, List.getD_eq_getElem?_getD, List.getElem?_eq_getElem (show j < signList.length from hj)]
    rfl
  show (w.alloc (.cells (signList.map Value.string).toArray 9)).cell? ⟨w.heap.size, j, none⟩ = _
  rw [← h]
  simp
end Go.Proofs.YtgapeacflkfmdaaGreatDoor
namespace Go.Proofs.YtgapeacflkfmdaaGreatDoor
open Go.RowKit Go.Proofs.YtgapeacflkfmdaaGreatDoorW.PrintWords

def signTok (s : ByteArray) (k : Nat) : Tok :=
  match signList.find? (fun p => Lib.hasPrefix (s.extract k s.size).data.toList p.data.toList) with
  | some p => (⟨5, p, 0, 0⟩, k + p.size, [])
  | none => noTok [⟨nLex, k, 200⟩]
/-- The token that begins at k. -/
def tokenAt (s : ByteArray) (k : Nat) : Tok :=
  if isSmall (bt s (k : Int)) || isCapital (bt s (k : Int)) || bt s (k : Int) == 95 then wordTok s k
  else if bt s (k : Int) = 39 then atomTok s k
  else if isDigit (bt s (k : Int)) then numTok s k
  else if bt s (k : Int) = 36 then charTok s k
  else if bt s (k : Int) = 46 ∧ (k + 1 = s.size ∨ isBlank (bt s ((k + 1 : Nat) : Int)) = true ∨ bt s ((k + 1 : Nat) : Int) = 37) then (⟨6, ⟨#[]⟩, 0, 0⟩, k + 1, [])
  else signTok s k

theorem sign_size : ∀ p ∈ signList, p.size ≤ 3 := by decide
theorem sum2 {k z n : Nat} (hk : k < z) (hm : z ≤ 140737488351232) (hn : n ≤ 3) : IntKind.i64.wrap ((k : Int) + (n : Int)) = (k : Int) + (n : Int) := wrap_small _ (by omega) (by omega)

set_option maxRecDepth 100000 in
set_option maxHeartbeats 6000000 in
theorem lex_token (b : Nat) (s : ByteArray) (k : Nat) (hk : k < s.size) (hm : s.size ≤ 140737488351232) (w : World) (hS : ScanAt w b s k) (hG : Glob w) :
    Calls Tryz.prog 76 #[.pointer (some ⟨b, 0, none⟩)] w (TokPost w (tokenAt s k)) := by
  have hf := TokFrame.start hS hG
  obtain ⟨W1, hW1⟩ : ∃ W, W = w.alloc (.cells #[.int .i64 0, .string ⟨#[]⟩, .int .i64 0, .int .i64 0] 63) := ⟨_, rfl⟩
  rw [← hW1] at hf
  have HF := Lib.hid hf
  obtain ⟨⟨g1, g2, _⟩, ⟨r0, r1, r2, r3, f0, f1, f2, f3⟩, _, _, _, _, _⟩ := hf
  simp only [zTk] at r0 r1 r2 r3
  have hW := hW1.symm
  clear hS hG hW1
  obtain ⟨R, hR⟩ : ∃ R, R = tokenAt s k := ⟨_, rfl⟩
  rw [← hR]
  unfold tokenAt at hR
  have hb := btk s k
  have e0 : (0 : Int) ≤ (k : Int) := by omega
  have e1 : (k : Int) < (s.size : Int) := by omega
  have HB : Hid (isSmall (bt s (k : Int)) = true ∨ isCapital (bt s (k : Int)) = true ∨ bt s (k : Int) = 95 → isIn (bt s (k : Int)) = true) := Lib.hid fun h => by
    unfold isIn
    rcases h with h | h | h <;> simp [h]
  obtain ⟨c, hc⟩ : ∃ c, c = bt s (k : Int) := ⟨_, rfl⟩
  have HC := Lib.hid hc
  rw [← hc] at hR hb HB
  clear hc
  have HR := Lib.hid hR
  clear hR
  cases hsm : isSmall c with
  | true =>
    have HQ : Hid (R = wordTok s k) := Lib.hid (by rw [HR.out, hsm]; rfl)
    have HIN : Hid (isIn (bt s (k : Int)) = true) := Lib.hid (by rw [← HC.out]; exact HB.out (.inl hsm))
    go_enter Tryz.func76, Tryz.ntmps76
    go_wp2_with fail
    go_quiet (fail)
    go_wp2_with fail
    refine (lex_small _ _).mono ?_
    rintro e w' ⟨rfl, rfl⟩
    go_wp2_with fail
    refine (lex_word b s k (by omega) HIN.out hm _ (HF.out.drewN _).sc (HF.out.drewN _).g).mono ?_
    rintro e w7 ⟨v, rfl, hE7, hB7⟩
    obtain ⟨⟨⟨kd, tx, nm, at_⟩, n, l⟩, hRR⟩ : ∃ r, r = wordTok s k := ⟨_, rfl⟩
    rw [← hRR] at hE7 HQ
    rw [← hRR]
    have HE7 := Lib.hid hE7
    have hF7 := (HF.out.drewN _).step hB7
    have HF7 := Lib.hid hF7
    obtain ⟨_, ⟨y0, y1, y2, y3, z0, z1, z2, z3⟩, _, _, _, _, _⟩ := hF7
    clear hRR hE7 hB7 r0 r1 r2 r3 f0 f1 f2 f3 g1 g2
    simp only [tkV]
    go_wp2_with fail
    refine bodyPost_ret (res_tok rfl _ _ w.heap.size ⟨kd, tx, nm, at_⟩ (by rfl) (HF7.out.tk.put ⟨kd, tx, nm, at_⟩)) rfl ?_
    rw [HQ.out]
    exact HF7.out.done (⟨kd, tx, nm, at_⟩, n, l) v HE7.out
  | false =>
    cases hcp : isCapital c with
    | true =>
      have HQ : Hid (R = wordTok s k) := Lib.hid (by rw [HR.out, hsm, hcp]; rfl)
      have HIN : Hid (isIn (bt s (k : Int)) = true) := Lib.hid (by rw [← HC.out]; exact HB.out (.inr (.inl hcp)))
      go_enter Tryz.func76, Tryz.ntmps76
      go_wp2_with fail
      go_quiet (fail)
      go_wp2_with fail
      refine (lex_small _ _).mono ?_
      rintro e w' ⟨rfl, rfl⟩
      go_wp2_with fail
      refine (lex_capital _ _).mono ?_
      rintro e w' ⟨rfl, rfl⟩
      go_wp2_with fail
      refine (lex_word b s k (by omega) HIN.out hm _ (HF.out.drewN _).sc (HF.out.drewN _).g).mono ?_
      rintro e w7 ⟨v, rfl, hE7, hB7⟩
      obtain ⟨⟨⟨kd, tx, nm, at_⟩, n, l⟩, hRR⟩ : ∃ r, r = wordTok s k := ⟨_, rfl⟩
      rw [← hRR] at hE7 HQ
      rw [← hRR]
      have HE7 := Lib.hid hE7
      have hF7 := (HF.out.drewN _).step hB7
      have HF7 := Lib.hid hF7
      obtain ⟨_, ⟨y0, y1, y2, y3, z0, z1, z2, z3⟩, _, _, _, _, _⟩ := hF7
      clear hRR hE7 hB7 r0 r1 r2 r3 f0 f1 f2 f3 g1 g2
      simp only [tkV]
      go_wp2_with fail
      refine bodyPost_ret (res_tok rfl _ _ w.heap.size ⟨kd, tx, nm, at_⟩ (by rfl) (HF7.out.tk.put ⟨kd, tx, nm, at_⟩)) rfl ?_
      rw [HQ.out]
      exact HF7.out.done (⟨kd, tx, nm, at_⟩, n, l) v HE7.out
    | false =>
      by_cases h95 : c = 95
      · have d95 : (c == 95) = true := beq_iff_eq.2 h95
        have HQ : Hid (R = wordTok s k) := Lib.hid (by rw [HR.out, hsm, hcp, d95]; rfl)
        have HIN : Hid (isIn (bt s (k : Int)) = true) := Lib.hid (by rw [← HC.out]; exact HB.out (.inr (.inr h95)))
        clear h95
        go_enter Tryz.func76, Tryz.ntmps76
        go_wp2_with fail
        go_quiet (fail)
        go_wp2_with fail
        refine (lex_small _ _).mono ?_
        rintro e w' ⟨rfl, rfl⟩
        go_wp2_with fail
        refine (lex_capital _ _).mono ?_
        rintro e w' ⟨rfl, rfl⟩
        go_wp2_with fail
        refine (lex_word b s k (by omega) HIN.out hm _ (HF.out.drewN _).sc (HF.out.drewN _).g).mono ?_
        rintro e w7 ⟨v, rfl, hE7, hB7⟩
        obtain ⟨⟨⟨kd, tx, nm, at_⟩, n, l⟩, hRR⟩ : ∃ r, r = wordTok s k := ⟨_, rfl⟩
        rw [← hRR] at hE7 HQ
        rw [← hRR]
        have HE7 := Lib.hid hE7
        have hF7 := (HF.out.drewN _).step hB7
        have HF7 := Lib.hid hF7
        obtain ⟨_, ⟨y0, y1, y2, y3, z0, z1, z2, z3⟩, _, _, _, _, _⟩ := hF7
        clear hRR hE7 hB7 r0 r1 r2 r3 f0 f1 f2 f3 g1 g2
        simp only [tkV]
        go_wp2_with fail
        refine bodyPost_ret (res_tok rfl _ _ w.heap.size ⟨kd, tx, nm, at_⟩ (by rfl) (HF7.out.tk.put ⟨kd, tx, nm, at_⟩)) rfl ?_
        rw [HQ.out]
        exact HF7.out.done (⟨kd, tx, nm, at_⟩, n, l) v HE7.out
      · have d95 : (c == 95) = false := beq_eq_false_iff_ne.2 h95
        have HR2 := Lib.hid (HR.out.trans (if_neg (by rw [hsm, hcp, d95]; simp)))
        clear h95 HB
        by_cases h39 : c = 39
        · have d39 : (c == 39) = true := beq_iff_eq.2 h39
          have HQ := Lib.hid (HR2.out.trans (if_pos h39))
          clear h39
          go_enter Tryz.func76, Tryz.ntmps76
          go_wp2_with fail
          go_quiet (fail)
          go_wp2_with fail
          refine (lex_small _ _).mono ?_
          rintro e w' ⟨rfl, rfl⟩
          go_wp2_with fail
          refine (lex_capital _ _).mono ?_
          rintro e w' ⟨rfl, rfl⟩
          go_wp2_with fail
          refine (lex_atom b s k (by omega) hm _ (HF.out.drewN _).sc (HF.out.drewN _).g).mono ?_
          rintro e w7 ⟨v, rfl, hE7, hB7⟩
          obtain ⟨⟨⟨kd, tx, nm, at_⟩, n, l⟩, hRR⟩ : ∃ r, r = atomTok s k := ⟨_, rfl⟩
          rw [← hRR] at hE7 HQ
          rw [← hRR]
          have HE7 := Lib.hid hE7
          have hF7 := (HF.out.drewN _).step hB7
          have HF7 := Lib.hid hF7
          obtain ⟨_, ⟨y0, y1, y2, y3, z0, z1, z2, z3⟩, _, _, _, _, _⟩ := hF7
          clear hRR hE7 hB7 r0 r1 r2 r3 f0 f1 f2 f3 g1 g2
          simp only [tkV]
          go_wp2_with fail
          refine bodyPost_ret (res_tok rfl _ _ w.heap.size ⟨kd, tx, nm, at_⟩ (by rfl) (HF7.out.tk.put ⟨kd, tx, nm, at_⟩)) rfl ?_
          rw [HQ.out]
          exact HF7.out.done (⟨kd, tx, nm, at_⟩, n, l) v HE7.out
        · have d39 : (c == 39) = false := beq_eq_false_iff_ne.2 h39
          have HR3 := Lib.hid (HR2.out.trans (if_neg h39))
          clear h39
          cases hdg : isDigit c with
          | true =>
            have HQ := Lib.hid (HR3.out.trans (if_pos hdg))
            go_enter Tryz.func76, Tryz.ntmps76
            go_wp2_with fail
            go_quiet (fail)
            go_wp2_with fail
            refine (lex_small _ _).mono ?_
            rintro e w' ⟨rfl, rfl⟩
            go_wp2_with fail
            refine (lex_capital _ _).mono ?_
            rintro e w' ⟨rfl, rfl⟩
            go_wp2_with fail
            refine (lex_digit _ _).mono ?_
            rintro e w' ⟨rfl, rfl⟩
            go_wp2_with fail
            refine (lex_number b s k (by omega) hm _ (HF.out.drewN _).sc (HF.out.drewN _).g).mono ?_
            rintro e w7 ⟨v, rfl, hE7, hB7⟩
            obtain ⟨⟨⟨kd, tx, nm, at_⟩, n, l⟩, hRR⟩ : ∃ r, r = numTok s k := ⟨_, rfl⟩
            rw [← hRR] at hE7 HQ
            rw [← hRR]
            have HE7 := Lib.hid hE7
            have hF7 := (HF.out.drewN _).step hB7
            have HF7 := Lib.hid hF7
            obtain ⟨_, ⟨y0, y1, y2, y3, z0, z1, z2, z3⟩, _, _, _, _, _⟩ := hF7
            clear hRR hE7 hB7 r0 r1 r2 r3 f0 f1 f2 f3 g1 g2
            simp only [tkV]
            go_wp2_with fail
            refine bodyPost_ret (res_tok rfl _ _ w.heap.size ⟨kd, tx, nm, at_⟩ (by rfl) (HF7.out.tk.put ⟨kd, tx, nm, at_⟩)) rfl ?_
            rw [HQ.out]
            exact HF7.out.done (⟨kd, tx, nm, at_⟩, n, l) v HE7.out
          | false =>
            have HR4 := Lib.hid (HR3.out.trans (if_neg (by rw [hdg]; simp)))
            by_cases h36 : c = 36
            · have d36 : (c == 36) = true := beq_iff_eq.2 h36
              have HQ := Lib.hid (HR4.out.trans (if_pos h36))
              clear h36
              go_enter Tryz.func76, Tryz.ntmps76
              go_wp2_with fail
              go_quiet (fail)
              go_wp2_with fail
              refine (lex_small _ _).mono ?_
              rintro e w' ⟨rfl, rfl⟩
              go_wp2_with fail
              refine (lex_capital _ _).mono ?_
              rintro e w' ⟨rfl, rfl⟩
              go_wp2_with fail
              refine (lex_digit _ _).mono ?_
              rintro e w' ⟨rfl, rfl⟩
              go_wp2_with fail
              refine (lex_char b s k (by omega) hm _ (HF.out.drewN _).sc (HF.out.drewN _).g).mono ?_
              rintro e w7 ⟨v, rfl, hE7, hB7⟩
              obtain ⟨⟨⟨kd, tx, nm, at_⟩, n, l⟩, hRR⟩ : ∃ r, r = charTok s k := ⟨_, rfl⟩
              rw [← hRR] at hE7 HQ
              rw [← hRR]
              have HE7 := Lib.hid hE7
              have hF7 := (HF.out.drewN _).step hB7
              have HF7 := Lib.hid hF7
              obtain ⟨_, ⟨y0, y1, y2, y3, z0, z1, z2, z3⟩, _, _, _, _, _⟩ := hF7
              clear hRR hE7 hB7 r0 r1 r2 r3 f0 f1 f2 f3 g1 g2
              simp only [tkV]
              go_wp2_with fail
              refine bodyPost_ret (res_tok rfl _ _ w.heap.size ⟨kd, tx, nm, at_⟩ (by rfl) (HF7.out.tk.put ⟨kd, tx, nm, at_⟩)) rfl ?_
              rw [HQ.out]
              exact HF7.out.done (⟨kd, tx, nm, at_⟩, n, l) v HE7.out
            · have d36 : (c == 36) = false := beq_eq_false_iff_ne.2 h36
              have HR5 := Lib.hid (HR4.out.trans (if_neg h36))
              clear h36
              have hq1 : IntKind.i64.wrap ((k : Int) + 1) = (k : Int) + 1 := wrap_small _ (by omega) (by omega)
              by_cases h46 : c = 46
              · have d46 : (c == 46) = true := beq_iff_eq.2 h46
                by_cases hend : k + 1 = s.size
                · have dend : ((k : Int) + 1 == (s.size : Int)) = true := beq_iff_eq.2 (by omega)
                  have HQ : Hid (R = (⟨6, ⟨#[]⟩, 0, 0⟩, k + 1, [])) := Lib.hid (HR5.out.trans (if_pos ⟨h46, .inl hend⟩))
                  clear h46 hend
                  go_enter Tryz.func76, Tryz.ntmps76
                  go_wp2_with fail
                  go_quiet (fail)
                  go_wp2_with fail
                  refine (lex_small _ _).mono ?_
                  rintro e w' ⟨rfl, rfl⟩
                  go_wp2_with fail
                  refine (lex_capital _ _).mono ?_
                  rintro e w' ⟨rfl, rfl⟩
                  go_wp2_with fail
                  refine (lex_digit _ _).mono ?_
                  rintro e w' ⟨rfl, rfl⟩
                  go_wp2_with fail
                  refine bodyPost_ret (res_tok rfl _ _ w.heap.size ⟨6, ⟨#[]⟩, 0, 0⟩ (by rfl) ((HF.out.drewN _).tk.put ⟨6, ⟨#[]⟩, 0, 0⟩)) rfl ?_
                  rw [HQ.out]
                  exact (HF.out.drewN _).done (⟨6, ⟨#[]⟩, 0, 0⟩, k + 1, []) .nilIface rfl
                · have hlt2 : k + 1 < s.size := by omega
                  have dend : ((k : Int) + 1 == (s.size : Int)) = false := beq_eq_false_iff_ne.2 (by omega)
                  have hb2 : ∀ h : k + 1 < s.size, ((s[k + 1]'h).toNat : Int) = bt s ((k + 1 : Nat) : Int) := btk s (k + 1)
                  have e2 : (0 : Int) ≤ (k : Int) + 1 := by omega
                  have e3 : (k : Int) + 1 < (s.size : Int) := by omega
                  obtain ⟨c2, hc2⟩ : ∃ c, c = bt s ((k + 1 : Nat) : Int) := ⟨_, rfl⟩
                  rw [← hc2] at hb2
                  have HC2 := Lib.hid hc2
                  clear hc2
                  have HBL := Lib.hid (lex_blank c2)
                  cases hbl : isBlank c2 with
                  | true =>
                    have HQ : Hid (R = (⟨6, ⟨#[]⟩, 0, 0⟩, k + 1, [])) := Lib.hid (HR5.out.trans (if_pos ⟨h46, .inr (.inl (by rw [← HC2.out]; exact hbl))⟩))
                    rw [hbl] at HBL
                    clear h46 hend
                    go_enter Tryz.func76, Tryz.ntmps76
                    go_wp2_with fail
                    go_quiet (fail)
                    go_wp2_with fail
                    refine (lex_small _ _).mono ?_
                    rintro e w' ⟨rfl, rfl⟩
                    go_wp2_with fail
                    refine (lex_capital _ _).mono ?_
                    rintro e w' ⟨rfl, rfl⟩
                    go_wp2_with fail
                    refine (lex_digit _ _).mono ?_
                    rintro e w' ⟨rfl, rfl⟩
                    go_wp2_with fail
                    refine (HBL.out _).mono ?_
                    rintro e w' ⟨rfl, rfl⟩
                    go_wp2_with fail
                    refine bodyPost_ret (res_tok rfl _ _ w.heap.size ⟨6, ⟨#[]⟩, 0, 0⟩ (by rfl) ((HF.out.drewN _).tk.put ⟨6, ⟨#[]⟩, 0, 0⟩)) rfl ?_
                    rw [HQ.out]
                    exact (HF.out.drewN _).done (⟨6, ⟨#[]⟩, 0, 0⟩, k + 1, []) .nilIface rfl
                  | false =>
                    rw [hbl] at HBL
                    by_cases h37 : c2 = 37
                    · have d37 : (c2 == 37) = true := beq_iff_eq.2 h37
                      have HQ : Hid (R = (⟨6, ⟨#[]⟩, 0, 0⟩, k + 1, [])) := Lib.hid (HR5.out.trans (if_pos ⟨h46, .inr (.inr (by rw [← HC2.out]; exact h37))⟩))
                      clear h46 hend h37
                      go_enter Tryz.func76, Tryz.ntmps76
                      go_wp2_with fail
                      go_quiet (fail)
                      go_wp2_with fail
                      refine (lex_small _ _).mono ?_
                      rintro e w' ⟨rfl, rfl⟩
                      go_wp2_with fail
                      refine (lex_capital _ _).mono ?_
                      rintro e w' ⟨rfl, rfl⟩
                      go_wp2_with fail
                      refine (lex_digit _ _).mono ?_
                      rintro e w' ⟨rfl, rfl⟩
                      go_wp2_with fail
                      refine (HBL.out _).mono ?_
                      rintro e w' ⟨rfl, rfl⟩
                      go_wp2_with fail
                      refine bodyPost_ret (res_tok rfl _ _ w.heap.size ⟨6, ⟨#[]⟩, 0, 0⟩ (by rfl) ((HF.out.drewN _).tk.put ⟨6, ⟨#[]⟩, 0, 0⟩)) rfl ?_
                      rw [HQ.out]
                      exact (HF.out.drewN _).done (⟨6, ⟨#[]⟩, 0, 0⟩, k + 1, []) .nilIface rfl
                    · have d37 : (c2 == 37) = false := beq_eq_false_iff_ne.2 h37
                      have HR6 : Hid (R = signTok s k) := Lib.hid (HR5.out.trans (if_neg (fun h => by
                        rcases h.2 with h | h | h
                        · exact hend h
                        · rw [← HC2.out, hbl] at h; exact absurd h (by decide)
                        · rw [← HC2.out] at h; exact h37 h)))
                      clear h46 hend h37
                      go_enter Tryz.func76, Tryz.ntmps76
                      go_wp2_with fail
                      go_quiet (fail)
                      go_wp2_with fail
                      refine (lex_small _ _).mono ?_
                      rintro e w' ⟨rfl, rfl⟩
                      go_wp2_with fail
                      refine (lex_capital _ _).mono ?_
                      rintro e w' ⟨rfl, rfl⟩
                      go_wp2_with fail
                      refine (lex_digit _ _).mono ?_
                      rintro e w' ⟨rfl, rfl⟩
                      go_wp2_with fail
                      refine (HBL.out _).mono ?_
                      rintro e w' ⟨rfl, rfl⟩
                      go_wp2_with fail
                      refine (lex_signs _).mono ?_
                      rintro e w5 ⟨rfl, hcell, hsb, hB5⟩
                      have HCELL := Lib.hid hcell
                      have hF5 := (HF.out.drewN _).step hB5
                      have HF5 := Lib.hid hF5
                      obtain ⟨⟨t1, t2, _⟩, _, _, _, _, _, _⟩ := hF5
                      clear hcell hB5 r0 r1 r2 r3 f0 f1 f2 f3 g1 g2 hb
                      obtain ⟨sb, hsbe⟩ : ∃ n, n = (W1.drewN nq).heap.size := ⟨_, rfl⟩
                      rw [← hsbe] at HCELL
                      rw [← hsbe]
                      clear hsb hsbe
                      go_wp2_with fail
                      go_loopg [93] 27 (fun gk vi wl => ∃ j m : Nat, vi = .int .i64 (j : Int) ∧ gk = 27 - j ∧ j ≤ 27 ∧ wl = w5.drewN m ∧ Hid ((signList.drop j).find? (fun p => Lib.hasPrefix (s.extract k s.size).data.toList p.data.toList) = signList.find? (fun p => Lib.hasPrefix (s.extract k s.size).data.toList p.data.toList)))
                      case atStart => exact ⟨0, 0, rfl, rfl, by omega, rfl, rfl⟩
                      case round =>
                        obtain ⟨j, m, rfl, hgk, hj, rfl, HFD⟩ := hrel
                        have HK := Lib.hid hgk
                        clear hgk
                        by_cases hlt : j < 27
                        · have hcj := HCELL.out j hlt
                          have hq := HFD.out
                          rw [List.drop_eq_getElem_cons (show j < signList.length from hlt), List.find?_cons] at hq
                          have hpe : signList.getD j ByteArray.empty = signList[j]'(show j < signList.length from hlt) := by
                            rw [List.getD_eq_getElem?_getD, List.getElem?_eq_getElem (show j < signList.length from hlt)]
                            rfl
                          rw [hpe] at hcj
                          have hp3 : (signList[j]'(show j < signList.length from hlt)).size ≤ 3 := sign_size _ (List.getElem_mem _)
                          obtain ⟨P, hP⟩ : ∃ P, P = signList[j]'(show j < signList.length from hlt) := ⟨_, rfl⟩
                          rw [← hP] at hcj hq hp3
                          clear hP hpe
                          have HP3 := Lib.hid hp3
                          have j0 : (0 : Int) ≤ (j : Int) := by omega
                          have j1 : (j : Int) < 27 := by omega
                          obtain ⟨T, hT⟩ : ∃ T, T = s.extract k s.size := ⟨_, rfl⟩
                          have hTx := hT.symm
                          rw [hTx] at hq HFD
                          clear hT hp3
                          have HHP := Lib.hid (Tryz.strings_HasPrefix T P)
                          cases hh : Lib.hasPrefix T.data.toList P.data.toList with
                          | true =>
                            rw [hh] at hq
                            simp only at hq
                            rw [hh] at HHP
                            have HQ : Hid (R = (⟨5, P, 0, 0⟩, k + P.size, [])) := Lib.hid (by rw [HR6.out]; unfold signTok; rw [hTx, ← hq])
                            have hps := sum2 hk hm HP3.out
                            obtain ⟨_, ⟨r0, r1, r2, r3, f0, f1, f2, f3⟩, _, _, _, _, _⟩ := HF5.out
                            simp only [zTk] at r0 r1 r2 r3
                            have HSa : Hid (∀ n, (w5.drewN n).drew.cell? ⟨b, 1, none⟩ = some (.int .i64 (k : Int))) := Lib.hid fun _ => t2
                            have HSb : Hid (∀ n, (w5.drewN n).cell? ⟨b, 1, none⟩ = some (.int .i64 (k : Int))) := Lib.hid fun _ => t2
                            have HSc : Hid (∀ m n, ((w5.drewN m).drewN n).drew.cell? ⟨b, 1, none⟩ = some (.int .i64 (k : Int))) := Lib.hid fun _ _ => t2
                            have HSd : Hid (∀ m n, ((w5.drewN m).drewN n).cell? ⟨b, 1, none⟩ = some (.int .i64 (k : Int))) := Lib.hid fun _ _ => t2
                            clear hq hh
                            go_wp2_with fail
                            go_quiet ((go_at_call 132; exact (HHP.out _).mono fun e w' h => ⟨h.1, _, h.2⟩))
                            go_wp2_with fail
                            go_region_held3 (fun w' => w'.cell? ⟨b, 1, none⟩ = some (.int .i64 (k : Int))) (first | with_reducible exact HSa.out _ | with_reducible exact HSb.out _ | with_reducible exact (put_far HF.out.ne _ _ _ _).trans (HSa.out _) | with_reducible exact (put_far HF.out.ne _ _ _ _).trans (HSb.out _) | with_reducible exact (put_far_drew HF.out.ne _ _ _ _).trans (HSa.out _) | with_reducible exact HSc.out _ _ | with_reducible exact HSd.out _ _ | with_reducible exact (put_far HF.out.ne _ _ _ _).trans (HSc.out _ _) | with_reducible exact (put_far HF.out.ne _ _ _ _).trans (HSd.out _ _) | with_reducible exact (put_far_drew HF.out.ne _ _ _ _).trans (HSc.out _ _) | with_reducible exact (put_far_drew HF.out.ne _ _ _ _).trans (HSd.out _ _)) (fail)
                            go_wp2_with fail
                            refine bodyPost_ret (res_tok rfl _ _ w.heap.size ⟨5, P, 0, 0⟩ (by rfl) ((HF5.out.drewN _).tk.put ⟨5, P, 0, 0⟩)) rfl ?_
                            rw [HQ.out]
                            exact (HF5.out.drewN _).done (⟨5, P, 0, 0⟩, k + P.size, []) .nilIface rfl
                          | false =>
                            rw [hh] at hq
                            simp only at hq
                            rw [hh] at HHP
                            have HN : Hid ((signList.drop (j + 1)).find? (fun p => Lib.hasPrefix T.data.toList p.data.toList) = signList.find? (fun p => Lib.hasPrefix T.data.toList p.data.toList)) := Lib.hid hq
                            clear hq hh
                            go_wp2_with fail
                            go_quiet ((go_at_call 132; exact (HHP.out _).mono fun e w' h => ⟨h.1, _, h.2⟩))
                            go_wp2_with fail
                            go_roundg (27 - (j + 1))
                            case measure => rw [HK.out]; omega
                            case rel => exact ⟨j + 1, _, by go_num, rfl, by omega, rfl, by rw [hTx]; exact HN⟩
                        · have HQ : Hid (R = noTok [⟨nLex, k, 200⟩]) := Lib.hid (by
                            have hq := HFD.out
                            rw [List.drop_eq_nil_of_le (show signList.length ≤ j by show 27 ≤ j; omega)] at hq
                            rw [HR6.out]
                            unfold signTok
                            rw [← hq]
                            rfl)
                          have hj27 : j = 27 := by omega
                          subst hj27
                          go_wp2_with fail
                          refine (lex_fault _ _ _ _ [] rfl).mono ?_
                          rintro e w2 ⟨v, rfl, hE, hB⟩
                          have HE := Lib.hid hE
                          have hF2 := (HF5.out.drewN _).step hB
                          have HF2 := Lib.hid hF2
                          obtain ⟨_, ⟨y0, y1, y2, y3, z0, z1, z2, z3⟩, _, _, _, _, _⟩ := hF2
                          clear hE hB
                          go_wp2_with fail
                          refine bodyPost_ret (res_tok rfl _ _ w.heap.size zTk (by rfl) (HF2.out.tk.put zTk)) rfl ?_
                          rw [HQ.out]
                          exact HF2.out.done (noTok [⟨nLex, k, 200⟩]) v HE.out
              · have d46 : (c == 46) = false := beq_eq_false_iff_ne.2 h46
                have HR6 := Lib.hid (HR5.out.trans (if_neg (fun h => h46 h.1)))
                clear h46
                go_enter Tryz.func76, Tryz.ntmps76
                go_wp2_with fail
                go_quiet (fail)
                go_wp2_with fail
                refine (lex_small _ _).mono ?_
                rintro e w' ⟨rfl, rfl⟩
                go_wp2_with fail
                refine (lex_capital _ _).mono ?_
                rintro e w' ⟨rfl, rfl⟩
                go_wp2_with fail
                refine (lex_digit _ _).mono ?_
                rintro e w' ⟨rfl, rfl⟩
                go_wp2_with fail
                refine (lex_signs _).mono ?_
                rintro e w5 ⟨rfl, hcell, hsb, hB5⟩
                have HCELL := Lib.hid hcell
                have hF5 := (HF.out.drewN _).step hB5
                have HF5 := Lib.hid hF5
                obtain ⟨⟨t1, t2, _⟩, _, _, _, _, _, _⟩ := hF5
                clear hcell hB5 r0 r1 r2 r3 f0 f1 f2 f3 g1 g2 hb
                obtain ⟨sb, hsbe⟩ : ∃ n, n = (W1.drewN nq).heap.size := ⟨_, rfl⟩
                rw [← hsbe] at HCELL
                rw [← hsbe]
                clear hsb hsbe
                go_wp2_with fail
                go_loopg [93] 27 (fun gk vi wl => ∃ j m : Nat, vi = .int .i64 (j : Int) ∧ gk = 27 - j ∧ j ≤ 27 ∧ wl = w5.drewN m ∧ Hid ((signList.drop j).find? (fun p => Lib.hasPrefix (s.extract k s.size).data.toList p.data.toList) = signList.find? (fun p => Lib.hasPrefix (s.extract k s.size).data.toList p.data.toList)))
                case atStart => exact ⟨0, 0, rfl, rfl, by omega, rfl, rfl⟩
                case round =>
                  obtain ⟨j, m, rfl, hgk, hj, rfl, HFD⟩ := hrel
                  have HK := Lib.hid hgk
                  clear hgk
                  by_cases hlt : j < 27
                  · have hcj := HCELL.out j hlt
                    have hq := HFD.out
                    rw [List.drop_eq_getElem_cons (show j < signList.length from hlt), List.find?_cons] at hq
                    have hpe : signList.getD j ByteArray.empty = signList[j]'(show j < signList.length from hlt) := by
                      rw [List.getD_eq_getElem?_getD, List.getElem?_eq_getElem (show j < signList.length from hlt)]
                      rfl
                    rw [hpe] at hcj
                    have hp3 : (signList[j]'(show j < signList.length from hlt)).size ≤ 3 := sign_size _ (List.getElem_mem _)
                    obtain ⟨P, hP⟩ : ∃ P, P = signList[j]'(show j < signList.length from hlt) := ⟨_, rfl⟩
                    rw [← hP] at hcj hq hp3
                    clear hP hpe
                    have HP3 := Lib.hid hp3
                    have j0 : (0 : Int) ≤ (j : Int) := by omega
                    have j1 : (j : Int) < 27 := by omega
                    obtain ⟨T, hT⟩ : ∃ T, T = s.extract k s.size := ⟨_, rfl⟩
                    have hTx := hT.symm
                    rw [hTx] at hq HFD
                    clear hT hp3
                    have HHP := Lib.hid (Tryz.strings_HasPrefix T P)
                    cases hh : Lib.hasPrefix T.data.toList P.data.toList with
                    | true =>
                      rw [hh] at hq
                      simp only at hq
                      rw [hh] at HHP
                      have HQ : Hid (R = (⟨5, P, 0, 0⟩, k + P.size, [])) := Lib.hid (by rw [HR6.out]; unfold signTok; rw [hTx, ← hq])
                      have hps := sum2 hk hm HP3.out
                      obtain ⟨_, ⟨r0, r1, r2, r3, f0, f1, f2, f3⟩, _, _, _, _, _⟩ := HF5.out
                      simp only [zTk] at r0 r1 r2 r3
                      have HSa : Hid (∀ n, (w5.drewN n).drew.cell? ⟨b, 1, none⟩ = some (.int .i64 (k : Int))) := Lib.hid fun _ => t2
                      have HSb : Hid (∀ n, (w5.drewN n).cell? ⟨b, 1, none⟩ = some (.int .i64 (k : Int))) := Lib.hid fun _ => t2
                      have HSc : Hid (∀ m n, ((w5.drewN m).drewN n).drew.cell? ⟨b, 1, none⟩ = some (.int .i64 (k : Int))) := Lib.hid fun _ _ => t2
                      have HSd : Hid (∀ m n, ((w5.drewN m).drewN n).cell? ⟨b, 1, none⟩ = some (.int .i64 (k : Int))) := Lib.hid fun _ _ => t2
                      clear hq hh
                      go_wp2_with fail
                      go_quiet ((go_at_call 132; exact (HHP.out _).mono fun e w' h => ⟨h.1, _, h.2⟩))
                      go_wp2_with fail
                      go_region_held3 (fun w' => w'.cell? ⟨b, 1, none⟩ = some (.int .i64 (k : Int))) (first | with_reducible exact HSa.out _ | with_reducible exact HSb.out _ | with_reducible exact (put_far HF.out.ne _ _ _ _).trans (HSa.out _) | with_reducible exact (put_far HF.out.ne _ _ _ _).trans (HSb.out _) | with_reducible exact (put_far_drew HF.out.ne _ _ _ _).trans (HSa.out _) | with_reducible exact HSc.out _ _ | with_reducible exact HSd.out _ _ | with_reducible exact (put_far HF.out.ne _ _ _ _).trans (HSc.out _ _) | with_reducible exact (put_far HF.out.ne _ _ _ _).trans (HSd.out _ _) | with_reducible exact (put_far_drew HF.out.ne _ _ _ _).trans (HSc.out _ _) | with_reducible exact (put_far_drew HF.out.ne _ _ _ _).trans (HSd.out _ _)) (fail)
                      go_wp2_with fail
                      refine bodyPost_ret (res_tok rfl _ _ w.heap.size ⟨5, P, 0, 0⟩ (by rfl) ((HF5.out.drewN _).tk.put ⟨5, P, 0, 0⟩)) rfl ?_
                      rw [HQ.out]
                      exact (HF5.out.drewN _).done (⟨5, P, 0, 0⟩, k + P.size, []) .nilIface rfl
                    | false =>
                      rw [hh] at hq
                      simp only at hq
                      rw [hh] at HHP
                      have HN : Hid ((signList.drop (j + 1)).find? (fun p => Lib.hasPrefix T.data.toList p.data.toList) = signList.find? (fun p => Lib.hasPrefix T.data.toList p.data.toList)) := Lib.hid hq
                      clear hq hh
                      go_wp2_with fail
                      go_quiet ((go_at_call 132; exact (HHP.out _).mono fun e w' h => ⟨h.1, _, h.2⟩))
                      go_wp2_with fail
                      go_roundg (27 - (j + 1))
                      case measure => rw [HK.out]; omega
                      case rel => exact ⟨j + 1, _, by go_num, rfl, by omega, rfl, by rw [hTx]; exact HN⟩
                  · have HQ : Hid (R = noTok [⟨nLex, k, 200⟩]) := Lib.hid (by
                      have hq := HFD.out
                      rw [List.drop_eq_nil_of_le (show signList.length ≤ j by show 27 ≤ j; omega)] at hq
                      rw [HR6.out]
                      unfold signTok
                      rw [← hq]
                      rfl)
                    have hj27 : j = 27 := by omega
                    subst hj27
                    go_wp2_with fail
                    refine (lex_fault _ _ _ _ [] rfl).mono ?_
                    rintro e w2 ⟨v, rfl, hE, hB⟩
                    have HE := Lib.hid hE
                    have hF2 := (HF5.out.drewN _).step hB
                    have HF2 := Lib.hid hF2
                    obtain ⟨_, ⟨y0, y1, y2, y3, z0, z1, z2, z3⟩, _, _, _, _, _⟩ := hF2
                    clear hE hB
                    go_wp2_with fail
                    refine bodyPost_ret (res_tok rfl _ _ w.heap.size zTk (by rfl) (HF2.out.tk.put zTk)) rfl ?_
                    rw [HQ.out]
                    exact HF2.out.done (noTok [⟨nLex, k, 200⟩]) v HE.out
end Go.Proofs.YtgapeacflkfmdaaGreatDoor
namespace Go.Proofs.YtgapeacflkfmdaaGreatDoor
open Go.RowKit Go.Proofs.YtgapeacflkfmdaaGreatDoorW.PrintWords

theorem qLoop_range (s : ByteArray) (f i : Nat) (acc : List Int) (h : (qLoop s f i acc).2.2 = []) : i < (qLoop s f i acc).2.1 ∧ (qLoop s f i acc).2.1 ≤ s.size := by
  induction i, acc using qLoop.induct (s := s) with
  | case1 i acc h0 h1 h2 => rw [qLoop, dif_pos h0, if_pos h1, if_pos h2] at h; simp [noGot] at h
  | case2 i acc h0 h1 h2 h3 => rw [qLoop, dif_pos h0, if_pos h1, if_neg h2, if_pos h3] at h; simp [noGot] at h
  | case3 i acc h0 h1 h2 h3 => rw [qLoop, dif_pos h0, if_pos h1, if_neg h2, if_neg h3]; simp; omega
  | case4 i acc h0 h1 h2 => rw [qLoop, dif_pos h0, if_neg h1, if_pos h2] at h; simp [noGot] at h
  | case5 i acc h0 h1 h2 h3 h4 => rw [qLoop, dif_pos h0, if_neg h1, if_neg h2, if_pos h3, if_pos h4] at h; simp [noGot] at h
  | case6 i acc h0 h1 h2 h3 h4 h5 => rw [qLoop, dif_pos h0, if_neg h1, if_neg h2, if_pos h3, if_neg h4, if_pos h5] at h; simp [noGot] at h
  | case7 i acc h0 h1 h2 h3 h4 h5 ih =>
    rw [qLoop, dif_pos h0, if_neg h1, if_neg h2, if_pos h3, if_neg h4, if_neg h5] at h ⊢
    have := ih h
    omega
  | case8 i acc h0 h1 h2 h3 ih =>
    rw [qLoop, dif_pos h0, if_neg h1, if_neg h2, if_neg h3] at h ⊢
    have := ih h
    omega
  | case9 i acc h0 => rw [qLoop, dif_neg h0] at h; simp [noGot] at h

theorem run_gt {p : Int → Bool} {s : ByteArray} {k : Nat} (hk : k < s.size) (hp : p (bt s (k : Int)) = true) : k < runEnd p s k := by
  rw [← runEnd_yes hk hp]
  have := runEnd_ge p s (k + 1)
  omega
theorem small_in {c : Int} (h : isSmall c = true) : isIn c = true := by unfold isIn; simp [h]
theorem aScan_range (s : ByteArray) (k : Nat) (hk : k < s.size) (h : (aScan s k).2.2 = []) : k < (aScan s k).2.1 ∧ (aScan s k).2.1 ≤ s.size := by
  unfold aScan at h ⊢
  split at h
  · rename_i h1
    rw [if_pos h1]
    have := qLoop_range s k (k + 1) [] h
    omega
  · rename_i h1
    rw [if_neg h1]
    split at h
    · simp [noGot] at h
    · rename_i h2
      rw [if_neg h2]
      have hs : isSmall (bt s (k : Int)) = true := by
        cases hx : isSmall (bt s (k : Int)) with
        | true => rfl
        | false => exact absurd (Or.inr hx) h2
      split at h
      · simp [noGot] at h
      · rename_i h3
        rw [if_neg h3]
        split at h
        · simp [noGot] at h
        · rename_i h4
          rw [if_neg h4]
          exact ⟨run_gt hk (small_in hs), runEnd_le isIn s k (by omega)⟩
theorem atomTok_range (s : ByteArray) (k : Nat) (hk : k < s.size) (h : (atomTok s k).2.2 = []) : k < (atomTok s k).2.1 ∧ (atomTok s k).2.1 ≤ s.size := by
  unfold atomTok at h ⊢
  cases hl : (aScan s k).2.2 with
  | nil => exact aScan_range s k hk hl
  | cons x r => rw [hl] at h; simp [noTok] at h
theorem wordTok_range (s : ByteArray) (k : Nat) (hk : k < s.size) (hin : isIn (bt s (k : Int)) = true) (h : (wordTok s k).2.2 = []) : k < (wordTok s k).2.1 ∧ (wordTok s k).2.1 ≤ s.size := by
  have h1 := run_gt hk hin
  have h2 := runEnd_le isIn s k (by omega)
  unfold wordTok at h ⊢
  split at h
  · rename_i g; rw [if_pos g]; exact ⟨h1, h2⟩
  · rename_i g
    rw [if_neg g]
    split at h
    · rename_i g; rw [if_pos g]; exact atomTok_range s k hk h
    · rename_i g
      rw [if_neg g]
      split at h
      · simp [noTok] at h
      · rename_i g; rw [if_neg g]; exact ⟨h1, h2⟩
theorem numEnd_range {k e : Nat} {r : Option Int} (h : (numEnd k e r).2.2 = []) : (numEnd k e r).2.1 = e := by
  cases r with
  | none => simp [numEnd, noTok] at h
  | some v => rfl
theorem numTok_range (s : ByteArray) (k : Nat) (hk : k < s.size) (hd : isDigit (bt s (k : Int)) = true) (h : (numTok s k).2.2 = []) : k < (numTok s k).2.1 ∧ (numTok s k).2.1 ≤ s.size := by
  have h1 := run_gt hk hd
  have h2 := runEnd_le isDigit s k (by omega)
  unfold numTok at h ⊢
  split at h
  · rename_i g
    rw [if_pos g]
    cases hb : baseOf (s.extract k (runEnd isDigit s k)) with
    | none => rw [hb] at h; simp [noTok] at h
    | some n =>
      rw [hb] at h
      simp only at h ⊢
      rw [numEnd_range h]
      have h3 := runEnd_ge isAlnum s (runEnd isDigit s k + 1)
      have h4 := runEnd_le isAlnum s (runEnd isDigit s k + 1) (by omega)
      omega
  · rename_i g
    rw [if_neg g, numEnd_range h]
    exact ⟨h1, h2⟩
theorem escC_le (l : List Int) : (escC l).2 ≤ l.length := by
  cases l with
  | nil => exact Nat.le_refl _
  | cons c r =>
    simp only [escC, List.length_cons]
    repeat' split
    all_goals simp
    all_goals omega
theorem escTok_range (s : ByteArray) (k : Nat) (hk : k + 2 ≤ s.size) (h : (escTok s k).2.2 = []) : k < (escTok s k).2.1 ∧ (escTok s k).2.1 ≤ s.size := by
  have h1 := escC_le ((bs s).drop (k + 2))
  rw [List.length_drop, bs_len] at h1
  unfold escTok at h ⊢
  split at h
  · simp [noTok] at h
  · rename_i g
    rw [if_neg g]
    simp only
    omega
theorem dec_in (s : ByteArray) (i : Nat) (hi : i < s.size) : i + (Utf8.decode s i).2 ≤ s.size :=
  decode_cases (fun d => i + d.2 ≤ s.size) s i (by simp only; omega) (fun _ => by simp only; omega) (fun _ h _ _ => by simp only; omega) (fun _ h _ _ _ _ => by simp only; omega) (fun _ h _ _ => by simp only; omega)
theorem charTok_range (s : ByteArray) (k : Nat) (h : (charTok s k).2.2 = []) : k < (charTok s k).2.1 ∧ (charTok s k).2.1 ≤ s.size := by
  unfold charTok at h ⊢
  split at h
  · simp [noTok] at h
  · rename_i g0
    rw [if_neg g0]
    split at h
    · simp [noTok] at h
    · rename_i g1
      rw [if_neg g1]
      split at h
      · rename_i g2
        rw [if_pos g2]
        exact escTok_range s k (by omega) h
      · rename_i g2
        rw [if_neg g2]
        split at h
        · simp [noTok] at h
        · rename_i g3
          rw [if_neg g3]
          have := dec_in s (k + 1) (by omega)
          simp only
          omega
theorem sign_pos : ∀ p ∈ signList, 1 ≤ p.size := by decide
theorem signTok_range (s : ByteArray) (k : Nat) (hk : k < s.size) (h : (signTok s k).2.2 = []) : k < (signTok s k).2.1 ∧ (signTok s k).2.1 ≤ s.size := by
  unfold signTok at h ⊢
  cases hf : signList.find? (fun p => Lib.hasPrefix (s.extract k s.size).data.toList p.data.toList) with
  | none => rw [hf] at h; simp [noTok] at h
  | some p =>
    have h1 := List.mem_of_find?_eq_some hf
    have h2 := List.find?_some hf
    have h3 := sign_pos p h1
    simp only [Lib.hasPrefix] at h2
    have h4 := (List.isPrefixOf_iff_prefix.1 h2).length_le
    have h5 := Lib.size_eq p
    have h6 := Lib.size_eq (s.extract k s.size)
    have h7 : (s.extract k s.size).size = s.size - k := by simp
    simp only
    omega
/-- A token ends behind the place where it begins, inside the text. -/
theorem tok_range (s : ByteArray) (k : Nat) (hk : k < s.size) (h : (tokenAt s k).2.2 = []) : k < (tokenAt s k).2.1 ∧ (tokenAt s k).2.1 ≤ s.size := by
  unfold tokenAt at h ⊢
  split at h
  · rename_i g
    rw [if_pos g]
    refine wordTok_range s k hk ?_ h
    unfold isIn
    simp only [Bool.or_eq_true] at g ⊢
    rcases g with (g | g) | g <;> simp [g]
  · rename_i g
    rw [if_neg g]
    split at h
    · rename_i g; rw [if_pos g]; exact atomTok_range s k hk h
    · rename_i g
      rw [if_neg g]
      split at h
      · rename_i g; rw [if_pos g]; exact numTok_range s k hk g h
      · rename_i g
        rw [if_neg g]
        split at h
        · rename_i g; rw [if_pos g]; exact charTok_range s k h
        · rename_i g
          rw [if_neg g]
          split at h
          · rename_i g; rw [if_pos g]; simp only; omega
          · rename_i g; rw [if_neg g]; exact signTok_range s k hk h
end Go.Proofs.YtgapeacflkfmdaaGreatDoor
