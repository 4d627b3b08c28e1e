/-
  strings.ContainsAny of two bytes, whatever they are, at the signs of a number. strings.IndexRune of a rune that is no ASCII at the signs of a number. strings.ContainsAny of a short text at the signs of a number: where it says yes there is no number. lex: a character behind a dollar and a backslash.
-/
import Derived.Test.YtgapeacflkfmdaaGreatDoorG6
import Derived.Laws.Runes
import Derived.WalkMore
namespace Go.Proofs.YtgapeacflkfmdaaGreatDoor
open Go.RowKit Go.Proofs.YtgapeacflkfmdaaGreatDoorW.PrintWords

def sgT : ByteArray := ⟨#[43, 45, 95]⟩
theorem decode_valid (s : ByteArray) (i : Nat) : Utf8.valid ((Utf8.decode s i).1 : Int) = true := by
  have h1 : ∀ n : Nat, n < 2048 → Utf8.valid (n : Int) = true := fun n hn => by simp only [Utf8.valid, Bool.or_eq_true, Bool.and_eq_true, decide_eq_true_eq]; omega
  have h2 : Utf8.valid ((Utf8.runeError : Nat) : Int) = true := by decide
  have key : ∀ (p : Prop) [Decidable p] (a b : Nat × Nat), (p → Utf8.valid ((a.1 : Nat) : Int) = true) → Utf8.valid ((b.1 : Nat) : Int) = true → Utf8.valid (((if p then a else b).1 : Nat) : Int) = true := fun p _ a b ha hb => by
    split
    · exact ha (by assumption)
    · exact hb
  unfold Utf8.decode
  refine key _ _ _ (fun h => h1 _ (Nat.lt_trans h (by decide))) (key _ _ _ (fun _ => key _ _ _ (fun _ => h1 _ ?_) h2) (key _ _ _ (fun _ => key _ _ _ (fun h => ?_) h2) (key _ _ _ (fun _ => key _ _ _ (fun h => ?_) h2) h2)))
  · show (s.get! (i + 0)).toNat % 32 * 64 + (s.get! (i + 1)).toNat % 64 < 2048
    omega
  · rw [Bool.and_eq_true] at h; exact h.2
  · rw [Bool.and_eq_true] at h; exact h.2
theorem sgT_plain : ∀ pos : Fin 3, ((Utf8.decode sgT pos.val).1 == 65533) = false ∧ (Utf8.decode sgT pos.val).2 = 1 := by decide +kernel

set_option maxRecDepth 100000 in
set_option maxHeartbeats 1000000 in
theorem rune_err (r : Int) (hr : r = 65533) (w : World) :
    Calls Tryz.prog 225 #[.string sgT, .int .i32 r] w (IntPost w (-1)) := by
  have c0 : decide (0 ≤ r) = true := decide_eq_true (by omega)
  have c1 : decide (r < 128) = false := decide_eq_false (by omega)
  have c2 : (r == 65533) = true := beq_iff_eq.2 hr
  clear hr
  obtain ⟨S, hS⟩ : ∃ S, S = sgT := ⟨_, rfl⟩
  have hsz : S.size = 3 := by rw [hS]; rfl
  have HP : Hid (∀ pos, pos < 3 → ((((Utf8.decode S pos).1 : Int) == 65533) = false) ∧ (Utf8.decode S pos).2 = 1) := Lib.hid fun pos h => by
    have this : ((Utf8.decode sgT pos).1 == 65533) = false ∧ (Utf8.decode sgT pos).2 = 1 := sgT_plain ⟨pos, h⟩
    rw [hS]
    refine ⟨?_, this.2⟩
    have h1 := this.1
    rw [beq_eq_false_iff_ne] at h1 ⊢
    intro e
    apply h1
    omega
  rw [← hS]
  clear hS
  go_enter Tryz.func225, Tryz.ntmps225
  go_wp2_with fail
  go_loopg [] S.size (fun gk wl => ∃ pos : Nat, pos ≤ 3 ∧ gk = S.size - pos ∧ wl.heap[w.heap.size]? = some (.stringIter S pos) ∧ Hid (Below w.heap.size w wl))
  case atStart => exact ⟨0, by omega, rfl, heap_alloc_new w _, below_alloc (Below.refl _ _) _⟩
  case round =>
    obtain ⟨pos, hp3, hgk, hit, HB⟩ := hrel
    have HK := Lib.hid hgk
    clear hgk
    by_cases hlt : pos < S.size
    · have hnx := fun ty => Lib.run_next_any_at (P := Tryz.prog) wr w.heap.size S pos ty hit hlt
      have HB2 : Hid (Below w.heap.size w (wr.iterAt w.heap.size S (pos + (Utf8.decode S pos).2))) := Lib.hid (Lib.below_iterAt HB.out (Nat.le_refl _) _ _)
      have HI2 : Hid ((wr.iterAt w.heap.size S (pos + (Utf8.decode S pos).2)).heap[w.heap.size]? = some (.stringIter S (pos + (Utf8.decode S pos).2))) := Lib.hid (Lib.iterAt_heap wr _ S pos _ hit)
      clear hit
      have hcb := (HP.out pos (by omega)).1
      have HD := Lib.hid (HP.out pos (by omega)).2
      go_wp2_with fail
      go_roundg (S.size - (pos + 1))
      case measure => rw [HK.out]; omega
      case rel => exact ⟨pos + 1, by omega, rfl, by have := HI2.out; rw [HD.out] at this ⊢; exact this, HB2⟩
    · have hnx := fun ty => Lib.run_next_end_at (P := Tryz.prog) wr w.heap.size S pos ty hit hlt
      clear hit
      go_wp2_with fail
      go_ret
      exact ⟨rfl, HB.out⟩

end Go.Proofs.YtgapeacflkfmdaaGreatDoor
namespace Go.Proofs.YtgapeacflkfmdaaGreatDoor
open Go.RowKit Go.Proofs.YtgapeacflkfmdaaGreatDoorW.PrintWords

theorem sg_none (c : UInt8) (hc : 128 ≤ c.toNat) : ∀ l : List UInt8, (∀ b ∈ l, b.toNat < 128) → Lib.indexByte l c = -1
  | [], _ => rfl
  | b :: l, hl => by
    unfold Lib.indexByte
    have h1 : (b == c) = false := by
      rw [beq_eq_false_iff_ne]
      intro e
      have := hl b (by simp)
      rw [e] at this
      omega
    rw [h1, sg_none c hc l (fun b hb => hl b (by simp [hb]))]
    rfl
theorem index_empty (c : Int) (w : World) : Calls Tryz.prog 203 #[.string ByteArray.empty, .int .u8 c] w fun e w' => e = .returned (.int .i64 (-1)) ∧ w' = w := by
  refine (Tryz.strings_IndexByte _ _ _).mono ?_
  rintro e w' ⟨rfl, rfl⟩
  exact ⟨rfl, rfl⟩
theorem sg_small : ∀ b ∈ sgT.data.toList, b.toNat < 128 := by decide

set_option maxRecDepth 100000 in
set_option maxHeartbeats 1000000 in
theorem rune_far (r : Int) (hr : 128 ≤ r) (hne : r ≠ 65533) (hv : Utf8.valid r = true) (w : World) :
    Calls Tryz.prog 225 #[.string sgT, .int .i32 r] w (IntPost w (-1)) := by
  obtain ⟨h2, h4, hl⟩ := encode_facts r hv hr
  have c0 : decide (0 ≤ r) = true := decide_eq_true (by omega)
  have c1 : decide (r < 128) = false := decide_eq_false (by omega)
  have c2 : (r == 65533) = false := beq_eq_false_iff_ne.2 hne
  have hv2 : Lib.validRune r = true := by rw [validRune_eq] at hv; exact hv
  obtain ⟨X, hX⟩ : ∃ X, X = Utf8.encode r := ⟨_, rfl⟩
  rw [← hX] at h2 h4 hl
  have hXe := hX.symm
  clear hX hr hne hv
  have hsz : sgT.size = 3 := rfl
  have b1 : ∀ h : 1 < sgT.size, ((sgT[1]'h).toNat : Int) = 45 := fun _ => rfl
  have b2 : ∀ h : 2 < sgT.size, ((sgT[2]'h).toNat : Int) = 95 := fun _ => rfl
  have HI : Hid (∀ (a e : Nat) (c : Int), 128 ≤ c → c ≤ 255 → ∀ w : World, Calls Tryz.prog 203 #[.string (sgT.extract a e), .int .u8 c] w fun e w' => e = .returned (.int .i64 (-1)) ∧ w' = w) := Lib.hid fun a e c h0 h1 w => by
    refine (Tryz.strings_IndexByte _ _ _).mono ?_
    rintro e w' ⟨rfl, rfl⟩
    refine ⟨?_, rfl⟩
    rw [sg_none _ ?_ _ (fun b hb => sg_small b (mem_extract hb))]
    simp only [Nat.toUInt8, UInt8.toNat_ofNat']
    omega
  obtain ⟨S, hS⟩ : ∃ S, S = sgT := ⟨_, rfl⟩
  rw [← hS] at hsz b1 b2 HI
  rw [← hS]
  clear hS
  have hlast : ∃ c : Int, 128 ≤ c ∧ c ≤ 255 ∧ ∀ h : X.size - 1 < X.size, ((X[X.size - 1]'h).toNat : Int) = c := by
    have h := hl (by omega)
    have h5 := (X[X.size - 1]'(by omega)).toNat_lt
    exact ⟨((X[X.size - 1]'(by omega)).toNat : Int), by omega, by omega, fun _ => rfl⟩
  obtain ⟨c, hc0, hc1, hc⟩ := hlast
  clear hl
  have hcases : X.size = 2 ∨ X.size = 3 ∨ X.size = 4 := by omega
  clear h2 h4
  rcases hcases with hx | hx | hx
  · have hc' : ∀ h : 1 < X.size, ((X[1]'h).toNat : Int) = c := fun h => by simpa [hx] using hc (by omega)
    have hcne : ((45 : Int) == c) = false := beq_eq_false_iff_ne.2 (by omega)
    clear hc
    go_enter Tryz.func225, Tryz.ntmps225
    go_wp2_with fail
    refine (Tryz.utf8_ValidRune r _).mono ?_
    rintro e w' ⟨rfl, rfl⟩
    go_wp2_with fail
    go_step3
    go_wp2_with fail
    go_loopg [9, 10] 1 (fun gk vi vf wl => gk = 1 ∧ vi = .int .i64 1 ∧ vf = .int .i64 0 ∧ wl = w')
    case atStart => exact ⟨rfl, rfl, rfl, rfl⟩
    case round =>
      obtain ⟨_, rfl, rfl, rfl⟩ := hrel
      go_wp2_with fail
      go_step3
      go_wp2_with fail
      go_quiet (fail)
      go_wp2_with fail
      have q1 : (2 : Int) ≤ (S.size : Int) := by omega
      have q2 : IntKind.i64.wrap 2 = 2 := by rw [IntKind.wrap_i64]; decide
      go_quiet ((go_at_call 203; exact (HI.out _ _ c hc0 hc1 _).mono fun e w' h => ⟨h.1, _, h.2⟩))
      go_wp2_with fail
      simp only [Exit.noGoto_ret, Exit.inBlock, Exit.then]
      go_ret
      exact ⟨rfl, below_drewN _ _ _⟩
  · have hc' : ∀ h : 2 < X.size, ((X[2]'h).toNat : Int) = c := fun h => by simpa [hx] using hc (by omega)
    have hcne : ((95 : Int) == c) = false := beq_eq_false_iff_ne.2 (by omega)
    clear hc
    go_enter Tryz.func225, Tryz.ntmps225
    go_wp2_with fail
    refine (Tryz.utf8_ValidRune r _).mono ?_
    rintro e w' ⟨rfl, rfl⟩
    go_wp2_with fail
    go_step3
    go_wp2_with fail
    go_loopg [9, 10] 1 (fun gk vi vf wl => gk = 1 ∧ vi = .int .i64 2 ∧ vf = .int .i64 0 ∧ wl = w')
    case atStart => exact ⟨rfl, rfl, rfl, rfl⟩
    case round =>
      obtain ⟨_, rfl, rfl, rfl⟩ := hrel
      go_wp2_with fail
      go_step3
      go_wp2_with fail
      go_quiet (fail)
      go_wp2_with fail
      have q1 : (3 : Int) ≤ (S.size : Int) := by omega
      have q2 : IntKind.i64.wrap 3 = 3 := by rw [IntKind.wrap_i64]; decide
      go_quiet ((go_at_call 203; exact (index_empty c _).mono fun e w' h => ⟨h.1, _, h.2⟩))
      go_wp2_with fail
      simp only [Exit.noGoto_ret, Exit.inBlock, Exit.then]
      go_ret
      exact ⟨rfl, below_drewN _ _ _⟩
  · clear hc
    go_enter Tryz.func225, Tryz.ntmps225
    go_wp2_with fail
    refine (Tryz.utf8_ValidRune r _).mono ?_
    rintro e w' ⟨rfl, rfl⟩
    go_wp2_with fail
    go_step3
    go_wp2_with fail
    go_loopg [9, 10] 1 (fun gk vi vf wl => gk = 1 ∧ vi = .int .i64 3 ∧ vf = .int .i64 0 ∧ wl = w')
    case atStart => exact ⟨rfl, rfl, rfl, rfl⟩
    case round =>
      obtain ⟨_, rfl, rfl, rfl⟩ := hrel
      go_wp2_with fail
      simp only [Exit.noGoto_ret, Exit.inBlock]
      go_ret
      exact ⟨rfl, Below.refl _ _⟩
end Go.Proofs.YtgapeacflkfmdaaGreatDoor
namespace Go.Proofs.YtgapeacflkfmdaaGreatDoor
open Go.RowKit Go.Proofs.YtgapeacflkfmdaaGreatDoorW.PrintWords

theorem get_bt2 (s : ByteArray) (k : Nat) (h : k < s.size) : ((s.get! k).toNat : Int) = bt s (k : Int) := by
  rw [← btk s k h]
  have := get_at s k h
  simp at this
  rw [this]
theorem decode_low (s : ByteArray) (k : Nat) (h : (Utf8.decode s k).1 < 128) : (Utf8.decode s k).1 = (s.get! k).toNat := by
  have key : ∀ (p : Prop) [Decidable p] (a b : Nat × Nat) (n : Nat), (p → (a.1 < 128 → a.1 = n)) → (¬ p → (b.1 < 128 → b.1 = n)) → ((if p then a else b).1 < 128 → (if p then a else b).1 = n) := fun p _ a b n ha hb h => by
    split at h
    · rw [if_pos (by assumption)]; exact ha (by assumption) h
    · rw [if_neg (by assumption)]; exact hb (by assumption) h
  revert h
  unfold Utf8.decode
  refine key _ _ _ _ (fun _ _ => rfl) (fun _ => key _ _ _ _ (fun _ => key _ _ _ _ (fun h1 h => ?_) (fun _ h => absurd h (by decide))) (fun _ => key _ _ _ _ (fun _ => key _ _ _ _ (fun h1 h => ?_) (fun _ h => absurd h (by decide))) (fun _ => key _ _ _ _ (fun _ => key _ _ _ _ (fun h1 h => ?_) (fun _ h => absurd h (by decide))) (fun _ h => absurd h (by decide)))))
  · exact absurd h (by omega)
  · rw [Bool.and_eq_true, decide_eq_true_eq] at h1
    exact absurd h (by omega)
  · rw [Bool.and_eq_true, decide_eq_true_eq] at h1
    exact absurd h (by omega)
theorem parseN_bad {b mx : Int} : ∀ (l : List Int) (n : Int), (∃ c ∈ l, b ≤ valOf c) → parseN b mx n l = none
  | [], _, h => by obtain ⟨_, h, _⟩ := h; simp at h
  | c :: r, n, h => by
    rw [parseN]
    split
    · rfl
    · split
      · rfl
      · refine parseN_bad r _ ?_
        obtain ⟨d, hd, hv⟩ := h
        rcases List.mem_cons.1 hd with rfl | hd
        · omega
        · exact ⟨d, hd, hv⟩
theorem bs_mem {s : ByteArray} {k : Nat} (h : k < s.size) : bt s (k : Int) ∈ bs s := by
  have := bs_get s k h
  rw [← this]
  exact List.getElem_mem _
theorem sg_val : ∀ c : Fin 128, 0 ≤ Lib.indexByte sgT.data.toList ((c.val : Int)).toNat.toUInt8 → 16 ≤ valOf (c.val : Int) := by decide +kernel

def SomePost (w : World) (P : Prop) (e : Ending) (w' : World) : Prop := ∃ r : Int, e = .returned (.int .i64 r) ∧ (0 ≤ r → P) ∧ Below w.heap.size w w'

/-- IndexRune at the signs: where it finds one, the rune is that byte. -/
theorem rune_any (r : Int) (hr : 0 ≤ r) (hv : Utf8.valid r = true) (w : World) :
    Calls Tryz.prog 225 #[.string sgT, .int .i32 r] w (SomePost w (r < 128 ∧ 16 ≤ valOf r)) := by
  by_cases h : r < 128
  · refine (Tryz.strings_IndexRune_ascii sgT r w hr h).mono ?_
    rintro e w' ⟨rfl, rfl⟩
    refine ⟨_, rfl, fun h0 => ⟨h, ?_⟩, Below.refl _ _⟩
    have := sg_val ⟨r.toNat, by omega⟩
    simp only [Int.toNat_of_nonneg hr] at this
    exact this h0
  · by_cases he : r = 65533
    · refine (rune_err r he w).mono ?_
      rintro e w' ⟨rfl, hb⟩
      exact ⟨_, rfl, fun h => absurd h (by decide), hb⟩
    · refine (rune_far r (by omega) he hv w).mono ?_
      rintro e w' ⟨rfl, hb⟩
      exact ⟨_, rfl, fun h => absurd h (by decide), hb⟩

set_option maxRecDepth 100000 in
set_option maxHeartbeats 1000000 in
theorem indexAny_sg (t : ByteArray) (ht : t.size ≤ 8) (w : World) :
    Calls Tryz.prog 217 #[.string t, .string sgT] w (SomePost w (parseN 16 255 0 (bs t) = none)) := by
  have e1 : sgT.toList.isEmpty = false := isEmpty_not (by decide)
  have hsz : sgT.size = 3 := rfl
  have HR : Hid (∀ (r : Int) (_ : 0 ≤ r) (_ : Utf8.valid r = true) (w : World), Calls Tryz.prog 225 #[.string sgT, .int .i32 r] w (SomePost w (r < 128 ∧ 16 ≤ valOf r))) := Lib.hid rune_any
  obtain ⟨S, hS⟩ : ∃ S, S = sgT := ⟨_, rfl⟩
  rw [← hS] at e1 hsz HR
  rw [← hS]
  clear hS
  obtain ⟨POST, hP⟩ : ∃ P, P = parseN 16 255 0 (bs t) := ⟨_, rfl⟩
  rw [← hP]
  have HP := Lib.hid hP
  clear hP
  go_enter Tryz.func217, Tryz.ntmps217
  go_wp2_with fail
  refine (Tryz.strings_shouldUseASCIISet _ _).mono ?_
  rintro e w' ⟨rfl, rfl⟩
  have h8 : decide ((8 : Int) < (t.size : Int)) = false := decide_eq_false (by omega)
  go_wp2_with fail
  go_loopg [] t.size (fun gk wl => ∃ pos : Nat, gk = t.size - pos ∧ wl.heap[w'.heap.size]? = some (.stringIter t pos) ∧ Hid (Below w'.heap.size w' wl))
  case atStart => exact ⟨0, rfl, heap_alloc_new w' _, below_alloc (Below.refl _ _) _⟩
  case round =>
    obtain ⟨pos, hgk, hit, HB⟩ := hrel
    have HK := Lib.hid hgk
    clear hgk
    by_cases hlt : pos < t.size
    · have hnx := fun ty => Lib.run_next_any_at (P := Tryz.prog) wr w'.heap.size t pos ty hit hlt
      have hsz2 : w'.heap.size < wr.heap.size := (Array.getElem?_eq_some_iff.1 hit).1
      have HB2 : Hid (Below w'.heap.size w' (wr.iterAt w'.heap.size t (pos + (Utf8.decode t pos).2))) := Lib.hid (Lib.below_iterAt HB.out (Nat.le_refl _) _ _)
      have HI2 : Hid ((wr.iterAt w'.heap.size t (pos + (Utf8.decode t pos).2)).heap[w'.heap.size]? = some (.stringIter t (pos + (Utf8.decode t pos).2))) := Lib.hid (Lib.iterAt_heap wr _ t pos _ hit)
      have HW := Lib.hid (Lib.width_pos t pos)
      clear hit
      have HD : Hid (((Utf8.decode t pos).1 : Int) < 128 ∧ 16 ≤ valOf ((Utf8.decode t pos).1 : Int) → POST = none) := Lib.hid fun ⟨h1, h2⟩ => by
        rw [HP.out]
        refine parseN_bad _ _ ⟨_, bs_mem hlt, ?_⟩
        have h3 := decode_low t pos (by omega)
        rw [h3, get_bt2 t pos hlt] at h2
        exact h2
      have HRR := Lib.hid (HR.out ((Utf8.decode t pos).1 : Int) (by omega) (decode_valid t pos))
      go_wp2_with fail
      refine (HRR.out _).mono ?_
      rintro e w2 ⟨rr, rfl, hrr, hb⟩
      have HB3 : Hid (Below w'.heap.size w' w2) := Lib.hid (trans_below HB2.out hb)
      have HI3 : Hid (w2.heap[w'.heap.size]? = some (.stringIter t (pos + (Utf8.decode t pos).2))) := Lib.hid ((hb.block _ (by rw [Lib.iterAt_size]; exact hsz2)).trans HI2.out)
      have HRQ := Lib.hid hrr
      clear hb hrr
      by_cases h0 : 0 ≤ rr
      · go_wp2_with fail
        go_ret
        exact ⟨_, rfl, fun _ => HD.out (HRQ.out h0), HB3.out⟩
      · go_wp2_with fail
        go_roundg (t.size - (pos + (Utf8.decode t pos).2))
        case measure => rw [HK.out]; have := HW.out; omega
        case rel => exact ⟨_, rfl, HI3.out, HB3⟩
    · have hnx := fun ty => Lib.run_next_end_at (P := Tryz.prog) wr w'.heap.size t pos ty hit hlt
      clear hit
      go_wp2_with fail
      go_ret
      exact ⟨_, rfl, fun h => absurd h (by decide), HB.out⟩

theorem containsAny_sg (t : ByteArray) (ht : t.size ≤ 8) (w : World) :
    Calls Tryz.prog 204 #[.string t, .string sgT] w (fun e w' => ∃ b : Bool, e = .returned (.bool b) ∧ (b = true → parseN 16 255 0 (bs t) = none) ∧ Below w.heap.size w w') := by
  have HI := Lib.hid (indexAny_sg t ht)
  obtain ⟨S, hS⟩ : ∃ S, S = sgT := ⟨_, rfl⟩
  rw [← hS] at HI
  rw [← hS]
  clear hS
  go_enter Tryz.func204, Tryz.ntmps204
  go_wp2_with fail
  refine (HI.out _).mono ?_
  rintro e w2 ⟨rr, rfl, hrr, hb⟩
  have HRQ := Lib.hid hrr
  have HB := Lib.hid hb
  clear hrr hb
  go_wp2_with fail
  go_ret
  exact ⟨decide (rr ≥ 0), rfl, fun h => HRQ.out (by simpa using h), HB.out⟩
end Go.Proofs.YtgapeacflkfmdaaGreatDoor
namespace Go.Proofs.YtgapeacflkfmdaaGreatDoor
open Go.RowKit Go.Proofs.YtgapeacflkfmdaaGreatDoorW.PrintWords

def escC : List Int → Int × Nat
  | [] => (0, 0)
  | c :: r => if c = 110 then (10, 1) else if c = 116 then (9, 1) else if c = 114 then (13, 1) else if c = 115 then (32, 1) else if c = 92 then (92, 1) else if c = 39 then (39, 1) else if c = 34 then (34, 1)
    else if c = 120 then (match r with | a :: b :: _ => if valOf a < 16 ∧ valOf b < 16 then (valOf a * 16 + valOf b, 3) else (0, 0) | _ => (0, 0)) else (0, 0)
def escTok (s : ByteArray) (k : Nat) : Tok :=
  if (escC ((bs s).drop (k + 2))).2 = 0 then noTok [⟨nLex, k, 202⟩] else (⟨3, ⟨#[]⟩, (escC ((bs s).drop (k + 2))).1, 0⟩, k + 2 + (escC ((bs s).drop (k + 2))).2, [])
theorem bt_extract {s : ByteArray} {a j : Nat} (h : a + j < s.size) : bt (s.extract a s.size) (j : Int) = bt s ((a + j : Nat) : Int) := by
  have hsz : (s.extract a s.size).size = s.size - a := by simp
  have h1 := btk (s.extract a s.size) j (by omega)
  have h2 := btk s (a + j) h
  rw [← h1, ← h2, ByteArray.getElem_extract]
theorem bt_cut {T : ByteArray} {j : Nat} (h : 1 + j < 3 ∧ 1 + j < T.size) : bt (T.extract 1 3) (j : Int) = bt T ((1 + j : Nat) : Int) := by
  have hsz : (T.extract 1 3).size = min 3 T.size - 1 := ByteArray.size_extract
  have h1 := btk (T.extract 1 3) j (by omega)
  have h2 := btk T (1 + j) h.2
  rw [← h1, ← h2, ByteArray.getElem_extract]
theorem parse_two (a b : Int) : (match parseN 16 255 0 [a, b] with | some v => (v, 3) | none => (0, 0)) = if valOf a < 16 ∧ valOf b < 16 then (valOf a * 16 + valOf b, 3) else ((0, 0) : Int × Nat) := by
  have ha0 := valOf_nonneg a
  have hb0 := valOf_nonneg b
  simp only [parseN]
  by_cases h1 : 16 ≤ valOf a
  · rw [if_pos h1, if_neg (by omega)]
  · rw [if_neg h1, if_neg (by omega)]
    by_cases h2 : 16 ≤ valOf b
    · rw [if_pos h2, if_neg (by omega)]
    · rw [if_neg h2, if_neg (by omega), if_pos (by omega)]
      simp
theorem put_far_drew {W : World} {b b' o : Nat} (h : b' ≠ b) (v0 v1 v2 v3 : Value) :
    ((((W.setCell ⟨b, 0, none⟩ v0).setCell ⟨b, 1, none⟩ v1).setCell ⟨b, 2, none⟩ v2).setCell ⟨b, 3, none⟩ v3).drew.cell? ⟨b', o, none⟩ = W.drew.cell? ⟨b', o, none⟩ := put_far h _ _ _ _
def escL : ByteArray := ⟨#[110, 116, 114, 115, 92, 39, 34]⟩
def escV : ByteArray := ⟨#[10, 9, 13, 32, 92, 39, 34]⟩
theorem esc_idx (c : Int) (n : Int) (h : Lib.indexByte escL.data.toList c.toNat.toUInt8 = n) (w : World) : Calls Tryz.prog 203 #[.string escL, .int .u8 c] w fun e w' => e = .returned (.int .i64 n) ∧ w = w' := by
  refine (Tryz.strings_IndexByte _ _ _).mono ?_
  rintro e w' ⟨rfl, rfl⟩
  rw [h]
  exact ⟨rfl, rfl⟩
theorem esc_none : ∀ c : Fin 256, (c.val == 110 || c.val == 116 || c.val == 114 || c.val == 115 || c.val == 92 || c.val == 39 || c.val == 34) = false → Lib.indexByte escL.data.toList ((c.val : Int)).toNat.toUInt8 = -1 := by decide +kernel

set_option maxRecDepth 100000 in
set_option maxHeartbeats 6000000 in
theorem lex_escape (b : Nat) (s : ByteArray) (k : Nat) (hk : k + 2 ≤ s.size) (hm : s.size ≤ 140737488351232) (wv : Value) (w : World) (hS : ScanAt w b s k) (hE : ErrIs w [⟨nLex, k, 202⟩] wv) (hG : Glob w) :
    Calls Tryz.prog 179 #[.pointer (some ⟨b, 0, none⟩), wv] w (TokPost w (escTok s k)) := by
  have hf := TokFrame.start hS hG
  have hE1 := hE.below (below_alloc (Below.refl w.heap.size w) (.cells #[.int .i64 0, .string ⟨#[]⟩, .int .i64 0, .int .i64 0] 63))
  obtain ⟨W1, hW1⟩ : ∃ W, W = w.alloc (.cells #[.int .i64 0, .string ⟨#[]⟩, .int .i64 0, .int .i64 0] 63) := ⟨_, rfl⟩
  rw [← hW1] at hf hE1
  have HF := Lib.hid hf
  have HE := Lib.hid hE1
  obtain ⟨⟨g1, g2, _⟩, ⟨r0, r1, r2, r3, f0, f1, f2, f3⟩, _, _, _, _, _⟩ := hf
  simp only [zTk] at r0 r1 r2 r3
  have hW := hW1.symm
  clear hS hG hW1 hE hE1
  obtain ⟨R, hR⟩ : ∃ R, R = escTok s k := ⟨_, rfl⟩
  rw [← hR]
  have HR := Lib.hid hR
  clear hR
  have e0 : (k : Int) + 2 ≤ (s.size : Int) := by omega
  obtain ⟨T, hT⟩ : ∃ T, T = s.extract (k + 2) s.size := ⟨_, rfl⟩
  have hsz : T.size = s.size - (k + 2) := by rw [hT]; simp
  have hbT : ∀ j : Nat, k + 2 + j < s.size → bt T (j : Int) = bt s ((k + 2 + j : Nat) : Int) := fun j hj => by
    rw [hT]; exact bt_extract hj
  have hTx := hT.symm
  have hq : IntKind.i64.wrap ((k : Int) + 2) = (k : Int) + 2 := wrap_small _ (by omega) (by omega)
  have hq3 : IntKind.i64.wrap ((k : Int) + 3) = (k : Int) + 3 := wrap_small _ (by omega) (by omega)
  have hq5 : IntKind.i64.wrap ((k : Int) + 5) = (k : Int) + 5 := wrap_small _ (by omega) (by omega)
  have HS0 : Hid (∀ n, (W1.drewN n).drew.cell? ⟨b, 1, none⟩ = some (.int .i64 (k : Int))) := Lib.hid fun _ => g2
  have HS1 : Hid (∀ n, (W1.drewN n).cell? ⟨b, 1, none⟩ = some (.int .i64 (k : Int))) := Lib.hid fun _ => g2
  clear hT
  by_cases h0 : T.size = 0
  · have hl := isEmpty_of h0
    have HQ : Hid (R = noTok [⟨nLex, k, 202⟩]) := Lib.hid (by
      rw [HR.out]
      unfold escTok
      rw [bs_end s (k + 2) (by omega)]
      rfl)
    clear h0 hsz hbT
    go_enter Tryz.func179, Tryz.ntmps179
    go_wp2_with fail
    go_quiet (fail)
    go_wp2_with fail
    refine bodyPost_ret (res_tok' rfl _ _ w.heap.size zTk (by rfl) ((HF.out.drewN _).tk.put zTk)) rfl ?_
    rw [HQ.out]
    exact (HF.out.drewN _).done (noTok [⟨nLex, k, 202⟩]) wv (HE.out.below (below_drewN _ _ _))
  · have hl := isEmpty_not h0
    have hpos : 0 < T.size := by omega
    have hlt : k + 2 < s.size := by omega
    have hT0 : ∀ h : 0 < T.size, ((T[0]'h).toNat : Int) = bt s ((k + 2 : Nat) : Int) := fun h => by
      have h1 : ((T[0]'h).toNat : Int) = bt T ((0 : Nat) : Int) := btk T 0 h
      rw [h1, hbT 0 (by omega)]
    have hr := bt_range s ((k + 2 : Nat) : Int)
    have HR2 : Hid ((bs s).drop (k + 2) = bt s ((k + 2 : Nat) : Int) :: (bs s).drop (k + 3)) := Lib.hid (bs_drop s (k + 2) hlt)
    obtain ⟨c, hc⟩ : ∃ c, c = bt s ((k + 2 : Nat) : Int) := ⟨_, rfl⟩
    rw [← hc] at hT0 hr HR2
    clear hc
    by_cases h110 : c = 110
    · subst h110
      have hv : ∀ h : 0 < escV.size, ((escV[0]'h).toNat : Int) = 10 := fun _ => rfl
      have HI := Lib.hid (esc_idx 110 0 (by decide))
      have HQ : Hid (R = (⟨3, ⟨#[]⟩, 10, 0⟩, k + 3, [])) := Lib.hid (by rw [HR.out]; unfold escTok; rw [HR2.out]; rfl)
      clear h0 hsz hbT hr
      go_enter Tryz.func179, Tryz.ntmps179
      go_wp2_with fail
      go_quiet (fail)
      go_wp2_with fail
      refine (HI.out _).mono ?_
      rintro e w' ⟨rfl, rfl⟩
      go_wp2_with fail
      go_region_held3 (fun w' => w'.cell? ⟨b, 1, none⟩ = some (.int .i64 (k : Int))) (first | with_reducible exact HS0.out _ | with_reducible exact HS1.out _ | with_reducible exact (put_far HF.out.ne _ _ _ _).trans (HS0.out _) | with_reducible exact (put_far HF.out.ne _ _ _ _).trans (HS1.out _)) (fail)
      go_wp2_with fail
      refine bodyPost_ret (res_tok' rfl _ _ w.heap.size ⟨3, ⟨#[]⟩, 10, 0⟩ (by rfl) ((HF.out.drewN _).drew.tk.put ⟨3, ⟨#[]⟩, 10, 0⟩)) rfl ?_
      rw [HQ.out]
      exact (HF.out.drewN _).drew.done (⟨3, ⟨#[]⟩, 10, 0⟩, k + 3, []) .nilIface rfl
    · skip
      by_cases h116 : c = 116
      · subst h116
        have hv : ∀ h : 1 < escV.size, ((escV[1]'h).toNat : Int) = 9 := fun _ => rfl
        have HI := Lib.hid (esc_idx 116 1 (by decide))
        have HQ : Hid (R = (⟨3, ⟨#[]⟩, 9, 0⟩, k + 3, [])) := Lib.hid (by rw [HR.out]; unfold escTok; rw [HR2.out]; rfl)
        clear h0 hsz hbT hr
        go_enter Tryz.func179, Tryz.ntmps179
        go_wp2_with fail
        go_quiet (fail)
        go_wp2_with fail
        refine (HI.out _).mono ?_
        rintro e w' ⟨rfl, rfl⟩
        go_wp2_with fail
        go_region_held3 (fun w' => w'.cell? ⟨b, 1, none⟩ = some (.int .i64 (k : Int))) (first | with_reducible exact HS0.out _ | with_reducible exact HS1.out _ | with_reducible exact (put_far HF.out.ne _ _ _ _).trans (HS0.out _) | with_reducible exact (put_far HF.out.ne _ _ _ _).trans (HS1.out _)) (fail)
        go_wp2_with fail
        refine bodyPost_ret (res_tok' rfl _ _ w.heap.size ⟨3, ⟨#[]⟩, 9, 0⟩ (by rfl) ((HF.out.drewN _).drew.tk.put ⟨3, ⟨#[]⟩, 9, 0⟩)) rfl ?_
        rw [HQ.out]
        exact (HF.out.drewN _).drew.done (⟨3, ⟨#[]⟩, 9, 0⟩, k + 3, []) .nilIface rfl
      · skip
        by_cases h114 : c = 114
        · subst h114
          have hv : ∀ h : 2 < escV.size, ((escV[2]'h).toNat : Int) = 13 := fun _ => rfl
          have HI := Lib.hid (esc_idx 114 2 (by decide))
          have HQ : Hid (R = (⟨3, ⟨#[]⟩, 13, 0⟩, k + 3, [])) := Lib.hid (by rw [HR.out]; unfold escTok; rw [HR2.out]; rfl)
          clear h0 hsz hbT hr
          go_enter Tryz.func179, Tryz.ntmps179
          go_wp2_with fail
          go_quiet (fail)
          go_wp2_with fail
          refine (HI.out _).mono ?_
          rintro e w' ⟨rfl, rfl⟩
          go_wp2_with fail
          go_region_held3 (fun w' => w'.cell? ⟨b, 1, none⟩ = some (.int .i64 (k : Int))) (first | with_reducible exact HS0.out _ | with_reducible exact HS1.out _ | with_reducible exact (put_far HF.out.ne _ _ _ _).trans (HS0.out _) | with_reducible exact (put_far HF.out.ne _ _ _ _).trans (HS1.out _)) (fail)
          go_wp2_with fail
          refine bodyPost_ret (res_tok' rfl _ _ w.heap.size ⟨3, ⟨#[]⟩, 13, 0⟩ (by rfl) ((HF.out.drewN _).drew.tk.put ⟨3, ⟨#[]⟩, 13, 0⟩)) rfl ?_
          rw [HQ.out]
          exact (HF.out.drewN _).drew.done (⟨3, ⟨#[]⟩, 13, 0⟩, k + 3, []) .nilIface rfl
        · skip
          by_cases h115 : c = 115
          · subst h115
            have hv : ∀ h : 3 < escV.size, ((escV[3]'h).toNat : Int) = 32 := fun _ => rfl
            have HI := Lib.hid (esc_idx 115 3 (by decide))
            have HQ : Hid (R = (⟨3, ⟨#[]⟩, 32, 0⟩, k + 3, [])) := Lib.hid (by rw [HR.out]; unfold escTok; rw [HR2.out]; rfl)
            clear h0 hsz hbT hr
            go_enter Tryz.func179, Tryz.ntmps179
            go_wp2_with fail
            go_quiet (fail)
            go_wp2_with fail
            refine (HI.out _).mono ?_
            rintro e w' ⟨rfl, rfl⟩
            go_wp2_with fail
            go_region_held3 (fun w' => w'.cell? ⟨b, 1, none⟩ = some (.int .i64 (k : Int))) (first | with_reducible exact HS0.out _ | with_reducible exact HS1.out _ | with_reducible exact (put_far HF.out.ne _ _ _ _).trans (HS0.out _) | with_reducible exact (put_far HF.out.ne _ _ _ _).trans (HS1.out _)) (fail)
            go_wp2_with fail
            refine bodyPost_ret (res_tok' rfl _ _ w.heap.size ⟨3, ⟨#[]⟩, 32, 0⟩ (by rfl) ((HF.out.drewN _).drew.tk.put ⟨3, ⟨#[]⟩, 32, 0⟩)) rfl ?_
            rw [HQ.out]
            exact (HF.out.drewN _).drew.done (⟨3, ⟨#[]⟩, 32, 0⟩, k + 3, []) .nilIface rfl
          · skip
            by_cases h92 : c = 92
            · subst h92
              have hv : ∀ h : 4 < escV.size, ((escV[4]'h).toNat : Int) = 92 := fun _ => rfl
              have HI := Lib.hid (esc_idx 92 4 (by decide))
              have HQ : Hid (R = (⟨3, ⟨#[]⟩, 92, 0⟩, k + 3, [])) := Lib.hid (by rw [HR.out]; unfold escTok; rw [HR2.out]; rfl)
              clear h0 hsz hbT hr
              go_enter Tryz.func179, Tryz.ntmps179
              go_wp2_with fail
              go_quiet (fail)
              go_wp2_with fail
              refine (HI.out _).mono ?_
              rintro e w' ⟨rfl, rfl⟩
              go_wp2_with fail
              go_region_held3 (fun w' => w'.cell? ⟨b, 1, none⟩ = some (.int .i64 (k : Int))) (first | with_reducible exact HS0.out _ | with_reducible exact HS1.out _ | with_reducible exact (put_far HF.out.ne _ _ _ _).trans (HS0.out _) | with_reducible exact (put_far HF.out.ne _ _ _ _).trans (HS1.out _)) (fail)
              go_wp2_with fail
              refine bodyPost_ret (res_tok' rfl _ _ w.heap.size ⟨3, ⟨#[]⟩, 92, 0⟩ (by rfl) ((HF.out.drewN _).drew.tk.put ⟨3, ⟨#[]⟩, 92, 0⟩)) rfl ?_
              rw [HQ.out]
              exact (HF.out.drewN _).drew.done (⟨3, ⟨#[]⟩, 92, 0⟩, k + 3, []) .nilIface rfl
            · skip
              by_cases h39 : c = 39
              · subst h39
                have hv : ∀ h : 5 < escV.size, ((escV[5]'h).toNat : Int) = 39 := fun _ => rfl
                have HI := Lib.hid (esc_idx 39 5 (by decide))
                have HQ : Hid (R = (⟨3, ⟨#[]⟩, 39, 0⟩, k + 3, [])) := Lib.hid (by rw [HR.out]; unfold escTok; rw [HR2.out]; rfl)
                clear h0 hsz hbT hr
                go_enter Tryz.func179, Tryz.ntmps179
                go_wp2_with fail
                go_quiet (fail)
                go_wp2_with fail
                refine (HI.out _).mono ?_
                rintro e w' ⟨rfl, rfl⟩
                go_wp2_with fail
                go_region_held3 (fun w' => w'.cell? ⟨b, 1, none⟩ = some (.int .i64 (k : Int))) (first | with_reducible exact HS0.out _ | with_reducible exact HS1.out _ | with_reducible exact (put_far HF.out.ne _ _ _ _).trans (HS0.out _) | with_reducible exact (put_far HF.out.ne _ _ _ _).trans (HS1.out _)) (fail)
                go_wp2_with fail
                refine bodyPost_ret (res_tok' rfl _ _ w.heap.size ⟨3, ⟨#[]⟩, 39, 0⟩ (by rfl) ((HF.out.drewN _).drew.tk.put ⟨3, ⟨#[]⟩, 39, 0⟩)) rfl ?_
                rw [HQ.out]
                exact (HF.out.drewN _).drew.done (⟨3, ⟨#[]⟩, 39, 0⟩, k + 3, []) .nilIface rfl
              · skip
                by_cases h34 : c = 34
                · subst h34
                  have hv : ∀ h : 6 < escV.size, ((escV[6]'h).toNat : Int) = 34 := fun _ => rfl
                  have HI := Lib.hid (esc_idx 34 6 (by decide))
                  have HQ : Hid (R = (⟨3, ⟨#[]⟩, 34, 0⟩, k + 3, [])) := Lib.hid (by rw [HR.out]; unfold escTok; rw [HR2.out]; rfl)
                  clear h0 hsz hbT hr
                  go_enter Tryz.func179, Tryz.ntmps179
                  go_wp2_with fail
                  go_quiet (fail)
                  go_wp2_with fail
                  refine (HI.out _).mono ?_
                  rintro e w' ⟨rfl, rfl⟩
                  go_wp2_with fail
                  go_region_held3 (fun w' => w'.cell? ⟨b, 1, none⟩ = some (.int .i64 (k : Int))) (first | with_reducible exact HS0.out _ | with_reducible exact HS1.out _ | with_reducible exact (put_far HF.out.ne _ _ _ _).trans (HS0.out _) | with_reducible exact (put_far HF.out.ne _ _ _ _).trans (HS1.out _)) (fail)
                  go_wp2_with fail
                  refine bodyPost_ret (res_tok' rfl _ _ w.heap.size ⟨3, ⟨#[]⟩, 34, 0⟩ (by rfl) ((HF.out.drewN _).drew.tk.put ⟨3, ⟨#[]⟩, 34, 0⟩)) rfl ?_
                  rw [HQ.out]
                  exact (HF.out.drewN _).drew.done (⟨3, ⟨#[]⟩, 34, 0⟩, k + 3, []) .nilIface rfl
                · skip
                  have hno : Lib.indexByte escL.data.toList c.toNat.toUInt8 = -1 := by
                    have := esc_none ⟨c.toNat, by omega⟩ (by simp only [Bool.or_eq_false_iff, beq_eq_false_iff_ne]; omega)
                    simp only [Int.toNat_of_nonneg hr.1] at this
                    exact this
                  have HI := Lib.hid (esc_idx c (-1) hno)
                  clear hno
                  by_cases hx : c = 120
                  · subst hx
                    have HR3 : Hid (escC ((bs s).drop (k + 2)) = (match (bs s).drop (k + 3) with | a :: b :: _ => if valOf a < 16 ∧ valOf b < 16 then (valOf a * 16 + valOf b, 3) else (0, 0) | _ => (0, 0))) := Lib.hid (by rw [HR2.out]; rfl)
                    clear h110 h116 h114 h115 h92 h39 h34 hr
                    by_cases h3 : T.size < 3
                    · have hd : decide ((T.size : Int) ≥ 3) = false := decide_eq_false (by omega)
                      have HQ : Hid (R = noTok [⟨nLex, k, 202⟩]) := Lib.hid (by
                        rw [HR.out]
                        unfold escTok
                        rw [HR3.out]
                        have hl2 : ((bs s).drop (k + 3)).length ≤ 1 := by rw [List.length_drop, bs_len]; omega
                        match hx : (bs s).drop (k + 3), hl2 with
                        | [], _ => rfl
                        | [a], _ => rfl)
                      clear h0 hsz hbT h3
                      go_enter Tryz.func179, Tryz.ntmps179
                      go_wp2_with fail
                      go_quiet (fail)
                      go_wp2_with fail
                      refine (HI.out _).mono ?_
                      rintro e w' ⟨rfl, rfl⟩
                      go_wp2_with fail
                      refine bodyPost_ret (res_tok' rfl _ _ w.heap.size zTk (by rfl) ((HF.out.drewN _).tk.put zTk)) rfl ?_
                      rw [HQ.out]
                      exact (HF.out.drewN _).done (noTok [⟨nLex, k, 202⟩]) wv (HE.out.below (below_drewN _ _ _))
                    · have hd : decide ((T.size : Int) ≥ 3) = true := decide_eq_true (by omega)
                      have q3 : (3 : Int) ≤ (T.size : Int) := by omega
                      obtain ⟨U, hU⟩ : ∃ U, U = T.extract 1 3 := ⟨_, rfl⟩
                      have hUs : U.size = 2 := by rw [hU, ByteArray.size_extract]; omega
                      have hU0 : bt U ((0 : Nat) : Int) = bt s ((k + 3 : Nat) : Int) := by rw [hU, bt_cut (by omega), hbT 1 (by omega)]
                      have hU1 : bt U ((1 : Nat) : Int) = bt s ((k + 4 : Nat) : Int) := by rw [hU, bt_cut (by omega), hbT 2 (by omega)]
                      have hbsU : bs U = [bt s ((k + 3 : Nat) : Int), bt s ((k + 4 : Nat) : Int)] := by
                        have h1 := bs_drop U 0 (by omega)
                        rw [bs_drop U 1 (by omega), bs_end U 2 (by omega), hU0, hU1] at h1
                        exact h1
                      have HC := Lib.hid (containsAny_sg U (by omega))
                      have HP := Lib.hid (strconv_ParseUint U (by omega) (by omega))
                      have HR4 : Hid (escC ((bs s).drop (k + 2)) = match parseN 16 255 0 (bs U) with | some v => (v, 3) | none => (0, 0)) := Lib.hid (by
                        rw [HR3.out, bs_drop s (k + 3) (by omega), bs_drop s (k + 4) (by omega), hbsU]
                        exact (parse_two _ _).symm)
                      have hUx := hU.symm
                      clear h0 hsz hbT h3 hU hUs hU0 hU1 hbsU
                      go_enter Tryz.func179, Tryz.ntmps179
                      go_wp2_with fail
                      go_quiet (fail)
                      go_wp2_with fail
                      refine (HI.out _).mono ?_
                      rintro e w' ⟨rfl, rfl⟩
                      go_wp2_with fail
                      refine (HC.out _).mono ?_
                      rintro e w3 ⟨X, rfl, hX, hB3⟩
                      have HE3 := Lib.hid ((HE.out.below (below_drewN _ _ _)).below hB3)
                      have hF3 := (HF.out.drewN _).step hB3
                      have HF3 := Lib.hid hF3
                      obtain ⟨⟨t1, t2, _⟩, ⟨r0, r1, r2, r3, f0, f1, f2, f3⟩, _, _, _, _, _⟩ := hF3
                      simp only [zTk] at r0 r1 r2 r3
                      clear hB3
                      cases X with
                      | true =>
                        have HQ : Hid (R = noTok [⟨nLex, k, 202⟩]) := Lib.hid (by
                          rw [HR.out]
                          unfold escTok
                          rw [HR4.out, hX rfl]
                          rfl)
                        clear hX
                        go_wp2_with fail
                        refine bodyPost_ret (res_tok' rfl _ _ w.heap.size zTk (by rfl) (HF3.out.tk.put zTk)) rfl ?_
                        rw [HQ.out]
                        exact HF3.out.done (noTok [⟨nLex, k, 202⟩]) wv HE3.out
                      | false =>
                        clear hX
                        go_wp2_with fail
                        refine (HP.out _ HF3.out.g).mono ?_
                        rintro e w4 ⟨v, ve, hv, rfl, hB4⟩
                        have HE4 := Lib.hid (HE3.out.below hB4)
                        have hF4 := HF3.out.step hB4
                        have HF4 := Lib.hid hF4
                        obtain ⟨⟨t1, t2, _⟩, ⟨r0, r1, r2, r3, f0, f1, f2, f3⟩, _, _, _, _, _⟩ := hF4
                        simp only [zTk] at r0 r1 r2 r3
                        clear hB4
                        rcases hv with ⟨hr, rfl⟩ | ⟨hr, tt, pp, rfl⟩
                        · have hv0 := parseN_ge (by decide) _ _ _ (by decide) hr
                          have hv1 := parseN_le _ _ _ (by decide) hr
                          have hw : wrap64 v = v := by unfold wrap64; omega
                          have HQ : Hid (R = (⟨3, ⟨#[]⟩, v, 0⟩, k + 5, [])) := Lib.hid (by
                            rw [HR.out]
                            unfold escTok
                            rw [HR4.out, hr]
                            rfl)
                          clear hr
                          go_wp2_with fail
                          have hw2 : IntKind.i64.wrap v = v := wrap_small _ (by omega) (by omega)
                          have HS4 : Hid (w4.drew.cell? ⟨b, 1, none⟩ = some (.int .i64 (k : Int))) := Lib.hid t2
                          go_region_held3 (fun w' => w'.cell? ⟨b, 1, none⟩ = some (.int .i64 (k : Int))) (first | with_reducible exact HS4.out | with_reducible exact (put_far HF.out.ne _ _ _ _).trans HS4.out | with_reducible exact (put_far_drew HF.out.ne _ _ _ _).trans HS4.out) (fail)
                          go_wp2_with fail
                          refine bodyPost_ret (res_tok' rfl _ _ w.heap.size ⟨3, ⟨#[]⟩, v, 0⟩ (by rfl) (HF4.out.drew.tk.put ⟨3, ⟨#[]⟩, v, 0⟩)) rfl ?_
                          rw [HQ.out]
                          exact HF4.out.drew.done (⟨3, ⟨#[]⟩, v, 0⟩, k + 5, []) .nilIface rfl
                        · have HQ : Hid (R = noTok [⟨nLex, k, 202⟩]) := Lib.hid (by
                            rw [HR.out]
                            unfold escTok
                            rw [HR4.out, hr]
                            rfl)
                          clear hr
                          go_wp2_with fail
                          refine bodyPost_ret (res_tok' rfl _ _ w.heap.size zTk (by rfl) (HF4.out.tk.put zTk)) rfl ?_
                          rw [HQ.out]
                          exact HF4.out.done (noTok [⟨nLex, k, 202⟩]) wv HE4.out
                  · have hcx : (c == 120) = false := beq_eq_false_iff_ne.2 hx
                    have HQ : Hid (R = noTok [⟨nLex, k, 202⟩]) := Lib.hid (by
                      rw [HR.out]
                      unfold escTok
                      have he : escC (c :: (bs s).drop (k + 3)) = (0, 0) := by
                        simp only [escC]
                        rw [if_neg h110, if_neg h116, if_neg h114, if_neg h115, if_neg h92, if_neg h39, if_neg h34, if_neg hx]
                      rw [HR2.out, he]
                      rfl)
                    clear h0 hsz hbT hr h110 h116 h114 h115 h92 h39 h34 hx
                    go_enter Tryz.func179, Tryz.ntmps179
                    go_wp2_with fail
                    go_quiet (fail)
                    go_wp2_with fail
                    refine (HI.out _).mono ?_
                    rintro e w' ⟨rfl, rfl⟩
                    go_wp2_with fail
                    refine bodyPost_ret (res_tok' rfl _ _ w.heap.size zTk (by rfl) ((HF.out.drewN _).tk.put zTk)) rfl ?_
                    rw [HQ.out]
                    exact (HF.out.drewN _).done (noTok [⟨nLex, k, 202⟩]) wv (HE.out.below (below_drewN _ _ _))
end Go.Proofs.YtgapeacflkfmdaaGreatDoor
