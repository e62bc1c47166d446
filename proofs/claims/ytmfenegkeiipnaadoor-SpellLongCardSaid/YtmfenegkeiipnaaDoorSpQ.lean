/- Lines of operations: the laws. No program. -/
import Derived.Test.YtmfenegkeiipnaaDoorSpP
namespace Go.Proofs.YtmfenegkeiipnaaDoor
set_option linter.unusedVariables false

theorem word_free (k : Nat) : (32 : UInt8) ∉ word k ∧ (61 : UInt8) ∉ word k := by
  by_cases h : k < 24
  · have : ∀ m : Fin 24, (32 : UInt8) ∉ word m.1 ∧ (61 : UInt8) ∉ word m.1 := by decide
    exact this ⟨k, h⟩
  · have : word k = [] := by
      unfold word
      rw [List.getD_eq_getElem?_getD, List.getElem?_eq_none (by show 24 ≤ k; omega)]
      rfl
    rw [this]
    simp
theorem word_ne {k : Nat} (h1 : 1 ≤ k) (h2 : k < 24) : word k ≠ [] := by
  have : ∀ m : Fin 24, 1 ≤ m.1 → word m.1 ≠ [] := by decide
  exact this ⟨k, h2⟩ h1
theorem kind_word {k : Nat} (h2 : k < 24) : kindTo (word k) 24 = k := by
  have : ∀ m : Fin 24, kindTo (word m.1) 24 = m.1 := by decide +kernel
  exact this ⟨k, h2⟩
theorem kindTo_lt (w : L8) : ∀ i, kindTo w i < i ∨ kindTo w i = 0
  | 0 => Or.inr rfl
  | i + 1 => by
    unfold kindTo
    split
    · exact Or.inl (by omega)
    · rcases kindTo_lt w i with h | h
      · exact Or.inl (by omega)
      · exact Or.inr h
/-- A number that is parsed is what is heard leniently. -/
theorem parse_len : ∀ (l : L8) (acc u : Nat), acc < 18446744073709551616 → Lib.parseUint10 acc l = .ok u → lenU acc l = u ∧ (45 : UInt8) ∉ l
  | [], acc, u, ha, h => by
    simp only [Lib.parseUint10] at h
    injection h with h
    exact ⟨h, by simp⟩
  | c :: r, acc, u, ha, h => by
    simp only [Lib.parseUint10] at h
    split at h
    · rename_i hc
      split at h
      · cases h
      · split at h
        · cases h
        · obtain ⟨i1, i2⟩ := parse_len r _ u (by omega) h
          have hn : c ≠ 45 := fun e => by subst e; exact absurd hc (by decide)
          refine ⟨?_, fun hm => ?_⟩
          · unfold lenU
            rw [if_neg hn, show digV c = c.toNat - 48 from if_pos hc, Nat.mod_eq_of_lt (by omega)]
            exact i1
          · rcases List.mem_cons.1 hm with e | e
            · exact hn e.symm
            · exact i2 e
    · cases h
theorem mag_len {l : L8} {u : Nat} (h : Lib.parseMag l = .ok u) : lenU 0 l = u ∧ (45 : UInt8) ∉ l := by
  unfold Lib.parseMag at h
  split at h
  · cases h
  · exact parse_len l 0 u (by decide) h
theorem atoi_len {l : L8} {v : Int} (h : Lib.atoiAll l = .ok v) : lenI l = v := by
  cases l with
  | nil => simp [Lib.atoiAll] at h
  | cons c r =>
    unfold Lib.atoiAll at h
    simp only at h
    split at h
    · cases h
    · cases h
    · rename_i u hu
      have hlt := Lib.parseMag_lt hu
      by_cases h45 : c.toNat = 45
      · have hc : c = 45 := UInt8.toNat.inj h45
        rw [if_pos (Or.inr h45)] at hu
        obtain ⟨m1, m2⟩ := mag_len hu
        rw [if_neg (by simp [h45])] at h
        split at h
        · cases h
        · rename_i h3
          injection h with h
          have hu2 : u ≤ 9223372036854775808 := by
            rcases Nat.lt_or_ge 9223372036854775808 u with q | q
            · exact absurd ⟨h45, q⟩ h3
            · exact q
          unfold lenI lenNeg wrap64'
          rw [show (c :: r).contains 45 = true by rw [hc]; simp, if_pos rfl]
          rw [show lenU 0 (c :: r) = u by rw [hc]; unfold lenU; rw [if_pos rfl]; exact m1]
          rw [← h]
          by_cases h0 : u = 0
          · subst h0; decide
          · rw [Nat.mod_eq_of_lt (by omega), if_neg (by omega)]
            omega
      · have hc : c ≠ 45 := fun e => h45 (by rw [e]; rfl)
        have key : lenU 0 (c :: r) = u ∧ (45 : UInt8) ∉ (c :: r) := by
          by_cases h43 : c.toNat = 43
          · have hc3 : c = 43 := UInt8.toNat.inj h43
            rw [if_pos (Or.inl h43)] at hu
            obtain ⟨m1, m2⟩ := mag_len hu
            refine ⟨?_, ?_⟩
            · unfold lenU
              rw [if_neg hc, hc3, show (0 * 10 + digV 43) % 18446744073709551616 = 0 by decide]
              exact m1
            · intro hm
              rcases List.mem_cons.1 hm with e | e
              · exact hc e.symm
              · exact m2 e
          · rw [if_neg (by omega)] at hu
            exact mag_len hu
        split at h
        · cases h
        · rename_i h2
          rw [if_neg (by simp [h45])] at h
          injection h with h
          have hu2 : u < 9223372036854775808 := by
            rcases Nat.lt_or_ge u 9223372036854775808 with q | q
            · exact q
            · exact absurd ⟨h45, q⟩ h2
          unfold lenI lenNeg wrap64'
          rw [show (c :: r).contains 45 = false by simpa using key.2]
          simp only [Bool.false_eq_true, if_false]
          rw [key.1, if_pos hu2]
          exact h
theorem parse_app : ∀ (l r : L8) (acc a : Nat), Lib.parseUint10 acc l = .ok a → Lib.parseUint10 acc (l ++ r) = Lib.parseUint10 a r
  | [], r, acc, a, h => by
    simp only [Lib.parseUint10] at h
    injection h with h
    rw [List.nil_append, h]
  | c :: l, r, acc, a, h => by
    simp only [List.cons_append, Lib.parseUint10] at h ⊢
    split at h
    · rename_i h1
      rw [if_pos h1]
      split at h
      · cases h
      · rename_i h2
        rw [if_neg h2]
        split at h
        · cases h
        · rename_i h3
          rw [if_neg h3]
          exact parse_app l r _ a h
    · cases h
theorem parse_dec (u : Nat) (h : u < 18446744073709551616) : Lib.parseUint10 0 (Lib.decDigits u) = .ok u := by
  induction u using Nat.strongRecOn with
  | _ u ih =>
    rw [Lib.decDigits]
    split
    · rename_i h1
      simp only [Lib.parseUint10]
      rw [UInt8.toNat_ofNat_of_lt' (by show _ < 256; omega), if_pos (by omega), if_neg (by omega), if_neg (by omega)]
      congr 1
      omega
    · rename_i h1
      rw [parse_app _ _ _ _ (ih _ (by omega) (by omega))]
      simp only [Lib.parseUint10]
      rw [UInt8.toNat_ofNat_of_lt' (by show _ < 256; omega), if_pos (by omega), if_neg (by omega), if_neg (by omega)]
      congr 1
      omega
theorem mag_dec (u : Nat) (h : u < 18446744073709551616) : Lib.parseMag (Lib.decDigits u) = .ok u := by
  unfold Lib.parseMag
  rw [if_neg (dec_ne u), parse_dec u h]
/-- What was written is read. -/
theorem atoi_itoa (x : Int) (h0 : -9223372036854775808 ≤ x) (h1 : x ≤ 9223372036854775807) : Lib.atoiAll (Lib.itoa x) = .ok x := by
  unfold Lib.itoa
  split
  · rename_i hx
    unfold Lib.atoiAll
    simp only
    rw [if_pos (Or.inr (by decide)), mag_dec _ (by omega)]
    simp only
    rw [if_neg (by intro h; exact h.1 (by decide)), if_neg (by intro h; have := h.2; omega), if_pos (by decide)]
    congr 1
    omega
  · rename_i hx
    cases hd : Lib.decDigits x.toNat with
    | nil => exact absurd hd (dec_ne _)
    | cons c r =>
      have hc := dec_free x.toNat c (by rw [hd]; simp)
      unfold Lib.atoiAll
      simp only
      rw [if_neg (by omega), ← hd, mag_dec _ (by omega)]
      simp only
      rw [if_neg (by intro h; have := h.2; omega), if_neg (by intro h; have := h.1; omega), if_neg (by omega)]
      congr 1
      omega

/-- The fields hold no blank, and one sign of equality each. -/
def Fld (f : L8) : Prop := (32 : UInt8) ∉ f ∧ f.count 61 = 1
theorem fld_of {key v : L8} (hk : (32 : UInt8) ∉ key ∧ (61 : UInt8) ∉ key) (hv : (32 : UInt8) ∉ v ∧ (61 : UInt8) ∉ v) : Fld (key ++ 61 :: v) := by
  constructor
  · intro h
    rcases List.mem_append.1 h with h | h
    · exact hk.1 h
    rcases List.mem_cons.1 h with h | h
    · cases h
    · exact hv.1 h
  · rw [List.count_append, List.count_cons_self, List.count_eq_zero.2 hk.2, List.count_eq_zero.2 hv.2]
theorem numF_fld {key : L8} (hk : (32 : UInt8) ∉ key ∧ (61 : UInt8) ∉ key) (x : Int) : ∀ f ∈ numF key x, Fld f := by
  intro f hf
  unfold numF at hf
  split at hf
  · cases hf
  · rw [List.mem_singleton] at hf
    subst hf
    exact fld_of hk (itoa_free x)
theorem byF_fld {key : L8} (hk : (32 : UInt8) ∉ key ∧ (61 : UInt8) ∉ key) (b : L8) : ∀ f ∈ byF key b, Fld f := by
  intro f hf
  unfold byF at hf
  split at hf
  · cases hf
  · rw [List.mem_singleton] at hf
    subst hf
    exact fld_of hk (hexL_free b)
theorem fields_fld (o : Opp) : ∀ f ∈ fieldsL o, Fld f := by
  intro f hf
  unfold fieldsL at hf
  rcases List.mem_append.1 hf with hf | hf
  · exact numF_fld (by decide) _ f hf
  rcases List.mem_append.1 hf with hf | hf
  · exact numF_fld (by decide) _ f hf
  rcases List.mem_append.1 hf with hf | hf
  · exact numF_fld (by decide) _ f hf
  rcases List.mem_append.1 hf with hf | hf
  · exact numF_fld (by decide) _ f hf
  rcases List.mem_append.1 hf with hf | hf
  · exact byF_fld (by decide) _ f hf
  rcases List.mem_append.1 hf with hf | hf
  · exact byF_fld (by decide) _ f hf
  · exact byF_fld (by decide) _ f hf
theorem spb_words : ∀ (fs : List L8) (a : L8), (32 : UInt8) ∉ a → (∀ f ∈ fs, (32 : UInt8) ∉ f) → spb (a ++ joinB fs) = a :: fs
  | [], a, ha, _ => by rw [show joinB [] = [] from rfl, List.append_nil, spb_free ha]
  | f :: fs, a, ha, hf => by
    rw [show joinB (f :: fs) = 32 :: (f ++ joinB fs) by simp [joinB], spb_free_cons ha, spb_words fs f (hf f (by simp)) (fun g hg => hf g (by simp [hg]))]
theorem joinB_count : ∀ fs : List L8, (∀ f ∈ fs, Fld f) → (joinB fs).count 32 = (joinB fs).count 61
  | [], _ => rfl
  | f :: fs, h => by
    rw [show joinB (f :: fs) = 32 :: (f ++ joinB fs) by simp [joinB]]
    rw [List.count_cons_self, List.count_cons_of_ne (by decide), List.count_append, List.count_append, joinB_count fs (fun g hg => h g (by simp [hg]))]
    have := h f (by simp)
    rw [this.2, List.count_eq_zero.2 this.1]
    omega
/-- As many blanks as signs of equality. -/
theorem say_count (o : Opp) : (sayL o).count 32 = (sayL o).count 61 := by
  unfold sayL
  split
  · rfl
  · obtain ⟨h1, h2⟩ := word_free o.k.toNat
    rw [List.count_append, List.count_append, List.count_eq_zero.2 h1, List.count_eq_zero.2 h2, joinB_count _ (fields_fld o)]
/-- Numbers that an int holds. -/
def InR (x : Int) : Prop := -9223372036854775808 ≤ x ∧ x ≤ 9223372036854775807
def Opp.Ok (o : Opp) : Prop := InR o.fd ∧ InR o.n ∧ InR o.off ∧ InR o.fl
theorem foldS_num (o : Opp) (key : L8) (x : Int) (rest : List L8) (hk : (61 : UInt8) ∉ key) (hb : isB key = false) (hx : InR x) :
    foldS o (numF key x ++ rest) = foldS (if x = 0 then o else setN o key x) rest := by
  unfold numF
  split
  · rfl
  · simp only [List.singleton_append, foldS]
    unfold fieldS
    obtain ⟨e1, e2⟩ := key_val (v := Lib.itoa x) hk
    rw [e1, e2, hb, atoi_itoa x hx.1 hx.2]
    rfl
theorem foldS_by (o : Opp) (key b : L8) (rest : List L8) (hk : (61 : UInt8) ∉ key) (hb : isB key = true) :
    foldS o (byF key b ++ rest) = foldS (if b = [] then o else setB o key b) rest := by
  unfold byF
  split
  · rfl
  · simp only [List.singleton_append, foldS]
    unfold fieldS
    obtain ⟨e1, e2⟩ := key_val (v := hexL b) hk
    rw [e1, e2, hb, unhex_hexL]
    rfl
theorem step_fd (k n off fl x : Int) (pa to da : L8) (rest : List L8) (hx : InR x) : foldS ⟨k, 0, n, off, fl, pa, to, da⟩ (numF kFd x ++ rest) = foldS ⟨k, x, n, off, fl, pa, to, da⟩ rest := by
  rw [foldS_num _ kFd x rest (by decide) (by decide) hx]
  split
  · rename_i e; rw [e]
  · unfold setN
    rw [if_pos rfl]
theorem step_n (k fd off fl x : Int) (pa to da : L8) (rest : List L8) (hx : InR x) : foldS ⟨k, fd, 0, off, fl, pa, to, da⟩ (numF kN x ++ rest) = foldS ⟨k, fd, x, off, fl, pa, to, da⟩ rest := by
  rw [foldS_num _ kN x rest (by decide) (by decide) hx]
  split
  · rename_i e; rw [e]
  · unfold setN
    rw [if_neg (by decide), if_pos rfl]
theorem step_off (k fd n fl x : Int) (pa to da : L8) (rest : List L8) (hx : InR x) : foldS ⟨k, fd, n, 0, fl, pa, to, da⟩ (numF kOff x ++ rest) = foldS ⟨k, fd, n, x, fl, pa, to, da⟩ rest := by
  rw [foldS_num _ kOff x rest (by decide) (by decide) hx]
  split
  · rename_i e; rw [e]
  · unfold setN
    rw [if_neg (by decide), if_neg (by decide), if_pos rfl]
theorem step_fl (k fd n off x : Int) (pa to da : L8) (rest : List L8) (hx : InR x) : foldS ⟨k, fd, n, off, 0, pa, to, da⟩ (numF kFl x ++ rest) = foldS ⟨k, fd, n, off, x, pa, to, da⟩ rest := by
  rw [foldS_num _ kFl x rest (by decide) (by decide) hx]
  split
  · rename_i e; rw [e]
  · unfold setN
    rw [if_neg (by decide), if_neg (by decide), if_neg (by decide), if_pos rfl]
theorem step_pa (k fd n off fl : Int) (to da x : L8) (rest : List L8) : foldS ⟨k, fd, n, off, fl, [], to, da⟩ (byF kPa x ++ rest) = foldS ⟨k, fd, n, off, fl, x, to, da⟩ rest := by
  rw [foldS_by _ kPa x rest (by decide) (by decide)]
  split
  · rename_i e; rw [e]
  · unfold setB
    rw [if_pos rfl]
theorem step_to (k fd n off fl : Int) (pa da x : L8) (rest : List L8) : foldS ⟨k, fd, n, off, fl, pa, [], da⟩ (byF kTo x ++ rest) = foldS ⟨k, fd, n, off, fl, pa, x, da⟩ rest := by
  rw [foldS_by _ kTo x rest (by decide) (by decide)]
  split
  · rename_i e; rw [e]
  · unfold setB
    rw [if_neg (by decide), if_pos rfl]
theorem step_da (k fd n off fl : Int) (pa to x : L8) (rest : List L8) : foldS ⟨k, fd, n, off, fl, pa, to, []⟩ (byF kDa x ++ rest) = foldS ⟨k, fd, n, off, fl, pa, to, x⟩ rest := by
  rw [foldS_by _ kDa x rest (by decide) (by decide)]
  split
  · rename_i e; rw [e]
  · unfold setB
    rw [if_neg (by decide), if_neg (by decide)]
theorem foldS_fields (o : Opp) (ho : o.Ok) : foldS { noOp with k := o.k } (fieldsL o) = some o := by
  obtain ⟨h1, h2, h3, h4⟩ := ho
  unfold fieldsL
  show foldS ⟨o.k, 0, 0, 0, 0, [], [], []⟩ _ = _
  rw [step_fd _ _ _ _ _ _ _ _ _ h1, step_n _ _ _ _ _ _ _ _ _ h2, step_off _ _ _ _ _ _ _ _ _ h3, step_fl _ _ _ _ _ _ _ _ _ h4, step_pa, step_to, ← List.append_nil (byF kDa o.da), step_da]
  rfl
theorem say_some {o : Opp} (h1 : 1 ≤ o.k) (h2 : o.k < 24) : sayL o = word o.k.toNat ++ joinB (fieldsL o) := by
  unfold sayL
  rw [if_neg (by omega)]
theorem say_ne {o : Opp} (h1 : 1 ≤ o.k) (h2 : o.k < 24) : sayL o ≠ [] := by
  rw [say_some h1 h2]
  intro h
  exact word_ne (k := o.k.toNat) (by omega) (by omega) (List.append_eq_nil_iff.1 h).1
theorem spb_say {o : Opp} (h1 : 1 ≤ o.k) (h2 : o.k < 24) : spb (sayL o) = word o.k.toNat :: fieldsL o := by
  rw [say_some h1 h2]
  exact spb_words _ _ (word_free _).1 (fun f hf => (fields_fld o f hf).1)
/-- What was said is read as it was. -/
theorem read_say (o : Opp) (ho : o.Ok) (h1 : 1 ≤ o.k) (h2 : o.k < 24) : readS (sayL o) = some o := by
  have hst : start (sayL o) = { noOp with k := o.k } := by
    unfold start
    rw [spb_say h1 h2]
    simp only [List.headD_cons]
    rw [kind_word (k := o.k.toNat) (by omega)]
    congr 1
    omega
  unfold readS
  rw [hst, spb_say h1 h2]
  simp only [List.tail_cons]
  rw [foldS_fields o ho]
  simp only
  rw [if_neg]
  intro h
  rcases h with h | h
  · exact say_ne h1 h2 h
  · exact h rfl

theorem setN_k (o : Opp) (key : L8) (x : Int) : (setN o key x).k = o.k := by unfold setN; (repeat' split) <;> rfl
theorem setB_k (o : Opp) (key b : L8) : (setB o key b).k = o.k := by unfold setB; (repeat' split) <;> rfl
theorem setN_ok {o : Opp} (ho : o.Ok) (key : L8) {x : Int} (hx : InR x) : (setN o key x).Ok := by
  obtain ⟨h1, h2, h3, h4⟩ := ho
  unfold setN
  repeat' split
  · exact ⟨hx, h2, h3, h4⟩
  · exact ⟨h1, hx, h3, h4⟩
  · exact ⟨h1, h2, hx, h4⟩
  · exact ⟨h1, h2, h3, hx⟩
  · exact ⟨h1, h2, h3, h4⟩
theorem setB_ok {o : Opp} (ho : o.Ok) (key b : L8) : (setB o key b).Ok := by
  obtain ⟨h1, h2, h3, h4⟩ := ho
  unfold setB
  repeat' split
  all_goals exact ⟨h1, h2, h3, h4⟩
theorem lenU_lt : ∀ (l : L8) (u : Nat), u < 18446744073709551616 → lenU u l < 18446744073709551616
  | [], u, h => h
  | c :: l, u, h => by
    unfold lenU
    split
    · exact lenU_lt l u h
    · exact lenU_lt l _ (Nat.mod_lt _ (by decide))
theorem lenI_in (l : L8) : InR (lenI l) := by
  have h := lenU_lt l 0 (by decide)
  unfold lenI wrap64' InR
  split <;> split <;> omega
theorem atoi_in {l : L8} {v : Int} (h : Lib.atoiAll l = .ok v) : InR v := by rw [← atoi_len h]; exact lenI_in l
theorem fieldR_k (o : Opp) (p : L8) : (fieldR o p).k = o.k := by
  unfold fieldR
  split
  · exact setB_k ..
  · exact setN_k ..
theorem fieldR_ok {o : Opp} (ho : o.Ok) (p : L8) : (fieldR o p).Ok := by
  unfold fieldR
  split
  · exact setB_ok ho ..
  · exact setN_ok ho _ (lenI_in _)
theorem foldR_k : ∀ (ps : List L8) (o : Opp), (ps.foldl fieldR o).k = o.k
  | [], _ => rfl
  | p :: ps, o => by rw [List.foldl_cons, foldR_k ps, fieldR_k]
theorem foldR_ok : ∀ (ps : List L8) (o : Opp), o.Ok → (ps.foldl fieldR o).Ok
  | [], _, h => h
  | p :: ps, o, h => by rw [List.foldl_cons]; exact foldR_ok ps _ (fieldR_ok h p)
theorem fieldS_R {o o' : Opp} {p : L8} (h : fieldS o p = some o') : fieldR o p = o' := by
  unfold fieldS at h
  unfold fieldR
  split at h
  · rename_i hb
    rw [if_pos hb]
    exact Option.some.inj h
  · rename_i hb
    rw [if_neg hb]
    split at h
    · rename_i v hv
      rw [atoi_len hv]
      exact Option.some.inj h
    · cases h
theorem foldS_R : ∀ (ps : List L8) (o o' : Opp), foldS o ps = some o' → ps.foldl fieldR o = o'
  | [], o, o', h => Option.some.inj h
  | p :: ps, o, o', h => by
    unfold foldS at h
    split at h
    · rename_i q hq
      rw [List.foldl_cons, fieldS_R hq]
      exact foldS_R ps q o' h
    · cases h
theorem start_ok (s : L8) : (start s).Ok := by
  unfold start noOp Opp.Ok InR
  simp
theorem start_k (s : L8) : 0 ≤ (start s).k ∧ (start s).k < 24 := by
  unfold start
  simp only
  rcases kindTo_lt ((spb s).headD []) 24 with h | h <;> omega
/-- The two readings are one. -/
theorem read_same (s : L8) : readS s = readR s := by
  have hk := start_k s
  have hk2 := foldR_k (spb s).tail (start s)
  have hok := foldR_ok (spb s).tail (start s) (start_ok s)
  cases h : foldS (start s) (spb s).tail with
  | some o =>
    have e := foldS_R _ _ _ h
    unfold readS readR
    rw [h]
    simp only
    rw [e]
    rw [e] at hk2
    by_cases hs : sayL o = s
    · by_cases h0 : o.k = 0
      · have : s = [] := by rw [← hs]; unfold sayL; rw [if_pos (by omega)]
        rw [if_pos (Or.inl this), if_pos (Or.inl h0)]
      · have : s ≠ [] := by rw [← hs]; exact say_ne (by omega) (by omega)
        rw [if_neg (by simp [this, hs]), if_neg (by simp [h0, hs])]
    · rw [if_pos (Or.inr hs), if_pos (Or.inr hs)]
  | none =>
    have e : readS s = none := by unfold readS; rw [h]
    rw [e]
    unfold readR
    simp only
    generalize (spb s).tail.foldl fieldR (start s) = o at hk2 hok
    split
    · rfl
    · rename_i hn
      exfalso
      have h0 : o.k ≠ 0 := fun q => hn (Or.inl q)
      have hs : sayL o = s := Classical.byContradiction fun q => hn (Or.inr q)
      have := read_say o hok (by omega) (by omega)
      rw [hs, e] at this
      cases this
theorem readR_some {s : L8} {o : Opp} (h : readR s = some o) : sayL o = s ∧ 1 ≤ o.k ∧ o.k < 24 ∧ o.Ok := by
  have hk := start_k s
  have hk2 := foldR_k (spb s).tail (start s)
  have hok := foldR_ok (spb s).tail (start s) (start_ok s)
  unfold readR at h
  simp only at h
  generalize (spb s).tail.foldl fieldR (start s) = q at hk2 hok h
  split at h
  · cases h
  · rename_i hn
    obtain rfl := Option.some.inj h
    have h0 : q.k ≠ 0 := fun e => hn (Or.inl e)
    exact ⟨Classical.byContradiction fun e => hn (Or.inr e), by omega, by omega, hok⟩
theorem readS_some {s : L8} {o : Opp} (h : readS s = some o) : sayL o = s ∧ 1 ≤ o.k ∧ o.k < 24 ∧ o.Ok := readR_some (by rw [← read_same]; exact h)
/-- A blank more, and it is none. -/
theorem read_blank (a b : L8) (h : (a ++ b).count 32 = (a ++ b).count 61) : readS (a ++ 32 :: b) = none := by
  cases hr : readS (a ++ 32 :: b) with
  | none => rfl
  | some o =>
    have hs := (readS_some hr).1
    have := say_count o
    rw [hs] at this
    rw [List.count_append, List.count_append, List.count_cons_self, List.count_cons_of_ne (by decide)] at this
    rw [List.count_append, List.count_append] at h
    omega
theorem say_inj {o p : Opp} (ho : o.Ok) (hp : p.Ok) (h1 : 1 ≤ o.k) (h2 : o.k < 24) (h3 : 1 ≤ p.k) (h4 : p.k < 24) (h : sayL o = sayL p) : o = p := by
  have a := read_say o ho h1 h2
  have b := read_say p hp h3 h4
  rw [h, b] at a
  exact (Option.some.inj a).symm
end Go.Proofs.YtmfenegkeiipnaaDoor
